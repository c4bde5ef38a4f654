/- The row of EvalFolds: every input that can be read leads the law to true; out of the pure statement and the printed contract. -/
import Derived.Test.YtnodgcakmolleaaGreatDoorRows
import Derived.Test.YtnodgcakmolleaaGreatDoorPXx25
import Derived.Test.YtnodgcakmolleaaGreatDoorPureEvalFolds
import Derived.Test.YtnodgcakmolleaaGreatDoorXOpen
import Derived.WalkKit
import Derived.ProofKit
import Derived.OpenShut
import Derived.ShutString
import Derived.ChangeOld
import Derived.Below
import Derived.SizedLaws
import Derived.Carry
import Derived.LaidMore
import Derived.LaidSub
import Derived.Lib.LaidTab
import Derived.Lay
import Derived.SevenTiedAt
import Derived.MakeChecks
import Derived.Stop.Joined
import Derived.Stop.LaidErr
import Derived.Test.YtnodgcakmolleaaGreatDoorTie
import Derived.Test.YtnodgcakmolleaaGreatDoorCards
import Derived.Test.YtnodgcakmolleaaGreatDoorXTabs
set_option linter.unusedVariables false
set_option linter.unusedSimpArgs false
namespace Go.Proofs.YtnodgcakmolleaaGreatDoor.evalFolds
open Go.ChangeShapes Go.WideShapes Go.ChangeAt Go.RowKit Go.Proofs.YtnodgcakmolleaaGreatDoor.PX Go.Proofs.YtnodgcakmolleaaGreatDoorX Go.Proofs.YtnodgcakmolleaaGreatDoorW.PrintWords
open Go.ChangeMaps (open_string shut_string)
theorem own : ownKnob Tryz.prog.godebug = none := by kernel_rfl
theorem laidOut : laidOutB Tryz.prog = true := by kernel_rfl
theorem opensS44 : Opens Tryz.prog 44 k44 (fun x => ((Lit.int .i64 x.f0).wf = true ∧ (Lit.int .i64 x.f1).wf = true ∧ x.f2.size ≤ 140737488351232)) :=
  opens_struct (fun y => ⟨y.1, y.2.1, y.2.2⟩) Tryz.underlying44 (by kernel_rfl) (fun _ => rfl) (fun _ h => h) (opens_more (o' := 1) rfl (by rfl) (opens_int Tryz.underlying3 (by kernel_rfl)) (opens_more (o' := 2) rfl (by rfl) (opens_int Tryz.underlying3 (by kernel_rfl)) (opens_last rfl (opens_string Tryz.underlying9 (by kernel_rfl)))))
theorem opensS32 : Opens Tryz.prog 32 k32 (fun x => (True ∧ (Lit.int .i64 x.f1).wf = true ∧ x.f2.size ≤ 140737488351232)) :=
  opens_struct (fun y => ⟨y.1, y.2.1, y.2.2⟩) Tryz.underlying32 (by kernel_rfl) (fun _ => rfl) (fun _ h => h) (opens_more (o' := 1) rfl (by rfl) (opens_bool Tryz.underlying4 (by kernel_rfl)) (opens_more (o' := 2) rfl (by rfl) (opens_int Tryz.underlying3 (by kernel_rfl)) (opens_last rfl (opens_string Tryz.underlying9 (by kernel_rfl)))))
theorem opensS40 : Opens Tryz.prog 40 k40 (fun x => ((True ∧ (Lit.int .i64 x.f0.f1).wf = true ∧ x.f0.f2.size ≤ 140737488351232) ∧ (True ∧ (Lit.int .i64 x.f1.f1).wf = true ∧ x.f1.f2.size ≤ 140737488351232) ∧ (Lit.int .i64 x.f2).wf = true)) :=
  opens_struct (fun y => ⟨y.1, y.2.1, y.2.2⟩) Tryz.underlying40 (by kernel_rfl) (fun _ => rfl) (fun _ h => h) (opens_more (o' := 3) rfl (by rfl) opensS32 (opens_more (o' := 6) rfl (by rfl) opensS32 (opens_last rfl (opens_int Tryz.underlying3 (by kernel_rfl)))))
theorem tabs {W : World} (h : laidMetH Tryz.prog Rows.evalFoldsRow.laid W) (hsh : W.ShapedOpen Tryz.prog) : Go.Proofs.YtnodgcakmolleaaGreatDoorW.PrintMore.Tabs W := by
  rw [MakeChecks.laidMetH_plain _ _ _ (by kernel_rfl)] at h
  have h1 := h.filter fun x => x.1 == "internal/strconv.uint64pow10"
  have e : (Rows.evalFoldsRow.laid.filter fun x => x.1 == "internal/strconv.uint64pow10") = [("internal/strconv.uint64pow10", Lib.tabData .u64 Lib.pow10Tab)] := by kernel_rfl
  rw [e] at h1
  exact Go.Proofs.YtnodgcakmolleaaGreatDoorW.PrintMore.Tabs.of_laid h1 hsh
set_option maxHeartbeats 1000000 in
set_option maxRecDepth 100000 in
theorem lifted (os : Os) (started : os.Started) (H : Type) (enc : TypeId × Value → H) :
    ReturnsInHanded {} Tryz.checked os 4 .any (fun w args => (Rows.evalFoldsSpec.pre enc Tryz.prog Tryz.f4 Rows.evalFoldsRow.domain false w args ∧ laidMetH Tryz.prog Rows.evalFoldsRow.laid w) ∧ sizedMet enc Tryz.prog Tryz.f4 (OpenSpec.ofChange Rows.evalFoldsSpec) false w args) (Rows.evalFoldsSpec.post enc Tryz.prog Tryz.f4 false true false false) := by
  refine Go.xt_returns (C := Tryz.checked) (X := fun w _ => laidMetH Tryz.prog Rows.evalFoldsRow.laid w) (fun _ _ _ hh h => h.of_heap hh) own started (by kernel_rfl) Tryz.func4
    (ChangeSpec.witness_shaped (enc := enc) (C := Tryz.checked) (os := os) (X := fun w _ => laidMetH Tryz.prog Rows.evalFoldsRow.laid w) false (World.laidAll Tryz.prog os Rows.evalFoldsRow.laid) #[.slice none 0 0, .agg #[.bool false, .int .i64 0, .string ByteArray.empty, .bool false, .int .i64 0, .string ByteArray.empty, .int .i64 0]] 8 (World.laidAll_os _ _ _)
      (World.shaped_of_ZipB (by kernel_rfl) (by kernel_rfl)) (by kernel_rfl) (by kernel_rfl) (by kernel_rfl)
      (by rw [MakeChecks.laidMetH_plain _ _ _ (by kernel_rfl)]; exact laidMet_laidAll _ (by kernel_rfl) (by kernel_rfl))) ?_
  intro W base args ds gs before hval0 hW hcnd hsz0 hL hsh _
  have hT := tabs hL hsh
  have hsz : (DataW.weightsEach Tryz.prog (Tryz.f4.params.toList ++ Rows.evalFoldsSpec.plain.varTypes Tryz.prog) (ds ++ gs)).all (· ≤ reachBytes) = true := hsz0
  have hval : ∀ (j : Nat) t v, Tryz.f4.params[j]? = some t → args[j]? = some v → Value.okWide Tryz.prog W .any base t v := hval0
  have hW' := hW
  obtain ⟨p, q, hA0, hV, rfl, hfz, hnd⟩ := hW
  have hA : DataW.TrodAll enc Tryz.prog W 0 (fun _ => true) true Tryz.f4.params.toList args.toList ds p := hA0
  rw [Tryz.params4] at hA hval hsz
  obtain ⟨v0, vs0, d0, ds0, p0, q0, hargs, rfl, rfl, h0, r0⟩ := trodAll_cons hA
  obtain ⟨v1, vs1, d1, ds1, p1, q1, rfl, rfl, rfl, h1, r1⟩ := trodAll_cons r0
  obtain ⟨rfl, rfl, rfl⟩ := trodAll_nil r1
  obtain rfl : args = #[v0, v1] := by cases args; simp_all
  obtain ⟨rfl, rfl⟩ := trodVars_none hV
  have lt0 : ∀ x ∈ p0, x.block < W.heap.size := by obtain ⟨m, hm⟩ := h0; exact DataW.trod_lt m _ _ _ hm
  have k0 := h0
  obtain ⟨fu0, hf0⟩ := k0
  obtain ⟨x0, K0, S0⟩ := (opens_slice (B := 32) Tryz.underlying22 (by kernel_rfl) (by kernel_rfl) opensS44).opens hf0 (sized_of hsz (j := 0) rfl rfl)
  obtain ⟨A0, c0, e0, l0, g0⟩ := K0
  obtain rfl := shape_slice Tryz.underlying22 (hval 0 22 v0 rfl rfl) e0
  have lt1 : ∀ x ∈ p1, x.block < W.heap.size := by obtain ⟨m, hm⟩ := h1; exact DataW.trod_lt m _ _ _ hm
  have k1 := h1
  obtain ⟨fu1, hf1⟩ := k1
  obtain ⟨x1, K1, S1⟩ := opensS40.opens hf1 (sized_of hsz (j := 1) rfl rfl)
  obtain e1 := k40_open K1
  obtain rfl := shape_struct Tryz.underlying40 (hval 1 40 v1 rfl rfl) e1
  clear hA0 hval0 hsz0 hsz
  obtain ⟨k, h⟩ := Pure.EvalFolds x0 x1 S0 S1
  refine (w16_EvalFolds.calls k A0 c0 x0 x1.f0.f0 x1.f0.f1 x1.f0.f2 x1.f1.f0 x1.f1.f1 x1.f1.f2 x1.f2 true W hT g0 l0 h).mono fun e W' ⟨he, hd⟩ => ?_
  have bel : Below W.heap.size W W' := hd
  subst he
  exact ⟨_, rfl, _, _, _, [], _, [], hW', trodAll_mk1 (shut_bool Tryz.underlying4 _), (trodAll_cons_mk (Below.trod laidOut (by kernel_rfl) (of_decide_eq_true (by kernel_rfl)) h0 bel lt0) (trodAll_cons_mk (Below.trod laidOut (by kernel_rfl) (of_decide_eq_true (by kernel_rfl)) h1 bel lt1) trodAll_mk0)), rfl, bel.frame _, fun h => by cases h⟩
theorem over : Rows.evalFoldsRow.holds Tryz.pinned (OpenSpec.ofChange Rows.evalFoldsSpec) :=
  OpenClaim.holds_of_wide 4 Tryz.f4 rfl rfl rfl rfl rfl rfl rfl ⟨rfl, rfl, rfl, rfl, rfl⟩ rfl rfl rfl rfl rfl (by kernel_rfl) Tryz.func4 (by kernel_rfl)
    (of_decide_eq_true (by kernel_rfl)) (by unfold Func.isWrapper; first | (rw [if_pos (by decide +kernel)]; kernel_rfl) | (rw [if_neg (by decide +kernel)]; exact ⟨rfl, rfl⟩))
    (fun os started H enc _ => lifted os started H enc)
theorem proved : Rows.EvalFoldsCardSaid :=
  Claim7.holds_tied_plain_at .later [] [.data, .data, .data, .data, .sentinel, .sentinel, .pinned] true (true, "8f293d2b71818a7f690080ea1426db72a66fa40327f38b5a57bde78bc41f86aa") true over (fun _ h => by cases h) (by kernel_rfl) (fun _ h => by cases h) evalFolds_row_tie rfl ⟨rfl, rfl⟩ (by kernel_rfl) rfl
    (fun f fn hf hfn => by
      obtain rfl : f = 4 := Option.some.inj ((show Tryz.prog.funcNamed "threshing/threshinglaw16.EvalFolds" = some 4 by kernel_rfl).symm.trans hf) |>.symm
      obtain rfl : fn = Tryz.f4 := (Option.some.inj (Tryz.func4.symm.trans hfn)).symm
      exact ⟨by kernel_rfl, fun j t ht => by
        rw [Tryz.params4] at ht
        have hm : t ∈ [22, 40] := by simpa using Array.mem_of_getElem? ht
        have hall : ([22, 40].all fun u => !Tryz.prog.wantsStandIn u) = true := by kernel_rfl
        exact (show Tryz.prog.wantsStandIn t = false by simpa using List.all_eq_true.1 hall t hm)⟩)
    (by kernel_rfl)
end Go.Proofs.YtnodgcakmolleaaGreatDoor.evalFolds
namespace Go.Proofs.YtnodgcakmolleaaGreatDoor
/-- The row, under a short name, for the claim. -/
theorem evalFolds_holds : Rows.EvalFoldsCardSaid := evalFolds.proved
#print axioms evalFolds_holds
end Go.Proofs.YtnodgcakmolleaaGreatDoor
