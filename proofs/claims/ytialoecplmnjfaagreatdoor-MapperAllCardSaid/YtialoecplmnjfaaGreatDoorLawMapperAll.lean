/- The row of MapperAll: every input that can be read leads the law to true; out of the pure statement and the printed contract. -/
import Derived.Test.YtialoecplmnjfaaGreatDoorRows
import Derived.Test.YtialoecplmnjfaaGreatDoorPXx2
import Derived.Test.YtialoecplmnjfaaGreatDoorLE
import Derived.Test.YtialoecplmnjfaaGreatDoorXA
import Derived.WalkKit
import Derived.ProofKit
import Derived.OpenShut
import Derived.ShutString
import Derived.ChangeOld
import Derived.Below
import Derived.SizedLaws
import Derived.Carry
import Derived.LaidMore
import Derived.LaidSub
import Derived.Lib.LaidTab
import Derived.Lay
import Derived.SevenTiedAt
import Derived.MakeChecks
import Derived.Stop.Joined
import Derived.Stop.LaidErr
import Derived.Test.YtialoecplmnjfaaGreatDoorTie
import Derived.Test.YtialoecplmnjfaaGreatDoorCards
set_option linter.unusedVariables false
set_option linter.unusedSimpArgs false
namespace Go.Proofs.YtialoecplmnjfaaGreatDoor.mapperAll
open Go.ChangeShapes Go.WideShapes Go.ChangeAt Go.RowKit Go.Proofs.YtialoecplmnjfaaGreatDoor.PX Go.Proofs.YtialoecplmnjfaaGreatDoorX Go.Proofs.YtialoecplmnjfaaGreatDoorW.PrintWords
open Go.ChangeMaps (open_string shut_string)
theorem own : ownKnob Tryz.prog.godebug = none := by kernel_rfl
theorem laidOut : laidOutB Tryz.prog = true := by kernel_rfl
theorem opensS50 : Opens Tryz.prog 50 k50 (fun x => ((Lit.int .i64 x.f0).wf = true ∧ (Lit.int .i64 x.f1).wf = true ∧ x.f2.size ≤ 140737488351232)) :=
  opens_struct (fun y => ⟨y.1, y.2.1, y.2.2⟩) Tryz.underlying50 (by kernel_rfl) (fun _ => rfl) (fun _ h => h) (opens_more (o' := 1) rfl (by rfl) (opens_int Tryz.underlying3 (by kernel_rfl)) (opens_more (o' := 2) rfl (by rfl) (opens_int Tryz.underlying3 (by kernel_rfl)) (opens_last rfl (opens_string Tryz.underlying9 (by kernel_rfl)))))
theorem opensS24 : Opens Tryz.prog 24 k24 (fun x => (True ∧ (Lit.int .i64 x.f1).wf = true ∧ x.f2.size ≤ 140737488351232)) :=
  opens_struct (fun y => ⟨y.1, y.2.1, y.2.2⟩) Tryz.underlying24 (by kernel_rfl) (fun _ => rfl) (fun _ h => h) (opens_more (o' := 1) rfl (by rfl) (opens_bool Tryz.underlying4 (by kernel_rfl)) (opens_more (o' := 2) rfl (by rfl) (opens_int Tryz.underlying3 (by kernel_rfl)) (opens_last rfl (opens_string Tryz.underlying9 (by kernel_rfl)))))
theorem opensS26 : Opens Tryz.prog 26 k26 (fun x => (True ∧ (x.f1.length * 32 ≤ 140737488351232 ∧ ∀ q0_ ∈ x.f1, ((Lit.int .i64 q0_.f0).wf = true ∧ (Lit.int .i64 q0_.f1).wf = true ∧ q0_.f2.size ≤ 140737488351232)) ∧ (x.f2.length * 32 ≤ 140737488351232 ∧ ∀ q0_ ∈ x.f2, ((Lit.int .i64 q0_.f0).wf = true ∧ (Lit.int .i64 q0_.f1).wf = true ∧ q0_.f2.size ≤ 140737488351232)) ∧ (x.f3.length * 32 ≤ 140737488351232 ∧ ∀ q0_ ∈ x.f3, ((Lit.int .i64 q0_.f0).wf = true ∧ (Lit.int .i64 q0_.f1).wf = true ∧ q0_.f2.size ≤ 140737488351232)) ∧ (Lit.int .i64 x.f4).wf = true ∧ (x.f5.length * 32 ≤ 140737488351232 ∧ ∀ q0_ ∈ x.f5, ((Lit.int .i64 q0_.f0).wf = true ∧ (Lit.int .i64 q0_.f1).wf = true ∧ q0_.f2.size ≤ 140737488351232)) ∧ (True ∧ (Lit.int .i64 x.f6.f1).wf = true ∧ x.f6.f2.size ≤ 140737488351232) ∧ True ∧ (Lit.int .i64 x.f8).wf = true ∧ True ∧ True ∧ (Lit.int .i64 x.f11).wf = true)) :=
  opens_struct (fun y => ⟨y.1, y.2.1, y.2.2.1, y.2.2.2.1, y.2.2.2.2.1, y.2.2.2.2.2.1, y.2.2.2.2.2.2.1, y.2.2.2.2.2.2.2.1, y.2.2.2.2.2.2.2.2.1, y.2.2.2.2.2.2.2.2.2.1, y.2.2.2.2.2.2.2.2.2.2.1, y.2.2.2.2.2.2.2.2.2.2.2⟩) Tryz.underlying26 (by kernel_rfl) (fun _ => rfl) (fun _ h => h) (opens_more (o' := 1) rfl (by rfl) (opens_bool Tryz.underlying4 (by kernel_rfl)) (opens_more (o' := 2) rfl (by rfl) (opens_slice (B := 32) Tryz.underlying22 (by kernel_rfl) (by kernel_rfl) opensS50) (opens_more (o' := 3) rfl (by rfl) (opens_slice (B := 32) Tryz.underlying22 (by kernel_rfl) (by kernel_rfl) opensS50) (opens_more (o' := 4) rfl (by rfl) (opens_slice (B := 32) Tryz.underlying22 (by kernel_rfl) (by kernel_rfl) opensS50) (opens_more (o' := 5) rfl (by rfl) (opens_int Tryz.underlying3 (by kernel_rfl)) (opens_more (o' := 6) rfl (by rfl) (opens_slice (B := 32) Tryz.underlying22 (by kernel_rfl) (by kernel_rfl) opensS50) (opens_more (o' := 9) rfl (by rfl) opensS24 (opens_more (o' := 10) rfl (by rfl) (opens_bool Tryz.underlying4 (by kernel_rfl)) (opens_more (o' := 11) rfl (by rfl) (opens_int Tryz.underlying3 (by kernel_rfl)) (opens_more (o' := 12) rfl (by rfl) (opens_bool Tryz.underlying4 (by kernel_rfl)) (opens_more (o' := 13) rfl (by rfl) (opens_bool Tryz.underlying4 (by kernel_rfl)) (opens_last rfl (opens_int Tryz.underlying3 (by kernel_rfl))))))))))))))
theorem tabs {W : World} (h : laidMetH Tryz.prog Rows.mapperAllRow.laid W) (hsh : W.ShapedOpen Tryz.prog) : Go.Proofs.YtialoecplmnjfaaGreatDoorW.PrintMore.Tabs W := by
  rw [MakeChecks.laidMetH_plain _ _ _ (by kernel_rfl)] at h
  have h1 := h.filter fun x => x.1 == "internal/strconv.uint64pow10"
  have e : (Rows.mapperAllRow.laid.filter fun x => x.1 == "internal/strconv.uint64pow10") = [("internal/strconv.uint64pow10", Lib.tabData .u64 Lib.pow10Tab)] := by kernel_rfl
  rw [e] at h1
  exact Go.Proofs.YtialoecplmnjfaaGreatDoorW.PrintMore.Tabs.of_laid h1 hsh
set_option maxHeartbeats 1000000 in
set_option maxRecDepth 100000 in
theorem lifted (os : Os) (started : os.Started) (H : Type) (enc : TypeId × Value → H) :
    ReturnsInHanded {} Tryz.checked os 4 .any (fun w args => (Rows.mapperAllSpec.pre enc Tryz.prog Tryz.f4 Rows.mapperAllRow.domain false w args ∧ laidMetH Tryz.prog Rows.mapperAllRow.laid w) ∧ sizedMet enc Tryz.prog Tryz.f4 (OpenSpec.ofChange Rows.mapperAllSpec) false w args) (Rows.mapperAllSpec.post enc Tryz.prog Tryz.f4 false true false false) := by
  refine Go.xt_returns (C := Tryz.checked) (X := fun w _ => laidMetH Tryz.prog Rows.mapperAllRow.laid w) (fun _ _ _ hh h => h.of_heap hh) own started (by kernel_rfl) Tryz.func4
    (ChangeSpec.witness_shaped (enc := enc) (C := Tryz.checked) (os := os) (X := fun w _ => laidMetH Tryz.prog Rows.mapperAllRow.laid w) false (World.laidAll Tryz.prog os Rows.mapperAllRow.laid) #[.agg #[.bool false, .slice none 0 0, .slice none 0 0, .slice none 0 0, .int .i64 0, .slice none 0 0, .bool false, .int .i64 0, .string ByteArray.empty, .bool false, .int .i64 0, .bool false, .bool false, .int .i64 0], .slice none 0 0] 8 (World.laidAll_os _ _ _)
      (World.shaped_of_ZipB (by kernel_rfl) (by kernel_rfl)) (by kernel_rfl) (by kernel_rfl) (by kernel_rfl)
      (by rw [MakeChecks.laidMetH_plain _ _ _ (by kernel_rfl)]; exact laidMet_laidAll _ (by kernel_rfl) (by kernel_rfl))) ?_
  intro W base args ds gs before hval0 hW hcnd hsz0 hL hsh _
  have hT := tabs hL hsh
  have hsz : (DataW.weightsEach Tryz.prog (Tryz.f4.params.toList ++ Rows.mapperAllSpec.plain.varTypes Tryz.prog) (ds ++ gs)).all (· ≤ reachBytes) = true := hsz0
  have hval : ∀ (j : Nat) t v, Tryz.f4.params[j]? = some t → args[j]? = some v → Value.okWide Tryz.prog W .any base t v := hval0
  have hW' := hW
  obtain ⟨p, q, hA0, hV, rfl, hfz, hnd⟩ := hW
  have hA : DataW.TrodAll enc Tryz.prog W 0 (fun _ => true) true Tryz.f4.params.toList args.toList ds p := hA0
  rw [Tryz.params4] at hA hval hsz
  obtain ⟨v0, vs0, d0, ds0, p0, q0, hargs, rfl, rfl, h0, r0⟩ := trodAll_cons hA
  obtain ⟨v1, vs1, d1, ds1, p1, q1, rfl, rfl, rfl, h1, r1⟩ := trodAll_cons r0
  obtain ⟨rfl, rfl, rfl⟩ := trodAll_nil r1
  obtain rfl : args = #[v0, v1] := by cases args; simp_all
  obtain ⟨rfl, rfl⟩ := trodVars_none hV
  have lt0 : ∀ x ∈ p0, x.block < W.heap.size := by obtain ⟨m, hm⟩ := h0; exact DataW.trod_lt m _ _ _ hm
  have k0 := h0
  obtain ⟨fu0, hf0⟩ := k0
  obtain ⟨x0, K0, S0⟩ := opensS26.opens hf0 (sized_of hsz (j := 0) rfl rfl)
  obtain ⟨A0_1, c0_1, A0_2, c0_2, A0_3, c0_3, A0_5, c0_5, e0, l0_1, g0_1, l0_2, g0_2, l0_3, g0_3, l0_5, g0_5⟩ := k26_open K0
  obtain rfl := shape_struct Tryz.underlying26 (hval 0 26 v0 rfl rfl) e0
  have lt1 : ∀ x ∈ p1, x.block < W.heap.size := by obtain ⟨m, hm⟩ := h1; exact DataW.trod_lt m _ _ _ hm
  have k1 := h1
  obtain ⟨fu1, hf1⟩ := k1
  obtain ⟨x1, K1, S1⟩ := (opens_slice (B := 24) Tryz.underlying41 (by kernel_rfl) (by kernel_rfl) (opens_slice (B := 16) Tryz.underlying45 (by kernel_rfl) (by kernel_rfl) (opens_string Tryz.underlying9 (by kernel_rfl)))).opens hf1 (sized_of hsz (j := 1) rfl rfl)
  obtain ⟨A1, c1, e1, l1, g1⟩ := K1
  obtain rfl := shape_slice Tryz.underlying41 (hval 1 41 v1 rfl rfl) e1
  clear hA0 hval0 hsz0 hsz
  obtain ⟨k, h⟩ := Pure.MapperAll x0 x1 S0 S1
  refine (w18_MapperAll.calls k x0.f0 A0_1 c0_1 x0.f1 A0_2 c0_2 x0.f2 A0_3 c0_3 x0.f3 x0.f4 A0_5 c0_5 x0.f5 x0.f6.f0 x0.f6.f1 x0.f6.f2 x0.f7 x0.f8 x0.f9 x0.f10 x0.f11 A1 c1 x1 true W hT g0_1 l0_1 g0_2 l0_2 g0_3 l0_3 g0_5 l0_5 g1 l1 h).mono fun e W' ⟨he, hd⟩ => ?_
  have bel : Below W.heap.size W W' := hd
  subst he
  exact ⟨_, rfl, _, _, _, [], _, [], hW', trodAll_mk1 (shut_bool Tryz.underlying4 _), (trodAll_cons_mk (Below.trod laidOut (by kernel_rfl) (of_decide_eq_true (by kernel_rfl)) h0 bel lt0) (trodAll_cons_mk (Below.trod laidOut (by kernel_rfl) (of_decide_eq_true (by kernel_rfl)) h1 bel lt1) trodAll_mk0)), rfl, bel.frame _, fun h => by cases h⟩
theorem over : Rows.mapperAllRow.holds Tryz.pinned (OpenSpec.ofChange Rows.mapperAllSpec) :=
  OpenClaim.holds_of_wide 4 Tryz.f4 rfl rfl rfl rfl rfl rfl rfl ⟨rfl, rfl, rfl, rfl, rfl⟩ rfl rfl rfl rfl rfl (by kernel_rfl) Tryz.func4 (by kernel_rfl)
    (of_decide_eq_true (by kernel_rfl)) (by unfold Func.isWrapper; first | (rw [if_pos (by decide +kernel)]; kernel_rfl) | (rw [if_neg (by decide +kernel)]; exact ⟨rfl, rfl⟩))
    (fun os started H enc _ => lifted os started H enc)
theorem proved : Rows.MapperAllCardSaid :=
  Claim7.holds_tied_plain_at .later [] [.data, .data, .data, .data, .sentinel, .sentinel, .pinned] true (true, "d92f57c41f5f68ff7ee8cdbcefcd0035839040867dbdfe787721f0552cc14bba") true over (fun _ h => by cases h) (by kernel_rfl) (fun _ h => by cases h) mapperAll_row_tie rfl ⟨rfl, rfl⟩ (by kernel_rfl) rfl
    (fun f fn hf hfn => by
      obtain rfl : f = 4 := Option.some.inj ((show Tryz.prog.funcNamed "threshing/threshinglaw18.MapperAll" = some 4 by kernel_rfl).symm.trans hf) |>.symm
      obtain rfl : fn = Tryz.f4 := (Option.some.inj (Tryz.func4.symm.trans hfn)).symm
      exact ⟨by kernel_rfl, fun j t ht => by
        rw [Tryz.params4] at ht
        have hm : t ∈ [26, 41] := by simpa using Array.mem_of_getElem? ht
        have hall : ([26, 41].all fun u => !Tryz.prog.wantsStandIn u) = true := by kernel_rfl
        exact (show Tryz.prog.wantsStandIn t = false by simpa using List.all_eq_true.1 hall t hm)⟩)
    (by kernel_rfl)
end Go.Proofs.YtialoecplmnjfaaGreatDoor.mapperAll
namespace Go.Proofs.YtialoecplmnjfaaGreatDoor
/-- The row, under a short name, for the claim. -/
theorem mapperAll_holds : Rows.MapperAllCardSaid := mapperAll.proved
#print axioms mapperAll_holds
end Go.Proofs.YtialoecplmnjfaaGreatDoor
