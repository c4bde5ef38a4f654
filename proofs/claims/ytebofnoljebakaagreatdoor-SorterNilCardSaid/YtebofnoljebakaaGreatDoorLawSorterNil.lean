/- The row of SorterNil: every input that can be read leads the law to true; out of the pure statement and the printed contract. -/
import Derived.Test.YtebofnoljebakaaGreatDoorRows
import Derived.Test.YtebofnoljebakaaGreatDoorPXx6
import Derived.Test.YtebofnoljebakaaGreatDoorPureSorterNil
import Derived.Test.YtebofnoljebakaaGreatDoorXOpen
import Derived.WalkKit
import Derived.ProofKit
import Derived.OpenShut
import Derived.ShutString
import Derived.ChangeOld
import Derived.Below
import Derived.SizedLaws
import Derived.Carry
import Derived.LaidMore
import Derived.LaidSub
import Derived.Lib.LaidTab
import Derived.Lay
import Derived.SevenTiedAt
import Derived.MakeChecks
import Derived.Stop.Joined
import Derived.Stop.LaidErr
import Derived.Test.YtebofnoljebakaaGreatDoorTie
import Derived.Test.YtebofnoljebakaaGreatDoorCards
import Derived.Test.YtebofnoljebakaaGreatDoorXTabs
set_option linter.unusedVariables false
set_option linter.unusedSimpArgs false
namespace Go.Proofs.YtebofnoljebakaaGreatDoor.sorterNil
open Go.ChangeShapes Go.WideShapes Go.ChangeAt Go.RowKit Go.Proofs.YtebofnoljebakaaGreatDoor.PX Go.Proofs.YtebofnoljebakaaGreatDoorX Go.Proofs.YtebofnoljebakaaGreatDoorW.PrintWords
open Go.ChangeMaps (open_string shut_string)
theorem own : ownKnob Tryz.prog.godebug = none := by kernel_rfl
theorem laidOut : laidOutB Tryz.prog = true := by kernel_rfl
theorem opensS24 : Opens Tryz.prog 24 k24 (fun x => (True ∧ (Lit.int .i64 x.f1).wf = true ∧ x.f2.size ≤ 140737488351232)) :=
  opens_struct (fun y => ⟨y.1, y.2.1, y.2.2⟩) Tryz.underlying24 (by kernel_rfl) (fun _ => rfl) (fun _ h => h) (opens_more (o' := 1) rfl (by rfl) (opens_bool Tryz.underlying4 (by kernel_rfl)) (opens_more (o' := 2) rfl (by rfl) (opens_int Tryz.underlying3 (by kernel_rfl)) (opens_last rfl (opens_string Tryz.underlying9 (by kernel_rfl)))))
theorem opensS38 : Opens Tryz.prog 38 k38 (fun x => (x.f0.size ≤ 140737488351232 ∧ (True ∧ (Lit.int .i64 x.f1.f1).wf = true ∧ x.f1.f2.size ≤ 140737488351232))) :=
  opens_struct (fun y => ⟨y.1, y.2⟩) Tryz.underlying38 (by kernel_rfl) (fun _ => rfl) (fun _ h => h) (opens_more (o' := 1) rfl (by rfl) (opens_string Tryz.underlying9 (by kernel_rfl)) (opens_last rfl opensS24))
theorem tabs {W : World} (h : laidMetH Tryz.prog Rows.sorterNilRow.laid W) (hsh : W.ShapedOpen Tryz.prog) : Go.Proofs.YtebofnoljebakaaGreatDoorW.PrintMore.Tabs W := by
  rw [MakeChecks.laidMetH_plain _ _ _ (by kernel_rfl)] at h
  have h1 := h.filter fun x => x.1 == "internal/strconv.uint64pow10"
  have e : (Rows.sorterNilRow.laid.filter fun x => x.1 == "internal/strconv.uint64pow10") = [("internal/strconv.uint64pow10", Lib.tabData .u64 Lib.pow10Tab)] := by kernel_rfl
  rw [e] at h1
  exact Go.Proofs.YtebofnoljebakaaGreatDoorW.PrintMore.Tabs.of_laid h1 hsh
set_option maxHeartbeats 1000000 in
set_option maxRecDepth 100000 in
theorem lifted (os : Os) (started : os.Started) (H : Type) (enc : TypeId × Value → H) :
    ReturnsInHanded {} Tryz.checked os 5 .any (fun w args => (Rows.sorterNilSpec.pre enc Tryz.prog Tryz.f5 Rows.sorterNilRow.domain false w args ∧ laidMetH Tryz.prog Rows.sorterNilRow.laid w) ∧ sizedMet enc Tryz.prog Tryz.f5 (OpenSpec.ofChange Rows.sorterNilSpec) false w args) (Rows.sorterNilSpec.post enc Tryz.prog Tryz.f5 false true false false) := by
  refine Go.xt_returns (C := Tryz.checked) (X := fun w _ => laidMetH Tryz.prog Rows.sorterNilRow.laid w) (fun _ _ _ hh h => h.of_heap hh) own started (by kernel_rfl) Tryz.func5
    (ChangeSpec.witness_shaped (enc := enc) (C := Tryz.checked) (os := os) (X := fun w _ => laidMetH Tryz.prog Rows.sorterNilRow.laid w) false (World.laidAll Tryz.prog os Rows.sorterNilRow.laid) #[.agg #[.string ByteArray.empty, .bool false, .int .i64 0, .string ByteArray.empty]] 8 (World.laidAll_os _ _ _)
      (World.shaped_of_ZipB (by kernel_rfl) (by kernel_rfl)) (by kernel_rfl) (by kernel_rfl) (by kernel_rfl)
      (by rw [MakeChecks.laidMetH_plain _ _ _ (by kernel_rfl)]; exact laidMet_laidAll _ (by kernel_rfl) (by kernel_rfl))) ?_
  intro W base args ds gs before hval0 hW hcnd hsz0 hL hsh _
  have hT := tabs hL hsh
  have hsz : (DataW.weightsEach Tryz.prog (Tryz.f5.params.toList ++ Rows.sorterNilSpec.plain.varTypes Tryz.prog) (ds ++ gs)).all (· ≤ reachBytes) = true := hsz0
  have hval : ∀ (j : Nat) t v, Tryz.f5.params[j]? = some t → args[j]? = some v → Value.okWide Tryz.prog W .any base t v := hval0
  have hW' := hW
  obtain ⟨p, q, hA0, hV, rfl, hfz, hnd⟩ := hW
  have hA : DataW.TrodAll enc Tryz.prog W 0 (fun _ => true) true Tryz.f5.params.toList args.toList ds p := hA0
  rw [Tryz.params5] at hA hval hsz
  obtain ⟨v0, vs0, d0, ds0, p0, q0, hargs, rfl, rfl, h0, r0⟩ := trodAll_cons hA
  obtain ⟨rfl, rfl, rfl⟩ := trodAll_nil r0
  obtain rfl : args = #[v0] := by cases args; simp_all
  obtain ⟨rfl, rfl⟩ := trodVars_none hV
  have lt0 : ∀ x ∈ p0, x.block < W.heap.size := by obtain ⟨m, hm⟩ := h0; exact DataW.trod_lt m _ _ _ hm
  have k0 := h0
  obtain ⟨fu0, hf0⟩ := k0
  obtain ⟨x0, K0, S0⟩ := opensS38.opens hf0 (sized_of hsz (j := 0) rfl rfl)
  obtain e0 := k38_open K0
  obtain rfl := shape_struct Tryz.underlying38 (hval 0 38 v0 rfl rfl) e0
  clear hA0 hval0 hsz0 hsz
  have h := Pure.SorterNil x0 S0
  refine (w19_SorterNil.calls x0.f0 x0.f1.f0 x0.f1.f1 x0.f1.f2 true W hT  h).mono fun e W' ⟨he, hd⟩ => ?_
  have bel : Below W.heap.size W W' := hd
  subst he
  exact ⟨_, rfl, _, _, _, [], _, [], hW', trodAll_mk1 (shut_bool Tryz.underlying4 _), (trodAll_cons_mk (Below.trod laidOut (by kernel_rfl) (of_decide_eq_true (by kernel_rfl)) h0 bel lt0) trodAll_mk0), rfl, bel.frame _, fun h => by cases h⟩
theorem over : Rows.sorterNilRow.holds Tryz.pinned (OpenSpec.ofChange Rows.sorterNilSpec) :=
  OpenClaim.holds_of_wide 5 Tryz.f5 rfl rfl rfl rfl rfl rfl rfl ⟨rfl, rfl, rfl, rfl, rfl⟩ rfl rfl rfl rfl rfl (by kernel_rfl) Tryz.func5 (by kernel_rfl)
    (of_decide_eq_true (by kernel_rfl)) (by unfold Func.isWrapper; first | (rw [if_pos (by decide +kernel)]; kernel_rfl) | (rw [if_neg (by decide +kernel)]; exact ⟨rfl, rfl⟩))
    (fun os started H enc _ => lifted os started H enc)
theorem proved : Rows.SorterNilCardSaid :=
  Claim7.holds_tied_plain_at .later [] [.data, .data, .data, .data, .sentinel, .sentinel, .pinned] true (true, "b244ded2f9641ee627c5169fcf799bb3085d56d0ebdcfb0407adaf1ccd8b94fa") true over (fun _ h => by cases h) (by kernel_rfl) (fun _ h => by cases h) sorterNil_row_tie rfl ⟨rfl, rfl⟩ (by kernel_rfl) rfl
    (fun f fn hf hfn => by
      obtain rfl : f = 5 := Option.some.inj ((show Tryz.prog.funcNamed "threshing/threshinglaw19.SorterNil" = some 5 by kernel_rfl).symm.trans hf) |>.symm
      obtain rfl : fn = Tryz.f5 := (Option.some.inj (Tryz.func5.symm.trans hfn)).symm
      exact ⟨by kernel_rfl, fun j t ht => by
        rw [Tryz.params5] at ht
        have hm : t ∈ [38] := by simpa using Array.mem_of_getElem? ht
        have hall : ([38].all fun u => !Tryz.prog.wantsStandIn u) = true := by kernel_rfl
        exact (show Tryz.prog.wantsStandIn t = false by simpa using List.all_eq_true.1 hall t hm)⟩)
    (by kernel_rfl)
end Go.Proofs.YtebofnoljebakaaGreatDoor.sorterNil
namespace Go.Proofs.YtebofnoljebakaaGreatDoor
/-- The row, under a short name, for the claim. -/
theorem sorterNil_holds : Rows.SorterNilCardSaid := sorterNil.proved
#print axioms sorterNil_holds
end Go.Proofs.YtebofnoljebakaaGreatDoor
