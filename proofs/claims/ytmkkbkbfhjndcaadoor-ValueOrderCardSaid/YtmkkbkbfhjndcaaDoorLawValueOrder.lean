/- The row of ValueOrder: every input that can be read leads the law to true; out of the pure statement and the printed contract. -/
import Derived.Test.YtmkkbkbfhjndcaaDoorRows
import Derived.Test.YtmkkbkbfhjndcaaDoorPXx7
import Derived.Test.YtmkkbkbfhjndcaaDoorPureValueOrder
import Derived.Test.YtmkkbkbfhjndcaaDoorXOpen
import Derived.WalkKit
import Derived.ProofKit
import Derived.OpenShut
import Derived.ShutString
import Derived.ChangeOld
import Derived.Below
import Derived.SizedLaws
import Derived.Carry
import Derived.LaidMore
import Derived.LaidSub
import Derived.Lib.LaidTab
import Derived.Lay
import Derived.SevenTiedAt
import Derived.MakeChecks
import Derived.Stop.Joined
import Derived.Stop.LaidErr
import Derived.Test.YtmkkbkbfhjndcaaDoorTie
import Derived.Test.YtmkkbkbfhjndcaaDoorCards
import Derived.Test.YtmkkbkbfhjndcaaDoorXTabs
set_option linter.unusedVariables false
set_option linter.unusedSimpArgs false
namespace Go.Proofs.YtmkkbkbfhjndcaaDoor.valueOrder
open Go.ChangeShapes Go.WideShapes Go.ChangeAt Go.RowKit Go.Proofs.YtmkkbkbfhjndcaaDoor.PX Go.Proofs.YtmkkbkbfhjndcaaDoorX Go.Proofs.YtmkkbkbfhjndcaaDoorW.PrintWords
open Go.ChangeMaps (open_string shut_string)
theorem own : ownKnob Tryd.prog.godebug = none := by kernel_rfl
theorem laidOut : laidOutB Tryd.prog = true := by kernel_rfl
theorem opensS43 : Opens Tryd.prog 43 k43 (fun x => (True ∧ (Lit.int .i64 x.f1).wf = true ∧ x.f2.size ≤ 140737488351232)) :=
  opens_struct (fun y => ⟨y.1, y.2.1, y.2.2⟩) Tryd.underlying43 (by kernel_rfl) (fun _ => rfl) (fun _ h => h) (opens_more (o' := 1) rfl (by rfl) (opens_bool Tryd.underlying4 (by kernel_rfl)) (opens_more (o' := 2) rfl (by rfl) (opens_int Tryd.underlying3 (by kernel_rfl)) (opens_last rfl (opens_string Tryd.underlying9 (by kernel_rfl)))))
theorem opensS51 : Opens Tryd.prog 51 k51 (fun x => ((True ∧ (Lit.int .i64 x.f0.f1).wf = true ∧ x.f0.f2.size ≤ 140737488351232) ∧ (True ∧ (Lit.int .i64 x.f1.f1).wf = true ∧ x.f1.f2.size ≤ 140737488351232) ∧ (True ∧ (Lit.int .i64 x.f2.f1).wf = true ∧ x.f2.f2.size ≤ 140737488351232))) :=
  opens_array [fld 43 0, fld 43 3, fld 43 6] (fun y => ⟨y.1, y.2.1, y.2.2⟩) Tryd.underlying51 rfl (fun i q h => by
    have hc : Tryd.prog.cellsOf 43 = 3 := by kernel_rfl
    rw [hc]
    match i with
    | 0 => simp at h; subst h; exact ⟨rfl, rfl⟩
    | 1 => simp at h; subst h; exact ⟨rfl, rfl⟩
    | 2 => simp at h; subst h; exact ⟨rfl, rfl⟩
    | i + 3 => simp at h) (by kernel_rfl) (fun _ => rfl) (fun _ h => h) (opens_more (f := fld 43 0) (o' := 3) rfl (by rfl) opensS43 (opens_more (f := fld 43 3) (o' := 6) rfl (by rfl) opensS43 (opens_last (f := fld 43 6) rfl opensS43)))
theorem tabs {W : World} (h : laidMetH Tryd.prog Rows.valueOrderRow.laid W) : Go.Proofs.YtmkkbkbfhjndcaaDoorW.PrintMore.Tabs W := by
  rw [MakeChecks.laidMetH_plain _ _ _ (by kernel_rfl)] at h
  have h1 := h.filter fun x => x.1 == "internal/strconv.uint64pow10"
  have e : (Rows.valueOrderRow.laid.filter fun x => x.1 == "internal/strconv.uint64pow10") = [("internal/strconv.uint64pow10", Lib.tabData .u64 Lib.pow10Tab)] := by kernel_rfl
  rw [e] at h1
  exact Go.Proofs.YtmkkbkbfhjndcaaDoorW.PrintMore.Tabs.of_laid h1
set_option maxHeartbeats 1000000 in
set_option maxRecDepth 100000 in
theorem lifted (os : Os) (started : os.Started) (H : Type) (enc : TypeId × Value → H) :
    ReturnsInHanded {} Tryd.checked os 6 .any (fun w args => (Rows.valueOrderSpec.pre enc Tryd.prog Tryd.f6 Rows.valueOrderRow.domain false w args ∧ laidMetH Tryd.prog Rows.valueOrderRow.laid w) ∧ sizedMet enc Tryd.prog Tryd.f6 (OpenSpec.ofChange Rows.valueOrderSpec) false w args) (Rows.valueOrderSpec.post enc Tryd.prog Tryd.f6 false true false false) := by
  refine returnsInHanded_of_change_and (C := Tryd.checked) (X := fun w _ => laidMetH Tryd.prog Rows.valueOrderRow.laid w) (fun _ _ _ hh h => h.of_heap hh) own started (by kernel_rfl) Tryd.func6
    (ChangeSpec.witness_shaped (enc := enc) (C := Tryd.checked) (os := os) (X := fun w _ => laidMetH Tryd.prog Rows.valueOrderRow.laid w) false (World.laidAll Tryd.prog os Rows.valueOrderRow.laid) #[.agg #[.bool false, .int .i64 0, .string ByteArray.empty, .bool false, .int .i64 0, .string ByteArray.empty, .bool false, .int .i64 0, .string ByteArray.empty]] 8 (World.laidAll_os _ _ _)
      (World.shaped_of_ZipB (by kernel_rfl) (by kernel_rfl)) (by kernel_rfl) (by kernel_rfl) (by kernel_rfl)
      (by rw [MakeChecks.laidMetH_plain _ _ _ (by kernel_rfl)]; exact laidMet_laidAll _ (by kernel_rfl) (by kernel_rfl))) ?_
  intro W base args ds gs before hval0 hW hcnd hsz0 hL _
  have hT := tabs hL
  have hsz : (DataW.weightsEach Tryd.prog (Tryd.f6.params.toList ++ Rows.valueOrderSpec.plain.varTypes Tryd.prog) (ds ++ gs)).all (· ≤ reachBytes) = true := hsz0
  have hval : ∀ (j : Nat) t v, Tryd.f6.params[j]? = some t → args[j]? = some v → Value.okWide Tryd.prog W .any base t v := hval0
  have hW' := hW
  obtain ⟨p, q, hA0, hV, rfl, hfz, hnd⟩ := hW
  have hA : DataW.TrodAll enc Tryd.prog W 0 (fun _ => true) true Tryd.f6.params.toList args.toList ds p := hA0
  rw [Tryd.params6] at hA hval hsz
  obtain ⟨v0, vs0, d0, ds0, p0, q0, hargs, rfl, rfl, h0, r0⟩ := trodAll_cons hA
  obtain ⟨rfl, rfl, rfl⟩ := trodAll_nil r0
  obtain rfl : args = #[v0] := by cases args; simp_all
  obtain ⟨rfl, rfl⟩ := trodVars_none hV
  have lt0 : ∀ x ∈ p0, x.block < W.heap.size := by obtain ⟨m, hm⟩ := h0; exact DataW.trod_lt m _ _ _ hm
  have k0 := h0
  obtain ⟨fu0, hf0⟩ := k0
  obtain ⟨x0, K0, S0⟩ := opensS51.opens hf0 (sized_of hsz (j := 0) rfl rfl)
  obtain e0 := k51_open K0
  obtain rfl := shape_array Tryd.underlying51 (hval 0 51 v0 rfl rfl) e0
  clear hA0 hval0 hsz0 hsz
  obtain ⟨k, h⟩ := Pure.ValueOrder x0 S0
  refine (threshinglaw13_ValueOrder.calls k x0.f0.f0 x0.f0.f1 x0.f0.f2 x0.f1.f0 x0.f1.f1 x0.f1.f2 x0.f2.f0 x0.f2.f1 x0.f2.f2 true W hT  h).mono fun e W' ⟨he, hd⟩ => ?_
  have bel : Below W.heap.size W W' := hd
  subst he
  exact ⟨_, rfl, _, _, _, [], _, [], hW', trodAll_mk1 (shut_bool Tryd.underlying4 _), (trodAll_cons_mk (Below.trod laidOut (by kernel_rfl) (of_decide_eq_true (by kernel_rfl)) h0 bel lt0) trodAll_mk0), rfl, bel.frame _, fun h => by cases h⟩
theorem over : Rows.valueOrderRow.holds Tryd.pinned (OpenSpec.ofChange Rows.valueOrderSpec) :=
  OpenClaim.holds_of_wide 6 Tryd.f6 rfl rfl rfl rfl rfl rfl rfl ⟨rfl, rfl, rfl, rfl, rfl⟩ rfl rfl rfl rfl rfl (by kernel_rfl) Tryd.func6 (by kernel_rfl)
    (of_decide_eq_true (by kernel_rfl)) (by unfold Func.isWrapper; first | (rw [if_pos (by decide +kernel)]; kernel_rfl) | (rw [if_neg (by decide +kernel)]; exact ⟨rfl, rfl⟩))
    (fun os started H enc _ => lifted os started H enc)
theorem proved : Rows.ValueOrderCardSaid :=
  Claim7.holds_tied_plain_at .later [] [.data, .data, .data, .data, .sentinel, .sentinel, .pinned] true (true, "f4d6fbc4145e83dd2b4c5823942ed680425de9c7ec99fecff86fa83b033203b5") true over (fun _ h => by cases h) (by kernel_rfl) (fun _ h => by cases h) valueOrder_row_tie rfl ⟨rfl, rfl⟩ (by kernel_rfl) rfl
    (fun f fn hf hfn => by
      obtain rfl : f = 6 := Option.some.inj ((show Tryd.prog.funcNamed "threshing/threshinglaw13.ValueOrder" = some 6 by kernel_rfl).symm.trans hf) |>.symm
      obtain rfl : fn = Tryd.f6 := (Option.some.inj (Tryd.func6.symm.trans hfn)).symm
      exact ⟨by kernel_rfl, fun j t ht => by
        rw [Tryd.params6] at ht
        have hm : t ∈ [51] := by simpa using Array.mem_of_getElem? ht
        have hall : ([51].all fun u => !Tryd.prog.wantsStandIn u) = true := by kernel_rfl
        exact (show Tryd.prog.wantsStandIn t = false by simpa using List.all_eq_true.1 hall t hm)⟩)
    (by kernel_rfl)
end Go.Proofs.YtmkkbkbfhjndcaaDoor.valueOrder
namespace Go.Proofs.YtmkkbkbfhjndcaaDoor
/-- The row, under a short name, for the claim. -/
theorem valueOrder_holds : Rows.ValueOrderCardSaid := valueOrder.proved
#print axioms valueOrder_holds
end Go.Proofs.YtmkkbkbfhjndcaaDoor
