/- The row of TextPieces: every input that can be read leads the law to true; out of the pure statement and the printed contract. -/
import Derived.Test.YtbfjhgpeidibhaaRows
import Derived.Test.YtbfjhgpeidibhaaPXx7
import Derived.Test.YtbfjhgpeidibhaaPureTextPieces
import Derived.Test.YtbfjhgpeidibhaaXOpen
import Derived.WalkKit
import Derived.ProofKit
import Derived.OpenShut
import Derived.ShutString
import Derived.ChangeOld
import Derived.Below
import Derived.SizedLaws
import Derived.Carry
namespace Go.Proofs.Ytbfjhgpeidibhaa.textPieces
open Go.ChangeShapes Go.WideShapes Go.ChangeAt Go.RowKit Go.Proofs.Ytbfjhgpeidibhaa.PX Go.Proofs.YtbfjhgpeidibhaaX Go.Proofs.YtbfjhgpeidibhaaW.PrintWords
open Go.ChangeMaps (open_string shut_string)
theorem own : ownKnob Try.prog.godebug = none := by kernel_rfl
theorem laidOut : laidOutB Try.prog = true := by kernel_rfl
set_option maxHeartbeats 1000000 in
set_option maxRecDepth 100000 in
theorem lifted (os : Os) (started : os.Started) (H : Type) (enc : TypeId × Value → H) :
    ReturnsInHanded {} Try.checked os 5 .any (Rows.textPiecesSpec.pre6 enc Try.prog Try.f5 Rows.textPiecesRow.domain false) (Rows.textPiecesSpec.post enc Try.prog Try.f5 false true false false) := by
  refine returnsInHanded_of_change_sized (C := Try.checked) own started (by kernel_rfl) Try.func5
    (ChangeSpec.witness6 (enc := enc) (C := Try.checked) false ⟨#[], #[.slice none 0 0], []⟩ 8 (by kernel_rfl) (by kernel_rfl) (by kernel_rfl) (by kernel_rfl)) ?_
  intro W base args ds gs before hval0 hW hcnd hsz0 _
  have hsz : (DataW.weightsEach Try.prog (Try.f5.params.toList ++ Rows.textPiecesSpec.plain.varTypes Try.prog) (ds ++ gs)).all (· ≤ reachBytes) = true := hsz0
  have hval : ∀ (j : Nat) t v, Try.f5.params[j]? = some t → args[j]? = some v → Value.okWide Try.prog W .any base t v := hval0
  have hW' := hW
  obtain ⟨p, q, hA0, hV, rfl, hfz, hnd⟩ := hW
  have hA : DataW.TrodAll enc Try.prog W 0 (fun _ => true) true Try.f5.params.toList args.toList ds p := hA0
  rw [Try.params5] at hA hval hsz
  obtain ⟨v0, vs0, d0, ds0, p0, q0, hargs, rfl, rfl, h0, r0⟩ := trodAll_cons hA
  obtain ⟨rfl, rfl, rfl⟩ := trodAll_nil r0
  obtain rfl : args = #[v0] := by cases args; simp_all
  obtain ⟨rfl, rfl⟩ := trodVars_none hV
  have lt0 : ∀ x ∈ p0, x.block < W.heap.size := by obtain ⟨m, hm⟩ := h0; exact DataW.trod_lt m _ _ _ hm
  have k0 := h0
  obtain ⟨fu0, hf0⟩ := k0
  obtain ⟨x0, K0, S0⟩ := (opens_slice (B := 1) Try.underlying25 (by kernel_rfl) (by kernel_rfl) (opens_int Try.underlying5 (by kernel_rfl))).opens hf0 (sized_of hsz (j := 0) rfl rfl)
  obtain ⟨A0, c0, e0, l0, g0⟩ := K0
  obtain rfl := shape_slice Try.underlying25 (hval 0 25 v0 rfl rfl) e0
  clear hA0 hval0 hsz0 hsz
  obtain ⟨k, h⟩ := Pure.TextPieces x0 S0
  refine (threshinglaw05_TextPieces.calls k A0 c0 x0 true W g0 l0 h).mono fun e W' ⟨he, hd⟩ => ?_
  have bel : Below W.heap.size W W' := hd
  subst he
  exact ⟨_, rfl, _, _, _, [], _, [], hW', trodAll_mk1 (shut_bool Try.underlying4 _), (trodAll_cons_mk (Below.trod laidOut (by kernel_rfl) (of_decide_eq_true (by kernel_rfl)) h0 bel lt0) trodAll_mk0), rfl, bel.frame _, fun h => by cases h⟩
theorem over : Rows.textPiecesRow.holds Try.pinned (OpenSpec.ofChange Rows.textPiecesSpec) :=
  OpenClaim.holds_of_wide 5 Try.f5 rfl rfl rfl rfl rfl rfl rfl ⟨rfl, rfl, rfl, rfl, rfl⟩ rfl rfl rfl rfl rfl (by kernel_rfl) Try.func5 (by kernel_rfl)
    (of_decide_eq_true (by kernel_rfl)) (by unfold Func.isWrapper; first | (rw [if_pos (by decide +kernel)]; kernel_rfl) | (rw [if_neg (by decide +kernel)]; exact ⟨rfl, rfl⟩))
    (fun os started H enc _ => lifted os started H enc)
theorem proved : Rows.TextPiecesSaid := over
end Go.Proofs.Ytbfjhgpeidibhaa.textPieces
namespace Go.Proofs.Ytbfjhgpeidibhaa
/-- The row, under a short name, for the claim. -/
theorem textPieces_holds : Rows.TextPiecesSaid := textPieces.proved
#print axioms textPieces_holds
end Go.Proofs.Ytbfjhgpeidibhaa
