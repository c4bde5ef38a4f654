/- Walked functions, by this session's program over the kit's print. -/
import Derived.Test.YtejmgcfjpofniaaGreatDoorPXx0
import Derived.Test.YtejmgcfjpofniaaGreatDoorPXx7
import Derived.Test.YtejmgcfjpofniaaGreatDoorPXx8
import Derived.Test.YtejmgcfjpofniaaGreatDoorPXx14
import Derived.Test.YtejmgcfjpofniaaGreatDoorPXx15
/- Walked functions, by this session's program over the kit's print. -/
namespace Go.Proofs.YtejmgcfjpofniaaGreatDoor.PX
open Go.RowKit Go.Proofs.YtejmgcfjpofniaaGreatDoorW.PrintWords Go.Proofs.YtejmgcfjpofniaaGreatDoorW.PrintLast Go.Proofs.YtejmgcfjpofniaaGreatDoorW.PrintMore
attribute [local go_sem] xm_gtr max2_int min2_int max_two min_two max_three min_three max_four min_four   -- for this text's walks alone
set_option linter.unusedVariables false
set_option linter.unusedSimpArgs false

/-! ### threshinglaw16_EvalTotal: function 5 -/
mutual
def threshinglaw16_EvalTotal.j0 : Nat → List (S48) → List ByteArray → List Bool → Int → List (S44) → Int → Bool → Option (Bool)
  | 0, _, _, _, _, _, _, _ => none
  | k + 1, x0, x1, x7, x10, x11, x12, x90 => if x90 = true then (some false) else (threshinglaw16_EvalTotal.l0 k x0 x1 x7 x10 x11 x12 0)
def threshinglaw16_EvalTotal.l0 : Nat → List (S48) → List ByteArray → List Bool → Int → List (S44) → Int → Int → Option (Bool)
  | 0, _, _, _, _, _, _, _ => none
  | k + 1, x0, x1, x7, x10, x11, x12, x17 => if x17 < (x11.length : Int) then (if 0 ≤ x17 then (if x17 < (x7.length : Int) then (if (((rd_T44 x11 x17).f0) != (rdOf false x7 x17)) = true then (some false) else ((threshingref13_Is.f ((rd_T44 x11 x17).f0) ((rd_T44 x11 x17).f1) ((rd_T44 x11 x17).f2)).bind fun t399 => (if t399 = true then (threshinglaw16_EvalTotal.l0 k x0 x1 x7 x10 x11 x12 (wrap64 (x17 + 1))) else (some false)))) else (none)) else (none)) else ((eval_Run.f k x0 x1 (wrap64 (x10 - x12))).bind fun bt400 => ((eval_Run.f k x0 x1 (wrap64 ((wrap64 (x10 - x12)) - 1))).bind fun bt405 => ((threshinglaw16_alive.f k).bind fun t410 => (if t410 = true then (if bt400.2.2 = 0 then (if bt400.2.1 = 0 then ((threshingref16_Same.f k bt400.1 x11).bind fun t411 => (if t411 = true then (if (x0.length : Int) = 0 then (some true) else (some (bt405.2.2 == 12))) else (some false))) else (some false)) else (some false)) else (some false)))))
end
def threshinglaw16_EvalTotal.f (k : Nat) (l0 : List (S48)) (l1 : List ByteArray) (a2 : Int) : Option (Bool) := (threshinglaw16_small.f k l0 l1).bind fun t377 => (if t377 = true then ((threshingref15_Stack.f k l0 ([] : List Bool)).bind fun bt379 => (if bt379.2.2 = 0 then ((eval_Run.f k l0 l1 (wrap64 (65 * (l0.length : Int)))).bind fun bt385 => ((eval_Run.f k l0 l1 (wrap64 ((wrap64 (65 * (l0.length : Int))) + (wrap64 (a2))))).bind fun bt390 => (if bt385.2.2 = 0 then (if bt390.2.2 = 0 then ((threshingref16_Same.f k bt385.1 bt390.1).bind fun t395 => (if t395 = true then (if bt390.2.1 = (wrap64 (bt385.2.1 + (wrap64 (a2)))) then (if (bt385.1.length : Int) = (bt379.1.length : Int) then (threshinglaw16_EvalTotal.j0 k l0 l1 bt379.1 (wrap64 (65 * (l0.length : Int))) bt385.1 bt385.2.1 (decide (bt385.2.1 < 0))) else (threshinglaw16_EvalTotal.j0 k l0 l1 bt379.1 (wrap64 (65 * (l0.length : Int))) bt385.1 bt385.2.1 true)) else (threshinglaw16_EvalTotal.j0 k l0 l1 bt379.1 (wrap64 (65 * (l0.length : Int))) bt385.1 bt385.2.1 true)) else (threshinglaw16_EvalTotal.j0 k l0 l1 bt379.1 (wrap64 (65 * (l0.length : Int))) bt385.1 bt385.2.1 true))) else (threshinglaw16_EvalTotal.j0 k l0 l1 bt379.1 (wrap64 (65 * (l0.length : Int))) bt385.1 bt385.2.1 true)) else (threshinglaw16_EvalTotal.j0 k l0 l1 bt379.1 (wrap64 (65 * (l0.length : Int))) bt385.1 bt385.2.1 true)))) else ((threshinglaw16_alive.f k).bind fun t384 => (some t384)))) else ((threshinglaw16_alive.f k).bind fun t378 => (some t378)))
theorem threshinglaw16_EvalTotal.mono_l : ∀ k, (∀ y0 y1 y2 y3 y4 y5 y6, LeO (threshinglaw16_EvalTotal.j0 k y0 y1 y2 y3 y4 y5 y6) (threshinglaw16_EvalTotal.j0 (k + 1) y0 y1 y2 y3 y4 y5 y6)) ∧ (∀ y0 y1 y2 y3 y4 y5 y6, LeO (threshinglaw16_EvalTotal.l0 k y0 y1 y2 y3 y4 y5 y6) (threshinglaw16_EvalTotal.l0 (k + 1) y0 y1 y2 y3 y4 y5 y6))
  | 0 => ⟨fun _ _ _ _ _ _ _ r h => by simp [threshinglaw16_EvalTotal.j0] at h, fun _ _ _ _ _ _ _ r h => by simp [threshinglaw16_EvalTotal.l0] at h⟩
  | k + 1 => by
    obtain ⟨ih0, ih1⟩ := threshinglaw16_EvalTotal.mono_l k
    refine ⟨?_, ?_⟩
    · intro y0 y1 y2 y3 y4 y5 y6
      unfold threshinglaw16_EvalTotal.j0
      repeat' first
      | (with_reducible exact ih0 _ _ _ _ _ _ _)
      | (with_reducible exact ih1 _ _ _ _ _ _ _)
      | (with_reducible exact eval_Run.mono _ _ _ _)
      | (with_reducible exact threshinglaw16_alive.mono _)
      | (with_reducible exact threshinglaw16_small.mono _ _ _)
      | (with_reducible exact threshingref15_Stack.mono _ _ _)
      | (with_reducible exact threshingref16_Same.mono _ _ _)
      | (with_reducible exact LeO.refl _)
      | (with_reducible exact LeO.none _)
      | (with_reducible refine LeO.ite ?_ ?_)
      | (with_reducible refine LeO.bind ?_ (fun _ => ?_))
      | exact ih0 _ _ _ _ _ _ _
      | exact ih1 _ _ _ _ _ _ _
      | exact eval_Run.mono _ _ _ _
      | exact threshinglaw16_alive.mono _
      | exact threshinglaw16_small.mono _ _ _
      | exact threshingref15_Stack.mono _ _ _
      | exact threshingref16_Same.mono _ _ _
      | exact LeO.none _
      | refine LeO.ite ?_ ?_
      | refine LeO.bind ?_ (fun _ => ?_)
    · intro y0 y1 y2 y3 y4 y5 y6
      unfold threshinglaw16_EvalTotal.l0
      repeat' first
      | (with_reducible exact ih0 _ _ _ _ _ _ _)
      | (with_reducible exact ih1 _ _ _ _ _ _ _)
      | (with_reducible exact eval_Run.mono _ _ _ _)
      | (with_reducible exact threshinglaw16_alive.mono _)
      | (with_reducible exact threshinglaw16_small.mono _ _ _)
      | (with_reducible exact threshingref15_Stack.mono _ _ _)
      | (with_reducible exact threshingref16_Same.mono _ _ _)
      | (with_reducible exact LeO.refl _)
      | (with_reducible exact LeO.none _)
      | (with_reducible refine LeO.ite ?_ ?_)
      | (with_reducible refine LeO.bind ?_ (fun _ => ?_))
      | exact ih0 _ _ _ _ _ _ _
      | exact ih1 _ _ _ _ _ _ _
      | exact eval_Run.mono _ _ _ _
      | exact threshinglaw16_alive.mono _
      | exact threshinglaw16_small.mono _ _ _
      | exact threshingref15_Stack.mono _ _ _
      | exact threshingref16_Same.mono _ _ _
      | exact LeO.none _
      | refine LeO.ite ?_ ?_
      | refine LeO.bind ?_ (fun _ => ?_)
theorem threshinglaw16_EvalTotal.mono : ∀ a0 a1 a2 k, LeO (threshinglaw16_EvalTotal.f k a0 a1 a2) (threshinglaw16_EvalTotal.f (k + 1) a0 a1 a2) := by
  intro a0 a1 a2 k
  obtain ⟨ih0, ih1⟩ := threshinglaw16_EvalTotal.mono_l k
  unfold threshinglaw16_EvalTotal.f
  repeat' first
      | (with_reducible exact ih0 _ _ _ _ _ _ _)
      | (with_reducible exact ih1 _ _ _ _ _ _ _)
      | (with_reducible exact eval_Run.mono _ _ _ _)
      | (with_reducible exact threshinglaw16_alive.mono _)
      | (with_reducible exact threshinglaw16_small.mono _ _ _)
      | (with_reducible exact threshingref15_Stack.mono _ _ _)
      | (with_reducible exact threshingref16_Same.mono _ _ _)
      | (with_reducible exact LeO.refl _)
      | (with_reducible exact LeO.none _)
      | (with_reducible refine LeO.ite ?_ ?_)
      | (with_reducible refine LeO.bind ?_ (fun _ => ?_))
      | exact ih0 _ _ _ _ _ _ _
      | exact ih1 _ _ _ _ _ _ _
      | exact eval_Run.mono _ _ _ _
      | exact threshinglaw16_alive.mono _
      | exact threshinglaw16_small.mono _ _ _
      | exact threshingref15_Stack.mono _ _ _
      | exact threshingref16_Same.mono _ _ _
      | exact LeO.none _
      | refine LeO.ite ?_ ?_
      | refine LeO.bind ?_ (fun _ => ?_)
def threshinglaw16_EvalTotal.T14 : Bool × List (List Nat × List Nat) := (true, [([], []), ([], []), ([0, 1], [0, 1]), ([2], [2]), ([3], [3]), ([], []), ([], []), ([5, 6], [5, 6]), ([7], [7]), ([4, 8], [4, 8]), ([9], [9]), ([10], [10]), ([10], [10]), ([11, 12, 10], [10, 11, 12]), ([13, 10], [10, 13]), ([14, 10, 10], [10, 14]), ([15, 10], [10, 15]), ([10, 16], [10, 16])])
def threshinglaw16_EvalTotal.B14 : List Nat := [0, 0, 3, 7, 15, 0, 0, 96, 224, 511, 1023, 2047, 2047, 8191, 16383, 32767, 65535, 131071]
theorem threshinglaw16_EvalTotal.tab14 : rtab .any (opsOf Tryz.f5 14) = threshinglaw16_EvalTotal.T14 := by kernel_rfl
theorem threshinglaw16_EvalTotal.bits14 : waitsOk threshinglaw16_EvalTotal.T14.2 threshinglaw16_EvalTotal.B14 = true := by kernel_rfl
set_option maxHeartbeats 8000000 in
set_option maxRecDepth 100000 in
theorem threshinglaw16_EvalTotal.calls (k : Nat) (A0 : Option Addr) (c0 : Nat) (l0 : List (S48)) (A1 : Option Addr) (c1 : Nat) (l1 : List ByteArray) (a2 : Int) (r : Bool) (w : World) (hT : Tabs w) (hr0 : Kd.C k48 w A0 l0.length l0) (hc0 : l0.length ≤ c0) (hr1 : Kd.C Kd.string w A1 l1.length l1) (hc1 : l1.length ≤ c1) (h : threshinglaw16_EvalTotal.f k l0 l1 a2 = some r) :
    Calls Tryz.prog 5 #[.slice A0 l0.length c0, .slice A1 l1.length c1, .int .u16 a2] w fun e w' => e = .returned (.bool r) ∧ Below w.heap.size w w' := by
  have hu44 := Tryz.underlying44
  have HR0 := Aside0.mk hr0
  have HC0 := Aside0.mk hc0
  clear hr0 hc0
  have HR1 := Aside0.mk hr1
  have HC1 := Aside0.mk hc1
  clear hr1 hc1
  have HB := Aside0.mk (Below.refl w.heap.size w)
  have H : ((threshinglaw16_small.f k l0 l1).bind fun t377 => (if t377 = true then ((threshingref15_Stack.f k l0 ([] : List Bool)).bind fun bt379 => (if bt379.2.2 = 0 then ((eval_Run.f k l0 l1 (wrap64 (65 * (l0.length : Int)))).bind fun bt385 => ((eval_Run.f k l0 l1 (wrap64 ((wrap64 (65 * (l0.length : Int))) + (wrap64 (a2))))).bind fun bt390 => (if bt385.2.2 = 0 then (if bt390.2.2 = 0 then ((threshingref16_Same.f k bt385.1 bt390.1).bind fun t395 => (if t395 = true then (if bt390.2.1 = (wrap64 (bt385.2.1 + (wrap64 (a2)))) then (if (bt385.1.length : Int) = (bt379.1.length : Int) then (threshinglaw16_EvalTotal.j0 k l0 l1 bt379.1 (wrap64 (65 * (l0.length : Int))) bt385.1 bt385.2.1 (decide (bt385.2.1 < 0))) else (threshinglaw16_EvalTotal.j0 k l0 l1 bt379.1 (wrap64 (65 * (l0.length : Int))) bt385.1 bt385.2.1 true)) else (threshinglaw16_EvalTotal.j0 k l0 l1 bt379.1 (wrap64 (65 * (l0.length : Int))) bt385.1 bt385.2.1 true)) else (threshinglaw16_EvalTotal.j0 k l0 l1 bt379.1 (wrap64 (65 * (l0.length : Int))) bt385.1 bt385.2.1 true))) else (threshinglaw16_EvalTotal.j0 k l0 l1 bt379.1 (wrap64 (65 * (l0.length : Int))) bt385.1 bt385.2.1 true)) else (threshinglaw16_EvalTotal.j0 k l0 l1 bt379.1 (wrap64 (65 * (l0.length : Int))) bt385.1 bt385.2.1 true)))) else ((threshinglaw16_alive.f k).bind fun t384 => (some t384)))) else ((threshinglaw16_alive.f k).bind fun t378 => (some t378)))) = some r := h
  clear h
  replace H := Option.bind_eq_some_iff.mp H
  obtain ⟨t377, A40, H⟩ := H
  replace H : (if t377 = true then ((threshingref15_Stack.f k l0 ([] : List Bool)).bind fun bt379 => (if bt379.2.2 = 0 then ((eval_Run.f k l0 l1 (wrap64 (65 * (l0.length : Int)))).bind fun bt385 => ((eval_Run.f k l0 l1 (wrap64 ((wrap64 (65 * (l0.length : Int))) + (wrap64 (a2))))).bind fun bt390 => (if bt385.2.2 = 0 then (if bt390.2.2 = 0 then ((threshingref16_Same.f k bt385.1 bt390.1).bind fun t395 => (if t395 = true then (if bt390.2.1 = (wrap64 (bt385.2.1 + (wrap64 (a2)))) then (if (bt385.1.length : Int) = (bt379.1.length : Int) then (threshinglaw16_EvalTotal.j0 k l0 l1 bt379.1 (wrap64 (65 * (l0.length : Int))) bt385.1 bt385.2.1 (decide (bt385.2.1 < 0))) else (threshinglaw16_EvalTotal.j0 k l0 l1 bt379.1 (wrap64 (65 * (l0.length : Int))) bt385.1 bt385.2.1 true)) else (threshinglaw16_EvalTotal.j0 k l0 l1 bt379.1 (wrap64 (65 * (l0.length : Int))) bt385.1 bt385.2.1 true)) else (threshinglaw16_EvalTotal.j0 k l0 l1 bt379.1 (wrap64 (65 * (l0.length : Int))) bt385.1 bt385.2.1 true))) else (threshinglaw16_EvalTotal.j0 k l0 l1 bt379.1 (wrap64 (65 * (l0.length : Int))) bt385.1 bt385.2.1 true)) else (threshinglaw16_EvalTotal.j0 k l0 l1 bt379.1 (wrap64 (65 * (l0.length : Int))) bt385.1 bt385.2.1 true)))) else ((threshinglaw16_alive.f k).bind fun t384 => (some t384)))) else ((threshinglaw16_alive.f k).bind fun t378 => (some t378))) = some r := H
  have A4 := Aside0.mk A40
  clear A40
  by_cases c5 : t377 = true
  · subst c5
    have H1 : ((threshingref15_Stack.f k l0 ([] : List Bool)).bind fun bt379 => (if bt379.2.2 = 0 then ((eval_Run.f k l0 l1 (wrap64 (65 * (l0.length : Int)))).bind fun bt385 => ((eval_Run.f k l0 l1 (wrap64 ((wrap64 (65 * (l0.length : Int))) + (wrap64 (a2))))).bind fun bt390 => (if bt385.2.2 = 0 then (if bt390.2.2 = 0 then ((threshingref16_Same.f k bt385.1 bt390.1).bind fun t395 => (if t395 = true then (if bt390.2.1 = (wrap64 (bt385.2.1 + (wrap64 (a2)))) then (if (bt385.1.length : Int) = (bt379.1.length : Int) then (threshinglaw16_EvalTotal.j0 k l0 l1 bt379.1 (wrap64 (65 * (l0.length : Int))) bt385.1 bt385.2.1 (decide (bt385.2.1 < 0))) else (threshinglaw16_EvalTotal.j0 k l0 l1 bt379.1 (wrap64 (65 * (l0.length : Int))) bt385.1 bt385.2.1 true)) else (threshinglaw16_EvalTotal.j0 k l0 l1 bt379.1 (wrap64 (65 * (l0.length : Int))) bt385.1 bt385.2.1 true)) else (threshinglaw16_EvalTotal.j0 k l0 l1 bt379.1 (wrap64 (65 * (l0.length : Int))) bt385.1 bt385.2.1 true))) else (threshinglaw16_EvalTotal.j0 k l0 l1 bt379.1 (wrap64 (65 * (l0.length : Int))) bt385.1 bt385.2.1 true)) else (threshinglaw16_EvalTotal.j0 k l0 l1 bt379.1 (wrap64 (65 * (l0.length : Int))) bt385.1 bt385.2.1 true)))) else ((threshinglaw16_alive.f k).bind fun t384 => (some t384)))) = some r := by rw [if_pos rfl] at H; exact H
    clear H
    have H := H1
    clear H1
    replace H := Option.bind_eq_some_iff.mp H
    obtain ⟨⟨t379, t380, t381⟩, A60, H⟩ := H
    replace H : (if t381 = 0 then ((eval_Run.f k l0 l1 (wrap64 (65 * (l0.length : Int)))).bind fun bt385 => ((eval_Run.f k l0 l1 (wrap64 ((wrap64 (65 * (l0.length : Int))) + (wrap64 (a2))))).bind fun bt390 => (if bt385.2.2 = 0 then (if bt390.2.2 = 0 then ((threshingref16_Same.f k bt385.1 bt390.1).bind fun t395 => (if t395 = true then (if bt390.2.1 = (wrap64 (bt385.2.1 + (wrap64 (a2)))) then (if (bt385.1.length : Int) = (t379.length : Int) then (threshinglaw16_EvalTotal.j0 k l0 l1 t379 (wrap64 (65 * (l0.length : Int))) bt385.1 bt385.2.1 (decide (bt385.2.1 < 0))) else (threshinglaw16_EvalTotal.j0 k l0 l1 t379 (wrap64 (65 * (l0.length : Int))) bt385.1 bt385.2.1 true)) else (threshinglaw16_EvalTotal.j0 k l0 l1 t379 (wrap64 (65 * (l0.length : Int))) bt385.1 bt385.2.1 true)) else (threshinglaw16_EvalTotal.j0 k l0 l1 t379 (wrap64 (65 * (l0.length : Int))) bt385.1 bt385.2.1 true))) else (threshinglaw16_EvalTotal.j0 k l0 l1 t379 (wrap64 (65 * (l0.length : Int))) bt385.1 bt385.2.1 true)) else (threshinglaw16_EvalTotal.j0 k l0 l1 t379 (wrap64 (65 * (l0.length : Int))) bt385.1 bt385.2.1 true)))) else ((threshinglaw16_alive.f k).bind fun t384 => (some t384))) = some r := H
    have A6 := Aside0.mk A60
    clear A60
    by_cases c7 : t381 = 0
    · rw [if_pos c7] at H
      have c7b0 : (t381 == 0) = true := beq_iff_eq.mpr c7
      have c7b1 : (t381 != 0) = false := bne_eq_false_iff_eq.mpr c7
      clear c7
      replace H := Option.bind_eq_some_iff.mp H
      obtain ⟨⟨t385, t386, t387⟩, A80, H⟩ := H
      replace H : ((eval_Run.f k l0 l1 (wrap64 ((wrap64 (65 * (l0.length : Int))) + (wrap64 (a2))))).bind fun bt390 => (if t387 = 0 then (if bt390.2.2 = 0 then ((threshingref16_Same.f k t385 bt390.1).bind fun t395 => (if t395 = true then (if bt390.2.1 = (wrap64 (t386 + (wrap64 (a2)))) then (if (t385.length : Int) = (t379.length : Int) then (threshinglaw16_EvalTotal.j0 k l0 l1 t379 (wrap64 (65 * (l0.length : Int))) t385 t386 (decide (t386 < 0))) else (threshinglaw16_EvalTotal.j0 k l0 l1 t379 (wrap64 (65 * (l0.length : Int))) t385 t386 true)) else (threshinglaw16_EvalTotal.j0 k l0 l1 t379 (wrap64 (65 * (l0.length : Int))) t385 t386 true)) else (threshinglaw16_EvalTotal.j0 k l0 l1 t379 (wrap64 (65 * (l0.length : Int))) t385 t386 true))) else (threshinglaw16_EvalTotal.j0 k l0 l1 t379 (wrap64 (65 * (l0.length : Int))) t385 t386 true)) else (threshinglaw16_EvalTotal.j0 k l0 l1 t379 (wrap64 (65 * (l0.length : Int))) t385 t386 true))) = some r := H
      have A8 := Aside0.mk A80
      clear A80
      replace H := Option.bind_eq_some_iff.mp H
      obtain ⟨⟨t390, t391, t392⟩, A90, H⟩ := H
      replace H : (if t387 = 0 then (if t392 = 0 then ((threshingref16_Same.f k t385 t390).bind fun t395 => (if t395 = true then (if t391 = (wrap64 (t386 + (wrap64 (a2)))) then (if (t385.length : Int) = (t379.length : Int) then (threshinglaw16_EvalTotal.j0 k l0 l1 t379 (wrap64 (65 * (l0.length : Int))) t385 t386 (decide (t386 < 0))) else (threshinglaw16_EvalTotal.j0 k l0 l1 t379 (wrap64 (65 * (l0.length : Int))) t385 t386 true)) else (threshinglaw16_EvalTotal.j0 k l0 l1 t379 (wrap64 (65 * (l0.length : Int))) t385 t386 true)) else (threshinglaw16_EvalTotal.j0 k l0 l1 t379 (wrap64 (65 * (l0.length : Int))) t385 t386 true))) else (threshinglaw16_EvalTotal.j0 k l0 l1 t379 (wrap64 (65 * (l0.length : Int))) t385 t386 true)) else (threshinglaw16_EvalTotal.j0 k l0 l1 t379 (wrap64 (65 * (l0.length : Int))) t385 t386 true)) = some r := H
      have A9 := Aside0.mk A90
      clear A90
      have HC10 := Aside0.mk H
      clear H
      go_enter Tryz.func5, Tryz.ntmps5
      go_upto_region 9 with (first | ((with_reducible refine gate_callee (f := 21) rfl ?_); refine goesL_ (some 26) rfl rfl Tryz.func21 (by kernel_rfl) rfl #[.slice A0 l0.length c0, .slice A1 l1.length c1] rfl xr ?_; (with_reducible refine (threshinglaw16_small.calls k _ _ l0 (fun k_ => k_ < w.heap.size) _ _ l1 true _ (Tabs.below hT xf) ?side1 ?side2 ?side3 A4.out).mono ?_); (case side1 => repeat (first | exact HR0.out | (with_reducible refine Kd.C_alloc ?_ _) | (with_reducible refine Kd.C_drewN ?_ _) | (with_reducible refine Kd.C_drew ?_))); (case side2 => exact HC0.out); (case side3 => exact Kd.V_mk HC1.out (Kd.F_below (Kd.C_F Kd.heap_string HR1.out) xb)); rintro e w11 ⟨rfl, hb⟩; refine ⟨_, rfl, ?_⟩; have n0_ := Aside0.mk (below_step xb hb); clear HB; have HB := n0_; clear n0_; (try clear hb); (try clear hb2); (try clear hk); (try clear hi)) | ((with_reducible refine gate_callee (f := 14) rfl ?_); refine goesL_ (some 31) rfl rfl Tryz.func14 (by kernel_rfl) rfl #[.slice A0 l0.length c0, .slice none 0 0] rfl xr ?_; (refine (threshingref15_Stack.calls k _ _ l0 _ _ ([] : List Bool) t379 t380 t381 _ (Tabs.below hT xf) ?side1 ?side2 ?side3 ?side4 A6.out).mono ?_); (case side1 => exact Kd.C_below HR0.out xb); (case side2 => exact HC0.out); (case side3 => exact Kd.C_nil _ _); (case side4 => exact Nat.le_refl _); rintro e w12 ⟨v382, rfl, ho0, hb⟩; refine ⟨_, rfl, ?_⟩; have n0_ := Aside0.mk (Kd.R_lower ho0 (below_size xb)); have n1_ := Aside0.mk (below_step xb hb); clear HB; have HO383 := n0_; have HB := n1_; clear n0_ n1_; (try clear hb); (try clear hb2); (try clear hk); (try clear hi); (try clear ho0)) | ((with_reducible refine gate_callee (f := 23) rfl ?_); refine goesL_ (some 45) rfl rfl Tryz.func23 (by kernel_rfl) rfl #[.slice A0 l0.length c0, .slice A1 l1.length c1, .int .i64 (wrap64 (65 * (l0.length : Int)))] rfl xr ?_; (with_reducible refine (eval_Run.calls k _ _ l0 _ _ l1 (wrap64 (65 * (l0.length : Int))) t385 t386 t387 _ (Tabs.below hT xf) ?side1 ?side2 ?side3 ?side4 A8.out).mono ?_); (case side1 => exact Kd.C_below HR0.out xb); (case side2 => exact HC0.out); (case side3 => exact Kd.C_below HR1.out xb); (case side4 => exact HC1.out); rintro e w13 ⟨v388, rfl, ho0, hb⟩; refine ⟨_, rfl, ?_⟩; have n0_ := Aside0.mk (Kd.R_below (xo HO383.out) hb); have n1_ := Aside0.mk (Kd.R_lower ho0 (below_size xb)); have n2_ := Aside0.mk (below_step xb hb); clear HO383; clear HB; have HO383 := n0_; have HO389 := n1_; have HB := n2_; clear n0_ n1_ n2_; (try clear hb); (try clear hb2); (try clear hk); (try clear hi); (try clear ho0)) | ((with_reducible refine gate_callee (f := 23) rfl ?_); refine goesL_ (some 56) rfl rfl Tryz.func23 (by kernel_rfl) rfl #[.slice A0 l0.length c0, .slice A1 l1.length c1, .int .i64 (wrap64 ((wrap64 (65 * (l0.length : Int))) + (wrap64 (a2))))] rfl xr ?_; (with_reducible refine (eval_Run.calls k _ _ l0 _ _ l1 (wrap64 ((wrap64 (65 * (l0.length : Int))) + (wrap64 (a2)))) t390 t391 t392 _ (Tabs.below hT xf) ?side1 ?side2 ?side3 ?side4 A9.out).mono ?_); (case side1 => exact Kd.C_below HR0.out xb); (case side2 => exact HC0.out); (case side3 => exact Kd.C_below HR1.out xb); (case side4 => exact HC1.out); rintro e w14 ⟨v393, rfl, ho0, hb⟩; refine ⟨_, rfl, ?_⟩; have n0_ := Aside0.mk (Kd.R_below (xo HO383.out) hb); have n1_ := Aside0.mk (Kd.R_elder' (xo HO389.out) (Kd.R_base ho0) hb); have n2_ := Aside0.mk (Kd.R_lower (Kd.R_new' ho0 (Kd.R_lt (xo HO389.out))) (below_size xb)); have n3_ := Aside0.mk (below_step xb hb); clear HO383; clear HO389; clear HB; have HO383 := n0_; have HO389 := n1_; have HO394 := n2_; have HB := n3_; clear n0_ n1_ n2_ n3_; (try clear hb); (try clear hb2); (try clear hk); (try clear hi); (try clear ho0)))
      (try simp only [Act.put, List.setIfInBounds_toArray, List.set_cons_zero, List.set_cons_succ])
      go_cut [90] (fun v90 wc => ∃ (kq : Nat) (x90_9 : Bool), v90 = .bool x90_9 ∧ Aside0 (threshinglaw16_EvalTotal.j0 kq l0 l1 t379 (wrap64 (65 * (l0.length : Int))) t385 t386 x90_9 = some r) ∧ Aside0 (kq ≤ k) ∧ Aside0 (Kd.R Kd.bool 4 wc w.heap.size (fun _ => True) v382 t379) ∧ Aside0 (Kd.R k44 44 wc w.heap.size (fun _ => True) v388 t385) ∧ Aside0 (Below w.heap.size w wc))
      case first =>
        have H := HC10.out
        clear HC10
        by_cases c15 : t387 = 0
        · rw [if_pos c15] at H
          have c15b0 : (t387 == 0) = true := beq_iff_eq.mpr c15
          have c15b1 : (t387 != 0) = false := bne_eq_false_iff_eq.mpr c15
          clear c15
          (first | rw [c15b0] | (simp only [i64_w, i32_w]; rw [c15b0]) | skip)
          by_cases c16 : t392 = 0
          · rw [if_pos c16] at H
            have c16b0 : (t392 == 0) = true := beq_iff_eq.mpr c16
            have c16b1 : (t392 != 0) = false := bne_eq_false_iff_eq.mpr c16
            clear c16
            replace H := Option.bind_eq_some_iff.mp H
            obtain ⟨t395, A170, H⟩ := H
            replace H : (if t395 = true then (if t391 = (wrap64 (t386 + (wrap64 (a2)))) then (if (t385.length : Int) = (t379.length : Int) then (threshinglaw16_EvalTotal.j0 k l0 l1 t379 (wrap64 (65 * (l0.length : Int))) t385 t386 (decide (t386 < 0))) else (threshinglaw16_EvalTotal.j0 k l0 l1 t379 (wrap64 (65 * (l0.length : Int))) t385 t386 true)) else (threshinglaw16_EvalTotal.j0 k l0 l1 t379 (wrap64 (65 * (l0.length : Int))) t385 t386 true)) else (threshinglaw16_EvalTotal.j0 k l0 l1 t379 (wrap64 (65 * (l0.length : Int))) t385 t386 true)) = some r := H
            have A17 := Aside0.mk A170
            clear A170
            by_cases c18 : t395 = true
            · subst c18
              have H1 : (if t391 = (wrap64 (t386 + (wrap64 (a2)))) then (if (t385.length : Int) = (t379.length : Int) then (threshinglaw16_EvalTotal.j0 k l0 l1 t379 (wrap64 (65 * (l0.length : Int))) t385 t386 (decide (t386 < 0))) else (threshinglaw16_EvalTotal.j0 k l0 l1 t379 (wrap64 (65 * (l0.length : Int))) t385 t386 true)) else (threshinglaw16_EvalTotal.j0 k l0 l1 t379 (wrap64 (65 * (l0.length : Int))) t385 t386 true)) = some r := by rw [if_pos rfl] at H; exact H
              clear H
              have H := H1
              clear H1
              by_cases c19 : t391 = (wrap64 (t386 + (wrap64 (a2))))
              · rw [if_pos c19] at H
                have c19b0 : (t391 == (wrap64 (t386 + (wrap64 (a2))))) = true := beq_iff_eq.mpr c19
                have c19b1 : (t391 != (wrap64 (t386 + (wrap64 (a2))))) = false := bne_eq_false_iff_eq.mpr c19
                clear c19
                by_cases c20 : (t385.length : Int) = (t379.length : Int)
                · rw [if_pos c20] at H
                  have c20b0 : ((t385.length : Int) == (t379.length : Int)) = true := beq_iff_eq.mpr c20
                  have c20b1 : ((t385.length : Int) != (t379.length : Int)) = false := bne_eq_false_iff_eq.mpr c20
                  have c20b2 : (t385.length == t379.length) = true := by first | simpa using c20 | (simp at c20 ⊢; omega)
                  clear c20
                  have H' := Aside0.mk H
                  clear H
                  obtain ⟨Ao21, co21, eo21⟩ := Kd.R_slice HO389.out
                  subst eo21
                  obtain ⟨Ao22, co22, eo22⟩ := Kd.R_slice HO394.out
                  subst eo22
                  go_wp2_with (first | (go_at_call 24; (with_reducible refine (threshingref16_Same.calls k _ _ t385 _ _ t390 true _ (Tabs.below hT xf) ?side1 ?side2 ?side3 ?side4 A17.out).mono ?_); (case side1 => repeat (first | exact (Kd.R_reads' HO389.out).2.2 | (with_reducible refine Kd.C_alloc ?_ _) | (with_reducible refine Kd.C_drewN ?_ _) | (with_reducible refine Kd.C_drew ?_))); (case side2 => exact (Kd.R_reads' HO389.out).2.1); (case side3 => repeat (first | exact (Kd.R_reads' HO394.out).2.2 | (with_reducible refine Kd.C_alloc ?_ _) | (with_reducible refine Kd.C_drewN ?_ _) | (with_reducible refine Kd.C_drew ?_))); (case side4 => exact (Kd.R_reads' HO394.out).2.1); rintro e w' ⟨rfl, ⟨nd, rfl⟩⟩; obtain ⟨Ao23, co23, eo23⟩ := Kd.R_slice HO383.out; subst eo23))
                  go_meet
                  case rel => exact ⟨_, (decide (t386 < 0)), xg, H', ⟨by first | omega | exact Nat.le_refl _⟩, ⟨by (with_reducible repeat (first | apply Kd.R_alloc | apply Kd.R_drewN | apply Kd.R_drew)); exact HO383.out⟩, ⟨by (with_reducible repeat (first | apply Kd.R_alloc | apply Kd.R_drewN | apply Kd.R_drew)); exact Kd.R_mono HO389.out (fun _ hk => trivial)⟩, ⟨xb⟩⟩
                · rw [if_neg c20] at H
                  have c20b0 : ((t385.length : Int) == (t379.length : Int)) = false := beq_eq_false_iff_ne.mpr c20
                  have c20b1 : ((t385.length : Int) != (t379.length : Int)) = true := bne_iff_ne.mpr c20
                  have c20b2 : (t385.length == t379.length) = false := by first | simpa using c20 | (simp at c20 ⊢; omega)
                  have H' := Aside0.mk H
                  clear H
                  obtain ⟨Ao24, co24, eo24⟩ := Kd.R_slice HO389.out
                  subst eo24
                  obtain ⟨Ao25, co25, eo25⟩ := Kd.R_slice HO394.out
                  subst eo25
                  go_wp2_with (first | (go_at_call 24; (with_reducible refine (threshingref16_Same.calls k _ _ t385 _ _ t390 true _ (Tabs.below hT xf) ?side1 ?side2 ?side3 ?side4 A17.out).mono ?_); (case side1 => repeat (first | exact (Kd.R_reads' HO389.out).2.2 | (with_reducible refine Kd.C_alloc ?_ _) | (with_reducible refine Kd.C_drewN ?_ _) | (with_reducible refine Kd.C_drew ?_))); (case side2 => exact (Kd.R_reads' HO389.out).2.1); (case side3 => repeat (first | exact (Kd.R_reads' HO394.out).2.2 | (with_reducible refine Kd.C_alloc ?_ _) | (with_reducible refine Kd.C_drewN ?_ _) | (with_reducible refine Kd.C_drew ?_))); (case side4 => exact (Kd.R_reads' HO394.out).2.1); rintro e w' ⟨rfl, ⟨nd, rfl⟩⟩; obtain ⟨Ao26, co26, eo26⟩ := Kd.R_slice HO383.out; subst eo26))
                  go_meet
                  case rel => exact ⟨_, (true), xg, H', ⟨by first | omega | exact Nat.le_refl _⟩, ⟨by (with_reducible repeat (first | apply Kd.R_alloc | apply Kd.R_drewN | apply Kd.R_drew)); exact HO383.out⟩, ⟨by (with_reducible repeat (first | apply Kd.R_alloc | apply Kd.R_drewN | apply Kd.R_drew)); exact Kd.R_mono HO389.out (fun _ hk => trivial)⟩, ⟨xb⟩⟩
              · rw [if_neg c19] at H
                have c19b0 : (t391 == (wrap64 (t386 + (wrap64 (a2))))) = false := beq_eq_false_iff_ne.mpr c19
                have c19b1 : (t391 != (wrap64 (t386 + (wrap64 (a2))))) = true := bne_iff_ne.mpr c19
                have H' := Aside0.mk H
                clear H
                obtain ⟨Ao27, co27, eo27⟩ := Kd.R_slice HO389.out
                subst eo27
                obtain ⟨Ao28, co28, eo28⟩ := Kd.R_slice HO394.out
                subst eo28
                go_wp2_with (first | (go_at_call 24; (with_reducible refine (threshingref16_Same.calls k _ _ t385 _ _ t390 true _ (Tabs.below hT xf) ?side1 ?side2 ?side3 ?side4 A17.out).mono ?_); (case side1 => repeat (first | exact (Kd.R_reads' HO389.out).2.2 | (with_reducible refine Kd.C_alloc ?_ _) | (with_reducible refine Kd.C_drewN ?_ _) | (with_reducible refine Kd.C_drew ?_))); (case side2 => exact (Kd.R_reads' HO389.out).2.1); (case side3 => repeat (first | exact (Kd.R_reads' HO394.out).2.2 | (with_reducible refine Kd.C_alloc ?_ _) | (with_reducible refine Kd.C_drewN ?_ _) | (with_reducible refine Kd.C_drew ?_))); (case side4 => exact (Kd.R_reads' HO394.out).2.1); rintro e w' ⟨rfl, ⟨nd, rfl⟩⟩))
                go_meet
                case rel => exact ⟨_, (true), xg, H', ⟨by first | omega | exact Nat.le_refl _⟩, ⟨by (with_reducible repeat (first | apply Kd.R_alloc | apply Kd.R_drewN | apply Kd.R_drew)); exact HO383.out⟩, ⟨by (with_reducible repeat (first | apply Kd.R_alloc | apply Kd.R_drewN | apply Kd.R_drew)); exact Kd.R_mono HO389.out (fun _ hk => trivial)⟩, ⟨xb⟩⟩
            · replace c18 := Bool.eq_false_iff.mpr c18
              subst c18
              have H1 : (threshinglaw16_EvalTotal.j0 k l0 l1 t379 (wrap64 (65 * (l0.length : Int))) t385 t386 true) = some r := by rw [if_neg (show ¬ (false = true) by decide)] at H; exact H
              clear H
              have H := H1
              clear H1
              have H' := Aside0.mk H
              clear H
              obtain ⟨Ao29, co29, eo29⟩ := Kd.R_slice HO389.out
              subst eo29
              obtain ⟨Ao30, co30, eo30⟩ := Kd.R_slice HO394.out
              subst eo30
              go_wp2_with (first | (go_at_call 24; (with_reducible refine (threshingref16_Same.calls k _ _ t385 _ _ t390 false _ (Tabs.below hT xf) ?side1 ?side2 ?side3 ?side4 A17.out).mono ?_); (case side1 => repeat (first | exact (Kd.R_reads' HO389.out).2.2 | (with_reducible refine Kd.C_alloc ?_ _) | (with_reducible refine Kd.C_drewN ?_ _) | (with_reducible refine Kd.C_drew ?_))); (case side2 => exact (Kd.R_reads' HO389.out).2.1); (case side3 => repeat (first | exact (Kd.R_reads' HO394.out).2.2 | (with_reducible refine Kd.C_alloc ?_ _) | (with_reducible refine Kd.C_drewN ?_ _) | (with_reducible refine Kd.C_drew ?_))); (case side4 => exact (Kd.R_reads' HO394.out).2.1); rintro e w' ⟨rfl, ⟨nd, rfl⟩⟩))
              go_meet
              case rel => exact ⟨_, (true), xg, H', ⟨by first | omega | exact Nat.le_refl _⟩, ⟨by (with_reducible repeat (first | apply Kd.R_alloc | apply Kd.R_drewN | apply Kd.R_drew)); exact HO383.out⟩, ⟨by (with_reducible repeat (first | apply Kd.R_alloc | apply Kd.R_drewN | apply Kd.R_drew)); exact Kd.R_mono HO389.out (fun _ hk => trivial)⟩, ⟨xb⟩⟩
          · rw [if_neg c16] at H
            have c16b0 : (t392 == 0) = false := beq_eq_false_iff_ne.mpr c16
            have c16b1 : (t392 != 0) = true := bne_iff_ne.mpr c16
            have H' := Aside0.mk H
            clear H
            go_wp2
            go_meet
            case rel => exact ⟨_, (true), xg, H', ⟨by first | omega | exact Nat.le_refl _⟩, ⟨by (with_reducible repeat (first | apply Kd.R_alloc | apply Kd.R_drewN | apply Kd.R_drew)); exact HO383.out⟩, ⟨by (with_reducible repeat (first | apply Kd.R_alloc | apply Kd.R_drewN | apply Kd.R_drew)); exact Kd.R_mono HO389.out (fun _ hk => trivial)⟩, ⟨xb⟩⟩
        · rw [if_neg c15] at H
          have c15b0 : (t387 == 0) = false := beq_eq_false_iff_ne.mpr c15
          have c15b1 : (t387 != 0) = true := bne_iff_ne.mpr c15
          (first | rw [c15b0] | (simp only [i64_w, i32_w]; rw [c15b0]) | skip)
          have H' := Aside0.mk H
          clear H
          go_wp2
          go_meet
          case rel => exact ⟨_, (true), xg, H', ⟨by first | omega | exact Nat.le_refl _⟩, ⟨by (with_reducible repeat (first | apply Kd.R_alloc | apply Kd.R_drewN | apply Kd.R_drew)); exact HO383.out⟩, ⟨by (with_reducible repeat (first | apply Kd.R_alloc | apply Kd.R_drewN | apply Kd.R_drew)); exact Kd.R_mono HO389.out (fun _ hk => trivial)⟩, ⟨xb⟩⟩
      case rest =>
        clear HC10
        try clear c1
        try clear c2
        try clear p2
        try clear c5
        try clear p6
        try clear c7
        try clear c7b0
        try clear c7b1
        try clear c14
        try clear c15
        try clear c15b0
        try clear c15b1
        try clear c16
        try clear c16b0
        try clear c16b1
        try clear c18
        try clear c19
        try clear c19b0
        try clear c19b1
        try clear c20
        try clear c20b0
        try clear c20b1
        try clear c20b2
        try clear c21
        try clear c23
        obtain ⟨kq, x90_9, rfl, HA, HJ9, HO_7, HO_11, HB⟩ := hcut
        cases kq with
        | zero => exact absurd HA.out (by simp [threshinglaw16_EvalTotal.j0])
        | succ kj9 =>
          have H := HA.out
          clear HA
          simp only [threshinglaw16_EvalTotal.j0] at H
          by_cases c31 : x90_9 = true
          · subst c31
            have H1 : (some false) = some r := by rw [if_pos rfl] at H; exact H
            clear H
            have H := H1
            clear H1
            obtain rfl := Option.some.inj H
            go_wp2
            go_ret
            exact ⟨xe, xb⟩
          · replace c31 := Bool.eq_false_iff.mpr c31
            subst c31
            have H1 : (threshinglaw16_EvalTotal.l0 kj9 l0 l1 t379 (wrap64 (65 * (l0.length : Int))) t385 t386 0) = some r := by rw [if_neg (show ¬ (false = true) by decide)] at H; exact H
            clear H
            have H := H1
            clear H1
            have H' := Aside0.mk H
            clear H
            go_wp2
            go_loopg [17] kj9 (fun kq v17 w' => ∃ (x17_2 : Int), v17 = .int .i64 x17_2 ∧ Aside0 (threshinglaw16_EvalTotal.l0 kq l0 l1 t379 (wrap64 (65 * (l0.length : Int))) t385 t386 x17_2 = some r) ∧ Aside0 (kq ≤ kj9) ∧ Aside0 (Kd.R Kd.bool 4 w' w.heap.size (fun _ => True) v382 t379) ∧ Aside0 (Kd.R k44 44 w' w.heap.size (fun _ => True) v388 t385) ∧ Aside0 (Below w.heap.size w w'))
            case atStart => exact ⟨(0), xg, H', ⟨Nat.le_refl _⟩, ⟨by (with_reducible repeat (first | apply Kd.R_alloc | apply Kd.R_drewN | apply Kd.R_drew)); exact HO_7.out⟩, ⟨by (with_reducible repeat (first | apply Kd.R_alloc | apply Kd.R_drewN | apply Kd.R_drew)); exact HO_11.out⟩, ⟨xb⟩⟩
            case round =>
              clear H'
              try clear c1
              try clear c2
              try clear p2
              try clear c3
              try clear c5
              try clear p6
              try clear c7
              try clear c7b0
              try clear c7b1
              try clear c14
              try clear c15
              try clear c15b0
              try clear c15b1
              try clear c16
              try clear c16b0
              try clear c16b1
              try clear c18
              try clear c19
              try clear c19b0
              try clear c19b1
              try clear c20
              try clear c20b0
              try clear c20b1
              try clear c20b2
              try clear c21
              try clear c23
              try clear c31
              try clear p2
              try clear p6
              obtain ⟨x17_2, rfl, HA, HK2, HO_7, HO_11, HB⟩ := hrel
              cases gk with
              | zero => exact absurd HA.out (by simp [threshinglaw16_EvalTotal.l0])
              | succ k2 =>
                have H := HA.out
                clear HA
                simp only [threshinglaw16_EvalTotal.l0] at H
                by_cases c32 : x17_2 < (t385.length : Int)
                · rw [if_pos c32] at H
                  have c32b0 : decide (x17_2 < (t385.length : Int)) = true := decide_eq_true c32
                  clear c32
                  by_cases c33 : 0 ≤ x17_2
                  · rw [if_pos c33] at H
                    have c33b0 : decide (0 ≤ x17_2) = true := decide_eq_true c33
                    clear c33
                    by_cases c34 : x17_2 < (t379.length : Int)
                    · rw [if_pos c34] at H
                      have c34b0 : decide (x17_2 < (t379.length : Int)) = true := decide_eq_true c34
                      clear c34
                      by_cases c35 : (((rd_T44 t385 x17_2).f0) != (rdOf false t379 x17_2)) = true
                      · rw [if_pos c35] at H
                        have c35b0 : (((rd_T44 t385 x17_2).f0) != (rdOf false t379 x17_2)) = true := c35
                        (try (have c35b1 : decide (((rd_T44 t385 x17_2).f0) = (rdOf false t379 x17_2)) = false := by simpa using c35))
                        (try (have c35b2 : (((rd_T44 t385 x17_2).f0) == (rdOf false t379 x17_2)) = false := by simpa using c35))
                        (try (have c35b3 : ¬ (((rd_T44 t385 x17_2).f0) = (rdOf false t379 x17_2)) := by simpa using c35))
                        clear c35
                        obtain rfl := Option.some.inj H
                        obtain ⟨Ao36, co36, eo36⟩ := Kd.R_slice HO_11.out
                        subst eo36
                        try go_wp2
                        have n0_ := Aside0.mk (Kd.R_drew HO_7.out)
                        have n1_ := Aside0.mk (Kd.R_drew HO_11.out)
                        have n2_ := Aside0.mk (below_drew1 HB.out)
                        clear HO_7
                        clear HO_11
                        clear HB
                        have HO_7 := n0_
                        have HO_11 := n1_
                        have HB := n2_
                        clear n0_ n1_ n2_
                        have p396 : 0 ≤ (x17_2 : Int) := of_decide_eq_true xa
                        have q396 : x17_2 < (t385.length : Int) := of_decide_eq_true xa
                        obtain ⟨ad396, e396, hx396_0, hx396_1, hx396_2⟩ := at_T44 (Kd.R_reads' HO_11.out).2.2 x17_2 p396 q396
                        cases e396
                        replace p396 := eq_true p396
                        replace q396 := eq_true q396
                        obtain ⟨Ao38, co38, eo38⟩ := Kd.R_slice HO_7.out
                        (first | subst eo38 | (injection eo38 with f1_ f2_ f3_; have f4_ := f1_.symm; have f5_ := f3_.symm; clear f1_ f2_ f3_; subst f4_; subst f5_))
                        have p397 : 0 ≤ (x17_2 : Int) := of_decide_eq_true xa
                        have q397 : x17_2 < (t379.length : Int) := of_decide_eq_true xa
                        obtain ⟨ad397, e397, hx397_0⟩ := Kd.at_bool (Kd.R_reads' HO_7.out).2.2 x17_2 p397 q397
                        cases e397
                        replace p397 := eq_true p397
                        replace q397 := eq_true q397
                        refine start_ (n := 18) (S := fun w' => w'.cell? (ad396.add ((x17_2).toNat * 3)) = some (.bool ((rd_T44 t385 x17_2).f0)) ∧ w'.cell? ⟨(ad396.add ((x17_2).toNat * 3)).block, (ad396.add ((x17_2).toNat * 3)).off + 1, none⟩ = some (.int .i64 ((rd_T44 t385 x17_2).f1)) ∧ w'.cell? ⟨(ad396.add ((x17_2).toNat * 3)).block, (ad396.add ((x17_2).toNat * 3)).off + 2, none⟩ = some (.string ((rd_T44 t385 x17_2).f2)) ∧ w'.cell? (ad397.add (x17_2).toNat) = some (.bool (rdOf false t379 x17_2))) (ds := []) #[false, false, false, false, false, false, false, false, false, false, false, false, false, false, false, false, false, false] (by kernel_rfl) rfl rfl ⟨hx396_0, hx396_1, hx396_2, hx397_0⟩ (fun hHeld => ?_); refine with_tabW threshinglaw16_EvalTotal.tab14 threshinglaw16_EvalTotal.bits14 (fun HT_ HW_ => ?_)
                        generalize wr.drew = w37 at HO_7 HO_11 HB hx396_0 hx396_1 hx396_2 hx397_0 hHeld ⊢
                        refine pure_ (i := 0) (N := some 97) (v := ?_) (a' := ?_) #[true, false, false, false, false, false, false, false, false, false, false, false, false, false, false, false, false, false] rfl rfl (any_of HT_.out (by kernel_rfl)) (fun _ _ _ h => h) (Or.inl ⟨by rfl, ?_⟩) ?_ ?_
                        rotate_left
                        · intro w'
                          go_simp
                          with_reducible rfl
                        rotate_left
                        · simp only [Act.put, List.setIfInBounds_toArray, List.set_cons_zero, List.set_cons_succ, i64_w, i32_w]
                          rfl
                        refine pure_ (i := 1) (N := some 98) (v := ?_) (a' := ?_) #[true, true, false, false, false, false, false, false, false, false, false, false, false, false, false, false, false, false] rfl rfl (any_of HT_.out (by kernel_rfl)) (fun _ _ _ h => h) (Or.inl ⟨by rfl, ?_⟩) ?_ ?_
                        rotate_left
                        · intro w'
                          go_simp
                          with_reducible rfl
                        rotate_left
                        · simp only [Act.put, List.setIfInBounds_toArray, List.set_cons_zero, List.set_cons_succ, i64_w, i32_w]
                          rfl
                        refine pure_ (i := 2) (N := some 99) (v := ?_) (a' := ?_) #[true, true, true, false, false, false, false, false, false, false, false, false, false, false, false, false, false, false] rfl rfl (any_of HT_.out (by kernel_rfl)) (fun _ _ _ h => h) (Or.inl ⟨by rfl, ?_⟩) ?_ ?_
                        rotate_left
                        · intro w'
                          go_simp
                          with_reducible rfl
                        rotate_left
                        · simp only [Act.put, List.setIfInBounds_toArray, List.set_cons_zero, List.set_cons_succ, i64_w, i32_w]
                          rfl
                        refine pure_ (i := 3) (N := some 100) (v := ?_) (a' := ?_) #[true, true, true, true, false, false, false, false, false, false, false, false, false, false, false, false, false, false] rfl rfl (any_of HT_.out (by kernel_rfl)) (fun _ _ _ h => h) (Or.inl ⟨by rfl, ?_⟩) ?_ ?_
                        rotate_left
                        · intro w'
                          go_simp
                          with_reducible rfl
                        rotate_left
                        · simp only [Act.put, List.setIfInBounds_toArray, List.set_cons_zero, List.set_cons_succ, i64_w, i32_w]
                          rfl
                        refine pure_ (i := 5) (N := some 102) (v := ?_) (a' := ?_) #[true, true, true, true, false, true, false, false, false, false, false, false, false, false, false, false, false, false] rfl rfl (any_of HT_.out (by kernel_rfl)) (fun _ _ _ h => h) (Or.inl ⟨by rfl, ?_⟩) ?_ ?_
                        rotate_left
                        · intro w'
                          go_simp
                          with_reducible rfl
                        rotate_left
                        · simp only [Act.put, List.setIfInBounds_toArray, List.set_cons_zero, List.set_cons_succ, i64_w, i32_w]
                          rfl
                        refine pure_ (i := 6) (N := some 103) (v := ?_) (a' := ?_) #[true, true, true, true, false, true, true, false, false, false, false, false, false, false, false, false, false, false] rfl rfl (any_of HT_.out (by kernel_rfl)) (fun _ _ _ h => h) (Or.inl ⟨by rfl, ?_⟩) ?_ ?_
                        rotate_left
                        · intro w'
                          go_simp
                          with_reducible rfl
                        rotate_left
                        · simp only [Act.put, List.setIfInBounds_toArray, List.set_cons_zero, List.set_cons_succ, i64_w, i32_w]
                          rfl
                        refine pure_ (i := 7) (N := some 104) (v := ?_) (a' := ?_) #[true, true, true, true, false, true, true, true, false, false, false, false, false, false, false, false, false, false] rfl rfl (any_of HT_.out (by kernel_rfl)) (fun _ _ _ h => h) (Or.inl ⟨by rfl, ?_⟩) ?_ ?_
                        rotate_left
                        · intro w'
                          go_simp
                          with_reducible rfl
                        rotate_left
                        · simp only [Act.put, List.setIfInBounds_toArray, List.set_cons_zero, List.set_cons_succ, i64_w, i32_w]
                          rfl
                        refine take_ (i := 4) (N := some 101) (v := ?_) (a' := ?_) #[true, true, true, true, true, true, true, true, false, false, false, false, false, false, false, false, false, false] rfl rfl (take_ofW HT_.out HW_.out (by kernel_rfl)) (fun _ _ _ h => h) (Or.inl ⟨by rfl, ?_⟩) hHeld ?_ ?_
                        rotate_left
                        · rintro w' ⟨s0, s1, s2, s3⟩
                          go_simp
                          with_reducible rfl
                        rotate_left
                        · simp only [Act.put, List.setIfInBounds_toArray, List.set_cons_zero, List.set_cons_succ, i64_w, i32_w]
                          rfl
                        refine take_ (i := 8) (N := some 105) (v := ?_) (a' := ?_) #[true, true, true, true, true, true, true, true, true, false, false, false, false, false, false, false, false, false] rfl rfl (take_ofW HT_.out HW_.out (by kernel_rfl)) (fun _ _ _ h => h) (Or.inl ⟨by rfl, ?_⟩) hHeld ?_ ?_
                        rotate_left
                        · rintro w' ⟨s0, s1, s2, s3⟩
                          go_simp
                          with_reducible rfl
                        rotate_left
                        · simp only [Act.put, List.setIfInBounds_toArray, List.set_cons_zero, List.set_cons_succ, i64_w, i32_w]
                          rfl
                        refine pure_ (i := 9) (N := some 106) (v := ?_) (a' := ?_) #[true, true, true, true, true, true, true, true, true, true, false, false, false, false, false, false, false, false] rfl rfl (any_of HT_.out (by kernel_rfl)) (fun _ _ _ h => h) (Or.inl ⟨by rfl, ?_⟩) ?_ ?_
                        rotate_left
                        · intro w'
                          go_simp
                          with_reducible rfl
                        rotate_left
                        · simp only [Act.put, List.setIfInBounds_toArray, List.set_cons_zero, List.set_cons_succ, i64_w, i32_w]
                          rfl
                        refine pure_ (i := 10) (N := some 107) (v := ?_) (a' := ?_) #[true, true, true, true, true, true, true, true, true, true, true, false, false, false, false, false, false, false] rfl rfl (any_of HT_.out (by kernel_rfl)) (fun _ _ _ h => h) (Or.inl ⟨by rfl, ?_⟩) ?_ ?_
                        rotate_left
                        · intro w'
                          go_simp
                          with_reducible rfl
                        rotate_left
                        · simp only [Act.put, List.setIfInBounds_toArray, List.set_cons_zero, List.set_cons_succ, i64_w, i32_w]
                          rfl
                        refine pure_ (i := 11) (N := some 108) (v := undef) (a' := ?_) #[true, true, true, true, true, true, true, true, true, true, true, true, false, false, false, false, false, false] rfl rfl (any_of HT_.out (by kernel_rfl)) (fun _ _ _ h => h) (Or.inr ⟨by rfl, rfl⟩) ?_ ?_
                        rotate_left
                        · simp only [Act.put, List.setIfInBounds_toArray, List.set_cons_zero, List.set_cons_succ, i64_w, i32_w]
                          rfl
                        refine pure_ (i := 12) (N := some 109) (v := undef) (a' := ?_) #[true, true, true, true, true, true, true, true, true, true, true, true, true, false, false, false, false, false] rfl rfl (any_of HT_.out (by kernel_rfl)) (fun _ _ _ h => h) (Or.inr ⟨by rfl, rfl⟩) ?_ ?_
                        rotate_left
                        · simp only [Act.put, List.setIfInBounds_toArray, List.set_cons_zero, List.set_cons_succ, i64_w, i32_w]
                          rfl
                        refine pure_ (i := 13) (N := some 110) (v := undef) (a' := ?_) #[true, true, true, true, true, true, true, true, true, true, true, true, true, true, false, false, false, false] rfl rfl (any_of HT_.out (by kernel_rfl)) (fun _ _ _ h => h) (Or.inr ⟨by rfl, rfl⟩) ?_ ?_
                        rotate_left
                        · simp only [Act.put, List.setIfInBounds_toArray, List.set_cons_zero, List.set_cons_succ, i64_w, i32_w]
                          rfl
                        refine pure_ (i := 14) (N := some 111) (v := undef) (a' := ?_) #[true, true, true, true, true, true, true, true, true, true, true, true, true, true, true, false, false, false] rfl rfl (any_of HT_.out (by kernel_rfl)) (fun _ _ _ h => h) (Or.inr ⟨by rfl, rfl⟩) ?_ ?_
                        rotate_left
                        · simp only [Act.put, List.setIfInBounds_toArray, List.set_cons_zero, List.set_cons_succ, i64_w, i32_w]
                          rfl
                        refine pure_ (i := 15) (N := some 112) (v := undef) (a' := ?_) #[true, true, true, true, true, true, true, true, true, true, true, true, true, true, true, true, false, false] rfl rfl (any_of HT_.out (by kernel_rfl)) (fun _ _ _ h => h) (Or.inr ⟨by rfl, rfl⟩) ?_ ?_
                        rotate_left
                        · simp only [Act.put, List.setIfInBounds_toArray, List.set_cons_zero, List.set_cons_succ, i64_w, i32_w]
                          rfl
                        refine pure_ (i := 16) (N := some 113) (v := undef) (a' := ?_) #[true, true, true, true, true, true, true, true, true, true, true, true, true, true, true, true, true, false] rfl rfl (any_of HT_.out (by kernel_rfl)) (fun _ _ _ h => h) (Or.inr ⟨by rfl, rfl⟩) ?_ ?_
                        rotate_left
                        · simp only [Act.put, List.setIfInBounds_toArray, List.set_cons_zero, List.set_cons_succ, i64_w, i32_w]
                          rfl
                        refine pure_ (i := 17) (N := some 114) (v := ?_) (a' := ?_) #[true, true, true, true, true, true, true, true, true, true, true, true, true, true, true, true, true, true] rfl rfl (any_of HT_.out (by kernel_rfl)) (fun _ _ _ h => h) (Or.inl ⟨by rfl, ?_⟩) ?_ ?_
                        rotate_left
                        · intro w'
                          go_simp
                          with_reducible rfl
                        rotate_left
                        · simp only [Act.put, List.setIfInBounds_toArray, List.set_cons_zero, List.set_cons_succ, i64_w, i32_w]
                          rfl
                        refine done_ (done_of HT_.out (by kernel_rfl)) ?_
                        try go_wp2
                        go_ret
                        exact ⟨xe, xb⟩
                      · rw [if_neg c35] at H
                        have c35b0 : (((rd_T44 t385 x17_2).f0) != (rdOf false t379 x17_2)) = false := by simpa using c35
                        (try (have c35b1 : decide (((rd_T44 t385 x17_2).f0) = (rdOf false t379 x17_2)) = true := by simpa using c35))
                        (try (have c35b2 : (((rd_T44 t385 x17_2).f0) == (rdOf false t379 x17_2)) = true := by simpa using c35))
                        clear c35
                        replace H := Option.bind_eq_some_iff.mp H
                        obtain ⟨t399, A390, H⟩ := H
                        replace H : (if t399 = true then (threshinglaw16_EvalTotal.l0 k2 l0 l1 t379 (wrap64 (65 * (l0.length : Int))) t385 t386 (wrap64 (x17_2 + 1))) else (some false)) = some r := H
                        have A39 := Aside0.mk A390
                        clear A390
                        by_cases c40 : t399 = true
                        · subst c40
                          have H1 : (threshinglaw16_EvalTotal.l0 k2 l0 l1 t379 (wrap64 (65 * (l0.length : Int))) t385 t386 (wrap64 (x17_2 + 1))) = some r := by rw [if_pos rfl] at H; exact H
                          clear H
                          have H := H1
                          clear H1
                          have H' := Aside0.mk H
                          clear H
                          obtain ⟨Ao41, co41, eo41⟩ := Kd.R_slice HO_11.out
                          subst eo41
                          try go_wp2
                          have n0_ := Aside0.mk (Kd.R_drew HO_7.out)
                          have n1_ := Aside0.mk (Kd.R_drew HO_11.out)
                          have n2_ := Aside0.mk (below_drew1 HB.out)
                          clear HO_7
                          clear HO_11
                          clear HB
                          have HO_7 := n0_
                          have HO_11 := n1_
                          have HB := n2_
                          clear n0_ n1_ n2_
                          have p396 : 0 ≤ (x17_2 : Int) := of_decide_eq_true xa
                          have q396 : x17_2 < (t385.length : Int) := of_decide_eq_true xa
                          obtain ⟨ad396, e396, hx396_0, hx396_1, hx396_2⟩ := at_T44 (Kd.R_reads' HO_11.out).2.2 x17_2 p396 q396
                          cases e396
                          replace p396 := eq_true p396
                          replace q396 := eq_true q396
                          obtain ⟨Ao43, co43, eo43⟩ := Kd.R_slice HO_7.out
                          (first | subst eo43 | (injection eo43 with f1_ f2_ f3_; have f4_ := f1_.symm; have f5_ := f3_.symm; clear f1_ f2_ f3_; subst f4_; subst f5_))
                          have p397 : 0 ≤ (x17_2 : Int) := of_decide_eq_true xa
                          have q397 : x17_2 < (t379.length : Int) := of_decide_eq_true xa
                          obtain ⟨ad397, e397, hx397_0⟩ := Kd.at_bool (Kd.R_reads' HO_7.out).2.2 x17_2 p397 q397
                          cases e397
                          replace p397 := eq_true p397
                          replace q397 := eq_true q397
                          have p398 : 0 ≤ (x17_2 : Int) := of_decide_eq_true xa
                          have q398 : x17_2 < (t385.length : Int) := of_decide_eq_true xa
                          obtain ⟨ad398, e398, hx398_0, hx398_1, hx398_2⟩ := at_T44 (Kd.R_reads' HO_11.out).2.2 x17_2 p398 q398
                          obtain rfl : ad396 = ad398 := (by injection e398)
                          replace p398 := eq_true p398
                          replace q398 := eq_true q398
                          refine start_ (n := 18) (S := fun w' => w'.cell? (ad396.add ((x17_2).toNat * 3)) = some (.bool ((rd_T44 t385 x17_2).f0)) ∧ w'.cell? ⟨(ad396.add ((x17_2).toNat * 3)).block, (ad396.add ((x17_2).toNat * 3)).off + 1, none⟩ = some (.int .i64 ((rd_T44 t385 x17_2).f1)) ∧ w'.cell? ⟨(ad396.add ((x17_2).toNat * 3)).block, (ad396.add ((x17_2).toNat * 3)).off + 2, none⟩ = some (.string ((rd_T44 t385 x17_2).f2)) ∧ w'.cell? (ad397.add (x17_2).toNat) = some (.bool (rdOf false t379 x17_2)) ∧ w'.cell? (ad396.add ((x17_2).toNat * 3)) = some (.bool ((rd_T44 t385 x17_2).f0)) ∧ w'.cell? ⟨(ad396.add ((x17_2).toNat * 3)).block, (ad396.add ((x17_2).toNat * 3)).off + 1, none⟩ = some (.int .i64 ((rd_T44 t385 x17_2).f1)) ∧ w'.cell? ⟨(ad396.add ((x17_2).toNat * 3)).block, (ad396.add ((x17_2).toNat * 3)).off + 2, none⟩ = some (.string ((rd_T44 t385 x17_2).f2))) (ds := []) #[false, false, false, false, false, false, false, false, false, false, false, false, false, false, false, false, false, false] (by kernel_rfl) rfl rfl ⟨hx396_0, hx396_1, hx396_2, hx397_0, hx398_0, hx398_1, hx398_2⟩ (fun hHeld => ?_); refine with_tabW threshinglaw16_EvalTotal.tab14 threshinglaw16_EvalTotal.bits14 (fun HT_ HW_ => ?_)
                          generalize wr.drew = w42 at HO_7 HO_11 HB hx396_0 hx396_1 hx396_2 hx397_0 hx398_0 hx398_1 hx398_2 hHeld ⊢
                          refine pure_ (i := 0) (N := some 97) (v := ?_) (a' := ?_) #[true, false, false, false, false, false, false, false, false, false, false, false, false, false, false, false, false, false] rfl rfl (any_of HT_.out (by kernel_rfl)) (fun _ _ _ h => h) (Or.inl ⟨by rfl, ?_⟩) ?_ ?_
                          rotate_left
                          · intro w'
                            go_simp
                            with_reducible rfl
                          rotate_left
                          · simp only [Act.put, List.setIfInBounds_toArray, List.set_cons_zero, List.set_cons_succ, i64_w, i32_w]
                            rfl
                          refine pure_ (i := 1) (N := some 98) (v := ?_) (a' := ?_) #[true, true, false, false, false, false, false, false, false, false, false, false, false, false, false, false, false, false] rfl rfl (any_of HT_.out (by kernel_rfl)) (fun _ _ _ h => h) (Or.inl ⟨by rfl, ?_⟩) ?_ ?_
                          rotate_left
                          · intro w'
                            go_simp
                            with_reducible rfl
                          rotate_left
                          · simp only [Act.put, List.setIfInBounds_toArray, List.set_cons_zero, List.set_cons_succ, i64_w, i32_w]
                            rfl
                          refine pure_ (i := 2) (N := some 99) (v := ?_) (a' := ?_) #[true, true, true, false, false, false, false, false, false, false, false, false, false, false, false, false, false, false] rfl rfl (any_of HT_.out (by kernel_rfl)) (fun _ _ _ h => h) (Or.inl ⟨by rfl, ?_⟩) ?_ ?_
                          rotate_left
                          · intro w'
                            go_simp
                            with_reducible rfl
                          rotate_left
                          · simp only [Act.put, List.setIfInBounds_toArray, List.set_cons_zero, List.set_cons_succ, i64_w, i32_w]
                            rfl
                          refine pure_ (i := 3) (N := some 100) (v := ?_) (a' := ?_) #[true, true, true, true, false, false, false, false, false, false, false, false, false, false, false, false, false, false] rfl rfl (any_of HT_.out (by kernel_rfl)) (fun _ _ _ h => h) (Or.inl ⟨by rfl, ?_⟩) ?_ ?_
                          rotate_left
                          · intro w'
                            go_simp
                            with_reducible rfl
                          rotate_left
                          · simp only [Act.put, List.setIfInBounds_toArray, List.set_cons_zero, List.set_cons_succ, i64_w, i32_w]
                            rfl
                          refine pure_ (i := 5) (N := some 102) (v := ?_) (a' := ?_) #[true, true, true, true, false, true, false, false, false, false, false, false, false, false, false, false, false, false] rfl rfl (any_of HT_.out (by kernel_rfl)) (fun _ _ _ h => h) (Or.inl ⟨by rfl, ?_⟩) ?_ ?_
                          rotate_left
                          · intro w'
                            go_simp
                            with_reducible rfl
                          rotate_left
                          · simp only [Act.put, List.setIfInBounds_toArray, List.set_cons_zero, List.set_cons_succ, i64_w, i32_w]
                            rfl
                          refine pure_ (i := 6) (N := some 103) (v := ?_) (a' := ?_) #[true, true, true, true, false, true, true, false, false, false, false, false, false, false, false, false, false, false] rfl rfl (any_of HT_.out (by kernel_rfl)) (fun _ _ _ h => h) (Or.inl ⟨by rfl, ?_⟩) ?_ ?_
                          rotate_left
                          · intro w'
                            go_simp
                            with_reducible rfl
                          rotate_left
                          · simp only [Act.put, List.setIfInBounds_toArray, List.set_cons_zero, List.set_cons_succ, i64_w, i32_w]
                            rfl
                          refine pure_ (i := 7) (N := some 104) (v := ?_) (a' := ?_) #[true, true, true, true, false, true, true, true, false, false, false, false, false, false, false, false, false, false] rfl rfl (any_of HT_.out (by kernel_rfl)) (fun _ _ _ h => h) (Or.inl ⟨by rfl, ?_⟩) ?_ ?_
                          rotate_left
                          · intro w'
                            go_simp
                            with_reducible rfl
                          rotate_left
                          · simp only [Act.put, List.setIfInBounds_toArray, List.set_cons_zero, List.set_cons_succ, i64_w, i32_w]
                            rfl
                          refine take_ (i := 4) (N := some 101) (v := ?_) (a' := ?_) #[true, true, true, true, true, true, true, true, false, false, false, false, false, false, false, false, false, false] rfl rfl (take_ofW HT_.out HW_.out (by kernel_rfl)) (fun _ _ _ h => h) (Or.inl ⟨by rfl, ?_⟩) hHeld ?_ ?_
                          rotate_left
                          · rintro w' ⟨s0, s1, s2, s3, s4, s5, s6⟩
                            go_simp
                            with_reducible rfl
                          rotate_left
                          · simp only [Act.put, List.setIfInBounds_toArray, List.set_cons_zero, List.set_cons_succ, i64_w, i32_w]
                            rfl
                          refine take_ (i := 8) (N := some 105) (v := ?_) (a' := ?_) #[true, true, true, true, true, true, true, true, true, false, false, false, false, false, false, false, false, false] rfl rfl (take_ofW HT_.out HW_.out (by kernel_rfl)) (fun _ _ _ h => h) (Or.inl ⟨by rfl, ?_⟩) hHeld ?_ ?_
                          rotate_left
                          · rintro w' ⟨s0, s1, s2, s3, s4, s5, s6⟩
                            go_simp
                            with_reducible rfl
                          rotate_left
                          · simp only [Act.put, List.setIfInBounds_toArray, List.set_cons_zero, List.set_cons_succ, i64_w, i32_w]
                            rfl
                          refine pure_ (i := 9) (N := some 106) (v := ?_) (a' := ?_) #[true, true, true, true, true, true, true, true, true, true, false, false, false, false, false, false, false, false] rfl rfl (any_of HT_.out (by kernel_rfl)) (fun _ _ _ h => h) (Or.inl ⟨by rfl, ?_⟩) ?_ ?_
                          rotate_left
                          · intro w'
                            go_simp
                            with_reducible rfl
                          rotate_left
                          · simp only [Act.put, List.setIfInBounds_toArray, List.set_cons_zero, List.set_cons_succ, i64_w, i32_w]
                            rfl
                          refine pure_ (i := 10) (N := some 107) (v := ?_) (a' := ?_) #[true, true, true, true, true, true, true, true, true, true, true, false, false, false, false, false, false, false] rfl rfl (any_of HT_.out (by kernel_rfl)) (fun _ _ _ h => h) (Or.inl ⟨by rfl, ?_⟩) ?_ ?_
                          rotate_left
                          · intro w'
                            go_simp
                            with_reducible rfl
                          rotate_left
                          · simp only [Act.put, List.setIfInBounds_toArray, List.set_cons_zero, List.set_cons_succ, i64_w, i32_w]
                            rfl
                          refine pure_ (i := 11) (N := some 108) (v := ?_) (a' := ?_) #[true, true, true, true, true, true, true, true, true, true, true, true, false, false, false, false, false, false] rfl rfl (any_of HT_.out (by kernel_rfl)) (fun _ _ _ h => h) (Or.inl ⟨by rfl, ?_⟩) ?_ ?_
                          rotate_left
                          · intro w'
                            go_simp
                            with_reducible rfl
                          rotate_left
                          · simp only [Act.put, List.setIfInBounds_toArray, List.set_cons_zero, List.set_cons_succ, i64_w, i32_w]
                            rfl
                          refine pure_ (i := 12) (N := some 109) (v := ?_) (a' := ?_) #[true, true, true, true, true, true, true, true, true, true, true, true, true, false, false, false, false, false] rfl rfl (any_of HT_.out (by kernel_rfl)) (fun _ _ _ h => h) (Or.inl ⟨by rfl, ?_⟩) ?_ ?_
                          rotate_left
                          · intro w'
                            go_simp
                            with_reducible rfl
                          rotate_left
                          · simp only [Act.put, List.setIfInBounds_toArray, List.set_cons_zero, List.set_cons_succ, i64_w, i32_w]
                            rfl
                          refine pure_ (i := 13) (N := some 110) (v := ?_) (a' := ?_) #[true, true, true, true, true, true, true, true, true, true, true, true, true, true, false, false, false, false] rfl rfl (any_of HT_.out (by kernel_rfl)) (fun _ _ _ h => h) (Or.inl ⟨by rfl, ?_⟩) ?_ ?_
                          rotate_left
                          · intro w'
                            go_simp
                            with_reducible rfl
                          rotate_left
                          · simp only [Act.put, List.setIfInBounds_toArray, List.set_cons_zero, List.set_cons_succ, i64_w, i32_w]
                            rfl
                          refine take_ (i := 14) (N := some 111) (v := ?_) (a' := ?_) #[true, true, true, true, true, true, true, true, true, true, true, true, true, true, true, false, false, false] rfl rfl (take_ofW HT_.out HW_.out (by kernel_rfl)) (fun _ _ _ h => h) (Or.inl ⟨by rfl, ?_⟩) hHeld ?_ ?_
                          rotate_left
                          · rintro w' ⟨s0, s1, s2, s3, s4, s5, s6⟩
                            go_simp
                            with_reducible rfl
                          rotate_left
                          · simp only [Act.put, List.setIfInBounds_toArray, List.set_cons_zero, List.set_cons_succ, i64_w, i32_w]
                            rfl
                          refine one_ (i := 15) (N := some 112) #[true, true, true, true, true, true, true, true, true, true, true, true, true, true, true, true, false, false] rfl rfl (one_of HT_.out (by kernel_rfl)) (by decide) (fun K hK => ?_)
                          refine goes_ Tryz.func25 (by kernel_rfl) rfl #[.agg #[.bool ((rd_T44 t385 x17_2).f0), .int .i64 ((rd_T44 t385 x17_2).f1), .string ((rd_T44 t385 x17_2).f2)]] (by rfl) rfl rfl xr ?_
                          with_reducible refine (threshingref13_Is.calls ((rd_T44 t385 x17_2).f0) ((rd_T44 t385 x17_2).f1) ((rd_T44 t385 x17_2).f2) true _ (Tabs.below hT xf) A39.out).mono ?_
                          rintro e w44 ⟨rfl, hb⟩
                          have HS0_ := (hb.cell (World.block_lt_of_cell? _ _ (hHeld.1))).trans (hHeld.1)
                          have HS1_ := (hb.cell (World.block_lt_of_cell? _ _ (hHeld.2.1))).trans (hHeld.2.1)
                          have HS2_ := (hb.cell (World.block_lt_of_cell? _ _ (hHeld.2.2.1))).trans (hHeld.2.2.1)
                          have HS3_ := (hb.cell (World.block_lt_of_cell? _ _ (hHeld.2.2.2.1))).trans (hHeld.2.2.2.1)
                          have HS4_ := (hb.cell (World.block_lt_of_cell? _ _ (hHeld.2.2.2.2.1))).trans (hHeld.2.2.2.2.1)
                          have HS5_ := (hb.cell (World.block_lt_of_cell? _ _ (hHeld.2.2.2.2.2.1))).trans (hHeld.2.2.2.2.2.1)
                          have HS6_ := (hb.cell (World.block_lt_of_cell? _ _ (hHeld.2.2.2.2.2.2))).trans (hHeld.2.2.2.2.2.2)
                          refine ⟨_, rfl, ?_⟩
                          have n0_ := Aside0.mk (Kd.R_below (xo HO_7.out) hb)
                          have n1_ := Aside0.mk (Kd.R_below (xo HO_11.out) hb)
                          have n2_ := Aside0.mk (below_step xb hb)
                          clear HO_7
                          clear HO_11
                          clear HB
                          have HO_7 := n0_
                          have HO_11 := n1_
                          have HB := n2_
                          clear n0_ n1_ n2_
                          (try clear hb)
                          (try clear hb2)
                          (try clear hk)
                          (try clear hi)
                          refine hK.out _ _ ⟨HS0_, HS1_, HS2_, HS3_, HS4_, HS5_, HS6_⟩ (fun hHeld => ?_)
                          clear hK K
                          refine norm_ (a' := ?_) ?_ ?_
                          rotate_left
                          · show Act.put _ (some 112) _ = _
                            simp only [Act.put, List.setIfInBounds_toArray, List.set_cons_zero, List.set_cons_succ, i64_w, i32_w]
                            rfl
                          refine pure_ (i := 16) (N := some 113) (v := ?_) (a' := ?_) #[true, true, true, true, true, true, true, true, true, true, true, true, true, true, true, true, true, false] rfl rfl (any_of HT_.out (by kernel_rfl)) (fun _ _ _ h => h) (Or.inl ⟨by rfl, ?_⟩) ?_ ?_
                          rotate_left
                          · intro w'
                            go_simp
                            with_reducible rfl
                          rotate_left
                          · simp only [Act.put, List.setIfInBounds_toArray, List.set_cons_zero, List.set_cons_succ, i64_w, i32_w]
                            rfl
                          refine pure_ (i := 17) (N := some 114) (v := ?_) (a' := ?_) #[true, true, true, true, true, true, true, true, true, true, true, true, true, true, true, true, true, true] rfl rfl (any_of HT_.out (by kernel_rfl)) (fun _ _ _ h => h) (Or.inl ⟨by rfl, ?_⟩) ?_ ?_
                          rotate_left
                          · intro w'
                            go_simp
                            with_reducible rfl
                          rotate_left
                          · simp only [Act.put, List.setIfInBounds_toArray, List.set_cons_zero, List.set_cons_succ, i64_w, i32_w]
                            rfl
                          refine done_ (done_of HT_.out (by kernel_rfl)) ?_
                          try go_wp2
                          go_roundg k2
                          case measure => have := HJ9.out; have := HK2.out; omega
                          case rel => exact ⟨(wrap64 (x17_2 + 1)), xg, H', ⟨by have := HJ9.out; have := HK2.out; omega⟩, ⟨by (with_reducible repeat (first | apply Kd.R_alloc | apply Kd.R_drewN | apply Kd.R_drew)); exact HO_7.out⟩, ⟨by (with_reducible repeat (first | apply Kd.R_alloc | apply Kd.R_drewN | apply Kd.R_drew)); exact HO_11.out⟩, ⟨xb⟩⟩
                        · replace c40 := Bool.eq_false_iff.mpr c40
                          subst c40
                          have H1 : (some false) = some r := by rw [if_neg (show ¬ (false = true) by decide)] at H; exact H
                          clear H
                          have H := H1
                          clear H1
                          obtain rfl := Option.some.inj H
                          obtain ⟨Ao45, co45, eo45⟩ := Kd.R_slice HO_11.out
                          subst eo45
                          try go_wp2
                          have n0_ := Aside0.mk (Kd.R_drew HO_7.out)
                          have n1_ := Aside0.mk (Kd.R_drew HO_11.out)
                          have n2_ := Aside0.mk (below_drew1 HB.out)
                          clear HO_7
                          clear HO_11
                          clear HB
                          have HO_7 := n0_
                          have HO_11 := n1_
                          have HB := n2_
                          clear n0_ n1_ n2_
                          have p396 : 0 ≤ (x17_2 : Int) := of_decide_eq_true xa
                          have q396 : x17_2 < (t385.length : Int) := of_decide_eq_true xa
                          obtain ⟨ad396, e396, hx396_0, hx396_1, hx396_2⟩ := at_T44 (Kd.R_reads' HO_11.out).2.2 x17_2 p396 q396
                          cases e396
                          replace p396 := eq_true p396
                          replace q396 := eq_true q396
                          obtain ⟨Ao47, co47, eo47⟩ := Kd.R_slice HO_7.out
                          (first | subst eo47 | (injection eo47 with f1_ f2_ f3_; have f4_ := f1_.symm; have f5_ := f3_.symm; clear f1_ f2_ f3_; subst f4_; subst f5_))
                          have p397 : 0 ≤ (x17_2 : Int) := of_decide_eq_true xa
                          have q397 : x17_2 < (t379.length : Int) := of_decide_eq_true xa
                          obtain ⟨ad397, e397, hx397_0⟩ := Kd.at_bool (Kd.R_reads' HO_7.out).2.2 x17_2 p397 q397
                          cases e397
                          replace p397 := eq_true p397
                          replace q397 := eq_true q397
                          have p398 : 0 ≤ (x17_2 : Int) := of_decide_eq_true xa
                          have q398 : x17_2 < (t385.length : Int) := of_decide_eq_true xa
                          obtain ⟨ad398, e398, hx398_0, hx398_1, hx398_2⟩ := at_T44 (Kd.R_reads' HO_11.out).2.2 x17_2 p398 q398
                          obtain rfl : ad396 = ad398 := (by injection e398)
                          replace p398 := eq_true p398
                          replace q398 := eq_true q398
                          refine start_ (n := 18) (S := fun w' => w'.cell? (ad396.add ((x17_2).toNat * 3)) = some (.bool ((rd_T44 t385 x17_2).f0)) ∧ w'.cell? ⟨(ad396.add ((x17_2).toNat * 3)).block, (ad396.add ((x17_2).toNat * 3)).off + 1, none⟩ = some (.int .i64 ((rd_T44 t385 x17_2).f1)) ∧ w'.cell? ⟨(ad396.add ((x17_2).toNat * 3)).block, (ad396.add ((x17_2).toNat * 3)).off + 2, none⟩ = some (.string ((rd_T44 t385 x17_2).f2)) ∧ w'.cell? (ad397.add (x17_2).toNat) = some (.bool (rdOf false t379 x17_2)) ∧ w'.cell? (ad396.add ((x17_2).toNat * 3)) = some (.bool ((rd_T44 t385 x17_2).f0)) ∧ w'.cell? ⟨(ad396.add ((x17_2).toNat * 3)).block, (ad396.add ((x17_2).toNat * 3)).off + 1, none⟩ = some (.int .i64 ((rd_T44 t385 x17_2).f1)) ∧ w'.cell? ⟨(ad396.add ((x17_2).toNat * 3)).block, (ad396.add ((x17_2).toNat * 3)).off + 2, none⟩ = some (.string ((rd_T44 t385 x17_2).f2))) (ds := []) #[false, false, false, false, false, false, false, false, false, false, false, false, false, false, false, false, false, false] (by kernel_rfl) rfl rfl ⟨hx396_0, hx396_1, hx396_2, hx397_0, hx398_0, hx398_1, hx398_2⟩ (fun hHeld => ?_); refine with_tabW threshinglaw16_EvalTotal.tab14 threshinglaw16_EvalTotal.bits14 (fun HT_ HW_ => ?_)
                          generalize wr.drew = w46 at HO_7 HO_11 HB hx396_0 hx396_1 hx396_2 hx397_0 hx398_0 hx398_1 hx398_2 hHeld ⊢
                          refine pure_ (i := 0) (N := some 97) (v := ?_) (a' := ?_) #[true, false, false, false, false, false, false, false, false, false, false, false, false, false, false, false, false, false] rfl rfl (any_of HT_.out (by kernel_rfl)) (fun _ _ _ h => h) (Or.inl ⟨by rfl, ?_⟩) ?_ ?_
                          rotate_left
                          · intro w'
                            go_simp
                            with_reducible rfl
                          rotate_left
                          · simp only [Act.put, List.setIfInBounds_toArray, List.set_cons_zero, List.set_cons_succ, i64_w, i32_w]
                            rfl
                          refine pure_ (i := 1) (N := some 98) (v := ?_) (a' := ?_) #[true, true, false, false, false, false, false, false, false, false, false, false, false, false, false, false, false, false] rfl rfl (any_of HT_.out (by kernel_rfl)) (fun _ _ _ h => h) (Or.inl ⟨by rfl, ?_⟩) ?_ ?_
                          rotate_left
                          · intro w'
                            go_simp
                            with_reducible rfl
                          rotate_left
                          · simp only [Act.put, List.setIfInBounds_toArray, List.set_cons_zero, List.set_cons_succ, i64_w, i32_w]
                            rfl
                          refine pure_ (i := 2) (N := some 99) (v := ?_) (a' := ?_) #[true, true, true, false, false, false, false, false, false, false, false, false, false, false, false, false, false, false] rfl rfl (any_of HT_.out (by kernel_rfl)) (fun _ _ _ h => h) (Or.inl ⟨by rfl, ?_⟩) ?_ ?_
                          rotate_left
                          · intro w'
                            go_simp
                            with_reducible rfl
                          rotate_left
                          · simp only [Act.put, List.setIfInBounds_toArray, List.set_cons_zero, List.set_cons_succ, i64_w, i32_w]
                            rfl
                          refine pure_ (i := 3) (N := some 100) (v := ?_) (a' := ?_) #[true, true, true, true, false, false, false, false, false, false, false, false, false, false, false, false, false, false] rfl rfl (any_of HT_.out (by kernel_rfl)) (fun _ _ _ h => h) (Or.inl ⟨by rfl, ?_⟩) ?_ ?_
                          rotate_left
                          · intro w'
                            go_simp
                            with_reducible rfl
                          rotate_left
                          · simp only [Act.put, List.setIfInBounds_toArray, List.set_cons_zero, List.set_cons_succ, i64_w, i32_w]
                            rfl
                          refine pure_ (i := 5) (N := some 102) (v := ?_) (a' := ?_) #[true, true, true, true, false, true, false, false, false, false, false, false, false, false, false, false, false, false] rfl rfl (any_of HT_.out (by kernel_rfl)) (fun _ _ _ h => h) (Or.inl ⟨by rfl, ?_⟩) ?_ ?_
                          rotate_left
                          · intro w'
                            go_simp
                            with_reducible rfl
                          rotate_left
                          · simp only [Act.put, List.setIfInBounds_toArray, List.set_cons_zero, List.set_cons_succ, i64_w, i32_w]
                            rfl
                          refine pure_ (i := 6) (N := some 103) (v := ?_) (a' := ?_) #[true, true, true, true, false, true, true, false, false, false, false, false, false, false, false, false, false, false] rfl rfl (any_of HT_.out (by kernel_rfl)) (fun _ _ _ h => h) (Or.inl ⟨by rfl, ?_⟩) ?_ ?_
                          rotate_left
                          · intro w'
                            go_simp
                            with_reducible rfl
                          rotate_left
                          · simp only [Act.put, List.setIfInBounds_toArray, List.set_cons_zero, List.set_cons_succ, i64_w, i32_w]
                            rfl
                          refine pure_ (i := 7) (N := some 104) (v := ?_) (a' := ?_) #[true, true, true, true, false, true, true, true, false, false, false, false, false, false, false, false, false, false] rfl rfl (any_of HT_.out (by kernel_rfl)) (fun _ _ _ h => h) (Or.inl ⟨by rfl, ?_⟩) ?_ ?_
                          rotate_left
                          · intro w'
                            go_simp
                            with_reducible rfl
                          rotate_left
                          · simp only [Act.put, List.setIfInBounds_toArray, List.set_cons_zero, List.set_cons_succ, i64_w, i32_w]
                            rfl
                          refine take_ (i := 4) (N := some 101) (v := ?_) (a' := ?_) #[true, true, true, true, true, true, true, true, false, false, false, false, false, false, false, false, false, false] rfl rfl (take_ofW HT_.out HW_.out (by kernel_rfl)) (fun _ _ _ h => h) (Or.inl ⟨by rfl, ?_⟩) hHeld ?_ ?_
                          rotate_left
                          · rintro w' ⟨s0, s1, s2, s3, s4, s5, s6⟩
                            go_simp
                            with_reducible rfl
                          rotate_left
                          · simp only [Act.put, List.setIfInBounds_toArray, List.set_cons_zero, List.set_cons_succ, i64_w, i32_w]
                            rfl
                          refine take_ (i := 8) (N := some 105) (v := ?_) (a' := ?_) #[true, true, true, true, true, true, true, true, true, false, false, false, false, false, false, false, false, false] rfl rfl (take_ofW HT_.out HW_.out (by kernel_rfl)) (fun _ _ _ h => h) (Or.inl ⟨by rfl, ?_⟩) hHeld ?_ ?_
                          rotate_left
                          · rintro w' ⟨s0, s1, s2, s3, s4, s5, s6⟩
                            go_simp
                            with_reducible rfl
                          rotate_left
                          · simp only [Act.put, List.setIfInBounds_toArray, List.set_cons_zero, List.set_cons_succ, i64_w, i32_w]
                            rfl
                          refine pure_ (i := 9) (N := some 106) (v := ?_) (a' := ?_) #[true, true, true, true, true, true, true, true, true, true, false, false, false, false, false, false, false, false] rfl rfl (any_of HT_.out (by kernel_rfl)) (fun _ _ _ h => h) (Or.inl ⟨by rfl, ?_⟩) ?_ ?_
                          rotate_left
                          · intro w'
                            go_simp
                            with_reducible rfl
                          rotate_left
                          · simp only [Act.put, List.setIfInBounds_toArray, List.set_cons_zero, List.set_cons_succ, i64_w, i32_w]
                            rfl
                          refine pure_ (i := 10) (N := some 107) (v := ?_) (a' := ?_) #[true, true, true, true, true, true, true, true, true, true, true, false, false, false, false, false, false, false] rfl rfl (any_of HT_.out (by kernel_rfl)) (fun _ _ _ h => h) (Or.inl ⟨by rfl, ?_⟩) ?_ ?_
                          rotate_left
                          · intro w'
                            go_simp
                            with_reducible rfl
                          rotate_left
                          · simp only [Act.put, List.setIfInBounds_toArray, List.set_cons_zero, List.set_cons_succ, i64_w, i32_w]
                            rfl
                          refine pure_ (i := 11) (N := some 108) (v := ?_) (a' := ?_) #[true, true, true, true, true, true, true, true, true, true, true, true, false, false, false, false, false, false] rfl rfl (any_of HT_.out (by kernel_rfl)) (fun _ _ _ h => h) (Or.inl ⟨by rfl, ?_⟩) ?_ ?_
                          rotate_left
                          · intro w'
                            go_simp
                            with_reducible rfl
                          rotate_left
                          · simp only [Act.put, List.setIfInBounds_toArray, List.set_cons_zero, List.set_cons_succ, i64_w, i32_w]
                            rfl
                          refine pure_ (i := 12) (N := some 109) (v := ?_) (a' := ?_) #[true, true, true, true, true, true, true, true, true, true, true, true, true, false, false, false, false, false] rfl rfl (any_of HT_.out (by kernel_rfl)) (fun _ _ _ h => h) (Or.inl ⟨by rfl, ?_⟩) ?_ ?_
                          rotate_left
                          · intro w'
                            go_simp
                            with_reducible rfl
                          rotate_left
                          · simp only [Act.put, List.setIfInBounds_toArray, List.set_cons_zero, List.set_cons_succ, i64_w, i32_w]
                            rfl
                          refine pure_ (i := 13) (N := some 110) (v := ?_) (a' := ?_) #[true, true, true, true, true, true, true, true, true, true, true, true, true, true, false, false, false, false] rfl rfl (any_of HT_.out (by kernel_rfl)) (fun _ _ _ h => h) (Or.inl ⟨by rfl, ?_⟩) ?_ ?_
                          rotate_left
                          · intro w'
                            go_simp
                            with_reducible rfl
                          rotate_left
                          · simp only [Act.put, List.setIfInBounds_toArray, List.set_cons_zero, List.set_cons_succ, i64_w, i32_w]
                            rfl
                          refine take_ (i := 14) (N := some 111) (v := ?_) (a' := ?_) #[true, true, true, true, true, true, true, true, true, true, true, true, true, true, true, false, false, false] rfl rfl (take_ofW HT_.out HW_.out (by kernel_rfl)) (fun _ _ _ h => h) (Or.inl ⟨by rfl, ?_⟩) hHeld ?_ ?_
                          rotate_left
                          · rintro w' ⟨s0, s1, s2, s3, s4, s5, s6⟩
                            go_simp
                            with_reducible rfl
                          rotate_left
                          · simp only [Act.put, List.setIfInBounds_toArray, List.set_cons_zero, List.set_cons_succ, i64_w, i32_w]
                            rfl
                          refine one_ (i := 15) (N := some 112) #[true, true, true, true, true, true, true, true, true, true, true, true, true, true, true, true, false, false] rfl rfl (one_of HT_.out (by kernel_rfl)) (by decide) (fun K hK => ?_)
                          refine goes_ Tryz.func25 (by kernel_rfl) rfl #[.agg #[.bool ((rd_T44 t385 x17_2).f0), .int .i64 ((rd_T44 t385 x17_2).f1), .string ((rd_T44 t385 x17_2).f2)]] (by rfl) rfl rfl xr ?_
                          with_reducible refine (threshingref13_Is.calls ((rd_T44 t385 x17_2).f0) ((rd_T44 t385 x17_2).f1) ((rd_T44 t385 x17_2).f2) false _ (Tabs.below hT xf) A39.out).mono ?_
                          rintro e w48 ⟨rfl, hb⟩
                          have HS0_ := (hb.cell (World.block_lt_of_cell? _ _ (hHeld.1))).trans (hHeld.1)
                          have HS1_ := (hb.cell (World.block_lt_of_cell? _ _ (hHeld.2.1))).trans (hHeld.2.1)
                          have HS2_ := (hb.cell (World.block_lt_of_cell? _ _ (hHeld.2.2.1))).trans (hHeld.2.2.1)
                          have HS3_ := (hb.cell (World.block_lt_of_cell? _ _ (hHeld.2.2.2.1))).trans (hHeld.2.2.2.1)
                          have HS4_ := (hb.cell (World.block_lt_of_cell? _ _ (hHeld.2.2.2.2.1))).trans (hHeld.2.2.2.2.1)
                          have HS5_ := (hb.cell (World.block_lt_of_cell? _ _ (hHeld.2.2.2.2.2.1))).trans (hHeld.2.2.2.2.2.1)
                          have HS6_ := (hb.cell (World.block_lt_of_cell? _ _ (hHeld.2.2.2.2.2.2))).trans (hHeld.2.2.2.2.2.2)
                          refine ⟨_, rfl, ?_⟩
                          have n0_ := Aside0.mk (Kd.R_below (xo HO_7.out) hb)
                          have n1_ := Aside0.mk (Kd.R_below (xo HO_11.out) hb)
                          have n2_ := Aside0.mk (below_step xb hb)
                          clear HO_7
                          clear HO_11
                          clear HB
                          have HO_7 := n0_
                          have HO_11 := n1_
                          have HB := n2_
                          clear n0_ n1_ n2_
                          (try clear hb)
                          (try clear hb2)
                          (try clear hk)
                          (try clear hi)
                          refine hK.out _ _ ⟨HS0_, HS1_, HS2_, HS3_, HS4_, HS5_, HS6_⟩ (fun hHeld => ?_)
                          clear hK K
                          refine norm_ (a' := ?_) ?_ ?_
                          rotate_left
                          · show Act.put _ (some 112) _ = _
                            simp only [Act.put, List.setIfInBounds_toArray, List.set_cons_zero, List.set_cons_succ, i64_w, i32_w]
                            rfl
                          refine pure_ (i := 16) (N := some 113) (v := ?_) (a' := ?_) #[true, true, true, true, true, true, true, true, true, true, true, true, true, true, true, true, true, false] rfl rfl (any_of HT_.out (by kernel_rfl)) (fun _ _ _ h => h) (Or.inl ⟨by rfl, ?_⟩) ?_ ?_
                          rotate_left
                          · intro w'
                            go_simp
                            with_reducible rfl
                          rotate_left
                          · simp only [Act.put, List.setIfInBounds_toArray, List.set_cons_zero, List.set_cons_succ, i64_w, i32_w]
                            rfl
                          refine pure_ (i := 17) (N := some 114) (v := ?_) (a' := ?_) #[true, true, true, true, true, true, true, true, true, true, true, true, true, true, true, true, true, true] rfl rfl (any_of HT_.out (by kernel_rfl)) (fun _ _ _ h => h) (Or.inl ⟨by rfl, ?_⟩) ?_ ?_
                          rotate_left
                          · intro w'
                            go_simp
                            with_reducible rfl
                          rotate_left
                          · simp only [Act.put, List.setIfInBounds_toArray, List.set_cons_zero, List.set_cons_succ, i64_w, i32_w]
                            rfl
                          refine done_ (done_of HT_.out (by kernel_rfl)) ?_
                          try go_wp2
                          go_ret
                          exact ⟨xe, xb⟩
                    · rw [if_neg c34] at H
                      exact absurd H (by simp)
                  · rw [if_neg c33] at H
                    exact absurd H (by simp)
                · rw [if_neg c32] at H
                  have c32b0 : decide (x17_2 < (t385.length : Int)) = false := decide_eq_false c32
                  clear c32
                  replace H := Option.bind_eq_some_iff.mp H
                  obtain ⟨⟨t400, t401, t402⟩, A490, H⟩ := H
                  replace H : ((eval_Run.f k2 l0 l1 (wrap64 ((wrap64 ((wrap64 (65 * (l0.length : Int))) - t386)) - 1))).bind fun bt405 => ((threshinglaw16_alive.f k2).bind fun t410 => (if t410 = true then (if t402 = 0 then (if t401 = 0 then ((threshingref16_Same.f k2 t400 t385).bind fun t411 => (if t411 = true then (if (l0.length : Int) = 0 then (some true) else (some (bt405.2.2 == 12))) else (some false))) else (some false)) else (some false)) else (some false)))) = some r := H
                  have A49 := Aside0.mk A490
                  clear A490
                  replace H := Option.bind_eq_some_iff.mp H
                  obtain ⟨⟨t405, t406, t407⟩, A500, H⟩ := H
                  replace H : ((threshinglaw16_alive.f k2).bind fun t410 => (if t410 = true then (if t402 = 0 then (if t401 = 0 then ((threshingref16_Same.f k2 t400 t385).bind fun t411 => (if t411 = true then (if (l0.length : Int) = 0 then (some true) else (some (t407 == 12))) else (some false))) else (some false)) else (some false)) else (some false))) = some r := H
                  have A50 := Aside0.mk A500
                  clear A500
                  replace H := Option.bind_eq_some_iff.mp H
                  obtain ⟨t410, A510, H⟩ := H
                  replace H : (if t410 = true then (if t402 = 0 then (if t401 = 0 then ((threshingref16_Same.f k2 t400 t385).bind fun t411 => (if t411 = true then (if (l0.length : Int) = 0 then (some true) else (some (t407 == 12))) else (some false))) else (some false)) else (some false)) else (some false)) = some r := H
                  have A51 := Aside0.mk A510
                  clear A510
                  by_cases c52 : t410 = true
                  · subst c52
                    have H1 : (if t402 = 0 then (if t401 = 0 then ((threshingref16_Same.f k2 t400 t385).bind fun t411 => (if t411 = true then (if (l0.length : Int) = 0 then (some true) else (some (t407 == 12))) else (some false))) else (some false)) else (some false)) = some r := by rw [if_pos rfl] at H; exact H
                    clear H
                    have H := H1
                    clear H1
                    by_cases c53 : t402 = 0
                    · rw [if_pos c53] at H
                      have c53b0 : (t402 == 0) = true := beq_iff_eq.mpr c53
                      have c53b1 : (t402 != 0) = false := bne_eq_false_iff_eq.mpr c53
                      clear c53
                      by_cases c54 : t401 = 0
                      · rw [if_pos c54] at H
                        have c54b0 : (t401 == 0) = true := beq_iff_eq.mpr c54
                        have c54b1 : (t401 != 0) = false := bne_eq_false_iff_eq.mpr c54
                        clear c54
                        replace H := Option.bind_eq_some_iff.mp H
                        obtain ⟨t411, A550, H⟩ := H
                        replace H : (if t411 = true then (if (l0.length : Int) = 0 then (some true) else (some (t407 == 12))) else (some false)) = some r := H
                        have A55 := Aside0.mk A550
                        clear A550
                        by_cases c56 : t411 = true
                        · subst c56
                          have H1 : (if (l0.length : Int) = 0 then (some true) else (some (t407 == 12))) = some r := by rw [if_pos rfl] at H; exact H
                          clear H
                          have H := H1
                          clear H1
                          by_cases c57 : (l0.length : Int) = 0
                          · rw [if_pos c57] at H
                            have c57b0 : ((l0.length : Int) == 0) = true := beq_iff_eq.mpr c57
                            have c57b1 : ((l0.length : Int) != 0) = false := bne_eq_false_iff_eq.mpr c57
                            clear c57
                            obtain rfl := Option.some.inj H
                            obtain ⟨Ao58, co58, eo58⟩ := Kd.R_slice HO_11.out
                            subst eo58
                            go_wp2_with (first | ((with_reducible refine gate_callee (f := 23) rfl ?_); refine goesL_ (some 121) rfl rfl Tryz.func23 (by kernel_rfl) rfl #[.slice A0 l0.length c0, .slice A1 l1.length c1, .int .i64 (wrap64 ((wrap64 (65 * (l0.length : Int))) - t386))] rfl xr ?_; (with_reducible refine (eval_Run.calls k2 _ _ l0 _ _ l1 (wrap64 ((wrap64 (65 * (l0.length : Int))) - t386)) t400 t401 t402 _ (Tabs.below hT xf) ?side1 ?side2 ?side3 ?side4 A49.out).mono ?_); (case side1 => exact Kd.C_below HR0.out xb); (case side2 => exact HC0.out); (case side3 => exact Kd.C_below HR1.out xb); (case side4 => exact HC1.out); rintro e w59 ⟨v403, rfl, ho0, hb⟩; refine ⟨_, rfl, ?_⟩; have n0_ := Aside0.mk (Kd.R_below (xo HO_7.out) hb); have n1_ := Aside0.mk (Kd.R_elder' (xo HO_11.out) (Kd.R_base ho0) hb); have n2_ := Aside0.mk (Kd.R_lower (Kd.R_new' ho0 (Kd.R_lt (xo HO_11.out))) (below_size xb)); have n3_ := Aside0.mk (below_step xb hb); clear HO_7; clear HO_11; clear HB; have HO_7 := n0_; have HO_11 := n1_; have HO404 := n2_; have HB := n3_; clear n0_ n1_ n2_ n3_; (try clear hb); (try clear hb2); (try clear hk); (try clear hi); (try clear ho0)) | ((with_reducible refine gate_callee (f := 23) rfl ?_); refine goesL_ (some 132) rfl rfl Tryz.func23 (by kernel_rfl) rfl #[.slice A0 l0.length c0, .slice A1 l1.length c1, .int .i64 (wrap64 ((wrap64 ((wrap64 (65 * (l0.length : Int))) - t386)) - 1))] rfl xr ?_; (with_reducible refine (eval_Run.calls k2 _ _ l0 _ _ l1 (wrap64 ((wrap64 ((wrap64 (65 * (l0.length : Int))) - t386)) - 1)) t405 t406 t407 _ (Tabs.below hT xf) ?side1 ?side2 ?side3 ?side4 A50.out).mono ?_); (case side1 => exact Kd.C_below HR0.out xb); (case side2 => exact HC0.out); (case side3 => exact Kd.C_below HR1.out xb); (case side4 => exact HC1.out); rintro e w60 ⟨v408, rfl, ho0, hb⟩; refine ⟨_, rfl, ?_⟩; have n0_ := Aside0.mk (Kd.R_below (xo HO_7.out) hb); have n1_ := Aside0.mk (Kd.R_elder' (xo HO_11.out) (Kd.R_base ho0) hb); have n2_ := Aside0.mk (Kd.R_elder' (xo HO404.out) (Kd.R_base ho0) hb); have n3_ := Aside0.mk (Kd.R_lower (Kd.R_new' (Kd.R_new' ho0 (Kd.R_lt (xo HO_11.out))) (Kd.R_lt (xo HO404.out))) (below_size xb)); have n4_ := Aside0.mk (below_step xb hb); clear HO_7; clear HO_11; clear HO404; clear HB; have HO_7 := n0_; have HO_11 := n1_; have HO404 := n2_; have HO409 := n3_; have HB := n4_; clear n0_ n1_ n2_ n3_ n4_; (try clear hb); (try clear hb2); (try clear hk); (try clear hi); (try clear ho0)) | ((with_reducible refine gate_callee (f := 22) rfl ?_); refine goesL_ (some 136) rfl rfl Tryz.func22 (by kernel_rfl) rfl #[] rfl xr ?_; (with_reducible refine (threshinglaw16_alive.calls k2  true _ (Tabs.below hT xf) A51.out).mono ?_); rintro e w61 ⟨rfl, hb⟩; refine ⟨_, rfl, ?_⟩; have n0_ := Aside0.mk (Kd.R_below (xo HO_7.out) hb); have n1_ := Aside0.mk (Kd.R_below (xo HO_11.out) hb); have n2_ := Aside0.mk (Kd.R_below (xo HO404.out) hb); have n3_ := Aside0.mk (Kd.R_below (xo HO409.out) hb); have n4_ := Aside0.mk (below_step xb hb); clear HO_7; clear HO_11; clear HO404; clear HO409; clear HB; have HO_7 := n0_; have HO_11 := n1_; have HO404 := n2_; have HO409 := n3_; have HB := n4_; clear n0_ n1_ n2_ n3_ n4_; (try clear hb); (try clear hb2); (try clear hk); (try clear hi); obtain ⟨Ao62, co62, eo62⟩ := Kd.R_slice HO404.out; subst eo62) | (go_at_call 24; (with_reducible refine (threshingref16_Same.calls k2 _ _ t400 _ _ t385 true _ (Tabs.below hT xf) ?side1 ?side2 ?side3 ?side4 A55.out).mono ?_); (case side1 => repeat (first | exact (Kd.R_reads' HO404.out).2.2 | (with_reducible refine Kd.C_alloc ?_ _) | (with_reducible refine Kd.C_drewN ?_ _) | (with_reducible refine Kd.C_drew ?_))); (case side2 => exact (Kd.R_reads' HO404.out).2.1); (case side3 => repeat (first | exact (Kd.R_reads' HO_11.out).2.2 | (with_reducible refine Kd.C_alloc ?_ _) | (with_reducible refine Kd.C_drewN ?_ _) | (with_reducible refine Kd.C_drew ?_))); (case side4 => exact (Kd.R_reads' HO_11.out).2.1); rintro e w' ⟨rfl, ⟨nd, rfl⟩⟩))
                            go_ret
                            exact ⟨xe, xb⟩
                          · rw [if_neg c57] at H
                            have c57b0 : ((l0.length : Int) == 0) = false := beq_eq_false_iff_ne.mpr c57
                            have c57b1 : ((l0.length : Int) != 0) = true := bne_iff_ne.mpr c57
                            have c57b2 : ¬ (l0 = []) := fun h_ => c57 (by rw [h_]; rfl)
                            obtain rfl := Option.some.inj H
                            obtain ⟨Ao63, co63, eo63⟩ := Kd.R_slice HO_11.out
                            subst eo63
                            go_wp2_with (first | ((with_reducible refine gate_callee (f := 23) rfl ?_); refine goesL_ (some 121) rfl rfl Tryz.func23 (by kernel_rfl) rfl #[.slice A0 l0.length c0, .slice A1 l1.length c1, .int .i64 (wrap64 ((wrap64 (65 * (l0.length : Int))) - t386))] rfl xr ?_; (with_reducible refine (eval_Run.calls k2 _ _ l0 _ _ l1 (wrap64 ((wrap64 (65 * (l0.length : Int))) - t386)) t400 t401 t402 _ (Tabs.below hT xf) ?side1 ?side2 ?side3 ?side4 A49.out).mono ?_); (case side1 => exact Kd.C_below HR0.out xb); (case side2 => exact HC0.out); (case side3 => exact Kd.C_below HR1.out xb); (case side4 => exact HC1.out); rintro e w64 ⟨v403, rfl, ho0, hb⟩; refine ⟨_, rfl, ?_⟩; have n0_ := Aside0.mk (Kd.R_below (xo HO_7.out) hb); have n1_ := Aside0.mk (Kd.R_elder' (xo HO_11.out) (Kd.R_base ho0) hb); have n2_ := Aside0.mk (Kd.R_lower (Kd.R_new' ho0 (Kd.R_lt (xo HO_11.out))) (below_size xb)); have n3_ := Aside0.mk (below_step xb hb); clear HO_7; clear HO_11; clear HB; have HO_7 := n0_; have HO_11 := n1_; have HO404 := n2_; have HB := n3_; clear n0_ n1_ n2_ n3_; (try clear hb); (try clear hb2); (try clear hk); (try clear hi); (try clear ho0)) | ((with_reducible refine gate_callee (f := 23) rfl ?_); refine goesL_ (some 132) rfl rfl Tryz.func23 (by kernel_rfl) rfl #[.slice A0 l0.length c0, .slice A1 l1.length c1, .int .i64 (wrap64 ((wrap64 ((wrap64 (65 * (l0.length : Int))) - t386)) - 1))] rfl xr ?_; (with_reducible refine (eval_Run.calls k2 _ _ l0 _ _ l1 (wrap64 ((wrap64 ((wrap64 (65 * (l0.length : Int))) - t386)) - 1)) t405 t406 t407 _ (Tabs.below hT xf) ?side1 ?side2 ?side3 ?side4 A50.out).mono ?_); (case side1 => exact Kd.C_below HR0.out xb); (case side2 => exact HC0.out); (case side3 => exact Kd.C_below HR1.out xb); (case side4 => exact HC1.out); rintro e w65 ⟨v408, rfl, ho0, hb⟩; refine ⟨_, rfl, ?_⟩; have n0_ := Aside0.mk (Kd.R_below (xo HO_7.out) hb); have n1_ := Aside0.mk (Kd.R_elder' (xo HO_11.out) (Kd.R_base ho0) hb); have n2_ := Aside0.mk (Kd.R_elder' (xo HO404.out) (Kd.R_base ho0) hb); have n3_ := Aside0.mk (Kd.R_lower (Kd.R_new' (Kd.R_new' ho0 (Kd.R_lt (xo HO_11.out))) (Kd.R_lt (xo HO404.out))) (below_size xb)); have n4_ := Aside0.mk (below_step xb hb); clear HO_7; clear HO_11; clear HO404; clear HB; have HO_7 := n0_; have HO_11 := n1_; have HO404 := n2_; have HO409 := n3_; have HB := n4_; clear n0_ n1_ n2_ n3_ n4_; (try clear hb); (try clear hb2); (try clear hk); (try clear hi); (try clear ho0)) | ((with_reducible refine gate_callee (f := 22) rfl ?_); refine goesL_ (some 136) rfl rfl Tryz.func22 (by kernel_rfl) rfl #[] rfl xr ?_; (with_reducible refine (threshinglaw16_alive.calls k2  true _ (Tabs.below hT xf) A51.out).mono ?_); rintro e w66 ⟨rfl, hb⟩; refine ⟨_, rfl, ?_⟩; have n0_ := Aside0.mk (Kd.R_below (xo HO_7.out) hb); have n1_ := Aside0.mk (Kd.R_below (xo HO_11.out) hb); have n2_ := Aside0.mk (Kd.R_below (xo HO404.out) hb); have n3_ := Aside0.mk (Kd.R_below (xo HO409.out) hb); have n4_ := Aside0.mk (below_step xb hb); clear HO_7; clear HO_11; clear HO404; clear HO409; clear HB; have HO_7 := n0_; have HO_11 := n1_; have HO404 := n2_; have HO409 := n3_; have HB := n4_; clear n0_ n1_ n2_ n3_ n4_; (try clear hb); (try clear hb2); (try clear hk); (try clear hi); obtain ⟨Ao67, co67, eo67⟩ := Kd.R_slice HO404.out; subst eo67) | (go_at_call 24; (with_reducible refine (threshingref16_Same.calls k2 _ _ t400 _ _ t385 true _ (Tabs.below hT xf) ?side1 ?side2 ?side3 ?side4 A55.out).mono ?_); (case side1 => repeat (first | exact (Kd.R_reads' HO404.out).2.2 | (with_reducible refine Kd.C_alloc ?_ _) | (with_reducible refine Kd.C_drewN ?_ _) | (with_reducible refine Kd.C_drew ?_))); (case side2 => exact (Kd.R_reads' HO404.out).2.1); (case side3 => repeat (first | exact (Kd.R_reads' HO_11.out).2.2 | (with_reducible refine Kd.C_alloc ?_ _) | (with_reducible refine Kd.C_drewN ?_ _) | (with_reducible refine Kd.C_drew ?_))); (case side4 => exact (Kd.R_reads' HO_11.out).2.1); rintro e w' ⟨rfl, ⟨nd, rfl⟩⟩))
                            go_ret
                            exact ⟨xe, xb⟩
                        · replace c56 := Bool.eq_false_iff.mpr c56
                          subst c56
                          have H1 : (some false) = some r := by rw [if_neg (show ¬ (false = true) by decide)] at H; exact H
                          clear H
                          have H := H1
                          clear H1
                          obtain rfl := Option.some.inj H
                          obtain ⟨Ao68, co68, eo68⟩ := Kd.R_slice HO_11.out
                          subst eo68
                          go_wp2_with (first | ((with_reducible refine gate_callee (f := 23) rfl ?_); refine goesL_ (some 121) rfl rfl Tryz.func23 (by kernel_rfl) rfl #[.slice A0 l0.length c0, .slice A1 l1.length c1, .int .i64 (wrap64 ((wrap64 (65 * (l0.length : Int))) - t386))] rfl xr ?_; (with_reducible refine (eval_Run.calls k2 _ _ l0 _ _ l1 (wrap64 ((wrap64 (65 * (l0.length : Int))) - t386)) t400 t401 t402 _ (Tabs.below hT xf) ?side1 ?side2 ?side3 ?side4 A49.out).mono ?_); (case side1 => exact Kd.C_below HR0.out xb); (case side2 => exact HC0.out); (case side3 => exact Kd.C_below HR1.out xb); (case side4 => exact HC1.out); rintro e w69 ⟨v403, rfl, ho0, hb⟩; refine ⟨_, rfl, ?_⟩; have n0_ := Aside0.mk (Kd.R_below (xo HO_7.out) hb); have n1_ := Aside0.mk (Kd.R_elder' (xo HO_11.out) (Kd.R_base ho0) hb); have n2_ := Aside0.mk (Kd.R_lower (Kd.R_new' ho0 (Kd.R_lt (xo HO_11.out))) (below_size xb)); have n3_ := Aside0.mk (below_step xb hb); clear HO_7; clear HO_11; clear HB; have HO_7 := n0_; have HO_11 := n1_; have HO404 := n2_; have HB := n3_; clear n0_ n1_ n2_ n3_; (try clear hb); (try clear hb2); (try clear hk); (try clear hi); (try clear ho0)) | ((with_reducible refine gate_callee (f := 23) rfl ?_); refine goesL_ (some 132) rfl rfl Tryz.func23 (by kernel_rfl) rfl #[.slice A0 l0.length c0, .slice A1 l1.length c1, .int .i64 (wrap64 ((wrap64 ((wrap64 (65 * (l0.length : Int))) - t386)) - 1))] rfl xr ?_; (with_reducible refine (eval_Run.calls k2 _ _ l0 _ _ l1 (wrap64 ((wrap64 ((wrap64 (65 * (l0.length : Int))) - t386)) - 1)) t405 t406 t407 _ (Tabs.below hT xf) ?side1 ?side2 ?side3 ?side4 A50.out).mono ?_); (case side1 => exact Kd.C_below HR0.out xb); (case side2 => exact HC0.out); (case side3 => exact Kd.C_below HR1.out xb); (case side4 => exact HC1.out); rintro e w70 ⟨v408, rfl, ho0, hb⟩; refine ⟨_, rfl, ?_⟩; have n0_ := Aside0.mk (Kd.R_below (xo HO_7.out) hb); have n1_ := Aside0.mk (Kd.R_elder' (xo HO_11.out) (Kd.R_base ho0) hb); have n2_ := Aside0.mk (Kd.R_elder' (xo HO404.out) (Kd.R_base ho0) hb); have n3_ := Aside0.mk (Kd.R_lower (Kd.R_new' (Kd.R_new' ho0 (Kd.R_lt (xo HO_11.out))) (Kd.R_lt (xo HO404.out))) (below_size xb)); have n4_ := Aside0.mk (below_step xb hb); clear HO_7; clear HO_11; clear HO404; clear HB; have HO_7 := n0_; have HO_11 := n1_; have HO404 := n2_; have HO409 := n3_; have HB := n4_; clear n0_ n1_ n2_ n3_ n4_; (try clear hb); (try clear hb2); (try clear hk); (try clear hi); (try clear ho0)) | ((with_reducible refine gate_callee (f := 22) rfl ?_); refine goesL_ (some 136) rfl rfl Tryz.func22 (by kernel_rfl) rfl #[] rfl xr ?_; (with_reducible refine (threshinglaw16_alive.calls k2  true _ (Tabs.below hT xf) A51.out).mono ?_); rintro e w71 ⟨rfl, hb⟩; refine ⟨_, rfl, ?_⟩; have n0_ := Aside0.mk (Kd.R_below (xo HO_7.out) hb); have n1_ := Aside0.mk (Kd.R_below (xo HO_11.out) hb); have n2_ := Aside0.mk (Kd.R_below (xo HO404.out) hb); have n3_ := Aside0.mk (Kd.R_below (xo HO409.out) hb); have n4_ := Aside0.mk (below_step xb hb); clear HO_7; clear HO_11; clear HO404; clear HO409; clear HB; have HO_7 := n0_; have HO_11 := n1_; have HO404 := n2_; have HO409 := n3_; have HB := n4_; clear n0_ n1_ n2_ n3_ n4_; (try clear hb); (try clear hb2); (try clear hk); (try clear hi); obtain ⟨Ao72, co72, eo72⟩ := Kd.R_slice HO404.out; subst eo72) | (go_at_call 24; (with_reducible refine (threshingref16_Same.calls k2 _ _ t400 _ _ t385 false _ (Tabs.below hT xf) ?side1 ?side2 ?side3 ?side4 A55.out).mono ?_); (case side1 => repeat (first | exact (Kd.R_reads' HO404.out).2.2 | (with_reducible refine Kd.C_alloc ?_ _) | (with_reducible refine Kd.C_drewN ?_ _) | (with_reducible refine Kd.C_drew ?_))); (case side2 => exact (Kd.R_reads' HO404.out).2.1); (case side3 => repeat (first | exact (Kd.R_reads' HO_11.out).2.2 | (with_reducible refine Kd.C_alloc ?_ _) | (with_reducible refine Kd.C_drewN ?_ _) | (with_reducible refine Kd.C_drew ?_))); (case side4 => exact (Kd.R_reads' HO_11.out).2.1); rintro e w' ⟨rfl, ⟨nd, rfl⟩⟩))
                          go_ret
                          exact ⟨xe, xb⟩
                      · rw [if_neg c54] at H
                        have c54b0 : (t401 == 0) = false := beq_eq_false_iff_ne.mpr c54
                        have c54b1 : (t401 != 0) = true := bne_iff_ne.mpr c54
                        obtain rfl := Option.some.inj H
                        obtain ⟨Ao73, co73, eo73⟩ := Kd.R_slice HO_11.out
                        subst eo73
                        go_wp2_with (first | ((with_reducible refine gate_callee (f := 23) rfl ?_); refine goesL_ (some 121) rfl rfl Tryz.func23 (by kernel_rfl) rfl #[.slice A0 l0.length c0, .slice A1 l1.length c1, .int .i64 (wrap64 ((wrap64 (65 * (l0.length : Int))) - t386))] rfl xr ?_; (with_reducible refine (eval_Run.calls k2 _ _ l0 _ _ l1 (wrap64 ((wrap64 (65 * (l0.length : Int))) - t386)) t400 t401 t402 _ (Tabs.below hT xf) ?side1 ?side2 ?side3 ?side4 A49.out).mono ?_); (case side1 => exact Kd.C_below HR0.out xb); (case side2 => exact HC0.out); (case side3 => exact Kd.C_below HR1.out xb); (case side4 => exact HC1.out); rintro e w74 ⟨v403, rfl, ho0, hb⟩; refine ⟨_, rfl, ?_⟩; have n0_ := Aside0.mk (Kd.R_below (xo HO_7.out) hb); have n1_ := Aside0.mk (Kd.R_elder' (xo HO_11.out) (Kd.R_base ho0) hb); have n2_ := Aside0.mk (Kd.R_lower (Kd.R_new' ho0 (Kd.R_lt (xo HO_11.out))) (below_size xb)); have n3_ := Aside0.mk (below_step xb hb); clear HO_7; clear HO_11; clear HB; have HO_7 := n0_; have HO_11 := n1_; have HO404 := n2_; have HB := n3_; clear n0_ n1_ n2_ n3_; (try clear hb); (try clear hb2); (try clear hk); (try clear hi); (try clear ho0)) | ((with_reducible refine gate_callee (f := 23) rfl ?_); refine goesL_ (some 132) rfl rfl Tryz.func23 (by kernel_rfl) rfl #[.slice A0 l0.length c0, .slice A1 l1.length c1, .int .i64 (wrap64 ((wrap64 ((wrap64 (65 * (l0.length : Int))) - t386)) - 1))] rfl xr ?_; (with_reducible refine (eval_Run.calls k2 _ _ l0 _ _ l1 (wrap64 ((wrap64 ((wrap64 (65 * (l0.length : Int))) - t386)) - 1)) t405 t406 t407 _ (Tabs.below hT xf) ?side1 ?side2 ?side3 ?side4 A50.out).mono ?_); (case side1 => exact Kd.C_below HR0.out xb); (case side2 => exact HC0.out); (case side3 => exact Kd.C_below HR1.out xb); (case side4 => exact HC1.out); rintro e w75 ⟨v408, rfl, ho0, hb⟩; refine ⟨_, rfl, ?_⟩; have n0_ := Aside0.mk (Kd.R_below (xo HO_7.out) hb); have n1_ := Aside0.mk (Kd.R_elder' (xo HO_11.out) (Kd.R_base ho0) hb); have n2_ := Aside0.mk (Kd.R_elder' (xo HO404.out) (Kd.R_base ho0) hb); have n3_ := Aside0.mk (Kd.R_lower (Kd.R_new' (Kd.R_new' ho0 (Kd.R_lt (xo HO_11.out))) (Kd.R_lt (xo HO404.out))) (below_size xb)); have n4_ := Aside0.mk (below_step xb hb); clear HO_7; clear HO_11; clear HO404; clear HB; have HO_7 := n0_; have HO_11 := n1_; have HO404 := n2_; have HO409 := n3_; have HB := n4_; clear n0_ n1_ n2_ n3_ n4_; (try clear hb); (try clear hb2); (try clear hk); (try clear hi); (try clear ho0)) | ((with_reducible refine gate_callee (f := 22) rfl ?_); refine goesL_ (some 136) rfl rfl Tryz.func22 (by kernel_rfl) rfl #[] rfl xr ?_; (with_reducible refine (threshinglaw16_alive.calls k2  true _ (Tabs.below hT xf) A51.out).mono ?_); rintro e w76 ⟨rfl, hb⟩; refine ⟨_, rfl, ?_⟩; have n0_ := Aside0.mk (Kd.R_below (xo HO_7.out) hb); have n1_ := Aside0.mk (Kd.R_below (xo HO_11.out) hb); have n2_ := Aside0.mk (Kd.R_below (xo HO404.out) hb); have n3_ := Aside0.mk (Kd.R_below (xo HO409.out) hb); have n4_ := Aside0.mk (below_step xb hb); clear HO_7; clear HO_11; clear HO404; clear HO409; clear HB; have HO_7 := n0_; have HO_11 := n1_; have HO404 := n2_; have HO409 := n3_; have HB := n4_; clear n0_ n1_ n2_ n3_ n4_; (try clear hb); (try clear hb2); (try clear hk); (try clear hi)))
                        go_ret
                        exact ⟨xe, xb⟩
                    · rw [if_neg c53] at H
                      have c53b0 : (t402 == 0) = false := beq_eq_false_iff_ne.mpr c53
                      have c53b1 : (t402 != 0) = true := bne_iff_ne.mpr c53
                      obtain rfl := Option.some.inj H
                      obtain ⟨Ao77, co77, eo77⟩ := Kd.R_slice HO_11.out
                      subst eo77
                      go_wp2_with (first | ((with_reducible refine gate_callee (f := 23) rfl ?_); refine goesL_ (some 121) rfl rfl Tryz.func23 (by kernel_rfl) rfl #[.slice A0 l0.length c0, .slice A1 l1.length c1, .int .i64 (wrap64 ((wrap64 (65 * (l0.length : Int))) - t386))] rfl xr ?_; (with_reducible refine (eval_Run.calls k2 _ _ l0 _ _ l1 (wrap64 ((wrap64 (65 * (l0.length : Int))) - t386)) t400 t401 t402 _ (Tabs.below hT xf) ?side1 ?side2 ?side3 ?side4 A49.out).mono ?_); (case side1 => exact Kd.C_below HR0.out xb); (case side2 => exact HC0.out); (case side3 => exact Kd.C_below HR1.out xb); (case side4 => exact HC1.out); rintro e w78 ⟨v403, rfl, ho0, hb⟩; refine ⟨_, rfl, ?_⟩; have n0_ := Aside0.mk (Kd.R_below (xo HO_7.out) hb); have n1_ := Aside0.mk (Kd.R_elder' (xo HO_11.out) (Kd.R_base ho0) hb); have n2_ := Aside0.mk (Kd.R_lower (Kd.R_new' ho0 (Kd.R_lt (xo HO_11.out))) (below_size xb)); have n3_ := Aside0.mk (below_step xb hb); clear HO_7; clear HO_11; clear HB; have HO_7 := n0_; have HO_11 := n1_; have HO404 := n2_; have HB := n3_; clear n0_ n1_ n2_ n3_; (try clear hb); (try clear hb2); (try clear hk); (try clear hi); (try clear ho0)) | ((with_reducible refine gate_callee (f := 23) rfl ?_); refine goesL_ (some 132) rfl rfl Tryz.func23 (by kernel_rfl) rfl #[.slice A0 l0.length c0, .slice A1 l1.length c1, .int .i64 (wrap64 ((wrap64 ((wrap64 (65 * (l0.length : Int))) - t386)) - 1))] rfl xr ?_; (with_reducible refine (eval_Run.calls k2 _ _ l0 _ _ l1 (wrap64 ((wrap64 ((wrap64 (65 * (l0.length : Int))) - t386)) - 1)) t405 t406 t407 _ (Tabs.below hT xf) ?side1 ?side2 ?side3 ?side4 A50.out).mono ?_); (case side1 => exact Kd.C_below HR0.out xb); (case side2 => exact HC0.out); (case side3 => exact Kd.C_below HR1.out xb); (case side4 => exact HC1.out); rintro e w79 ⟨v408, rfl, ho0, hb⟩; refine ⟨_, rfl, ?_⟩; have n0_ := Aside0.mk (Kd.R_below (xo HO_7.out) hb); have n1_ := Aside0.mk (Kd.R_elder' (xo HO_11.out) (Kd.R_base ho0) hb); have n2_ := Aside0.mk (Kd.R_elder' (xo HO404.out) (Kd.R_base ho0) hb); have n3_ := Aside0.mk (Kd.R_lower (Kd.R_new' (Kd.R_new' ho0 (Kd.R_lt (xo HO_11.out))) (Kd.R_lt (xo HO404.out))) (below_size xb)); have n4_ := Aside0.mk (below_step xb hb); clear HO_7; clear HO_11; clear HO404; clear HB; have HO_7 := n0_; have HO_11 := n1_; have HO404 := n2_; have HO409 := n3_; have HB := n4_; clear n0_ n1_ n2_ n3_ n4_; (try clear hb); (try clear hb2); (try clear hk); (try clear hi); (try clear ho0)) | ((with_reducible refine gate_callee (f := 22) rfl ?_); refine goesL_ (some 136) rfl rfl Tryz.func22 (by kernel_rfl) rfl #[] rfl xr ?_; (with_reducible refine (threshinglaw16_alive.calls k2  true _ (Tabs.below hT xf) A51.out).mono ?_); rintro e w80 ⟨rfl, hb⟩; refine ⟨_, rfl, ?_⟩; have n0_ := Aside0.mk (Kd.R_below (xo HO_7.out) hb); have n1_ := Aside0.mk (Kd.R_below (xo HO_11.out) hb); have n2_ := Aside0.mk (Kd.R_below (xo HO404.out) hb); have n3_ := Aside0.mk (Kd.R_below (xo HO409.out) hb); have n4_ := Aside0.mk (below_step xb hb); clear HO_7; clear HO_11; clear HO404; clear HO409; clear HB; have HO_7 := n0_; have HO_11 := n1_; have HO404 := n2_; have HO409 := n3_; have HB := n4_; clear n0_ n1_ n2_ n3_ n4_; (try clear hb); (try clear hb2); (try clear hk); (try clear hi)))
                      go_ret
                      exact ⟨xe, xb⟩
                  · replace c52 := Bool.eq_false_iff.mpr c52
                    subst c52
                    have H1 : (some false) = some r := by rw [if_neg (show ¬ (false = true) by decide)] at H; exact H
                    clear H
                    have H := H1
                    clear H1
                    obtain rfl := Option.some.inj H
                    obtain ⟨Ao81, co81, eo81⟩ := Kd.R_slice HO_11.out
                    subst eo81
                    go_wp2_with (first | ((with_reducible refine gate_callee (f := 23) rfl ?_); refine goesL_ (some 121) rfl rfl Tryz.func23 (by kernel_rfl) rfl #[.slice A0 l0.length c0, .slice A1 l1.length c1, .int .i64 (wrap64 ((wrap64 (65 * (l0.length : Int))) - t386))] rfl xr ?_; (with_reducible refine (eval_Run.calls k2 _ _ l0 _ _ l1 (wrap64 ((wrap64 (65 * (l0.length : Int))) - t386)) t400 t401 t402 _ (Tabs.below hT xf) ?side1 ?side2 ?side3 ?side4 A49.out).mono ?_); (case side1 => exact Kd.C_below HR0.out xb); (case side2 => exact HC0.out); (case side3 => exact Kd.C_below HR1.out xb); (case side4 => exact HC1.out); rintro e w82 ⟨v403, rfl, ho0, hb⟩; refine ⟨_, rfl, ?_⟩; have n0_ := Aside0.mk (Kd.R_below (xo HO_7.out) hb); have n1_ := Aside0.mk (Kd.R_elder' (xo HO_11.out) (Kd.R_base ho0) hb); have n2_ := Aside0.mk (Kd.R_lower (Kd.R_new' ho0 (Kd.R_lt (xo HO_11.out))) (below_size xb)); have n3_ := Aside0.mk (below_step xb hb); clear HO_7; clear HO_11; clear HB; have HO_7 := n0_; have HO_11 := n1_; have HO404 := n2_; have HB := n3_; clear n0_ n1_ n2_ n3_; (try clear hb); (try clear hb2); (try clear hk); (try clear hi); (try clear ho0)) | ((with_reducible refine gate_callee (f := 23) rfl ?_); refine goesL_ (some 132) rfl rfl Tryz.func23 (by kernel_rfl) rfl #[.slice A0 l0.length c0, .slice A1 l1.length c1, .int .i64 (wrap64 ((wrap64 ((wrap64 (65 * (l0.length : Int))) - t386)) - 1))] rfl xr ?_; (with_reducible refine (eval_Run.calls k2 _ _ l0 _ _ l1 (wrap64 ((wrap64 ((wrap64 (65 * (l0.length : Int))) - t386)) - 1)) t405 t406 t407 _ (Tabs.below hT xf) ?side1 ?side2 ?side3 ?side4 A50.out).mono ?_); (case side1 => exact Kd.C_below HR0.out xb); (case side2 => exact HC0.out); (case side3 => exact Kd.C_below HR1.out xb); (case side4 => exact HC1.out); rintro e w83 ⟨v408, rfl, ho0, hb⟩; refine ⟨_, rfl, ?_⟩; have n0_ := Aside0.mk (Kd.R_below (xo HO_7.out) hb); have n1_ := Aside0.mk (Kd.R_elder' (xo HO_11.out) (Kd.R_base ho0) hb); have n2_ := Aside0.mk (Kd.R_elder' (xo HO404.out) (Kd.R_base ho0) hb); have n3_ := Aside0.mk (Kd.R_lower (Kd.R_new' (Kd.R_new' ho0 (Kd.R_lt (xo HO_11.out))) (Kd.R_lt (xo HO404.out))) (below_size xb)); have n4_ := Aside0.mk (below_step xb hb); clear HO_7; clear HO_11; clear HO404; clear HB; have HO_7 := n0_; have HO_11 := n1_; have HO404 := n2_; have HO409 := n3_; have HB := n4_; clear n0_ n1_ n2_ n3_ n4_; (try clear hb); (try clear hb2); (try clear hk); (try clear hi); (try clear ho0)) | ((with_reducible refine gate_callee (f := 22) rfl ?_); refine goesL_ (some 136) rfl rfl Tryz.func22 (by kernel_rfl) rfl #[] rfl xr ?_; (with_reducible refine (threshinglaw16_alive.calls k2  false _ (Tabs.below hT xf) A51.out).mono ?_); rintro e w84 ⟨rfl, hb⟩; refine ⟨_, rfl, ?_⟩; have n0_ := Aside0.mk (Kd.R_below (xo HO_7.out) hb); have n1_ := Aside0.mk (Kd.R_below (xo HO_11.out) hb); have n2_ := Aside0.mk (Kd.R_below (xo HO404.out) hb); have n3_ := Aside0.mk (Kd.R_below (xo HO409.out) hb); have n4_ := Aside0.mk (below_step xb hb); clear HO_7; clear HO_11; clear HO404; clear HO409; clear HB; have HO_7 := n0_; have HO_11 := n1_; have HO404 := n2_; have HO409 := n3_; have HB := n4_; clear n0_ n1_ n2_ n3_ n4_; (try clear hb); (try clear hb2); (try clear hk); (try clear hi)))
                    go_ret
                    exact ⟨xe, xb⟩
    · rw [if_neg c7] at H
      have c7b0 : (t381 == 0) = false := beq_eq_false_iff_ne.mpr c7
      have c7b1 : (t381 != 0) = true := bne_iff_ne.mpr c7
      replace H := Option.bind_eq_some_iff.mp H
      obtain ⟨t384, A850, H⟩ := H
      replace H : (some t384) = some r := H
      have A85 := Aside0.mk A850
      clear A850
      obtain rfl := Option.some.inj H
      go_enter Tryz.func5, Tryz.ntmps5
      go_wp2_with (first | ((with_reducible refine gate_callee (f := 21) rfl ?_); refine goesL_ (some 26) rfl rfl Tryz.func21 (by kernel_rfl) rfl #[.slice A0 l0.length c0, .slice A1 l1.length c1] rfl xr ?_; (with_reducible refine (threshinglaw16_small.calls k _ _ l0 (fun k_ => k_ < w.heap.size) _ _ l1 true _ (Tabs.below hT xf) ?side1 ?side2 ?side3 A4.out).mono ?_); (case side1 => repeat (first | exact HR0.out | (with_reducible refine Kd.C_alloc ?_ _) | (with_reducible refine Kd.C_drewN ?_ _) | (with_reducible refine Kd.C_drew ?_))); (case side2 => exact HC0.out); (case side3 => exact Kd.V_mk HC1.out (Kd.F_below (Kd.C_F Kd.heap_string HR1.out) xb)); rintro e w86 ⟨rfl, hb⟩; refine ⟨_, rfl, ?_⟩; have n0_ := Aside0.mk (below_step xb hb); clear HB; have HB := n0_; clear n0_; (try clear hb); (try clear hb2); (try clear hk); (try clear hi)) | ((with_reducible refine gate_callee (f := 14) rfl ?_); refine goesL_ (some 31) rfl rfl Tryz.func14 (by kernel_rfl) rfl #[.slice A0 l0.length c0, .slice none 0 0] rfl xr ?_; (refine (threshingref15_Stack.calls k _ _ l0 _ _ ([] : List Bool) t379 t380 t381 _ (Tabs.below hT xf) ?side1 ?side2 ?side3 ?side4 A6.out).mono ?_); (case side1 => exact Kd.C_below HR0.out xb); (case side2 => exact HC0.out); (case side3 => exact Kd.C_nil _ _); (case side4 => exact Nat.le_refl _); rintro e w87 ⟨v382, rfl, ho0, hb⟩; refine ⟨_, rfl, ?_⟩; have n0_ := Aside0.mk (Kd.R_lower ho0 (below_size xb)); have n1_ := Aside0.mk (below_step xb hb); clear HB; have HO383 := n0_; have HB := n1_; clear n0_ n1_; (try clear hb); (try clear hb2); (try clear hk); (try clear hi); (try clear ho0)) | ((with_reducible refine gate_callee (f := 22) rfl ?_); refine goesL_ (some 37) rfl rfl Tryz.func22 (by kernel_rfl) rfl #[] rfl xr ?_; (with_reducible refine (threshinglaw16_alive.calls k  t384 _ (Tabs.below hT xf) A85.out).mono ?_); rintro e w88 ⟨rfl, hb⟩; refine ⟨_, rfl, ?_⟩; have n0_ := Aside0.mk (Kd.R_below (xo HO383.out) hb); have n1_ := Aside0.mk (below_step xb hb); clear HO383; clear HB; have HO383 := n0_; have HB := n1_; clear n0_ n1_; (try clear hb); (try clear hb2); (try clear hk); (try clear hi)))
      go_ret
      exact ⟨xe, xb⟩
  · replace c5 := Bool.eq_false_iff.mpr c5
    subst c5
    have H1 : ((threshinglaw16_alive.f k).bind fun t378 => (some t378)) = some r := by rw [if_neg (show ¬ (false = true) by decide)] at H; exact H
    clear H
    have H := H1
    clear H1
    replace H := Option.bind_eq_some_iff.mp H
    obtain ⟨t378, A890, H⟩ := H
    replace H : (some t378) = some r := H
    have A89 := Aside0.mk A890
    clear A890
    obtain rfl := Option.some.inj H
    go_enter Tryz.func5, Tryz.ntmps5
    go_wp2_with (first | ((with_reducible refine gate_callee (f := 21) rfl ?_); refine goesL_ (some 26) rfl rfl Tryz.func21 (by kernel_rfl) rfl #[.slice A0 l0.length c0, .slice A1 l1.length c1] rfl xr ?_; (with_reducible refine (threshinglaw16_small.calls k _ _ l0 (fun k_ => k_ < w.heap.size) _ _ l1 false _ (Tabs.below hT xf) ?side1 ?side2 ?side3 A4.out).mono ?_); (case side1 => repeat (first | exact HR0.out | (with_reducible refine Kd.C_alloc ?_ _) | (with_reducible refine Kd.C_drewN ?_ _) | (with_reducible refine Kd.C_drew ?_))); (case side2 => exact HC0.out); (case side3 => exact Kd.V_mk HC1.out (Kd.F_below (Kd.C_F Kd.heap_string HR1.out) xb)); rintro e w90 ⟨rfl, hb⟩; refine ⟨_, rfl, ?_⟩; have n0_ := Aside0.mk (below_step xb hb); clear HB; have HB := n0_; clear n0_; (try clear hb); (try clear hb2); (try clear hk); (try clear hi)) | ((with_reducible refine gate_callee (f := 22) rfl ?_); refine goesL_ (some 28) rfl rfl Tryz.func22 (by kernel_rfl) rfl #[] rfl xr ?_; (with_reducible refine (threshinglaw16_alive.calls k  t378 _ (Tabs.below hT xf) A89.out).mono ?_); rintro e w91 ⟨rfl, hb⟩; refine ⟨_, rfl, ?_⟩; have n0_ := Aside0.mk (below_step xb hb); clear HB; have HB := n0_; clear n0_; (try clear hb); (try clear hb2); (try clear hk); (try clear hi)))
    go_ret
    exact ⟨xe, xb⟩

def threshinglaw16_EvalTotal.Pure : Prop := ∀ (x0 : List (S48)) (x1 : List ByteArray) (x2 : Int), (x0.length * 32 ≤ 140737488351232 ∧ ∀ q0_ ∈ x0, ((Lit.int .i64 q0_.f0).wf = true ∧ (Lit.int .i64 q0_.f1).wf = true ∧ q0_.f2.size ≤ 140737488351232)) → (x1.length * 16 ≤ 140737488351232 ∧ ∀ q0_ ∈ x1, q0_.size ≤ 140737488351232) → (Lit.int .u16 x2).wf = true → ∃ k, threshinglaw16_EvalTotal.f k x0 x1 x2 = some true

end Go.Proofs.YtejmgcfjpofniaaGreatDoor.PX
