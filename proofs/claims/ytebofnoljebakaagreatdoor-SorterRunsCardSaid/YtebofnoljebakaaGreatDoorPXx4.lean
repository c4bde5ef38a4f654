/- Walked functions, by this session's program over the kit's print. -/
import Derived.Test.YtebofnoljebakaaGreatDoorPXx0
import Derived.Test.YtebofnoljebakaaGreatDoorPXx2
namespace Go.Proofs.YtebofnoljebakaaGreatDoor.PX
open Go.RowKit Go.Proofs.YtebofnoljebakaaGreatDoorW.PrintWords Go.Proofs.YtebofnoljebakaaGreatDoorW.PrintLast Go.Proofs.YtebofnoljebakaaGreatDoorW.PrintMore
attribute [local go_sem] xm_gtr max2_int min2_int max_two min_two max_three min_three max_four min_four
set_option linter.unusedVariables false
set_option linter.unusedSimpArgs false
/- Walked functions, by this session's program over the kit's print. -/
def cmp_Or_int.l0 : Nat → Int → List Int → Int → Int → Option (Int)
 | 0, _, _, _, _ => none
 | k + 1, x3, x6, x7, x8 => if x8 < x7 then (if 0 ≤ x8 then (if x8 < (x6.length : Int) then (if (rd x6 x8) = x3 then (cmp_Or_int.l0 k x3 x6 x7 (wrap64 (x8 + 1))) else (some (rd x6 x8))) else (none)) else (none)) else (some x3)
def cmp_Or_int.f (k : Nat) (l0 : List Int) : Option (Int) := cmp_Or_int.l0 k 0 l0 (l0.length : Int) 0
theorem cmp_Or_int.mono_l : ∀ k, (∀ y0 y1 y2 y3, LeO (cmp_Or_int.l0 k y0 y1 y2 y3) (cmp_Or_int.l0 (k + 1) y0 y1 y2 y3))
 | 0 => fun _ _ _ _ r h => by simp [cmp_Or_int.l0] at h
 | k + 1 => by
  have ih0 := cmp_Or_int.mono_l k
  ·intro y0 y1 y2 y3
   unfold cmp_Or_int.l0
   repeat' (with_reducible first | exact ih0 _ _ _ _ | exact LeO.refl _ | exact LeO.none _ | refine LeO.ite ?_ ?_ | refine LeO.bind ?_ (fun _ => ?_))
theorem cmp_Or_int.mono : ∀ a0 k, LeO (cmp_Or_int.f k a0) (cmp_Or_int.f (k + 1) a0) := by
 intro a0 k
 have ih0 := cmp_Or_int.mono_l k
 unfold cmp_Or_int.f
 repeat' (with_reducible first | exact ih0 _ _ _ _ | exact LeO.refl _ | exact LeO.none _ | refine LeO.ite ?_ ?_ | refine LeO.bind ?_ (fun _ => ?_))
set_option maxHeartbeats 8000000 in
set_option maxRecDepth 100000 in
theorem cmp_Or_int.calls (k : Nat) (A0 : Option Addr) (c0 : Nat) (l0 : List Int) (r : Int) (w : World) (hT : Tabs w) (hr0 : Kd.C (Kd.int .i64) w A0 l0.length l0) (hc0 : l0.length ≤ c0) (h : cmp_Or_int.f k l0 = some r) :
  Calls Tryz.prog 45 #[.slice A0 l0.length c0] w fun e w' => e = .returned (.int .i64 r) ∧ Drawn0 w w' := by
 have HR0 := xy hr0
 have HC0 := xy hc0
 clear hr0 hc0
 unfold cmp_Or_int.f at h
 have H := h
 clear h
 have H' := xy H
 clear H
 go_enter Tryz.func45, Tryz.ntmps45
 go_wp2
 go_loopg [8] k (fun kq v8 w' => ∃ (x8_1 : Int), v8 = .int .i64 x8_1 ∧ Aside0 (cmp_Or_int.l0 kq 0 l0 (l0.length : Int) x8_1 = some r) ∧ Aside0 (kq ≤ k) ∧ Drawn0 w w')
 case atStart => exact ⟨(0), xg, H', ⟨Nat.le_refl _⟩, by repeat (first | exact Drawn0.refl _ | apply Drawn0.step)⟩
 case round =>
  clear H'
  obtain ⟨x8_1, rfl, HA, HK1, ⟨m1, rfl⟩⟩ := hrel
  cases gk with
  | zero => exact absurd HA.out (by simp [cmp_Or_int.l0])
  | succ k1 =>
   have H := HA.out
   clear HA
   simp only [cmp_Or_int.l0] at H
   by_cases c2 : x8_1 < (l0.length : Int)
   ·rw [if_pos c2] at H
    have c2b0 : decide (x8_1 < (l0.length : Int)) = true := decide_eq_true c2
    clear c2
    by_cases c3 : 0 ≤ x8_1
    ·rw [if_pos c3] at H
     have c3b0 : decide (0 ≤ x8_1) = true := decide_eq_true c3
     clear c3
     by_cases c4 : x8_1 < (l0.length : Int)
     ·rw [if_pos c4] at H
      have c4b0 : decide (x8_1 < (l0.length : Int)) = true := decide_eq_true c4
      clear c4
      by_cases c5 : (rd l0 x8_1) = 0
      ·rw [if_pos c5] at H
       have c5b0 : ((rd l0 x8_1) == 0) = true := beq_iff_eq.mpr c5
       have c5b1 : ((rd l0 x8_1) != 0) = false := bne_eq_false_iff_eq.mpr c5
       clear c5
       have H' := xy H
       clear H
       have p197 : 0 ≤ (x8_1 : Int) := xi
       have q197 : x8_1 < (l0.length : Int) := xi
       obtain ⟨ad197, e197, hx197_0⟩ := Kd.at_int HR0.out x8_1 p197 q197
       cases e197
       replace p197 := eq_true p197
       replace q197 := eq_true q197
       go_wp2
       go_roundg k1
       case measure => have := HK1.out; omega
       case rel => exact ⟨(wrap64 (x8_1 + 1)), xg, H', ⟨by have := HK1.out; omega⟩, by repeat (first | exact Drawn0.refl _ | apply Drawn0.step)⟩
      ·rw [if_neg c5] at H
       have c5b0 : ((rd l0 x8_1) == 0) = false := beq_eq_false_iff_ne.mpr c5
       have c5b1 : ((rd l0 x8_1) != 0) = true := bne_iff_ne.mpr c5
       obtain rfl := Option.some.inj H
       have p197 : 0 ≤ (x8_1 : Int) := xi
       have q197 : x8_1 < (l0.length : Int) := xi
       obtain ⟨ad197, e197, hx197_0⟩ := Kd.at_int HR0.out x8_1 p197 q197
       cases e197
       replace p197 := eq_true p197
       replace q197 := eq_true q197
       go_wp2
       go_ret
       exact ⟨xg, xz⟩
     ·rw [if_neg c4] at H
      exact absurd H (by simp)
    ·rw [if_neg c3] at H
     exact absurd H (by simp)
   ·rw [if_neg c2] at H
    have c2b0 : decide (x8_1 < (l0.length : Int)) = false := decide_eq_false c2
    clear c2
    obtain rfl := Option.some.inj H
    go_wp2
    go_ret
    exact ⟨xg, xz⟩
def cmp_isNaN_string.f (a0 : ByteArray) : Option (Bool) := some (a0.toList != a0.toList)
set_option maxHeartbeats 8000000 in
set_option maxRecDepth 100000 in
theorem cmp_isNaN_string.calls (a0 : ByteArray) (r : Bool) (w : World) (hT : Tabs w) (h : cmp_isNaN_string.f a0 = some r) :
  Calls Tryz.prog 53 #[.string a0] w fun e w' => e = .returned (.bool r) ∧ Drawn0 w w' := by
 unfold cmp_isNaN_string.f at h
 have H := h
 clear h
 obtain rfl := Option.some.inj H
 go_enter Tryz.func53, Tryz.ntmps53
 go_wp2
 go_ret
 exact ⟨xg, xz⟩
def cmp_Compare_string.f (a0 : ByteArray) (a1 : ByteArray) : Option (Int) := (cmp_isNaN_string.f a0).bind fun t198 => ((cmp_isNaN_string.f a1).bind fun t199 => (if t198 = true then (if t199 = true then (some 0) else (some (-1))) else (if t199 = true then (some 1) else (if (Op.bytesLess a0.toList a1.toList) = true then (some (-1)) else (if (Op.bytesLess a1.toList a0.toList) = true then (some 1) else (some 0))))))
set_option maxHeartbeats 8000000 in
set_option maxRecDepth 100000 in
theorem cmp_Compare_string.calls (a0 : ByteArray) (a1 : ByteArray) (r : Int) (w : World) (hT : Tabs w) (h : cmp_Compare_string.f a0 a1 = some r) :
  Calls Tryz.prog 46 #[.string a0, .string a1] w fun e w' => e = .returned (.int .i64 r) ∧ Drawn0 w w' := by
 unfold cmp_Compare_string.f at h
 have H := h
 clear h
 replace H := xj H
 obtain ⟨t198, A30, H⟩ := H
 try dsimp only at H
 have A3 := xy A30
 clear A30
 replace H := xj H
 obtain ⟨t199, A40, H⟩ := H
 try dsimp only at H
 have A4 := xy A40
 clear A40
 by_cases c5 : t198 = true
 ·subst c5
  rw [if_pos rfl] at H
  by_cases c6 : t199 = true
  ·subst c6
   rw [if_pos rfl] at H
   obtain rfl := Option.some.inj H
   go_enter Tryz.func46, Tryz.ntmps46
   go_wp2_with (first | ((with_reducible refine gate_callee (f := 53) rfl ?_); refine goesL_ (some 8) rfl rfl Tryz.func53 (by kernel_rfl) rfl #[.string a0] rfl xr ?_; (with_reducible refine (cmp_isNaN_string.calls a0 true _ (Tabs.below hT xf) A3.out).mono ?_); rintro e w' ⟨rfl, ⟨nd, rfl⟩⟩; refine ⟨_, rfl, ?_⟩) | ((with_reducible refine gate_callee (f := 53) rfl ?_); refine goesL_ (some 10) rfl rfl Tryz.func53 (by kernel_rfl) rfl #[.string a1] rfl xr ?_; (with_reducible refine (cmp_isNaN_string.calls a1 true _ (Tabs.below hT xf) A4.out).mono ?_); rintro e w' ⟨rfl, ⟨nd, rfl⟩⟩; refine ⟨_, rfl, ?_⟩))
   go_ret
   exact ⟨xg, xz⟩
  ·replace c6 := Bool.eq_false_iff.mpr c6
   subst c6
   rw [if_neg (show ¬ (false = true) by decide)] at H
   obtain rfl := Option.some.inj H
   go_enter Tryz.func46, Tryz.ntmps46
   go_wp2_with (first | ((with_reducible refine gate_callee (f := 53) rfl ?_); refine goesL_ (some 8) rfl rfl Tryz.func53 (by kernel_rfl) rfl #[.string a0] rfl xr ?_; (with_reducible refine (cmp_isNaN_string.calls a0 true _ (Tabs.below hT xf) A3.out).mono ?_); rintro e w' ⟨rfl, ⟨nd, rfl⟩⟩; refine ⟨_, rfl, ?_⟩) | ((with_reducible refine gate_callee (f := 53) rfl ?_); refine goesL_ (some 10) rfl rfl Tryz.func53 (by kernel_rfl) rfl #[.string a1] rfl xr ?_; (with_reducible refine (cmp_isNaN_string.calls a1 false _ (Tabs.below hT xf) A4.out).mono ?_); rintro e w' ⟨rfl, ⟨nd, rfl⟩⟩; refine ⟨_, rfl, ?_⟩))
   go_ret
   exact ⟨xg, xz⟩
 ·replace c5 := Bool.eq_false_iff.mpr c5
  subst c5
  rw [if_neg (show ¬ (false = true) by decide)] at H
  by_cases c7 : t199 = true
  ·subst c7
   rw [if_pos rfl] at H
   obtain rfl := Option.some.inj H
   go_enter Tryz.func46, Tryz.ntmps46
   go_wp2_with (first | ((with_reducible refine gate_callee (f := 53) rfl ?_); refine goesL_ (some 8) rfl rfl Tryz.func53 (by kernel_rfl) rfl #[.string a0] rfl xr ?_; (with_reducible refine (cmp_isNaN_string.calls a0 false _ (Tabs.below hT xf) A3.out).mono ?_); rintro e w' ⟨rfl, ⟨nd, rfl⟩⟩; refine ⟨_, rfl, ?_⟩) | ((with_reducible refine gate_callee (f := 53) rfl ?_); refine goesL_ (some 10) rfl rfl Tryz.func53 (by kernel_rfl) rfl #[.string a1] rfl xr ?_; (with_reducible refine (cmp_isNaN_string.calls a1 true _ (Tabs.below hT xf) A4.out).mono ?_); rintro e w' ⟨rfl, ⟨nd, rfl⟩⟩; refine ⟨_, rfl, ?_⟩))
   go_ret
   exact ⟨xg, xz⟩
  ·replace c7 := Bool.eq_false_iff.mpr c7
   subst c7
   rw [if_neg (show ¬ (false = true) by decide)] at H
   by_cases c8 : (Op.bytesLess a0.toList a1.toList) = true
   ·rw [if_pos c8] at H
    have c8b0 : (Op.bytesLess a0.toList a1.toList) = true := c8
    clear c8
    obtain rfl := Option.some.inj H
    go_enter Tryz.func46, Tryz.ntmps46
    go_wp2_with (first | ((with_reducible refine gate_callee (f := 53) rfl ?_); refine goesL_ (some 8) rfl rfl Tryz.func53 (by kernel_rfl) rfl #[.string a0] rfl xr ?_; (with_reducible refine (cmp_isNaN_string.calls a0 false _ (Tabs.below hT xf) A3.out).mono ?_); rintro e w' ⟨rfl, ⟨nd, rfl⟩⟩; refine ⟨_, rfl, ?_⟩) | ((with_reducible refine gate_callee (f := 53) rfl ?_); refine goesL_ (some 10) rfl rfl Tryz.func53 (by kernel_rfl) rfl #[.string a1] rfl xr ?_; (with_reducible refine (cmp_isNaN_string.calls a1 false _ (Tabs.below hT xf) A4.out).mono ?_); rintro e w' ⟨rfl, ⟨nd, rfl⟩⟩; refine ⟨_, rfl, ?_⟩))
    go_ret
    exact ⟨xg, xz⟩
   ·rw [if_neg c8] at H
    have c8b0 : (Op.bytesLess a0.toList a1.toList) = false := by simpa using c8
    clear c8
    by_cases c9 : (Op.bytesLess a1.toList a0.toList) = true
    ·rw [if_pos c9] at H
     have c9b0 : (Op.bytesLess a1.toList a0.toList) = true := c9
     clear c9
     obtain rfl := Option.some.inj H
     go_enter Tryz.func46, Tryz.ntmps46
     go_wp2_with (first | ((with_reducible refine gate_callee (f := 53) rfl ?_); refine goesL_ (some 8) rfl rfl Tryz.func53 (by kernel_rfl) rfl #[.string a0] rfl xr ?_; (with_reducible refine (cmp_isNaN_string.calls a0 false _ (Tabs.below hT xf) A3.out).mono ?_); rintro e w' ⟨rfl, ⟨nd, rfl⟩⟩; refine ⟨_, rfl, ?_⟩) | ((with_reducible refine gate_callee (f := 53) rfl ?_); refine goesL_ (some 10) rfl rfl Tryz.func53 (by kernel_rfl) rfl #[.string a1] rfl xr ?_; (with_reducible refine (cmp_isNaN_string.calls a1 false _ (Tabs.below hT xf) A4.out).mono ?_); rintro e w' ⟨rfl, ⟨nd, rfl⟩⟩; refine ⟨_, rfl, ?_⟩))
     go_ret
     exact ⟨xg, xz⟩
    ·rw [if_neg c9] at H
     have c9b0 : (Op.bytesLess a1.toList a0.toList) = false := by simpa using c9
     clear c9
     obtain rfl := Option.some.inj H
     go_enter Tryz.func46, Tryz.ntmps46
     go_wp2_with (first | ((with_reducible refine gate_callee (f := 53) rfl ?_); refine goesL_ (some 8) rfl rfl Tryz.func53 (by kernel_rfl) rfl #[.string a0] rfl xr ?_; (with_reducible refine (cmp_isNaN_string.calls a0 false _ (Tabs.below hT xf) A3.out).mono ?_); rintro e w' ⟨rfl, ⟨nd, rfl⟩⟩; refine ⟨_, rfl, ?_⟩) | ((with_reducible refine gate_callee (f := 53) rfl ?_); refine goesL_ (some 10) rfl rfl Tryz.func53 (by kernel_rfl) rfl #[.string a1] rfl xr ?_; (with_reducible refine (cmp_isNaN_string.calls a1 false _ (Tabs.below hT xf) A4.out).mono ?_); rintro e w' ⟨rfl, ⟨nd, rfl⟩⟩; refine ⟨_, rfl, ?_⟩))
     go_ret
     exact ⟨xg, xz⟩
/- Walked functions, by this session's program over the kit's print. -/
mutual
def value_Compare.j0 : Nat → Int → Bool → Bool → Int → ByteArray → Bool → Int → ByteArray → Option (Int)
 | 0, _, _, _, _, _, _, _, _ => none
 | k + 1, x5, x6, x201000, x201001, x201002, x202000, x202001, x202002 => if x6 = true then ((cmp_Compare_int.f x201001 x202001).bind fun t202 => ((cmp_Compare_string.f x201002 x202002).bind fun t203 => ((cmp_Or_int.f k (([1, t202, t203] : List Int))).bind fun t207 => (some t207)))) else (if x201000 = true then (value_Compare.j1 k x5 false x201000 x201001 x201002 x202000 x202001 x202002) else (value_Compare.j1 k x5 x202000 x201000 x201001 x201002 x202000 x202001 x202002))
def value_Compare.j1 : Nat → Int → Bool → Bool → Int → ByteArray → Bool → Int → ByteArray → Option (Int)
 | 0, _, _, _, _, _, _, _, _ => none
 | k + 1, x5, x14, x201000, x201001, x201002, x202000, x202001, x202002 => if x14 = true then ((cmp_Compare_int.f x201001 x202001).bind fun t208 => ((cmp_Compare_string.f x201002 x202002).bind fun t209 => ((cmp_Or_int.f k (([(-1), t208, t209] : List Int))).bind fun t213 => (some t213)))) else ((cmp_Compare_int.f x201001 x202001).bind fun t214 => ((cmp_Compare_string.f x201002 x202002).bind fun t215 => ((cmp_Or_int.f k (([x5, t214, t215] : List Int))).bind fun t219 => (some t219))))
end
def value_Compare.f (k : Nat) (a0_0 : Bool) (a0_1 : Int) (a0_2 : ByteArray) (a1_0 : Bool) (a1_1 : Int) (a1_2 : ByteArray) : Option (Int) := if a0_0 = true then (value_Compare.j0 k 0 (!a1_0) a0_0 a0_1 a0_2 a1_0 a1_1 a1_2) else (value_Compare.j0 k 0 false a0_0 a0_1 a0_2 a1_0 a1_1 a1_2)
theorem value_Compare.mono_l : ∀ k, (∀ y0 y1 y2 y3 y4 y5 y6 y7, LeO (value_Compare.j0 k y0 y1 y2 y3 y4 y5 y6 y7) (value_Compare.j0 (k + 1) y0 y1 y2 y3 y4 y5 y6 y7)) ∧ (∀ y0 y1 y2 y3 y4 y5 y6 y7, LeO (value_Compare.j1 k y0 y1 y2 y3 y4 y5 y6 y7) (value_Compare.j1 (k + 1) y0 y1 y2 y3 y4 y5 y6 y7))
 | 0 => ⟨fun _ _ _ _ _ _ _ _ r h => by simp [value_Compare.j0] at h, fun _ _ _ _ _ _ _ _ r h => by simp [value_Compare.j1] at h⟩
 | k + 1 => by
  obtain ⟨ih0, ih1⟩ := value_Compare.mono_l k
  refine ⟨?_, ?_⟩
  ·intro y0 y1 y2 y3 y4 y5 y6 y7
   unfold value_Compare.j0
   repeat' (with_reducible first | exact ih0 _ _ _ _ _ _ _ _ | exact ih1 _ _ _ _ _ _ _ _ | exact cmp_Or_int.mono _ _ | exact LeO.refl _ | exact LeO.none _ | refine LeO.ite ?_ ?_ | refine LeO.bind ?_ (fun _ => ?_))
  ·intro y0 y1 y2 y3 y4 y5 y6 y7
   unfold value_Compare.j1
   repeat' (with_reducible first | exact ih0 _ _ _ _ _ _ _ _ | exact ih1 _ _ _ _ _ _ _ _ | exact cmp_Or_int.mono _ _ | exact LeO.refl _ | exact LeO.none _ | refine LeO.ite ?_ ?_ | refine LeO.bind ?_ (fun _ => ?_))
theorem value_Compare.mono : ∀ a0 a1 a2 a3 a4 a5 k, LeO (value_Compare.f k a0 a1 a2 a3 a4 a5) (value_Compare.f (k + 1) a0 a1 a2 a3 a4 a5) := by
 intro a0 a1 a2 a3 a4 a5 k
 obtain ⟨ih0, ih1⟩ := value_Compare.mono_l k
 unfold value_Compare.f
 repeat' (with_reducible first | exact ih0 _ _ _ _ _ _ _ _ | exact ih1 _ _ _ _ _ _ _ _ | exact cmp_Or_int.mono _ _ | exact LeO.refl _ | exact LeO.none _ | refine LeO.ite ?_ ?_ | refine LeO.bind ?_ (fun _ => ?_))
def value_Compare.T6 : Bool × List (List Nat × List Nat) := (true, [([], []), ([], []), ([1], [1]), ([], []), ([3], [3]), ([2, 4], [2, 4]), ([], []), ([6], [6]), ([], []), ([8], [8]), ([7, 9, 5], [7, 9]), ([0, 5, 10], [0, 5, 10]), ([11, 10], [11]), ([12, 12, 0, 1, 2, 3, 4, 5, 6, 7, 8, 9, 10, 11, 12], [12])])
def value_Compare.B6 : List Nat := [0, 0, 2, 0, 8, 30, 0, 64, 0, 256, 1022, 2047, 4095, 8191]
theorem value_Compare.tab6 : rtab .any (opsOf Tryz.f96 6) = value_Compare.T6 := by kernel_rfl
theorem value_Compare.bits6 : waitsOk value_Compare.T6.2 value_Compare.B6 = true := by kernel_rfl
set_option maxHeartbeats 8000000 in
set_option maxRecDepth 100000 in
theorem value_Compare.calls (k : Nat) (a0_0 : Bool) (a0_1 : Int) (a0_2 : ByteArray) (a1_0 : Bool) (a1_1 : Int) (a1_2 : ByteArray) (r : Int) (w : World) (hT : Tabs w) (h : value_Compare.f k a0_0 a0_1 a0_2 a1_0 a1_1 a1_2 = some r) :
  Calls Tryz.prog 96 #[.agg #[.bool a0_0, .int .i64 a0_1, .string a0_2], .agg #[.bool a1_0, .int .i64 a1_1, .string a1_2]] w fun e w' => e = .returned (.int .i64 r) ∧ Below w.heap.size w w' := by
 have hu24 := Tryz.underlying24
 have HB := xy (Below.refl w.heap.size w)
 unfold value_Compare.f at h
 have H := h
 clear h
 have HC3 := xy H
 clear H
 go_enter Tryz.func96, Tryz.ntmps96
 go_upto_region 2 with (first | ((with_reducible refine gate_dst (N := 2) rfl ?_); refine xq (N := 2) (cs := #[.bool a0_0, .int .i64 a0_1, .string a0_2]) (t := 24) ?_; intro gb200 hg w4 hbox hb; have BK200 := xy (hbox); have GW200 := xs w hg; have GE200 := xs w hg; replace HB := xy (below_step xb hb); clear hb hbox hg) | ((with_reducible refine gate_dst (N := 3) rfl ?_); refine xq (N := 3) (cs := #[.bool a1_0, .int .i64 a1_1, .string a1_2]) (t := 24) ?_; intro gb201 hg w5 hbox hb; have BK201 := xy (hbox); have GW201 := xs w hg; have GE201 := xs w hg; replace HB := xy (below_step xb hb); have NB200_201 := xn hg BK200.out; have NB201_200 := xp hg BK200.out; replace BK200 := xd BK200.out hb; clear hb hbox hg))
 (try simp only [Act.put, List.setIfInBounds_toArray, List.set_cons_zero, List.set_cons_succ])
 go_cut [6] (fun v6 wc => ∃ (kq : Nat) (x6_2 : Bool), v6 = .bool x6_2 ∧ Aside0 (value_Compare.j0 kq 0 x6_2 a0_0 a0_1 a0_2 a1_0 a1_1 a1_2 = some r) ∧ Aside0 (kq ≤ k) ∧ Aside0 (wc.heap[gb200]? = some (.cells #[.bool a0_0, .int .i64 a0_1, .string a0_2] 24 (0, 0))) ∧ Aside0 (wc.heap[gb201]? = some (.cells #[.bool a1_0, .int .i64 a1_1, .string a1_2] 24 (0, 0))) ∧ Aside0 (Below w.heap.size w wc))
 case first =>
  have H := HC3.out
  clear HC3
  by_cases c6 : a0_0 = true
  ·subst c6
   rw [if_pos rfl] at H
   have H' := xy H
   clear H
   have hnb7 := NB200_201.out
   have hnc7 := NB201_200.out
   have hcz8_0 : w5.cell? ⟨gb200, 0, none⟩ = some (.bool true) := (kc BK200.out 0).trans rfl
   have hcz8_1 : w5.cell? ⟨gb200, 1, none⟩ = some (.int .i64 a0_1) := (kc BK200.out 1).trans rfl
   have hcz8_2 : w5.cell? ⟨gb200, 2, none⟩ = some (.string a0_2) := (kc BK200.out 2).trans rfl
   have hfz8_0 := kf BK200.out 0
   have hfz8_1 := kf BK200.out 1
   have hfz8_2 := kf BK200.out 2
   have hcz9_0 : w5.cell? ⟨gb201, 0, none⟩ = some (.bool a1_0) := (kc BK201.out 0).trans rfl
   have hcz9_1 : w5.cell? ⟨gb201, 1, none⟩ = some (.int .i64 a1_1) := (kc BK201.out 1).trans rfl
   have hcz9_2 : w5.cell? ⟨gb201, 2, none⟩ = some (.string a1_2) := (kc BK201.out 2).trans rfl
   have hfz9_0 := kf BK201.out 0
   have hfz9_1 := kf BK201.out 1
   have hfz9_2 := kf BK201.out 2
   go_wp2
   go_meet
   case rel => exact ⟨_, (!a1_0), xg, H', ⟨by first | omega | exact Nat.le_refl _⟩, ⟨by (with_reducible repeat (first | refine blk_drewN ?_ _ | refine blk_drew ?_ | refine blk_alloc ?_ _)); exact BK200.out⟩, ⟨by (with_reducible repeat (first | refine blk_drewN ?_ _ | refine blk_drew ?_ | refine blk_alloc ?_ _)); exact BK201.out⟩, ⟨xb⟩⟩
  ·replace c6 := Bool.eq_false_iff.mpr c6
   subst c6
   rw [if_neg (show ¬ (false = true) by decide)] at H
   have H' := xy H
   clear H
   have hnb10 := NB200_201.out
   have hnc10 := NB201_200.out
   have hcz11_0 : w5.cell? ⟨gb200, 0, none⟩ = some (.bool false) := (kc BK200.out 0).trans rfl
   have hcz11_1 : w5.cell? ⟨gb200, 1, none⟩ = some (.int .i64 a0_1) := (kc BK200.out 1).trans rfl
   have hcz11_2 : w5.cell? ⟨gb200, 2, none⟩ = some (.string a0_2) := (kc BK200.out 2).trans rfl
   have hfz11_0 := kf BK200.out 0
   have hfz11_1 := kf BK200.out 1
   have hfz11_2 := kf BK200.out 2
   go_wp2
   go_meet
   case rel => exact ⟨_, (false), xg, H', ⟨by first | omega | exact Nat.le_refl _⟩, ⟨by (with_reducible repeat (first | refine blk_drewN ?_ _ | refine blk_drew ?_ | refine blk_alloc ?_ _)); exact BK200.out⟩, ⟨by (with_reducible repeat (first | refine blk_drewN ?_ _ | refine blk_drew ?_ | refine blk_alloc ?_ _)); exact BK201.out⟩, ⟨xb⟩⟩
 case rest =>
  clear HC3
  try clear c1
  try clear p2
  try clear c6
  try clear c7
  try clear c9
  try clear c10
  try clear hcz11_0
  try clear hcz11_1
  try clear hcz11_2
  try clear hcz8_0
  try clear hcz8_1
  try clear hcz8_2
  try clear hcz9_0
  try clear hcz9_1
  try clear hcz9_2
  try clear hfz11_0
  try clear hfz11_1
  try clear hfz11_2
  try clear hfz8_0
  try clear hfz8_1
  try clear hfz8_2
  try clear hfz9_0
  try clear hfz9_1
  try clear hfz9_2
  obtain ⟨kq, x6_2, rfl, HA, HJ2, BK200, BK201, HB⟩ := hcut
  cases kq with
  | zero => exact absurd HA.out (by simp [value_Compare.j0])
  | succ kj2 =>
   have H := HA.out
   clear HA
   simp only [value_Compare.j0] at H
   by_cases c12 : x6_2 = true
   ·subst c12
    rw [if_pos rfl] at H
    replace H := xj H
    obtain ⟨t202, A130, H⟩ := H
    try dsimp only at H
    have A13 := xy A130
    clear A130
    replace H := xj H
    obtain ⟨t203, A140, H⟩ := H
    try dsimp only at H
    have A14 := xy A140
    clear A140
    obtain ⟨y204, hy204⟩ : ∃ y_ : List Int, y_ = (([1, t202, t203] : List Int)) := ⟨_, rfl⟩
    replace H : ((cmp_Or_int.f kj2 y204).bind fun t207 => (some t207)) = some r := by first | (rw [hy204]; with_reducible exact H) | (have H2_ := (Option.bind_some _ _).symm.trans H; rw [hy204]; with_reducible exact H2_) | (have H2_ := (Option.bind_some _ _).symm.trans H; with_reducible exact H2_) | with_reducible exact H | (rw [hy204]; exact H) | exact H
    have Ny204 := xy hy204
    clear hy204
    replace H := xj H
    obtain ⟨t207, A150, H⟩ := H
    try dsimp only at H
    have A15 := xy A150
    clear A150
    obtain rfl := Option.some.inj H
    try go_wp2
    replace BK200 := xy (blk_drew BK200.out)
    replace BK201 := xy (blk_drew BK201.out)
    replace HB := xy (below_drew1 HB.out)
    refine start_ (n := 14) (S := fun w' => w'.cell? ⟨gb200, 0, none⟩ = some (.bool a0_0) ∧ w'.cell? ⟨gb200, 1, none⟩ = some (.int .i64 a0_1) ∧ w'.cell? ⟨gb200, 2, none⟩ = some (.string a0_2) ∧ w'.cell? ⟨gb201, 0, none⟩ = some (.bool a1_0) ∧ w'.cell? ⟨gb201, 1, none⟩ = some (.int .i64 a1_1) ∧ w'.cell? ⟨gb201, 2, none⟩ = some (.string a1_2)) (ds := []) #[false, false, false, false, false, false, false, false, false, false, false, false, false, false] (by kernel_rfl) rfl rfl ⟨(kc BK200.out 0).trans rfl, (kc BK200.out 1).trans rfl, (kc BK200.out 2).trans rfl, (kc BK201.out 0).trans rfl, (kc BK201.out 1).trans rfl, (kc BK201.out 2).trans rfl⟩ (fun hHeld => ?_); refine with_tabW value_Compare.tab6 value_Compare.bits6 (fun HT_ HW_ => ?_)
    generalize wc.drew = w16 at BK200 BK201 HB hHeld ⊢
    refine yz 0 (some 22) (bs 14 1) HT_.out (h := ?_)
    refine yz 1 (some 23) (bs 14 3) HT_.out (h := ?_)
    refine yz 3 (some 25) (bs 14 11) HT_.out (h := ?_)
    refine yz 6 (some 28) (bs 14 75) HT_.out (h := ?_)
    refine yz 8 (some 30) (bs 14 331) HT_.out (h := ?_)
    refine yt 2 (some 24) (bs 14 335) HT_.out HW_.out hHeld (h := ?_)
    refine yt 4 (some 26) (bs 14 351) HT_.out HW_.out hHeld (h := ?_)
    refine yt 7 (some 29) (bs 14 479) HT_.out HW_.out hHeld (h := ?_)
    refine yt 9 (some 31) (bs 14 991) HT_.out HW_.out hHeld (h := ?_)
    refine one_ (i := 5) (N := some 27) #[true, true, true, true, true, true, true, true, true, true, false, false, false, false] rfl rfl (one_of HT_.out (by kernel_rfl)) (by decide) (fun K hK => ?_)
    refine goes_ Tryz.func43 (by kernel_rfl) rfl #[.int .i64 a0_1, .int .i64 a1_1] (by rfl) rfl rfl xr ?_
    with_reducible refine (cmp_Compare_int.calls a0_1 a1_1 t202 _ (Tabs.below hT xf) A13.out).mono ?_
    rintro e w' ⟨rfl, ⟨nd, rfl⟩⟩
    refine ⟨_, rfl, ?_⟩
    refine hK.out _ _ ⟨(kc BK200.out 0).trans rfl, (kc BK200.out 1).trans rfl, (kc BK200.out 2).trans rfl, (kc BK201.out 0).trans rfl, (kc BK201.out 1).trans rfl, (kc BK201.out 2).trans rfl⟩ (fun hHeld => ?_)
    clear hK K
    refine norm_ (a' := ?_) ?_ ?_
    rotate_left
    ·show Act.put _ (some 27) _ = _
     simp only [Act.put, List.setIfInBounds_toArray, List.set_cons_zero, List.set_cons_succ, i64_w, i32_w]
     rfl
    refine one_ (i := 10) (N := some 32) #[true, true, true, true, true, true, true, true, true, true, true, false, false, false] rfl rfl (one_of HT_.out (by kernel_rfl)) (by decide) (fun K hK => ?_)
    refine goes_ Tryz.func46 (by kernel_rfl) rfl #[.string a0_2, .string a1_2] (by rfl) rfl rfl xr ?_
    with_reducible refine (cmp_Compare_string.calls a0_2 a1_2 t203 _ (Tabs.below hT xf) A14.out).mono ?_
    rintro e w' ⟨rfl, ⟨nd, rfl⟩⟩
    refine ⟨_, rfl, ?_⟩
    refine hK.out _ _ ⟨(kc BK200.out 0).trans rfl, (kc BK200.out 1).trans rfl, (kc BK200.out 2).trans rfl, (kc BK201.out 0).trans rfl, (kc BK201.out 1).trans rfl, (kc BK201.out 2).trans rfl⟩ (fun hHeld => ?_)
    clear hK K
    refine norm_ (a' := ?_) ?_ ?_
    rotate_left
    ·show Act.put _ (some 32) _ = _
     simp only [Act.put, List.setIfInBounds_toArray, List.set_cons_zero, List.set_cons_succ, i64_w, i32_w]
     rfl
    refine one_ (i := 11) (N := some 33) #[true, true, true, true, true, true, true, true, true, true, true, true, false, false] rfl rfl (one_of HT_.out (by kernel_rfl)) (by decide) (fun K hK => ?_)
    refine Kd.R_lit_step (Kd.int .i64) _ 3 ?hg (N := 33) ?hd (xs := ([1, t202, t203] : List Int)) (inner := [.int .i64 1, .int .i64 t202, .int .i64 t203]) (ok := fun _ => True) (okp := fun _ => True) ?hr ?hp (fun _ hk => hk) trivial (Below.refl _ _) (Nat.le_refl _) (by simp) ?_; (case hd => rfl); (case hg => rfl); (case hr => exact xh); (case hp => exact (Reps.one (show Kd.M (Kd.int .i64) _ _ _ 1 [.int .i64 1] from rfl) (Reps.one (show Kd.M (Kd.int .i64) _ _ _ t202 [.int .i64 t202] from rfl) (Reps.one (show Kd.M (Kd.int .i64) _ _ _ t203 [.int .i64 t203] from rfl) (Reps.none _ _)))))
    intro v205 w17 ho18 hb hg_ hnew_
    clear hg_ hnew_
    (first | rw [← Ny204.out] at ho18 | (simp only [Int.reduceToNat] at ho18; rw [← Ny204.out] at ho18))
    have HO206 := xy (Kd.R_lower ho18 (below_size xb))
    replace BK200 := xd BK200.out hb
    replace BK201 := xd BK201.out hb
    replace HB := xy (below_step xb hb)
    clear hb ho18
    obtain ⟨Ao19, co19, eo19⟩ := Kd.R_slice HO206.out
    (first | subst eo19 | (injection eo19 with f1_ f2_ f3_; have f4_ := f1_.symm; have f5_ := f3_.symm; clear f1_ f2_ f3_; subst f4_; subst f5_))
    refine hK.out _ _ ⟨(kc BK200.out 0).trans rfl, (kc BK200.out 1).trans rfl, (kc BK200.out 2).trans rfl, (kc BK201.out 0).trans rfl, (kc BK201.out 1).trans rfl, (kc BK201.out 2).trans rfl⟩ (fun hHeld => ?_)
    clear hK K
    refine norm_ (a' := ?_) ?_ ?_
    rotate_left
    ·show Act.put _ (some 33) _ = _
     simp only [Act.put, List.setIfInBounds_toArray, List.set_cons_zero, List.set_cons_succ, i64_w, i32_w]
     rfl
    refine one_ (i := 12) (N := some 34) #[true, true, true, true, true, true, true, true, true, true, true, true, true, false] rfl rfl (one_of HT_.out (by kernel_rfl)) (by decide) (fun K hK => ?_)
    refine goes_ Tryz.func45 (by kernel_rfl) rfl #[.slice Ao19 y204.length co19] (by rfl) rfl rfl xr ?_
    with_reducible refine (cmp_Or_int.calls kj2 _ _ y204 t207 _ (Tabs.below hT xf) ?side1 ?side2 A15.out).mono ?_
    (case side1 => repeat (first | exact (Kd.R_reads' HO206.out).2.2 | (with_reducible refine Kd.C_alloc ?_ _) | (with_reducible refine Kd.C_drewN ?_ _) | (with_reducible refine Kd.C_drew ?_)))
    (case side2 => exact (Kd.R_reads' HO206.out).2.1)
    rintro e w' ⟨rfl, ⟨nd, rfl⟩⟩
    refine ⟨_, rfl, ?_⟩
    refine hK.out _ _ ⟨(kc BK200.out 0).trans rfl, (kc BK200.out 1).trans rfl, (kc BK200.out 2).trans rfl, (kc BK201.out 0).trans rfl, (kc BK201.out 1).trans rfl, (kc BK201.out 2).trans rfl⟩ (fun hHeld => ?_)
    clear hK K
    refine norm_ (a' := ?_) ?_ ?_
    rotate_left
    ·show Act.put _ (some 34) _ = _
     simp only [Act.put, List.setIfInBounds_toArray, List.set_cons_zero, List.set_cons_succ, i64_w, i32_w]
     rfl
    refine yz 13 (some 4) (bs 14 16383) HT_.out (h := ?_)
    refine done_ (done_of HT_.out (by kernel_rfl)) ?_
    try go_wp2
    go_ret
    exact ⟨xe, xb⟩
   ·replace c12 := Bool.eq_false_iff.mpr c12
    subst c12
    rw [if_neg (show ¬ (false = true) by decide)] at H
    have HC20 := xy H
    clear H
    go_upto_region 4 with (fail)
    go_cut [14] (fun v14 wc => ∃ (kq : Nat) (x14_19 : Bool), v14 = .bool x14_19 ∧ Aside0 (value_Compare.j1 kq 0 x14_19 a0_0 a0_1 a0_2 a1_0 a1_1 a1_2 = some r) ∧ Aside0 (kq ≤ kj2) ∧ Aside0 (wc.heap[gb200]? = some (.cells #[.bool a0_0, .int .i64 a0_1, .string a0_2] 24 (0, 0))) ∧ Aside0 (wc.heap[gb201]? = some (.cells #[.bool a1_0, .int .i64 a1_1, .string a1_2] 24 (0, 0))) ∧ Aside0 (Below w.heap.size w wc))
    case first =>
     have H := HC20.out
     clear HC20
     by_cases c21 : a0_0 = true
     ·subst c21
      rw [if_pos rfl] at H
      have H' := xy H
      clear H
      have hnb22 := NB200_201.out
      have hnc22 := NB201_200.out
      have hcz23_0 : wc.cell? ⟨gb200, 0, none⟩ = some (.bool true) := (kc BK200.out 0).trans rfl
      have hcz23_1 : wc.cell? ⟨gb200, 1, none⟩ = some (.int .i64 a0_1) := (kc BK200.out 1).trans rfl
      have hcz23_2 : wc.cell? ⟨gb200, 2, none⟩ = some (.string a0_2) := (kc BK200.out 2).trans rfl
      have hfz23_0 := kf BK200.out 0
      have hfz23_1 := kf BK200.out 1
      have hfz23_2 := kf BK200.out 2
      go_wp2
      go_meet
      case rel => exact ⟨_, (false), xg, H', ⟨by have := HJ2.out; first | omega | exact Nat.le_refl _⟩, ⟨by (with_reducible repeat (first | refine blk_drewN ?_ _ | refine blk_drew ?_ | refine blk_alloc ?_ _)); exact BK200.out⟩, ⟨by (with_reducible repeat (first | refine blk_drewN ?_ _ | refine blk_drew ?_ | refine blk_alloc ?_ _)); exact BK201.out⟩, ⟨xb⟩⟩
     ·replace c21 := Bool.eq_false_iff.mpr c21
      subst c21
      rw [if_neg (show ¬ (false = true) by decide)] at H
      have H' := xy H
      clear H
      have hnb24 := NB200_201.out
      have hnc24 := NB201_200.out
      have hcz25_0 : wc.cell? ⟨gb200, 0, none⟩ = some (.bool false) := (kc BK200.out 0).trans rfl
      have hcz25_1 : wc.cell? ⟨gb200, 1, none⟩ = some (.int .i64 a0_1) := (kc BK200.out 1).trans rfl
      have hcz25_2 : wc.cell? ⟨gb200, 2, none⟩ = some (.string a0_2) := (kc BK200.out 2).trans rfl
      have hfz25_0 := kf BK200.out 0
      have hfz25_1 := kf BK200.out 1
      have hfz25_2 := kf BK200.out 2
      have hcz26_0 : wc.cell? ⟨gb201, 0, none⟩ = some (.bool a1_0) := (kc BK201.out 0).trans rfl
      have hcz26_1 : wc.cell? ⟨gb201, 1, none⟩ = some (.int .i64 a1_1) := (kc BK201.out 1).trans rfl
      have hcz26_2 : wc.cell? ⟨gb201, 2, none⟩ = some (.string a1_2) := (kc BK201.out 2).trans rfl
      have hfz26_0 := kf BK201.out 0
      have hfz26_1 := kf BK201.out 1
      have hfz26_2 := kf BK201.out 2
      go_wp2
      go_meet
      case rel => exact ⟨_, (a1_0), xg, H', ⟨by have := HJ2.out; first | omega | exact Nat.le_refl _⟩, ⟨by (with_reducible repeat (first | refine blk_drewN ?_ _ | refine blk_drew ?_ | refine blk_alloc ?_ _)); exact BK200.out⟩, ⟨by (with_reducible repeat (first | refine blk_drewN ?_ _ | refine blk_drew ?_ | refine blk_alloc ?_ _)); exact BK201.out⟩, ⟨xb⟩⟩
    case rest =>
     clear HC20
     try clear c1
     try clear c2
     try clear p2
     try clear c4
     try clear c6
     try clear c7
     try clear c9
     try clear c10
     try clear c12
     try clear c21
     try clear c22
     try clear c24
     try clear hcz11_0
     try clear hcz11_1
     try clear hcz11_2
     try clear hcz23_0
     try clear hcz23_1
     try clear hcz23_2
     try clear hcz25_0
     try clear hcz25_1
     try clear hcz25_2
     try clear hcz26_0
     try clear hcz26_1
     try clear hcz26_2
     try clear hcz8_0
     try clear hcz8_1
     try clear hcz8_2
     try clear hcz9_0
     try clear hcz9_1
     try clear hcz9_2
     try clear hfz11_0
     try clear hfz11_1
     try clear hfz11_2
     try clear hfz23_0
     try clear hfz23_1
     try clear hfz23_2
     try clear hfz25_0
     try clear hfz25_1
     try clear hfz25_2
     try clear hfz26_0
     try clear hfz26_1
     try clear hfz26_2
     try clear hfz8_0
     try clear hfz8_1
     try clear hfz8_2
     try clear hfz9_0
     try clear hfz9_1
     try clear hfz9_2
     try clear p2
     obtain ⟨kq, x14_19, rfl, HA, HJ19, BK200, BK201, HB⟩ := hcut
     cases kq with
     | zero => exact absurd HA.out (by simp [value_Compare.j1])
     | succ kj19 =>
      have H := HA.out
      clear HA
      simp only [value_Compare.j1] at H
      by_cases c27 : x14_19 = true
      ·subst c27
       rw [if_pos rfl] at H
       replace H := xj H
       obtain ⟨t208, A280, H⟩ := H
       try dsimp only at H
       have A28 := xy A280
       clear A280
       replace H := xj H
       obtain ⟨t209, A290, H⟩ := H
       try dsimp only at H
       have A29 := xy A290
       clear A290
       obtain ⟨y210, hy210⟩ : ∃ y_ : List Int, y_ = (([(-1), t208, t209] : List Int)) := ⟨_, rfl⟩
       replace H : ((cmp_Or_int.f kj19 y210).bind fun t213 => (some t213)) = some r := by first | (rw [hy210]; with_reducible exact H) | (have H2_ := (Option.bind_some _ _).symm.trans H; rw [hy210]; with_reducible exact H2_) | (have H2_ := (Option.bind_some _ _).symm.trans H; with_reducible exact H2_) | with_reducible exact H | (rw [hy210]; exact H) | exact H
       have Ny210 := xy hy210
       clear hy210
       replace H := xj H
       obtain ⟨t213, A300, H⟩ := H
       try dsimp only at H
       have A30 := xy A300
       clear A300
       obtain rfl := Option.some.inj H
       try go_wp2
       replace BK200 := xy (blk_drew BK200.out)
       replace BK201 := xy (blk_drew BK201.out)
       replace HB := xy (below_drew1 HB.out)
       refine start_ (n := 14) (S := fun w' => w'.cell? ⟨gb200, 0, none⟩ = some (.bool a0_0) ∧ w'.cell? ⟨gb200, 1, none⟩ = some (.int .i64 a0_1) ∧ w'.cell? ⟨gb200, 2, none⟩ = some (.string a0_2) ∧ w'.cell? ⟨gb201, 0, none⟩ = some (.bool a1_0) ∧ w'.cell? ⟨gb201, 1, none⟩ = some (.int .i64 a1_1) ∧ w'.cell? ⟨gb201, 2, none⟩ = some (.string a1_2)) (ds := []) #[false, false, false, false, false, false, false, false, false, false, false, false, false, false] (by kernel_rfl) rfl rfl ⟨(kc BK200.out 0).trans rfl, (kc BK200.out 1).trans rfl, (kc BK200.out 2).trans rfl, (kc BK201.out 0).trans rfl, (kc BK201.out 1).trans rfl, (kc BK201.out 2).trans rfl⟩ (fun hHeld => ?_); refine with_tabW value_Compare.tab6 value_Compare.bits6 (fun HT_ HW_ => ?_)
       generalize wc.drew = w31 at BK200 BK201 HB hHeld ⊢
       refine yz 0 (some 22) (bs 14 1) HT_.out (h := ?_)
       refine yz 1 (some 23) (bs 14 3) HT_.out (h := ?_)
       refine yz 3 (some 25) (bs 14 11) HT_.out (h := ?_)
       refine yz 6 (some 28) (bs 14 75) HT_.out (h := ?_)
       refine yz 8 (some 30) (bs 14 331) HT_.out (h := ?_)
       refine yt 2 (some 24) (bs 14 335) HT_.out HW_.out hHeld (h := ?_)
       refine yt 4 (some 26) (bs 14 351) HT_.out HW_.out hHeld (h := ?_)
       refine yt 7 (some 29) (bs 14 479) HT_.out HW_.out hHeld (h := ?_)
       refine yt 9 (some 31) (bs 14 991) HT_.out HW_.out hHeld (h := ?_)
       refine one_ (i := 5) (N := some 27) #[true, true, true, true, true, true, true, true, true, true, false, false, false, false] rfl rfl (one_of HT_.out (by kernel_rfl)) (by decide) (fun K hK => ?_)
       refine goes_ Tryz.func43 (by kernel_rfl) rfl #[.int .i64 a0_1, .int .i64 a1_1] (by rfl) rfl rfl xr ?_
       with_reducible refine (cmp_Compare_int.calls a0_1 a1_1 t208 _ (Tabs.below hT xf) A28.out).mono ?_
       rintro e w' ⟨rfl, ⟨nd, rfl⟩⟩
       refine ⟨_, rfl, ?_⟩
       refine hK.out _ _ ⟨(kc BK200.out 0).trans rfl, (kc BK200.out 1).trans rfl, (kc BK200.out 2).trans rfl, (kc BK201.out 0).trans rfl, (kc BK201.out 1).trans rfl, (kc BK201.out 2).trans rfl⟩ (fun hHeld => ?_)
       clear hK K
       refine norm_ (a' := ?_) ?_ ?_
       rotate_left
       ·show Act.put _ (some 27) _ = _
        simp only [Act.put, List.setIfInBounds_toArray, List.set_cons_zero, List.set_cons_succ, i64_w, i32_w]
        rfl
       refine one_ (i := 10) (N := some 32) #[true, true, true, true, true, true, true, true, true, true, true, false, false, false] rfl rfl (one_of HT_.out (by kernel_rfl)) (by decide) (fun K hK => ?_)
       refine goes_ Tryz.func46 (by kernel_rfl) rfl #[.string a0_2, .string a1_2] (by rfl) rfl rfl xr ?_
       with_reducible refine (cmp_Compare_string.calls a0_2 a1_2 t209 _ (Tabs.below hT xf) A29.out).mono ?_
       rintro e w' ⟨rfl, ⟨nd, rfl⟩⟩
       refine ⟨_, rfl, ?_⟩
       refine hK.out _ _ ⟨(kc BK200.out 0).trans rfl, (kc BK200.out 1).trans rfl, (kc BK200.out 2).trans rfl, (kc BK201.out 0).trans rfl, (kc BK201.out 1).trans rfl, (kc BK201.out 2).trans rfl⟩ (fun hHeld => ?_)
       clear hK K
       refine norm_ (a' := ?_) ?_ ?_
       rotate_left
       ·show Act.put _ (some 32) _ = _
        simp only [Act.put, List.setIfInBounds_toArray, List.set_cons_zero, List.set_cons_succ, i64_w, i32_w]
        rfl
       refine one_ (i := 11) (N := some 33) #[true, true, true, true, true, true, true, true, true, true, true, true, false, false] rfl rfl (one_of HT_.out (by kernel_rfl)) (by decide) (fun K hK => ?_)
       refine Kd.R_lit_step (Kd.int .i64) _ 3 ?hg (N := 33) ?hd (xs := ([(-1), t208, t209] : List Int)) (inner := [.int .i64 (-1), .int .i64 t208, .int .i64 t209]) (ok := fun _ => True) (okp := fun _ => True) ?hr ?hp (fun _ hk => hk) trivial (Below.refl _ _) (Nat.le_refl _) (by simp) ?_; (case hd => rfl); (case hg => rfl); (case hr => exact xh); (case hp => exact (Reps.one (show Kd.M (Kd.int .i64) _ _ _ (-1) [.int .i64 (-1)] from rfl) (Reps.one (show Kd.M (Kd.int .i64) _ _ _ t208 [.int .i64 t208] from rfl) (Reps.one (show Kd.M (Kd.int .i64) _ _ _ t209 [.int .i64 t209] from rfl) (Reps.none _ _)))))
       intro v211 w32 ho33 hb hg_ hnew_
       clear hg_ hnew_
       (first | rw [← Ny210.out] at ho33 | (simp only [Int.reduceToNat] at ho33; rw [← Ny210.out] at ho33))
       have HO212 := xy (Kd.R_lower ho33 (below_size xb))
       replace BK200 := xd BK200.out hb
       replace BK201 := xd BK201.out hb
       replace HB := xy (below_step xb hb)
       clear hb ho33
       obtain ⟨Ao34, co34, eo34⟩ := Kd.R_slice HO212.out
       (first | subst eo34 | (injection eo34 with f1_ f2_ f3_; have f4_ := f1_.symm; have f5_ := f3_.symm; clear f1_ f2_ f3_; subst f4_; subst f5_))
       refine hK.out _ _ ⟨(kc BK200.out 0).trans rfl, (kc BK200.out 1).trans rfl, (kc BK200.out 2).trans rfl, (kc BK201.out 0).trans rfl, (kc BK201.out 1).trans rfl, (kc BK201.out 2).trans rfl⟩ (fun hHeld => ?_)
       clear hK K
       refine norm_ (a' := ?_) ?_ ?_
       rotate_left
       ·show Act.put _ (some 33) _ = _
        simp only [Act.put, List.setIfInBounds_toArray, List.set_cons_zero, List.set_cons_succ, i64_w, i32_w]
        rfl
       refine one_ (i := 12) (N := some 34) #[true, true, true, true, true, true, true, true, true, true, true, true, true, false] rfl rfl (one_of HT_.out (by kernel_rfl)) (by decide) (fun K hK => ?_)
       refine goes_ Tryz.func45 (by kernel_rfl) rfl #[.slice Ao34 y210.length co34] (by rfl) rfl rfl xr ?_
       with_reducible refine (cmp_Or_int.calls kj19 _ _ y210 t213 _ (Tabs.below hT xf) ?side1 ?side2 A30.out).mono ?_
       (case side1 => repeat (first | exact (Kd.R_reads' HO212.out).2.2 | (with_reducible refine Kd.C_alloc ?_ _) | (with_reducible refine Kd.C_drewN ?_ _) | (with_reducible refine Kd.C_drew ?_)))
       (case side2 => exact (Kd.R_reads' HO212.out).2.1)
       rintro e w' ⟨rfl, ⟨nd, rfl⟩⟩
       refine ⟨_, rfl, ?_⟩
       refine hK.out _ _ ⟨(kc BK200.out 0).trans rfl, (kc BK200.out 1).trans rfl, (kc BK200.out 2).trans rfl, (kc BK201.out 0).trans rfl, (kc BK201.out 1).trans rfl, (kc BK201.out 2).trans rfl⟩ (fun hHeld => ?_)
       clear hK K
       refine norm_ (a' := ?_) ?_ ?_
       rotate_left
       ·show Act.put _ (some 34) _ = _
        simp only [Act.put, List.setIfInBounds_toArray, List.set_cons_zero, List.set_cons_succ, i64_w, i32_w]
        rfl
       refine yz 13 (some 4) (bs 14 16383) HT_.out (h := ?_)
       refine done_ (done_of HT_.out (by kernel_rfl)) ?_
       try go_wp2
       go_ret
       exact ⟨xe, xb⟩
      ·replace c27 := Bool.eq_false_iff.mpr c27
       subst c27
       rw [if_neg (show ¬ (false = true) by decide)] at H
       replace H := xj H
       obtain ⟨t214, A350, H⟩ := H
       try dsimp only at H
       have A35 := xy A350
       clear A350
       replace H := xj H
       obtain ⟨t215, A360, H⟩ := H
       try dsimp only at H
       have A36 := xy A360
       clear A360
       obtain ⟨y216, hy216⟩ : ∃ y_ : List Int, y_ = (([0, t214, t215] : List Int)) := ⟨_, rfl⟩
       replace H : ((cmp_Or_int.f kj19 y216).bind fun t219 => (some t219)) = some r := by first | (rw [hy216]; with_reducible exact H) | (have H2_ := (Option.bind_some _ _).symm.trans H; rw [hy216]; with_reducible exact H2_) | (have H2_ := (Option.bind_some _ _).symm.trans H; with_reducible exact H2_) | with_reducible exact H | (rw [hy216]; exact H) | exact H
       have Ny216 := xy hy216
       clear hy216
       replace H := xj H
       obtain ⟨t219, A370, H⟩ := H
       try dsimp only at H
       have A37 := xy A370
       clear A370
       obtain rfl := Option.some.inj H
       try go_wp2
       replace BK200 := xy (blk_drew BK200.out)
       replace BK201 := xy (blk_drew BK201.out)
       replace HB := xy (below_drew1 HB.out)
       refine start_ (n := 14) (S := fun w' => w'.cell? ⟨gb200, 0, none⟩ = some (.bool a0_0) ∧ w'.cell? ⟨gb200, 1, none⟩ = some (.int .i64 a0_1) ∧ w'.cell? ⟨gb200, 2, none⟩ = some (.string a0_2) ∧ w'.cell? ⟨gb201, 0, none⟩ = some (.bool a1_0) ∧ w'.cell? ⟨gb201, 1, none⟩ = some (.int .i64 a1_1) ∧ w'.cell? ⟨gb201, 2, none⟩ = some (.string a1_2)) (ds := []) #[false, false, false, false, false, false, false, false, false, false, false, false, false, false] (by kernel_rfl) rfl rfl ⟨(kc BK200.out 0).trans rfl, (kc BK200.out 1).trans rfl, (kc BK200.out 2).trans rfl, (kc BK201.out 0).trans rfl, (kc BK201.out 1).trans rfl, (kc BK201.out 2).trans rfl⟩ (fun hHeld => ?_); refine with_tabW value_Compare.tab6 value_Compare.bits6 (fun HT_ HW_ => ?_)
       generalize wc.drew = w38 at BK200 BK201 HB hHeld ⊢
       refine yz 0 (some 22) (bs 14 1) HT_.out (h := ?_)
       refine yz 1 (some 23) (bs 14 3) HT_.out (h := ?_)
       refine yz 3 (some 25) (bs 14 11) HT_.out (h := ?_)
       refine yz 6 (some 28) (bs 14 75) HT_.out (h := ?_)
       refine yz 8 (some 30) (bs 14 331) HT_.out (h := ?_)
       refine yt 2 (some 24) (bs 14 335) HT_.out HW_.out hHeld (h := ?_)
       refine yt 4 (some 26) (bs 14 351) HT_.out HW_.out hHeld (h := ?_)
       refine yt 7 (some 29) (bs 14 479) HT_.out HW_.out hHeld (h := ?_)
       refine yt 9 (some 31) (bs 14 991) HT_.out HW_.out hHeld (h := ?_)
       refine one_ (i := 5) (N := some 27) #[true, true, true, true, true, true, true, true, true, true, false, false, false, false] rfl rfl (one_of HT_.out (by kernel_rfl)) (by decide) (fun K hK => ?_)
       refine goes_ Tryz.func43 (by kernel_rfl) rfl #[.int .i64 a0_1, .int .i64 a1_1] (by rfl) rfl rfl xr ?_
       with_reducible refine (cmp_Compare_int.calls a0_1 a1_1 t214 _ (Tabs.below hT xf) A35.out).mono ?_
       rintro e w' ⟨rfl, ⟨nd, rfl⟩⟩
       refine ⟨_, rfl, ?_⟩
       refine hK.out _ _ ⟨(kc BK200.out 0).trans rfl, (kc BK200.out 1).trans rfl, (kc BK200.out 2).trans rfl, (kc BK201.out 0).trans rfl, (kc BK201.out 1).trans rfl, (kc BK201.out 2).trans rfl⟩ (fun hHeld => ?_)
       clear hK K
       refine norm_ (a' := ?_) ?_ ?_
       rotate_left
       ·show Act.put _ (some 27) _ = _
        simp only [Act.put, List.setIfInBounds_toArray, List.set_cons_zero, List.set_cons_succ, i64_w, i32_w]
        rfl
       refine one_ (i := 10) (N := some 32) #[true, true, true, true, true, true, true, true, true, true, true, false, false, false] rfl rfl (one_of HT_.out (by kernel_rfl)) (by decide) (fun K hK => ?_)
       refine goes_ Tryz.func46 (by kernel_rfl) rfl #[.string a0_2, .string a1_2] (by rfl) rfl rfl xr ?_
       with_reducible refine (cmp_Compare_string.calls a0_2 a1_2 t215 _ (Tabs.below hT xf) A36.out).mono ?_
       rintro e w' ⟨rfl, ⟨nd, rfl⟩⟩
       refine ⟨_, rfl, ?_⟩
       refine hK.out _ _ ⟨(kc BK200.out 0).trans rfl, (kc BK200.out 1).trans rfl, (kc BK200.out 2).trans rfl, (kc BK201.out 0).trans rfl, (kc BK201.out 1).trans rfl, (kc BK201.out 2).trans rfl⟩ (fun hHeld => ?_)
       clear hK K
       refine norm_ (a' := ?_) ?_ ?_
       rotate_left
       ·show Act.put _ (some 32) _ = _
        simp only [Act.put, List.setIfInBounds_toArray, List.set_cons_zero, List.set_cons_succ, i64_w, i32_w]
        rfl
       refine one_ (i := 11) (N := some 33) #[true, true, true, true, true, true, true, true, true, true, true, true, false, false] rfl rfl (one_of HT_.out (by kernel_rfl)) (by decide) (fun K hK => ?_)
       refine Kd.R_lit_step (Kd.int .i64) _ 3 ?hg (N := 33) ?hd (xs := ([0, t214, t215] : List Int)) (inner := [.int .i64 0, .int .i64 t214, .int .i64 t215]) (ok := fun _ => True) (okp := fun _ => True) ?hr ?hp (fun _ hk => hk) trivial (Below.refl _ _) (Nat.le_refl _) (by simp) ?_; (case hd => rfl); (case hg => rfl); (case hr => exact xh); (case hp => exact (Reps.one (show Kd.M (Kd.int .i64) _ _ _ 0 [.int .i64 0] from rfl) (Reps.one (show Kd.M (Kd.int .i64) _ _ _ t214 [.int .i64 t214] from rfl) (Reps.one (show Kd.M (Kd.int .i64) _ _ _ t215 [.int .i64 t215] from rfl) (Reps.none _ _)))))
       intro v217 w39 ho40 hb hg_ hnew_
       clear hg_ hnew_
       (first | rw [← Ny216.out] at ho40 | (simp only [Int.reduceToNat] at ho40; rw [← Ny216.out] at ho40))
       have HO218 := xy (Kd.R_lower ho40 (below_size xb))
       replace BK200 := xd BK200.out hb
       replace BK201 := xd BK201.out hb
       replace HB := xy (below_step xb hb)
       clear hb ho40
       obtain ⟨Ao41, co41, eo41⟩ := Kd.R_slice HO218.out
       (first | subst eo41 | (injection eo41 with f1_ f2_ f3_; have f4_ := f1_.symm; have f5_ := f3_.symm; clear f1_ f2_ f3_; subst f4_; subst f5_))
       refine hK.out _ _ ⟨(kc BK200.out 0).trans rfl, (kc BK200.out 1).trans rfl, (kc BK200.out 2).trans rfl, (kc BK201.out 0).trans rfl, (kc BK201.out 1).trans rfl, (kc BK201.out 2).trans rfl⟩ (fun hHeld => ?_)
       clear hK K
       refine norm_ (a' := ?_) ?_ ?_
       rotate_left
       ·show Act.put _ (some 33) _ = _
        simp only [Act.put, List.setIfInBounds_toArray, List.set_cons_zero, List.set_cons_succ, i64_w, i32_w]
        rfl
       refine one_ (i := 12) (N := some 34) #[true, true, true, true, true, true, true, true, true, true, true, true, true, false] rfl rfl (one_of HT_.out (by kernel_rfl)) (by decide) (fun K hK => ?_)
       refine goes_ Tryz.func45 (by kernel_rfl) rfl #[.slice Ao41 y216.length co41] (by rfl) rfl rfl xr ?_
       with_reducible refine (cmp_Or_int.calls kj19 _ _ y216 t219 _ (Tabs.below hT xf) ?side1 ?side2 A37.out).mono ?_
       (case side1 => repeat (first | exact (Kd.R_reads' HO218.out).2.2 | (with_reducible refine Kd.C_alloc ?_ _) | (with_reducible refine Kd.C_drewN ?_ _) | (with_reducible refine Kd.C_drew ?_)))
       (case side2 => exact (Kd.R_reads' HO218.out).2.1)
       rintro e w' ⟨rfl, ⟨nd, rfl⟩⟩
       refine ⟨_, rfl, ?_⟩
       refine hK.out _ _ ⟨(kc BK200.out 0).trans rfl, (kc BK200.out 1).trans rfl, (kc BK200.out 2).trans rfl, (kc BK201.out 0).trans rfl, (kc BK201.out 1).trans rfl, (kc BK201.out 2).trans rfl⟩ (fun hHeld => ?_)
       clear hK K
       refine norm_ (a' := ?_) ?_ ?_
       rotate_left
       ·show Act.put _ (some 34) _ = _
        simp only [Act.put, List.setIfInBounds_toArray, List.set_cons_zero, List.set_cons_succ, i64_w, i32_w]
        rfl
       refine yz 13 (some 4) (bs 14 16383) HT_.out (h := ?_)
       refine done_ (done_of HT_.out (by kernel_rfl)) ?_
       try go_wp2
       go_ret
       exact ⟨xe, xb⟩
end Go.Proofs.YtebofnoljebakaaGreatDoor.PX
