/- Walked functions, by this session's program over the kit's print. -/
import Derived.Test.YtialoecplmnjfaaGreatDoorPXx0
import Derived.Test.YtialoecplmnjfaaGreatDoorPXx3
import Derived.Test.YtialoecplmnjfaaGreatDoorPXx17
import Derived.Test.YtialoecplmnjfaaGreatDoorPXx18
namespace Go.Proofs.YtialoecplmnjfaaGreatDoor.PX
open Go.RowKit Go.Proofs.YtialoecplmnjfaaGreatDoorW.PrintWords Go.Proofs.YtialoecplmnjfaaGreatDoorW.PrintLast Go.Proofs.YtialoecplmnjfaaGreatDoorW.PrintMore
attribute [local go_sem] xm_gtr max2_int min2_int max_two min_two max_three min_three max_four min_four
set_option linter.unusedVariables false
set_option linter.unusedSimpArgs false
/- Walked functions, by this session's program over the kit's print. -/
theorem eqA55 (d : Nat) (w : World) (x0 y0 : ByteArray) (x1 y1 : Bool) (x2 y2 : Int) (x3 y3 : ByteArray) :
  (Op.equalIn (d + 3) 55 (.agg #[.string x0, .bool x1, .int .i64 x2, .string x3]) (.agg #[.string y0, .bool y1, .int .i64 y2, .string y3])).run Tryz.prog w = .ok (x0.toList == y0.toList && ((x1 == y1 && (x2 == y2 && (x3.toList == y3.toList))))) w := by
 refine eqA_of Tryz.underlying55 (by kernel_rfl) ?_
 refine eqf_cons (by rfl) (by go_simp; rfl) (by go_simp; rfl) (by go_simp) ?_
 exact eqf_last (by rfl) (by go_simp) (by go_simp) (eqA24 (d + 0) w _ _ _ _ _ _)
section
/- Walked functions, by this session's program over the kit's print. -/
attribute [local go_sem high] eqA55
def mapper_Item.l0 : Nat → List (S55) → List (S55) → Int → Int → Option (Bool)
 | 0, _, _, _, _ => none
 | k + 1, x0, x1, x12, x13 => if x13 < x12 then (if 0 ≤ x13 then (if x13 < (x0.length : Int) then (if x13 < (x1.length : Int) then (if (!((((rd_T55 x0 x13).f0).toList) == (((rd_T55 x1 x13).f0).toList)) || ((!(((rd_T55 x0 x13).f1.f0) == ((rd_T55 x1 x13).f1.f0)) || (!(((rd_T55 x0 x13).f1.f1) == ((rd_T55 x1 x13).f1.f1)) || (!((((rd_T55 x0 x13).f1.f2).toList) == (((rd_T55 x1 x13).f1.f2).toList))))))) = true then (some false) else (mapper_Item.l0 k x0 x1 x12 (wrap64 (x13 + 1)))) else (none)) else (none)) else (none)) else (some true)
def mapper_Item.f (k : Nat) (l0 : List (S55)) (l1 : List (S55)) : Option (Bool) := if (l0.length : Int) = (l1.length : Int) then (mapper_Item.l0 k l0 l1 (l0.length : Int) 0) else (some false)
theorem mapper_Item.mono_l : ∀ k, (∀ y0 y1 y2 y3, LeO (mapper_Item.l0 k y0 y1 y2 y3) (mapper_Item.l0 (k + 1) y0 y1 y2 y3))
 | 0 => fun _ _ _ _ r h => by simp [mapper_Item.l0] at h
 | k + 1 => by
  have ih0 := mapper_Item.mono_l k
  ·intro y0 y1 y2 y3
   unfold mapper_Item.l0
   repeat' (with_reducible first | exact ih0 _ _ _ _ | exact LeO.refl _ | exact LeO.none _ | refine LeO.ite ?_ ?_ | refine LeO.bind ?_ (fun _ => ?_))
theorem mapper_Item.mono : ∀ a0 a1 k, LeO (mapper_Item.f k a0 a1) (mapper_Item.f (k + 1) a0 a1) := by
 intro a0 a1 k
 have ih0 := mapper_Item.mono_l k
 unfold mapper_Item.f
 repeat' (with_reducible first | exact ih0 _ _ _ _ | exact LeO.refl _ | exact LeO.none _ | refine LeO.ite ?_ ?_ | refine LeO.bind ?_ (fun _ => ?_))
set_option maxHeartbeats 8000000 in
set_option maxRecDepth 100000 in
theorem mapper_Item.calls (k : Nat) (A0 : Option Addr) (c0 : Nat) (l0 : List (S55)) (A1 : Option Addr) (c1 : Nat) (l1 : List (S55)) (r : Bool) (w : World) (hT : Tabs w) (hr0 : Kd.C k55 w A0 l0.length l0) (hc0 : l0.length ≤ c0) (hr1 : Kd.C k55 w A1 l1.length l1) (hc1 : l1.length ≤ c1) (h : mapper_Item.f k l0 l1 = some r) :
  Calls Tryz.prog 25 #[.slice A0 l0.length c0, .slice A1 l1.length c1] w fun e w' => e = .returned (.bool r) ∧ Drawn0 w w' := by
 have hu55 := Tryz.underlying55
 have HR0 := xy hr0
 have HC0 := xy hc0
 clear hr0 hc0
 have HR1 := xy hr1
 have HC1 := xy hc1
 clear hr1 hc1
 unfold mapper_Item.f at h
 have H := h
 clear h
 by_cases c3 : (l0.length : Int) = (l1.length : Int)
 ·rw [if_pos c3] at H
  have c3b0 : ((l0.length : Int) == (l1.length : Int)) = true := beq_iff_eq.mpr c3
  have c3b1 : ((l0.length : Int) != (l1.length : Int)) = false := bne_eq_false_iff_eq.mpr c3
  have c3b2 : (l0.length == l1.length) = true := by first | simpa using c3 | (simp at c3 ⊢; omega)
  clear c3
  have H' := xy H
  clear H
  go_enter Tryz.func25, Tryz.ntmps25
  go_wp2
  repeat (go_quiet (fail); try go_wp2)
  go_loopg [13] k (fun kq v13 w' => ∃ (x13_1 : Int), v13 = .int .i64 x13_1 ∧ Aside0 (mapper_Item.l0 kq l0 l1 (l0.length : Int) x13_1 = some r) ∧ Aside0 (kq ≤ k) ∧ Drawn0 w w')
  case atStart => exact ⟨(0), xg, H', ⟨Nat.le_refl _⟩, by repeat (first | exact Drawn0.refl _ | apply Drawn0.step)⟩
  case round =>
   clear H'
   try clear c1
   try clear c2
   try clear p2
   try clear c3
   try clear c3b0
   try clear c3b1
   try clear c3b2
   obtain ⟨x13_1, rfl, HA, HK1, ⟨m1, rfl⟩⟩ := hrel
   cases gk with
   | zero => exact absurd HA.out (by simp [mapper_Item.l0])
   | succ k1 =>
    have H := HA.out
    clear HA
    simp only [mapper_Item.l0] at H
    by_cases c4 : x13_1 < (l0.length : Int)
    ·rw [if_pos c4] at H
     have c4b0 : decide (x13_1 < (l0.length : Int)) = true := decide_eq_true c4
     clear c4
     by_cases c5 : 0 ≤ x13_1
     ·rw [if_pos c5] at H
      have c5b0 : decide (0 ≤ x13_1) = true := decide_eq_true c5
      clear c5
      by_cases c6 : x13_1 < (l0.length : Int)
      ·rw [if_pos c6] at H
       have c6b0 : decide (x13_1 < (l0.length : Int)) = true := decide_eq_true c6
       clear c6
       by_cases c7 : x13_1 < (l1.length : Int)
       ·rw [if_pos c7] at H
        have c7b0 : decide (x13_1 < (l1.length : Int)) = true := decide_eq_true c7
        clear c7
        by_cases c8 : (!((((rd_T55 l0 x13_1).f0).toList) == (((rd_T55 l1 x13_1).f0).toList)) || ((!(((rd_T55 l0 x13_1).f1.f0) == ((rd_T55 l1 x13_1).f1.f0)) || (!(((rd_T55 l0 x13_1).f1.f1) == ((rd_T55 l1 x13_1).f1.f1)) || (!((((rd_T55 l0 x13_1).f1.f2).toList) == (((rd_T55 l1 x13_1).f1.f2).toList))))))) = true
        ·rw [if_pos c8] at H
         have c8b0 : (!((((rd_T55 l0 x13_1).f0).toList) == (((rd_T55 l1 x13_1).f0).toList)) || ((!(((rd_T55 l0 x13_1).f1.f0) == ((rd_T55 l1 x13_1).f1.f0)) || (!(((rd_T55 l0 x13_1).f1.f1) == ((rd_T55 l1 x13_1).f1.f1)) || (!((((rd_T55 l0 x13_1).f1.f2).toList) == (((rd_T55 l1 x13_1).f1.f2).toList))))))) = true := c8
         clear c8
         obtain rfl := Option.some.inj H
         have p453 : 0 ≤ (x13_1 : Int) := xi
         have q453 : x13_1 < (l0.length : Int) := xi
         obtain ⟨ad453, e453, hx453_0, hx453_1, hx453_2, hx453_3⟩ := at_T55 HR0.out x13_1 p453 q453
         cases e453
         replace p453 := eq_true p453
         replace q453 := eq_true q453
         have p454 : 0 ≤ (x13_1 : Int) := xi
         have q454 : x13_1 < (l1.length : Int) := xi
         obtain ⟨ad454, e454, hx454_0, hx454_1, hx454_2, hx454_3⟩ := at_T55 HR1.out x13_1 p454 q454
         cases e454
         replace p454 := eq_true p454
         replace q454 := eq_true q454
         go_wp2
         repeat (go_quiet (fail); try go_wp2)
         go_ret
         exact ⟨xg, xz⟩
        ·rw [if_neg c8] at H
         have c8b0 : (!((((rd_T55 l0 x13_1).f0).toList) == (((rd_T55 l1 x13_1).f0).toList)) || ((!(((rd_T55 l0 x13_1).f1.f0) == ((rd_T55 l1 x13_1).f1.f0)) || (!(((rd_T55 l0 x13_1).f1.f1) == ((rd_T55 l1 x13_1).f1.f1)) || (!((((rd_T55 l0 x13_1).f1.f2).toList) == (((rd_T55 l1 x13_1).f1.f2).toList))))))) = false := by simpa using c8
         clear c8
         have H' := xy H
         clear H
         have p453 : 0 ≤ (x13_1 : Int) := xi
         have q453 : x13_1 < (l0.length : Int) := xi
         obtain ⟨ad453, e453, hx453_0, hx453_1, hx453_2, hx453_3⟩ := at_T55 HR0.out x13_1 p453 q453
         cases e453
         replace p453 := eq_true p453
         replace q453 := eq_true q453
         have p454 : 0 ≤ (x13_1 : Int) := xi
         have q454 : x13_1 < (l1.length : Int) := xi
         obtain ⟨ad454, e454, hx454_0, hx454_1, hx454_2, hx454_3⟩ := at_T55 HR1.out x13_1 p454 q454
         cases e454
         replace p454 := eq_true p454
         replace q454 := eq_true q454
         go_wp2
         repeat (go_quiet (fail); try go_wp2)
         go_roundg k1
         case measure => have := HK1.out; omega
         case rel => exact ⟨(wrap64 (x13_1 + 1)), xg, H', ⟨by have := HK1.out; omega⟩, by repeat (first | exact Drawn0.refl _ | apply Drawn0.step)⟩
       ·rw [if_neg c7] at H
        exact absurd H (by simp)
      ·rw [if_neg c6] at H
       exact absurd H (by simp)
     ·rw [if_neg c5] at H
      exact absurd H (by simp)
    ·rw [if_neg c4] at H
     have c4b0 : decide (x13_1 < (l0.length : Int)) = false := decide_eq_false c4
     clear c4
     obtain rfl := Option.some.inj H
     go_wp2
     repeat (go_quiet (fail); try go_wp2)
     go_ret
     exact ⟨xg, xz⟩
 ·rw [if_neg c3] at H
  have c3b0 : ((l0.length : Int) == (l1.length : Int)) = false := beq_eq_false_iff_ne.mpr c3
  have c3b1 : ((l0.length : Int) != (l1.length : Int)) = true := bne_iff_ne.mpr c3
  have c3b2 : (l0.length == l1.length) = false := by first | simpa using c3 | (simp at c3 ⊢; omega)
  obtain rfl := Option.some.inj H
  go_enter Tryz.func25, Tryz.ntmps25
  go_wp2
  repeat (go_quiet (fail); try go_wp2)
  go_ret
  exact ⟨xg, xz⟩
def mapper_Same.f (k : Nat) (l0 : List (S55)) (l1 : List (S55)) : Option (Bool) := (mapper_Item.f k l0 l1).bind fun t455 => (some t455)
theorem mapper_Same.mono : ∀ a0 a1 k, LeO (mapper_Same.f k a0 a1) (mapper_Same.f (k + 1) a0 a1) := by
 intro a0 a1 k
 unfold mapper_Same.f
 repeat' (with_reducible first | exact mapper_Item.mono _ _ _ | exact LeO.refl _ | exact LeO.none _ | refine LeO.ite ?_ ?_ | refine LeO.bind ?_ (fun _ => ?_))
set_option maxHeartbeats 8000000 in
set_option maxRecDepth 100000 in
theorem mapper_Same.calls (k : Nat) (A0 : Option Addr) (c0 : Nat) (l0 : List (S55)) (A1 : Option Addr) (c1 : Nat) (l1 : List (S55)) (r : Bool) (w : World) (hT : Tabs w) (hr0 : Kd.C k55 w A0 l0.length l0) (hc0 : l0.length ≤ c0) (hr1 : Kd.C k55 w A1 l1.length l1) (hc1 : l1.length ≤ c1) (h : mapper_Same.f k l0 l1 = some r) :
  Calls Tryz.prog 16 #[.slice A0 l0.length c0, .slice A1 l1.length c1] w fun e w' => e = .returned (.bool r) ∧ Drawn0 w w' := by
 have HR0 := xy hr0
 have HC0 := xy hc0
 clear hr0 hc0
 have HR1 := xy hr1
 have HC1 := xy hc1
 clear hr1 hc1
 unfold mapper_Same.f at h
 have H := h
 clear h
 replace H := xj H
 obtain ⟨t455, A30, H⟩ := H
 try dsimp only at H
 have A3 := xy A30
 clear A30
 obtain rfl := Option.some.inj H
 go_enter Tryz.func16, Tryz.ntmps16
 go_wp2_with (first | ((with_reducible refine gate_callee (f := 25) rfl ?_); refine goesL_ (some 7) rfl rfl Tryz.func25 (by kernel_rfl) rfl #[.slice A0 l0.length c0, .slice A1 l1.length c1] rfl xr ?_; (with_reducible refine (mapper_Item.calls k _ _ l0 _ _ l1 t455 _ (Tabs.below hT xf) ?side1 ?side2 ?side3 ?side4 A3.out).mono ?_); (case side1 => repeat (first | exact HR0.out | (with_reducible refine Kd.C_alloc ?_ _) | (with_reducible refine Kd.C_drewN ?_ _) | (with_reducible refine Kd.C_drew ?_))); (case side2 => exact HC0.out); (case side3 => repeat (first | exact HR1.out | (with_reducible refine Kd.C_alloc ?_ _) | (with_reducible refine Kd.C_drewN ?_ _) | (with_reducible refine Kd.C_drew ?_))); (case side4 => exact HC1.out); rintro e w' ⟨rfl, ⟨nd, rfl⟩⟩; refine ⟨_, rfl, ?_⟩))
 go_ret
 exact ⟨xg, xz⟩
end
/- Walked functions, by this session's program over the kit's print. -/
mutual
def w18_MapperAll.j0 : Nat → List (List ByteArray) → Bool → Bool → List (S50) → List (S50) → List (S50) → Int → List (S50) → Bool → Int → ByteArray → Bool → Int → Bool → Bool → Int → Option (Bool)
 | 0, _, _, _, _, _, _, _, _, _, _, _, _, _, _, _, _ => none
 | k + 1, x1, x20, x457000, x457001, x457002, x457003, x457004, x457005, x457006, x457007, x457008, x457009, x457010, x457011, x457012, x457013 => if x20 = true then ((w18_alive.f k).bind fun t459 => (some t459)) else (w18_MapperAll.l0 k x1 0 0 x457000 x457001 x457002 x457003 x457004 x457005 x457006 x457007 x457008 x457009 x457010 x457011 x457012 x457013)
def w18_MapperAll.l0 : Nat → List (List ByteArray) → Int → Int → Bool → List (S50) → List (S50) → List (S50) → Int → List (S50) → Bool → Int → ByteArray → Bool → Int → Bool → Bool → Int → Option (Bool)
 | 0, _, _, _, _, _, _, _, _, _, _, _, _, _, _, _, _, _ => none
 | k + 1, x1, x5, x6, x457000, x457001, x457002, x457003, x457004, x457005, x457006, x457007, x457008, x457009, x457010, x457011, x457012, x457013 => if x6 < (x1.length : Int) then (if 0 ≤ x6 then ((mapper_See.f k x457000 x457001 x457002 x457003 x457004 x457005 x457006 x457007 x457008 x457009 x457010 x457011 x457012 x457013 (rd_L7 x1 x6)).bind fun t461 => (w18_MapperAll.l0 k x1 (wrap64 (x5 + (t461.length : Int))) (wrap64 (x6 + 1)) x457000 x457001 x457002 x457003 x457004 x457005 x457006 x457007 x457008 x457009 x457010 x457011 x457012 x457013)) else (none)) else ((mapper_Map.f k x457000 ([] : List (S50)) x457002 x457003 x457004 x457005 x457006 x457007 x457008 x457009 x457010 x457011 x457012 x457013 x1).bind fun bt464 => ((mapper_Map.f k x457000 (([(⟨0, 1, (⟨#[]⟩ : ByteArray)⟩ : S50)] : List (S50))) x457002 x457003 x457004 x457005 x457006 x457007 x457008 x457009 x457010 x457011 x457012 x457013 x1).bind fun bt471 => ((mapper_Map.f k x457000 (([(⟨0, 0, (⟨#[]⟩ : ByteArray)⟩ : S50)] : List (S50))) x457002 x457003 x457004 x457005 x457006 x457007 x457008 x457009 x457010 x457011 x457012 x457013 x1).bind fun bt478 => (if bt464.2 = 0 then (if bt471.2 = 0 then (w18_MapperAll.j2 k x5 bt464.1 bt471.1 bt478.1 (bt478.2 != 0)) else (w18_MapperAll.j2 k x5 bt464.1 bt471.1 bt478.1 true)) else (w18_MapperAll.j2 k x5 bt464.1 bt471.1 bt478.1 true)))))
def w18_MapperAll.j2 : Nat → Int → List (S55) → List (S55) → List (S55) → Bool → Option (Bool)
 | 0, _, _, _, _, _ => none
 | k + 1, x5, x7, x9, x11, x71 => if x71 = true then ((w18_alive.f k).bind fun t482 => (some t482)) else ((w18_alive.f k).bind fun t483 => (if t483 = true then (if (x7.length : Int) = x5 then ((mapper_Same.f k x7 x9).bind fun t484 => (if t484 = true then (some ((x11.length : Int) == 0)) else (some false))) else (some false)) else (some false)))
end
def w18_MapperAll.f (k : Nat) (a0_0 : Bool) (l0_1 : List (S50)) (l0_2 : List (S50)) (l0_3 : List (S50)) (a0_4 : Int) (l0_5 : List (S50)) (a0_6 : Bool) (a0_7 : Int) (a0_8 : ByteArray) (a0_9 : Bool) (a0_10 : Int) (a0_11 : Bool) (a0_12 : Bool) (a0_13 : Int) (l1 : List (List ByteArray)) : Option (Bool) := (w18_little.f k a0_0 l0_1 l0_2 l0_3 a0_4 l0_5 a0_6 a0_7 a0_8 a0_9 a0_10 a0_11 a0_12 a0_13).bind fun t457 => (if t457 = true then ((r01_Few.f k l1 40 1500).bind fun t458 => (w18_MapperAll.j0 k l1 (!t458) a0_0 l0_1 l0_2 l0_3 a0_4 l0_5 a0_6 a0_7 a0_8 a0_9 a0_10 a0_11 a0_12 a0_13)) else (w18_MapperAll.j0 k l1 true a0_0 l0_1 l0_2 l0_3 a0_4 l0_5 a0_6 a0_7 a0_8 a0_9 a0_10 a0_11 a0_12 a0_13))
theorem w18_MapperAll.mono_l : ∀ k, (∀ y0 y1 y2 y3 y4 y5 y6 y7 y8 y9 y10 y11 y12 y13 y14 y15, LeO (w18_MapperAll.j0 k y0 y1 y2 y3 y4 y5 y6 y7 y8 y9 y10 y11 y12 y13 y14 y15) (w18_MapperAll.j0 (k + 1) y0 y1 y2 y3 y4 y5 y6 y7 y8 y9 y10 y11 y12 y13 y14 y15)) ∧ (∀ y0 y1 y2 y3 y4 y5 y6 y7 y8 y9 y10 y11 y12 y13 y14 y15 y16, LeO (w18_MapperAll.l0 k y0 y1 y2 y3 y4 y5 y6 y7 y8 y9 y10 y11 y12 y13 y14 y15 y16) (w18_MapperAll.l0 (k + 1) y0 y1 y2 y3 y4 y5 y6 y7 y8 y9 y10 y11 y12 y13 y14 y15 y16)) ∧ (∀ y0 y1 y2 y3 y4, LeO (w18_MapperAll.j2 k y0 y1 y2 y3 y4) (w18_MapperAll.j2 (k + 1) y0 y1 y2 y3 y4))
 | 0 => ⟨fun _ _ _ _ _ _ _ _ _ _ _ _ _ _ _ _ r h => by simp [w18_MapperAll.j0] at h, fun _ _ _ _ _ _ _ _ _ _ _ _ _ _ _ _ _ r h => by simp [w18_MapperAll.l0] at h, fun _ _ _ _ _ r h => by simp [w18_MapperAll.j2] at h⟩
 | k + 1 => by
  obtain ⟨ih0, ih1, ih2⟩ := w18_MapperAll.mono_l k
  refine ⟨?_, ?_, ?_⟩
  ·intro y0 y1 y2 y3 y4 y5 y6 y7 y8 y9 y10 y11 y12 y13 y14 y15
   unfold w18_MapperAll.j0
   repeat' (with_reducible first | exact ih0 _ _ _ _ _ _ _ _ _ _ _ _ _ _ _ _ | exact ih1 _ _ _ _ _ _ _ _ _ _ _ _ _ _ _ _ _ | exact ih2 _ _ _ _ _ | exact mapper_Map.mono _ _ _ _ _ _ _ _ _ _ _ _ _ _ _ _ | exact mapper_Same.mono _ _ _ | exact mapper_See.mono _ _ _ _ _ _ _ _ _ _ _ _ _ _ _ _ | exact w18_alive.mono _ | exact w18_little.mono _ _ _ _ _ _ _ _ _ _ _ _ _ _ _ | exact r01_Few.mono _ _ _ _ | exact LeO.refl _ | exact LeO.none _ | refine LeO.ite ?_ ?_ | refine LeO.bind ?_ (fun _ => ?_))
  ·intro y0 y1 y2 y3 y4 y5 y6 y7 y8 y9 y10 y11 y12 y13 y14 y15 y16
   unfold w18_MapperAll.l0
   repeat' (with_reducible first | exact ih0 _ _ _ _ _ _ _ _ _ _ _ _ _ _ _ _ | exact ih1 _ _ _ _ _ _ _ _ _ _ _ _ _ _ _ _ _ | exact ih2 _ _ _ _ _ | exact mapper_Map.mono _ _ _ _ _ _ _ _ _ _ _ _ _ _ _ _ | exact mapper_Same.mono _ _ _ | exact mapper_See.mono _ _ _ _ _ _ _ _ _ _ _ _ _ _ _ _ | exact w18_alive.mono _ | exact w18_little.mono _ _ _ _ _ _ _ _ _ _ _ _ _ _ _ | exact r01_Few.mono _ _ _ _ | exact LeO.refl _ | exact LeO.none _ | refine LeO.ite ?_ ?_ | refine LeO.bind ?_ (fun _ => ?_))
  ·intro y0 y1 y2 y3 y4
   unfold w18_MapperAll.j2
   repeat' (with_reducible first | exact ih0 _ _ _ _ _ _ _ _ _ _ _ _ _ _ _ _ | exact ih1 _ _ _ _ _ _ _ _ _ _ _ _ _ _ _ _ _ | exact ih2 _ _ _ _ _ | exact mapper_Map.mono _ _ _ _ _ _ _ _ _ _ _ _ _ _ _ _ | exact mapper_Same.mono _ _ _ | exact mapper_See.mono _ _ _ _ _ _ _ _ _ _ _ _ _ _ _ _ | exact w18_alive.mono _ | exact w18_little.mono _ _ _ _ _ _ _ _ _ _ _ _ _ _ _ | exact r01_Few.mono _ _ _ _ | exact LeO.refl _ | exact LeO.none _ | refine LeO.ite ?_ ?_ | refine LeO.bind ?_ (fun _ => ?_))
theorem w18_MapperAll.mono : ∀ a0 a1 a2 a3 a4 a5 a6 a7 a8 a9 a10 a11 a12 a13 a14 k, LeO (w18_MapperAll.f k a0 a1 a2 a3 a4 a5 a6 a7 a8 a9 a10 a11 a12 a13 a14) (w18_MapperAll.f (k + 1) a0 a1 a2 a3 a4 a5 a6 a7 a8 a9 a10 a11 a12 a13 a14) := by
 intro a0 a1 a2 a3 a4 a5 a6 a7 a8 a9 a10 a11 a12 a13 a14 k
 obtain ⟨ih0, ih1, ih2⟩ := w18_MapperAll.mono_l k
 unfold w18_MapperAll.f
 repeat' (with_reducible first | exact ih0 _ _ _ _ _ _ _ _ _ _ _ _ _ _ _ _ | exact ih1 _ _ _ _ _ _ _ _ _ _ _ _ _ _ _ _ _ | exact ih2 _ _ _ _ _ | exact mapper_Map.mono _ _ _ _ _ _ _ _ _ _ _ _ _ _ _ _ | exact mapper_Same.mono _ _ _ | exact mapper_See.mono _ _ _ _ _ _ _ _ _ _ _ _ _ _ _ _ | exact w18_alive.mono _ | exact w18_little.mono _ _ _ _ _ _ _ _ _ _ _ _ _ _ _ | exact r01_Few.mono _ _ _ _ | exact LeO.refl _ | exact LeO.none _ | refine LeO.ite ?_ ?_ | refine LeO.bind ?_ (fun _ => ?_))
def w18_MapperAll.T7 : Bool × List (List Nat × List Nat) := (true, [([], []), ([], []), ([], []), ([], []), ([2, 3], [2, 3]), ([4], [4]), ([1, 5], [1, 5]), ([6], [6]), ([0, 7], [0, 7]), ([8, 6, 0, 1, 2, 3, 4, 5, 6, 7, 8], [0, 8])])
def w18_MapperAll.B7 : List Nat := [0, 0, 0, 0, 12, 28, 62, 126, 255, 511]
theorem w18_MapperAll.tab7 : rtab .any (opsOf Tryz.f4 7) = w18_MapperAll.T7 := by kernel_rfl
theorem w18_MapperAll.bits7 : waitsOk w18_MapperAll.T7.2 w18_MapperAll.B7 = true := by kernel_rfl
set_option maxHeartbeats 8000000 in
set_option maxRecDepth 100000 in
theorem w18_MapperAll.calls (k : Nat) (a0_0 : Bool) (A0_1 : Option Addr) (c0_1 : Nat) (l0_1 : List (S50)) (A0_2 : Option Addr) (c0_2 : Nat) (l0_2 : List (S50)) (A0_3 : Option Addr) (c0_3 : Nat) (l0_3 : List (S50)) (a0_4 : Int) (A0_5 : Option Addr) (c0_5 : Nat) (l0_5 : List (S50)) (a0_6 : Bool) (a0_7 : Int) (a0_8 : ByteArray) (a0_9 : Bool) (a0_10 : Int) (a0_11 : Bool) (a0_12 : Bool) (a0_13 : Int) (A1 : Option Addr) (c1 : Nat) (l1 : List (List ByteArray)) (r : Bool) (w : World) (hT : Tabs w) (hr0_1 : Kd.C k50 w A0_1 l0_1.length l0_1) (hc0_1 : l0_1.length ≤ c0_1) (hr0_2 : Kd.C k50 w A0_2 l0_2.length l0_2) (hc0_2 : l0_2.length ≤ c0_2) (hr0_3 : Kd.C k50 w A0_3 l0_3.length l0_3) (hc0_3 : l0_3.length ≤ c0_3) (hr0_5 : Kd.C k50 w A0_5 l0_5.length l0_5) (hc0_5 : l0_5.length ≤ c0_5) (hr1 : Kd.C (Kd.slice 9 Kd.string) w A1 l1.length l1) (hc1 : l1.length ≤ c1) (h : w18_MapperAll.f k a0_0 l0_1 l0_2 l0_3 a0_4 l0_5 a0_6 a0_7 a0_8 a0_9 a0_10 a0_11 a0_12 a0_13 l1 = some r) (hr_ : r = true := by rfl) :
  Calls Tryz.prog 4 #[.agg #[.bool a0_0, .slice A0_1 l0_1.length c0_1, .slice A0_2 l0_2.length c0_2, .slice A0_3 l0_3.length c0_3, .int .i64 a0_4, .slice A0_5 l0_5.length c0_5, .bool a0_6, .int .i64 a0_7, .string a0_8, .bool a0_9, .int .i64 a0_10, .bool a0_11, .bool a0_12, .int .i64 a0_13], .slice A1 l1.length c1] w fun e w' => e = .returned (.bool r) ∧ Below w.heap.size w w' := by
 have hu26 := Tryz.underlying26
 have hu50 := Tryz.underlying50
 have HR0_1 := xy hr0_1
 have HC0_1 := xy hc0_1
 clear hr0_1 hc0_1
 have HR0_2 := xy hr0_2
 have HC0_2 := xy hc0_2
 clear hr0_2 hc0_2
 have HR0_3 := xy hr0_3
 have HC0_3 := xy hc0_3
 clear hr0_3 hc0_3
 have HR0_5 := xy hr0_5
 have HC0_5 := xy hc0_5
 clear hr0_5 hc0_5
 have HR1 := xy hr1
 have HC1 := xy hc1
 clear hr1 hc1
 have HB := xy (Below.refl w.heap.size w)
 unfold w18_MapperAll.f at h
 have H := h
 clear h
 have HC3 := xy H
 clear H
 go_enter Tryz.func4, Tryz.ntmps4
 go_upto_region 1 with (first | ((with_reducible refine gate_dst (N := 2) rfl ?_); (try (refine gate_guard (by rfl) ?_; dsimp only)); refine xq (N := 2) (cs := #[.bool a0_0, .slice A0_1 l0_1.length c0_1, .slice A0_2 l0_2.length c0_2, .slice A0_3 l0_3.length c0_3, .int .i64 a0_4, .slice A0_5 l0_5.length c0_5, .bool a0_6, .int .i64 a0_7, .string a0_8, .bool a0_9, .int .i64 a0_10, .bool a0_11, .bool a0_12, .int .i64 a0_13]) (t := 26) ?_; intro gb456 hg w4 hbox hb; have BK456 := xy (hbox); have GW456 := xs w hg; have GE456 := xs w hg; replace HB := xy (below_step xb hb); clear hb hbox hg))
 (try simp only [Act.put, List.setIfInBounds_toArray, List.set_cons_zero, List.set_cons_succ])
 go_cut [20] (fun v20 wc => ∃ (kq : Nat) (x20_2 : Bool), v20 = .bool x20_2 ∧ Aside0 (w18_MapperAll.j0 kq l1 x20_2 a0_0 l0_1 l0_2 l0_3 a0_4 l0_5 a0_6 a0_7 a0_8 a0_9 a0_10 a0_11 a0_12 a0_13 = some r) ∧ Aside0 (kq ≤ k) ∧ Aside0 (wc.heap[gb456]? = some (.cells #[.bool a0_0, (.slice A0_1 l0_1.length c0_1), (.slice A0_2 l0_2.length c0_2), (.slice A0_3 l0_3.length c0_3), .int .i64 a0_4, (.slice A0_5 l0_5.length c0_5), .bool a0_6, .int .i64 a0_7, .string a0_8, .bool a0_9, .int .i64 a0_10, .bool a0_11, .bool a0_12, .int .i64 a0_13] 26 (0, 0))) ∧ Aside0 (Below w.heap.size w wc))
 case first =>
  have H := HC3.out
  clear HC3
  replace H := xj H
  obtain ⟨t457, A50, H⟩ := H
  try dsimp only at H
  have A5 := xy A50
  clear A50
  by_cases c6 : t457 = true
  ·subst c6
   rw [if_pos rfl] at H
   replace H := xj H
   obtain ⟨t458, A70, H⟩ := H
   try dsimp only at H
   have A7 := xy A70
   clear A70
   have H' := xy H
   clear H
   obtain ⟨hcz8_0, hcz8_1, hcz8_2, hcz8_3, hcz8_4, hcz8_5, hcz8_6, hcz8_7, hcz8_8, hcz8_9, hcz8_10, hcz8_11, hcz8_12, hcz8_13⟩ := kt14 BK456.out
   obtain ⟨hfz8_0, hfz8_1, hfz8_2, hfz8_3, hfz8_4, hfz8_5, hfz8_6, hfz8_7, hfz8_8, hfz8_9, hfz8_10, hfz8_11, hfz8_12, hfz8_13⟩ := kz14 BK456.out
   go_wp2_with (first | ((with_reducible refine gate_callee (f := 5) rfl ?_); refine goesL_ (some 14) rfl rfl Tryz.func5 (by kernel_rfl) rfl #[.agg #[.bool a0_0, .slice A0_1 l0_1.length c0_1, .slice A0_2 l0_2.length c0_2, .slice A0_3 l0_3.length c0_3, .int .i64 a0_4, .slice A0_5 l0_5.length c0_5, .bool a0_6, .int .i64 a0_7, .string a0_8, .bool a0_9, .int .i64 a0_10, .bool a0_11, .bool a0_12, .int .i64 a0_13]] rfl xr ?_; (with_reducible refine (w18_little.calls k a0_0 _ _ l0_1 _ _ l0_2 _ _ l0_3 a0_4 _ _ l0_5 a0_6 a0_7 a0_8 a0_9 a0_10 a0_11 a0_12 a0_13 true _ (Tabs.below hT xf) ?side1 ?side2 ?side3 ?side4 ?side5 ?side6 ?side7 ?side8 A5.out).mono ?_); (case side1 => exact Kd.C_below HR0_1.out xb); (case side2 => exact HC0_1.out); (case side3 => exact Kd.C_below HR0_2.out xb); (case side4 => exact HC0_2.out); (case side5 => exact Kd.C_below HR0_3.out xb); (case side6 => exact HC0_3.out); (case side7 => exact Kd.C_below HR0_5.out xb); (case side8 => exact HC0_5.out); rintro e w9 ⟨rfl, hb⟩; refine ⟨_, rfl, ?_⟩; replace BK456 := xd BK456.out hb; replace HB := xy (below_step xb hb); (try clear hb); (try clear hb2); (try clear hk); (try clear hi)) | (go_at_call 13; (with_reducible refine (r01_Few.calls k _ _ l1 40 1500 t458 _ (Tabs.below hT xf) ?side1 ?side2 A7.out).mono ?_); (case side1 => exact Kd.C_below HR1.out xb); (case side2 => exact HC1.out); rintro e w' ⟨rfl, ⟨nd, rfl⟩⟩))
   go_meet
   case rel => exact ⟨_, (!t458), xg, H', ⟨by first | omega | exact Nat.le_refl _⟩, ⟨by (with_reducible repeat (first | refine blk_drewN ?_ _ | refine blk_drew ?_ | refine blk_alloc ?_ _)); exact BK456.out⟩, ⟨xb⟩⟩
  ·replace c6 := Bool.eq_false_iff.mpr c6
   subst c6
   rw [if_neg (show ¬ (false = true) by decide)] at H
   have H' := xy H
   clear H
   obtain ⟨hcz10_0, hcz10_1, hcz10_2, hcz10_3, hcz10_4, hcz10_5, hcz10_6, hcz10_7, hcz10_8, hcz10_9, hcz10_10, hcz10_11, hcz10_12, hcz10_13⟩ := kt14 BK456.out
   obtain ⟨hfz10_0, hfz10_1, hfz10_2, hfz10_3, hfz10_4, hfz10_5, hfz10_6, hfz10_7, hfz10_8, hfz10_9, hfz10_10, hfz10_11, hfz10_12, hfz10_13⟩ := kz14 BK456.out
   go_wp2_with (first | ((with_reducible refine gate_callee (f := 5) rfl ?_); refine goesL_ (some 14) rfl rfl Tryz.func5 (by kernel_rfl) rfl #[.agg #[.bool a0_0, .slice A0_1 l0_1.length c0_1, .slice A0_2 l0_2.length c0_2, .slice A0_3 l0_3.length c0_3, .int .i64 a0_4, .slice A0_5 l0_5.length c0_5, .bool a0_6, .int .i64 a0_7, .string a0_8, .bool a0_9, .int .i64 a0_10, .bool a0_11, .bool a0_12, .int .i64 a0_13]] rfl xr ?_; (with_reducible refine (w18_little.calls k a0_0 _ _ l0_1 _ _ l0_2 _ _ l0_3 a0_4 _ _ l0_5 a0_6 a0_7 a0_8 a0_9 a0_10 a0_11 a0_12 a0_13 false _ (Tabs.below hT xf) ?side1 ?side2 ?side3 ?side4 ?side5 ?side6 ?side7 ?side8 A5.out).mono ?_); (case side1 => exact Kd.C_below HR0_1.out xb); (case side2 => exact HC0_1.out); (case side3 => exact Kd.C_below HR0_2.out xb); (case side4 => exact HC0_2.out); (case side5 => exact Kd.C_below HR0_3.out xb); (case side6 => exact HC0_3.out); (case side7 => exact Kd.C_below HR0_5.out xb); (case side8 => exact HC0_5.out); rintro e w11 ⟨rfl, hb⟩; refine ⟨_, rfl, ?_⟩; replace BK456 := xd BK456.out hb; replace HB := xy (below_step xb hb); (try clear hb); (try clear hb2); (try clear hk); (try clear hi)))
   go_meet
   case rel => exact ⟨_, (true), xg, H', ⟨by first | omega | exact Nat.le_refl _⟩, ⟨by (with_reducible repeat (first | refine blk_drewN ?_ _ | refine blk_drew ?_ | refine blk_alloc ?_ _)); exact BK456.out⟩, ⟨xb⟩⟩
 case rest =>
  clear HC3
  try clear c1
  try clear p2
  try clear c4
  try clear c5
  try clear c6
  try clear hcz10_0 hcz10_1 hcz10_10 hcz10_11 hcz10_12 hcz10_13 hcz10_2 hcz10_3 hcz10_4 hcz10_5 hcz10_6 hcz10_7 hcz10_8 hcz10_9
  try clear hcz8_0 hcz8_1 hcz8_10 hcz8_11 hcz8_12 hcz8_13 hcz8_2 hcz8_3 hcz8_4 hcz8_5 hcz8_6 hcz8_7 hcz8_8 hcz8_9
  try clear hfz10_0 hfz10_1 hfz10_10 hfz10_11 hfz10_12 hfz10_13 hfz10_2 hfz10_3 hfz10_4 hfz10_5 hfz10_6 hfz10_7 hfz10_8 hfz10_9
  try clear hfz8_0 hfz8_1 hfz8_10 hfz8_11 hfz8_12 hfz8_13 hfz8_2 hfz8_3 hfz8_4 hfz8_5 hfz8_6 hfz8_7 hfz8_8 hfz8_9
  obtain ⟨kq, x20_2, rfl, HA, HJ2, BK456, HB⟩ := hcut
  cases kq with
  | zero => exact absurd HA.out (by simp [w18_MapperAll.j0])
  | succ kj2 =>
   have H := HA.out
   clear HA
   simp only [w18_MapperAll.j0] at H
   by_cases c12 : x20_2 = true
   ·subst c12
    rw [if_pos rfl] at H
    replace H := xj H
    obtain ⟨t459, A130, H⟩ := H
    try dsimp only at H
    have A13 := xy A130
    clear A130
    obtain rfl := Option.some.inj H
    go_wp2_with (first | ((with_reducible refine gate_callee (f := 7) rfl ?_); refine goesL_ (some 21) rfl rfl Tryz.func7 (by kernel_rfl) rfl #[] rfl xr ?_; (with_reducible refine (w18_alive.calls kj2  t459 _ (Tabs.below hT xf) A13.out).mono ?_); rintro e w14 ⟨rfl, hb⟩; refine ⟨_, rfl, ?_⟩; replace BK456 := xd BK456.out hb; replace HB := xy (below_step xb hb); (try clear hb); (try clear hb2); (try clear hk); (try clear hi)))
    go_ret
    exact ⟨xe, xb⟩
   ·replace c12 := Bool.eq_false_iff.mpr c12
    subst c12
    rw [if_neg (show ¬ (false = true) by decide)] at H
    have H' := xy H
    clear H
    go_wp2
    go_loopg [5, 6] kj2 (fun kq v5 v6 w' => ∃ (x5_2 : Int) (x6_2 : Int), v5 = .int .i64 x5_2 ∧ v6 = .int .i64 x6_2 ∧ Aside0 (w18_MapperAll.l0 kq l1 x5_2 x6_2 a0_0 l0_1 l0_2 l0_3 a0_4 l0_5 a0_6 a0_7 a0_8 a0_9 a0_10 a0_11 a0_12 a0_13 = some r) ∧ Aside0 (kq ≤ kj2) ∧ Aside0 (w'.heap[gb456]? = some (.cells #[.bool a0_0, (.slice A0_1 l0_1.length c0_1), (.slice A0_2 l0_2.length c0_2), (.slice A0_3 l0_3.length c0_3), .int .i64 a0_4, (.slice A0_5 l0_5.length c0_5), .bool a0_6, .int .i64 a0_7, .string a0_8, .bool a0_9, .int .i64 a0_10, .bool a0_11, .bool a0_12, .int .i64 a0_13] 26 (0, 0))) ∧ Aside0 (Below w.heap.size w w'))
    case atStart => exact ⟨(0), (0), xg, xg, H', ⟨Nat.le_refl _⟩, ⟨by (with_reducible repeat (first | refine blk_drewN ?_ _ | refine blk_drew ?_ | refine blk_alloc ?_ _)); exact BK456.out⟩, ⟨xb⟩⟩
    case round =>
     clear H'
     try clear c1
     try clear p2
     try clear c4
     try clear c5
     try clear c6
     try clear c7
     try clear c12
     try clear hcz10_0 hcz10_1 hcz10_10 hcz10_11 hcz10_12 hcz10_13 hcz10_2 hcz10_3 hcz10_4 hcz10_5 hcz10_6 hcz10_7 hcz10_8 hcz10_9
     try clear hcz8_0 hcz8_1 hcz8_10 hcz8_11 hcz8_12 hcz8_13 hcz8_2 hcz8_3 hcz8_4 hcz8_5 hcz8_6 hcz8_7 hcz8_8 hcz8_9
     try clear hfz10_0 hfz10_1 hfz10_10 hfz10_11 hfz10_12 hfz10_13 hfz10_2 hfz10_3 hfz10_4 hfz10_5 hfz10_6 hfz10_7 hfz10_8 hfz10_9
     try clear hfz8_0 hfz8_1 hfz8_10 hfz8_11 hfz8_12 hfz8_13 hfz8_2 hfz8_3 hfz8_4 hfz8_5 hfz8_6 hfz8_7 hfz8_8 hfz8_9
     try clear p2
     obtain ⟨x5_2, x6_2, rfl, rfl, HA, HK2, BK456, HB⟩ := hrel
     cases gk with
     | zero => exact absurd HA.out (by simp [w18_MapperAll.l0])
     | succ k2 =>
      have H := HA.out
      clear HA
      simp only [w18_MapperAll.l0] at H
      by_cases c15 : x6_2 < (l1.length : Int)
      ·rw [if_pos c15] at H
       have c15b0 : decide (x6_2 < (l1.length : Int)) = true := decide_eq_true c15
       clear c15
       by_cases c16 : 0 ≤ x6_2
       ·rw [if_pos c16] at H
        have c16b0 : decide (0 ≤ x6_2) = true := decide_eq_true c16
        clear c16
        replace H := xj H
        obtain ⟨t461, A170, H⟩ := H
        try dsimp only at H
        have A17 := xy A170
        clear A170
        have H' := xy H
        clear H
        try go_wp2
        replace BK456 := xy (blk_drew BK456.out)
        replace HB := xy (below_drew1 HB.out)
        have p460 : 0 ≤ (x6_2 : Int) := xi
        have q460 : x6_2 < (l1.length : Int) := xi
        obtain ⟨ad460, A460_0, c460_0, e460, hx460_0, hl460_0, hi460_0⟩ := at_L7 HR1.out x6_2 p460 q460
        have hw460_0 := hx460_0
        cases e460
        replace hx460_0 := (HB.out.cell (World.block_lt_of_cell? w _ hx460_0)).trans hx460_0
        have HR460_0 := xy hi460_0
        have HC460_0 := xy hl460_0
        clear hi460_0 hl460_0
        replace p460 := eq_true p460
        replace q460 := eq_true q460
        refine start_ (n := 10) (S := fun w' => w'.cell? ⟨gb456, 0, none⟩ = some (.bool a0_0) ∧ w'.cell? ⟨gb456, 1, none⟩ = some (.slice A0_1 l0_1.length c0_1) ∧ w'.cell? ⟨gb456, 2, none⟩ = some (.slice A0_2 l0_2.length c0_2) ∧ w'.cell? ⟨gb456, 3, none⟩ = some (.slice A0_3 l0_3.length c0_3) ∧ w'.cell? ⟨gb456, 4, none⟩ = some (.int .i64 a0_4) ∧ w'.cell? ⟨gb456, 5, none⟩ = some (.slice A0_5 l0_5.length c0_5) ∧ w'.cell? ⟨gb456, 6, none⟩ = some (.bool a0_6) ∧ w'.cell? ⟨gb456, 7, none⟩ = some (.int .i64 a0_7) ∧ w'.cell? ⟨gb456, 8, none⟩ = some (.string a0_8) ∧ w'.cell? ⟨gb456, 9, none⟩ = some (.bool a0_9) ∧ w'.cell? ⟨gb456, 10, none⟩ = some (.int .i64 a0_10) ∧ w'.cell? ⟨gb456, 11, none⟩ = some (.bool a0_11) ∧ w'.cell? ⟨gb456, 12, none⟩ = some (.bool a0_12) ∧ w'.cell? ⟨gb456, 13, none⟩ = some (.int .i64 a0_13) ∧ w'.cell? (ad460.add (x6_2).toNat) = some (.slice A460_0 (rd_L7 l1 x6_2).length c460_0)) (ds := []) #[false, false, false, false, false, false, false, false, false, false] (by kernel_rfl) rfl rfl ⟨(kc BK456.out 0).trans rfl, (kc BK456.out 1).trans rfl, (kc BK456.out 2).trans rfl, (kc BK456.out 3).trans rfl, (kc BK456.out 4).trans rfl, (kc BK456.out 5).trans rfl, (kc BK456.out 6).trans rfl, (kc BK456.out 7).trans rfl, (kc BK456.out 8).trans rfl, (kc BK456.out 9).trans rfl, (kc BK456.out 10).trans rfl, (kc BK456.out 11).trans rfl, (kc BK456.out 12).trans rfl, (kc BK456.out 13).trans rfl, ((HB.out.cell (World.block_lt_of_cell? w _ hw460_0)).trans hw460_0)⟩ (fun hHeld => ?_); refine with_tabW w18_MapperAll.tab7 w18_MapperAll.bits7 (fun HT_ HW_ => ?_)
        generalize wr.drew = w18 at BK456 HB HR460_0 hx460_0 hHeld ⊢
        refine yz 0 (some 28) (bs 10 1) HT_.out (h := ?_)
        refine yz 2 (some 30) (bs 10 5) HT_.out (h := ?_)
        refine yz 3 (some 31) (bs 10 13) HT_.out (h := ?_)
        refine yz 4 (some 32) (bs 10 29) HT_.out (h := ?_)
        refine yt 1 (some 29) (bs 10 31) HT_.out HW_.out hHeld (h := ?_)
        refine yt 5 (some 33) (bs 10 63) HT_.out HW_.out hHeld (h := ?_)
        refine one_ (i := 6) (N := some 34) #[true, true, true, true, true, true, true, false, false, false] rfl rfl (one_of HT_.out (by kernel_rfl)) (by decide) (fun K hK => ?_)
        refine goes_ Tryz.func14 (by kernel_rfl) rfl #[.agg #[.bool a0_0, .slice A0_1 l0_1.length c0_1, .slice A0_2 l0_2.length c0_2, .slice A0_3 l0_3.length c0_3, .int .i64 a0_4, .slice A0_5 l0_5.length c0_5, .bool a0_6, .int .i64 a0_7, .string a0_8, .bool a0_9, .int .i64 a0_10, .bool a0_11, .bool a0_12, .int .i64 a0_13], .slice A460_0 (rd_L7 l1 x6_2).length c460_0] (by rfl) rfl rfl xr ?_
        with_reducible refine (mapper_See.calls k2 a0_0 _ _ l0_1 _ _ l0_2 _ _ l0_3 a0_4 _ _ l0_5 a0_6 a0_7 a0_8 a0_9 a0_10 a0_11 a0_12 a0_13 _ _ (rd_L7 l1 x6_2) t461 _ (Tabs.below hT xf) ?side1 ?side2 ?side3 ?side4 ?side5 ?side6 ?side7 ?side8 ?side9 ?side10 A17.out).mono ?_
        (case side1 => exact Kd.C_below HR0_1.out xb)
        (case side2 => exact HC0_1.out)
        (case side3 => exact Kd.C_below HR0_2.out xb)
        (case side4 => exact HC0_2.out)
        (case side5 => exact Kd.C_below HR0_3.out xb)
        (case side6 => exact HC0_3.out)
        (case side7 => exact Kd.C_below HR0_5.out xb)
        (case side8 => exact HC0_5.out)
        (case side9 => exact Kd.C_below HR460_0.out xb)
        (case side10 => exact HC460_0.out)
        rintro e w19 ⟨v462, rfl, ho0, hb⟩
        refine ⟨_, rfl, ?_⟩
        have HO463 := xy (Kd.N_lower (Kd.N_mono (ok' := fun k_ => k_ ≠ gb456) ho0 (fun k_ hk_ => (Kd.freshB (g := gb456) (o := .cells #[.bool a0_0, .slice A0_1 l0_1.length c0_1, .slice A0_2 l0_2.length c0_2, .slice A0_3 l0_3.length c0_3, .int .i64 a0_4, .slice A0_5 l0_5.length c0_5, .bool a0_6, .int .i64 a0_7, .string a0_8, .bool a0_9, .int .i64 a0_10, .bool a0_11, .bool a0_12, .int .i64 a0_13] 26 (0, 0)) (xk BK456.out) k_ hk_))) (below_size xb))
        replace BK456 := xd BK456.out hb
        replace HB := xy (below_step xb hb)
        (try clear hb)
        (try clear hb2)
        (try clear hk)
        (try clear hi)
        (try clear ho0)
        obtain ⟨Ao20, co20, eo20⟩ := Kd.N_slice HO463.out
        (first | subst eo20 | (injection eo20 with f1_ f2_ f3_; have f4_ := f1_.symm; have f5_ := f3_.symm; clear f1_ f2_ f3_; subst f4_; subst f5_))
        refine hK.out _ _ ⟨(kc BK456.out 0).trans rfl, (kc BK456.out 1).trans rfl, (kc BK456.out 2).trans rfl, (kc BK456.out 3).trans rfl, (kc BK456.out 4).trans rfl, (kc BK456.out 5).trans rfl, (kc BK456.out 6).trans rfl, (kc BK456.out 7).trans rfl, (kc BK456.out 8).trans rfl, (kc BK456.out 9).trans rfl, (kc BK456.out 10).trans rfl, (kc BK456.out 11).trans rfl, (kc BK456.out 12).trans rfl, (kc BK456.out 13).trans rfl, ((HB.out.cell (World.block_lt_of_cell? w _ hw460_0)).trans hw460_0)⟩ (fun hHeld => ?_)
        clear hK K
        refine norm_ (a' := ?_) ?_ ?_
        rotate_left
        ·show Act.put _ (some 34) _ = _
         simp only [Act.put, List.setIfInBounds_toArray, List.set_cons_zero, List.set_cons_succ, i64_w, i32_w]
         rfl
        refine yz 7 (some 35) (bs 10 255) HT_.out (h := ?_)
        refine yz 8 (some 36) (bs 10 511) HT_.out (h := ?_)
        refine yz 9 (some 5) (bs 10 1023) HT_.out (h := ?_)
        refine done_ (done_of HT_.out (by kernel_rfl)) ?_
        try go_wp2
        go_roundg k2
        case measure => have := HJ2.out; have := HK2.out; omega
        case rel => exact ⟨(wrap64 (x5_2 + (t461.length : Int))), (wrap64 (x6_2 + 1)), xg, xg, H', ⟨by have := HJ2.out; have := HK2.out; omega⟩, ⟨by (with_reducible repeat (first | refine blk_drewN ?_ _ | refine blk_drew ?_ | refine blk_alloc ?_ _)); exact BK456.out⟩, ⟨xb⟩⟩
       ·rw [if_neg c16] at H
        exact absurd H (by simp)
      ·rw [if_neg c15] at H
       have c15b0 : decide (x6_2 < (l1.length : Int)) = false := decide_eq_false c15
       clear c15
       replace H := xj H
       obtain ⟨⟨t464, t467⟩, A210, H⟩ := H
       try dsimp only at H
       have A21 := xy A210
       clear A210
       obtain ⟨y468, hy468⟩ : ∃ y_ : List (S50), y_ = (([(⟨0, 1, (⟨#[]⟩ : ByteArray)⟩ : S50)] : List (S50))) := ⟨_, rfl⟩
       replace H : ((mapper_Map.f k2 a0_0 y468 l0_2 l0_3 a0_4 l0_5 a0_6 a0_7 a0_8 a0_9 a0_10 a0_11 a0_12 a0_13 l1).bind fun bt471 => ((mapper_Map.f k2 a0_0 (([(⟨0, 0, (⟨#[]⟩ : ByteArray)⟩ : S50)] : List (S50))) l0_2 l0_3 a0_4 l0_5 a0_6 a0_7 a0_8 a0_9 a0_10 a0_11 a0_12 a0_13 l1).bind fun bt478 => (if t467 = 0 then (if bt471.2 = 0 then (w18_MapperAll.j2 k2 x5_2 t464 bt471.1 bt478.1 (bt478.2 != 0)) else (w18_MapperAll.j2 k2 x5_2 t464 bt471.1 bt478.1 true)) else (w18_MapperAll.j2 k2 x5_2 t464 bt471.1 bt478.1 true)))) = some r := by first | (rw [hy468]; with_reducible exact H) | (have H2_ := (Option.bind_some _ _).symm.trans H; rw [hy468]; with_reducible exact H2_) | (have H2_ := (Option.bind_some _ _).symm.trans H; with_reducible exact H2_) | with_reducible exact H | (rw [hy468]; exact H) | exact H
       have Ny468 := xy hy468
       clear hy468
       replace H := xj H
       obtain ⟨⟨t471, t474⟩, A220, H⟩ := H
       try dsimp only at H
       have A22 := xy A220
       clear A220
       obtain ⟨y475, hy475⟩ : ∃ y_ : List (S50), y_ = (([(⟨0, 0, (⟨#[]⟩ : ByteArray)⟩ : S50)] : List (S50))) := ⟨_, rfl⟩
       replace H : ((mapper_Map.f k2 a0_0 y475 l0_2 l0_3 a0_4 l0_5 a0_6 a0_7 a0_8 a0_9 a0_10 a0_11 a0_12 a0_13 l1).bind fun bt478 => (if t467 = 0 then (if t474 = 0 then (w18_MapperAll.j2 k2 x5_2 t464 t471 bt478.1 (bt478.2 != 0)) else (w18_MapperAll.j2 k2 x5_2 t464 t471 bt478.1 true)) else (w18_MapperAll.j2 k2 x5_2 t464 t471 bt478.1 true))) = some r := by first | (rw [hy475]; with_reducible exact H) | (have H2_ := (Option.bind_some _ _).symm.trans H; rw [hy475]; with_reducible exact H2_) | (have H2_ := (Option.bind_some _ _).symm.trans H; with_reducible exact H2_) | with_reducible exact H | (rw [hy475]; exact H) | exact H
       have Ny475 := xy hy475
       clear hy475
       replace H := xj H
       obtain ⟨⟨t478, t481⟩, A230, H⟩ := H
       try dsimp only at H
       have A23 := xy A230
       clear A230
       have HC24 := xy H
       clear H
       obtain ⟨hcz25_0, hcz25_1, hcz25_2, hcz25_3, hcz25_4, hcz25_5, hcz25_6, hcz25_7, hcz25_8, hcz25_9, hcz25_10, hcz25_11, hcz25_12, hcz25_13⟩ := kt14 BK456.out
       obtain ⟨hfz25_0, hfz25_1, hfz25_2, hfz25_3, hfz25_4, hfz25_5, hfz25_6, hfz25_7, hfz25_8, hfz25_9, hfz25_10, hfz25_11, hfz25_12, hfz25_13⟩ := kz14 BK456.out
       go_upto_region 14 with (first | ((with_reducible refine gate_callee (f := 15) rfl ?_); refine goesL_ (some 41) rfl rfl Tryz.func15 (by kernel_rfl) rfl #[.agg #[.bool a0_0, .slice none 0 0, .slice A0_2 l0_2.length c0_2, .slice A0_3 l0_3.length c0_3, .int .i64 a0_4, .slice A0_5 l0_5.length c0_5, .bool a0_6, .int .i64 a0_7, .string a0_8, .bool a0_9, .int .i64 a0_10, .bool a0_11, .bool a0_12, .int .i64 a0_13], .slice A1 l1.length c1] rfl xr ?_; (refine (mapper_Map.calls k2 a0_0 _ _ ([] : List (S50)) _ _ l0_2 _ _ l0_3 a0_4 _ _ l0_5 a0_6 a0_7 a0_8 a0_9 a0_10 a0_11 a0_12 a0_13 _ _ l1 t464 t467 _ (Tabs.below hT xf) ?side1 ?side2 ?side3 ?side4 ?side5 ?side6 ?side7 ?side8 ?side9 ?side10 A21.out).mono ?_); (case side1 => exact Kd.C_nil _ _); (case side2 => exact Nat.le_refl _); (case side3 => exact Kd.C_below HR0_2.out xb); (case side4 => exact HC0_2.out); (case side5 => exact Kd.C_below HR0_3.out xb); (case side6 => exact HC0_3.out); (case side7 => exact Kd.C_below HR0_5.out xb); (case side8 => exact HC0_5.out); (case side9 => exact Kd.C_below HR1.out xb); (case side10 => exact HC1.out); rintro e w26 ⟨v465, rfl, ho0, hb⟩; refine ⟨_, rfl, ?_⟩; have HO466 := xy (Kd.R_lower ho0 (below_size xb)); replace BK456 := xy (blk_below (g := gb456) (o := .cells #[.bool a0_0, .slice none 0 0, .slice A0_2 l0_2.length c0_2, .slice A0_3 l0_3.length c0_3, .int .i64 a0_4, .slice A0_5 l0_5.length c0_5, .bool a0_6, .int .i64 a0_7, .string a0_8, .bool a0_9, .int .i64 a0_10, .bool a0_11, .bool a0_12, .int .i64 a0_13] 26 (0, 0)) (by (with_reducible repeat (first | refine blk_drewN ?_ _ | refine blk_drew ?_ | refine blk_alloc ?_ _)); refine blk_put (cs := #[.bool a0_0, .slice A0_1 l0_1.length c0_1, .slice A0_2 l0_2.length c0_2, .slice A0_3 l0_3.length c0_3, .int .i64 a0_4, .slice A0_5 l0_5.length c0_5, .bool a0_6, .int .i64 a0_7, .string a0_8, .bool a0_9, .int .i64 a0_10, .bool a0_11, .bool a0_12, .int .i64 a0_13]) ?_ 1 _ rfl; (with_reducible repeat (first | refine blk_drewN ?_ _ | refine blk_drew ?_ | refine blk_alloc ?_ _)); exact BK456.out) hb); replace HB := xy (below_step xb hb); (try clear hb); (try clear hb2); (try clear hk); (try clear hi); (try clear ho0)) | ((with_reducible refine gate_dst (N := 45) rfl ?_); (try (refine gate_guard (by rfl) ?_; dsimp only)); refine Kd.R_lit k50 _ 50 ?hg (N := 45) ?hd (xs := ([(⟨0, 1, (⟨#[]⟩ : ByteArray)⟩ : S50)] : List (S50))) (inner := [.int .i64 0, .int .i64 1, .string (⟨#[]⟩ : ByteArray)]) (ok := fun _ => True) (okp := fun _ => True) ?hr ?hp (fun _ hk => hk) trivial (Below.refl _ _) (Nat.le_refl _) (by simp) ?_; (case hd => rfl); (case hg => rfl); (case hr => exact xh); (case hp => exact (Reps.c3 (show Kd.M k50 _ _ _ (⟨0, 1, (⟨#[]⟩ : ByteArray)⟩ : S50) [.int .i64 0, .int .i64 1, .string (⟨#[]⟩ : ByteArray)] from (k50_mkM _ _ _ (⟨0, 1, (⟨#[]⟩ : ByteArray)⟩ : S50) )) (Reps.none _ _))); intro v469 w27 ho28 hb hg_ hnew_; clear hg_ hnew_; (first | rw [← Ny468.out] at ho28 | (simp only [Int.reduceToNat] at ho28; rw [← Ny468.out] at ho28)); replace HO466 := xy (Kd.R_below (xo HO466.out) hb); have HO470 := xy (Kd.R_lower ho28 (below_size xb)); replace BK456 := xd BK456.out hb; replace HB := xy (below_step xb hb); clear hb ho28; obtain ⟨Ao29, co29, eo29⟩ := Kd.R_slice HO470.out; subst eo29; obtain ⟨hcz30_0, hcz30_1, hcz30_2, hcz30_3, hcz30_4, hcz30_5, hcz30_6, hcz30_7, hcz30_8, hcz30_9, hcz30_10, hcz30_11, hcz30_12, hcz30_13⟩ := kt14 BK456.out; obtain ⟨hfz30_0, hfz30_1, hfz30_2, hfz30_3, hfz30_4, hfz30_5, hfz30_6, hfz30_7, hfz30_8, hfz30_9, hfz30_10, hfz30_11, hfz30_12, hfz30_13⟩ := kz14 BK456.out) | ((with_reducible refine gate_callee (f := 15) rfl ?_); refine goesL_ (some 50) rfl rfl Tryz.func15 (by kernel_rfl) rfl #[.agg #[.bool a0_0, .slice Ao29 y468.length co29, .slice A0_2 l0_2.length c0_2, .slice A0_3 l0_3.length c0_3, .int .i64 a0_4, .slice A0_5 l0_5.length c0_5, .bool a0_6, .int .i64 a0_7, .string a0_8, .bool a0_9, .int .i64 a0_10, .bool a0_11, .bool a0_12, .int .i64 a0_13], .slice A1 l1.length c1] rfl xr ?_; (with_reducible refine (mapper_Map.calls k2 a0_0 _ _ y468 _ _ l0_2 _ _ l0_3 a0_4 _ _ l0_5 a0_6 a0_7 a0_8 a0_9 a0_10 a0_11 a0_12 a0_13 _ _ l1 t471 t474 _ (Tabs.below hT xf) ?side1 ?side2 ?side3 ?side4 ?side5 ?side6 ?side7 ?side8 ?side9 ?side10 A22.out).mono ?_); (case side1 => refine (Kd.R_reads' (e := 50) (base := w.heap.size) (ok := fun k_ => True) (n := y468.length) (c := co29) ?_).2.2; exact (by (with_reducible repeat (first | apply Kd.R_alloc | apply Kd.R_drewN | apply Kd.R_drew)); exact (Kd.R_mono (Kd.R_far (p := ⟨gb456, 1, none⟩) (Kd.R_types HO470.out BK456.out (by decide)) (fun _ hk => hk.2) (.slice Ao29 y468.length co29)) (fun _ h_ => h_.1)))); (case side2 => exact (Kd.R_reads' HO470.out).2.1); (case side3 => exact Kd.C_below HR0_2.out xb); (case side4 => exact HC0_2.out); (case side5 => exact Kd.C_below HR0_3.out xb); (case side6 => exact HC0_3.out); (case side7 => exact Kd.C_below HR0_5.out xb); (case side8 => exact HC0_5.out); (case side9 => exact Kd.C_below HR1.out xb); (case side10 => exact HC1.out); rintro e w31 ⟨v472, rfl, ho0, hb⟩; refine ⟨_, rfl, ?_⟩; replace HO470 := xy (Kd.R_below (by (with_reducible repeat (first | apply Kd.R_alloc | apply Kd.R_drewN | apply Kd.R_drew)); exact (Kd.R_mono (Kd.R_far (p := ⟨gb456, 1, none⟩) (Kd.R_types HO470.out BK456.out (by decide)) (fun _ hk => hk.2) (.slice Ao29 y468.length co29)) (fun _ h_ => h_.1))) hb); have HO473 := xy (Kd.R_lower (Kd.R_new' ho0 (Kd.R_lt (by (with_reducible repeat (first | apply Kd.R_alloc | apply Kd.R_drewN | apply Kd.R_drew)); exact (Kd.R_mono (Kd.R_far (p := ⟨gb456, 1, none⟩) (Kd.R_types HO466.out BK456.out (by decide)) (fun _ hk => hk.2) (.slice Ao29 y468.length co29)) (fun _ h_ => h_.1))))) (below_size xb)); replace HO466 := xy (Kd.R_elder' (by (with_reducible repeat (first | apply Kd.R_alloc | apply Kd.R_drewN | apply Kd.R_drew)); exact (Kd.R_mono (Kd.R_far (p := ⟨gb456, 1, none⟩) (Kd.R_types HO466.out BK456.out (by decide)) (fun _ hk => hk.2) (.slice Ao29 y468.length co29)) (fun _ h_ => h_.1))) (Kd.R_base ho0) hb); replace BK456 := xy (blk_below (g := gb456) (o := .cells #[.bool a0_0, .slice Ao29 y468.length co29, .slice A0_2 l0_2.length c0_2, .slice A0_3 l0_3.length c0_3, .int .i64 a0_4, .slice A0_5 l0_5.length c0_5, .bool a0_6, .int .i64 a0_7, .string a0_8, .bool a0_9, .int .i64 a0_10, .bool a0_11, .bool a0_12, .int .i64 a0_13] 26 (0, 0)) (by (with_reducible repeat (first | refine blk_drewN ?_ _ | refine blk_drew ?_ | refine blk_alloc ?_ _)); refine blk_put (cs := #[.bool a0_0, .slice none 0 0, .slice A0_2 l0_2.length c0_2, .slice A0_3 l0_3.length c0_3, .int .i64 a0_4, .slice A0_5 l0_5.length c0_5, .bool a0_6, .int .i64 a0_7, .string a0_8, .bool a0_9, .int .i64 a0_10, .bool a0_11, .bool a0_12, .int .i64 a0_13]) ?_ 1 _ rfl; (with_reducible repeat (first | refine blk_drewN ?_ _ | refine blk_drew ?_ | refine blk_alloc ?_ _)); exact BK456.out) hb); replace HB := xy (below_step xb hb); (try clear hb); (try clear hb2); (try clear hk); (try clear hi); (try clear ho0)) | ((with_reducible refine gate_dst (N := 54) rfl ?_); (try (refine gate_guard (by rfl) ?_; dsimp only)); refine Kd.R_lit k50 _ 50 ?hg (N := 54) ?hd (xs := ([(⟨0, 0, (⟨#[]⟩ : ByteArray)⟩ : S50)] : List (S50))) (inner := [.int .i64 0, .int .i64 0, .string (⟨#[]⟩ : ByteArray)]) (ok := fun _ => True) (okp := fun _ => True) ?hr ?hp (fun _ hk => hk) trivial (Below.refl _ _) (Nat.le_refl _) (by simp) ?_; (case hd => rfl); (case hg => rfl); (case hr => exact xh); (case hp => exact (Reps.c3 (show Kd.M k50 _ _ _ (⟨0, 0, (⟨#[]⟩ : ByteArray)⟩ : S50) [.int .i64 0, .int .i64 0, .string (⟨#[]⟩ : ByteArray)] from (k50_mkM _ _ _ (⟨0, 0, (⟨#[]⟩ : ByteArray)⟩ : S50) )) (Reps.none _ _))); intro v476 w32 ho33 hb hg_ hnew_; clear hg_ hnew_; (first | rw [← Ny475.out] at ho33 | (simp only [Int.reduceToNat] at ho33; rw [← Ny475.out] at ho33)); replace HO466 := xy (Kd.R_below (xo HO466.out) hb); replace HO473 := xy (Kd.R_below (xo HO473.out) hb); have HO477 := xy (Kd.R_lower (Kd.R_new' ho33 (Kd.R_lt (xo HO470.out))) (below_size xb)); replace HO470 := xy (Kd.R_elder' (xo HO470.out) (Kd.R_base ho33) hb); replace BK456 := xd BK456.out hb; replace HB := xy (below_step xb hb); clear hb ho33; obtain ⟨Ao34, co34, eo34⟩ := Kd.R_slice HO477.out; subst eo34; obtain ⟨hcz35_0, hcz35_1, hcz35_2, hcz35_3, hcz35_4, hcz35_5, hcz35_6, hcz35_7, hcz35_8, hcz35_9, hcz35_10, hcz35_11, hcz35_12, hcz35_13⟩ := kt14 BK456.out; obtain ⟨hfz35_0, hfz35_1, hfz35_2, hfz35_3, hfz35_4, hfz35_5, hfz35_6, hfz35_7, hfz35_8, hfz35_9, hfz35_10, hfz35_11, hfz35_12, hfz35_13⟩ := kz14 BK456.out) | ((with_reducible refine gate_callee (f := 15) rfl ?_); refine goesL_ (some 59) rfl rfl Tryz.func15 (by kernel_rfl) rfl #[.agg #[.bool a0_0, .slice Ao34 y475.length co34, .slice A0_2 l0_2.length c0_2, .slice A0_3 l0_3.length c0_3, .int .i64 a0_4, .slice A0_5 l0_5.length c0_5, .bool a0_6, .int .i64 a0_7, .string a0_8, .bool a0_9, .int .i64 a0_10, .bool a0_11, .bool a0_12, .int .i64 a0_13], .slice A1 l1.length c1] rfl xr ?_; (with_reducible refine (mapper_Map.calls k2 a0_0 _ _ y475 _ _ l0_2 _ _ l0_3 a0_4 _ _ l0_5 a0_6 a0_7 a0_8 a0_9 a0_10 a0_11 a0_12 a0_13 _ _ l1 t478 t481 _ (Tabs.below hT xf) ?side1 ?side2 ?side3 ?side4 ?side5 ?side6 ?side7 ?side8 ?side9 ?side10 A23.out).mono ?_); (case side1 => refine (Kd.R_reads' (e := 50) (base := w.heap.size) (ok := fun k_ => (True ∧ some k_ ≠ (.slice Ao29 y468.length co29 : Value).ownBlock)) (n := y475.length) (c := co34) ?_).2.2; exact (by (with_reducible repeat (first | apply Kd.R_alloc | apply Kd.R_drewN | apply Kd.R_drew)); exact (Kd.R_mono (Kd.R_far (p := ⟨gb456, 1, none⟩) (Kd.R_types HO477.out BK456.out (by decide)) (fun _ hk => hk.2) (.slice Ao34 y475.length co34)) (fun _ h_ => h_.1)))); (case side2 => exact (Kd.R_reads' HO477.out).2.1); (case side3 => exact Kd.C_below HR0_2.out xb); (case side4 => exact HC0_2.out); (case side5 => exact Kd.C_below HR0_3.out xb); (case side6 => exact HC0_3.out); (case side7 => exact Kd.C_below HR0_5.out xb); (case side8 => exact HC0_5.out); (case side9 => exact Kd.C_below HR1.out xb); (case side10 => exact HC1.out); rintro e w36 ⟨v479, rfl, ho0, hb⟩; refine ⟨_, rfl, ?_⟩; replace HO470 := xy (Kd.R_below (by (with_reducible repeat (first | apply Kd.R_alloc | apply Kd.R_drewN | apply Kd.R_drew)); exact (Kd.R_mono (Kd.R_far (p := ⟨gb456, 1, none⟩) (Kd.R_types HO470.out BK456.out (by decide)) (fun _ hk => hk.2) (.slice Ao34 y475.length co34)) (fun _ h_ => h_.1))) hb); replace HO477 := xy (Kd.R_below (by (with_reducible repeat (first | apply Kd.R_alloc | apply Kd.R_drewN | apply Kd.R_drew)); exact (Kd.R_mono (Kd.R_far (p := ⟨gb456, 1, none⟩) (Kd.R_types HO477.out BK456.out (by decide)) (fun _ hk => hk.2) (.slice Ao34 y475.length co34)) (fun _ h_ => h_.1))) hb); have HO480 := xy (Kd.R_lower (Kd.R_new' (Kd.R_new' ho0 (Kd.R_lt (by (with_reducible repeat (first | apply Kd.R_alloc | apply Kd.R_drewN | apply Kd.R_drew)); exact (Kd.R_mono (Kd.R_far (p := ⟨gb456, 1, none⟩) (Kd.R_types HO466.out BK456.out (by decide)) (fun _ hk => hk.2) (.slice Ao34 y475.length co34)) (fun _ h_ => h_.1))))) (Kd.R_lt (by (with_reducible repeat (first | apply Kd.R_alloc | apply Kd.R_drewN | apply Kd.R_drew)); exact (Kd.R_mono (Kd.R_far (p := ⟨gb456, 1, none⟩) (Kd.R_types HO473.out BK456.out (by decide)) (fun _ hk => hk.2) (.slice Ao34 y475.length co34)) (fun _ h_ => h_.1))))) (below_size xb)); replace HO466 := xy (Kd.R_elder' (by (with_reducible repeat (first | apply Kd.R_alloc | apply Kd.R_drewN | apply Kd.R_drew)); exact (Kd.R_mono (Kd.R_far (p := ⟨gb456, 1, none⟩) (Kd.R_types HO466.out BK456.out (by decide)) (fun _ hk => hk.2) (.slice Ao34 y475.length co34)) (fun _ h_ => h_.1))) (Kd.R_base ho0) hb); replace HO473 := xy (Kd.R_elder' (by (with_reducible repeat (first | apply Kd.R_alloc | apply Kd.R_drewN | apply Kd.R_drew)); exact (Kd.R_mono (Kd.R_far (p := ⟨gb456, 1, none⟩) (Kd.R_types HO473.out BK456.out (by decide)) (fun _ hk => hk.2) (.slice Ao34 y475.length co34)) (fun _ h_ => h_.1))) (Kd.R_base ho0) hb); replace BK456 := xy (blk_below (g := gb456) (o := .cells #[.bool a0_0, .slice Ao34 y475.length co34, .slice A0_2 l0_2.length c0_2, .slice A0_3 l0_3.length c0_3, .int .i64 a0_4, .slice A0_5 l0_5.length c0_5, .bool a0_6, .int .i64 a0_7, .string a0_8, .bool a0_9, .int .i64 a0_10, .bool a0_11, .bool a0_12, .int .i64 a0_13] 26 (0, 0)) (by (with_reducible repeat (first | refine blk_drewN ?_ _ | refine blk_drew ?_ | refine blk_alloc ?_ _)); refine blk_put (cs := #[.bool a0_0, .slice Ao29 y468.length co29, .slice A0_2 l0_2.length c0_2, .slice A0_3 l0_3.length c0_3, .int .i64 a0_4, .slice A0_5 l0_5.length c0_5, .bool a0_6, .int .i64 a0_7, .string a0_8, .bool a0_9, .int .i64 a0_10, .bool a0_11, .bool a0_12, .int .i64 a0_13]) ?_ 1 _ rfl; (with_reducible repeat (first | refine blk_drewN ?_ _ | refine blk_drew ?_ | refine blk_alloc ?_ _)); exact BK456.out) hb); replace HB := xy (below_step xb hb); (try clear hb); (try clear hb2); (try clear hk); (try clear hi); (try clear ho0)))
       (try simp only [Act.put, List.setIfInBounds_toArray, List.set_cons_zero, List.set_cons_succ])
       go_cut [71] (fun v71 wc => ∃ (kq : Nat) (x71_23 : Bool), v71 = .bool x71_23 ∧ Aside0 (w18_MapperAll.j2 kq x5_2 t464 t471 t478 x71_23 = some r) ∧ Aside0 (kq ≤ k2) ∧ Aside0 (Kd.R k55 55 wc w.heap.size (fun k_ => some k_ ≠ (v472 : Value).ownBlock ∧ some k_ ≠ (v479 : Value).ownBlock) v465 t464) ∧ Aside0 (Kd.R k55 55 wc w.heap.size (fun k_ => some k_ ≠ (v465 : Value).ownBlock ∧ some k_ ≠ (v479 : Value).ownBlock) v472 t471) ∧ Aside0 (Kd.R k55 55 wc w.heap.size (fun k_ => some k_ ≠ (v465 : Value).ownBlock ∧ some k_ ≠ (v472 : Value).ownBlock) v479 t478) ∧ Aside0 (Kd.R k50 50 wc w.heap.size (fun _ => True) (.slice Ao34 y475.length co34) y475) ∧ Aside0 (wc.heap[gb456]? = some (.cells #[.bool a0_0, (.slice Ao34 y475.length co34), (.slice A0_2 l0_2.length c0_2), (.slice A0_3 l0_3.length c0_3), .int .i64 a0_4, (.slice A0_5 l0_5.length c0_5), .bool a0_6, .int .i64 a0_7, .string a0_8, .bool a0_9, .int .i64 a0_10, .bool a0_11, .bool a0_12, .int .i64 a0_13] 26 (0, 0))) ∧ Aside0 (Below w.heap.size w wc))
       case first =>
        have H := HC24.out
        clear HC24
        by_cases c37 : t467 = 0
        ·rw [if_pos c37] at H
         have c37b0 : (t467 == 0) = true := beq_iff_eq.mpr c37
         have c37b1 : (t467 != 0) = false := bne_eq_false_iff_eq.mpr c37
         clear c37
         (first | rw [c37b0] | (simp only [i64_w, i32_w]; rw [c37b0]) | skip)
         by_cases c38 : t474 = 0
         ·rw [if_pos c38] at H
          have c38b0 : (t474 == 0) = true := beq_iff_eq.mpr c38
          have c38b1 : (t474 != 0) = false := bne_eq_false_iff_eq.mpr c38
          clear c38
          have H' := xy H
          clear H
          go_wp2
          go_meet
          case rel => exact ⟨_, ((t481 != 0)), xg, H', ⟨by have := HJ2.out; have := HK2.out; first | omega | exact Nat.le_refl _⟩, ⟨by (with_reducible repeat (first | apply Kd.R_alloc | apply Kd.R_drewN | apply Kd.R_drew)); exact Kd.R_mono HO466.out (fun _ hk => ⟨hk.1.2, hk.2⟩)⟩, ⟨by (with_reducible repeat (first | apply Kd.R_alloc | apply Kd.R_drewN | apply Kd.R_drew)); exact Kd.R_mono HO473.out (fun _ hk => ⟨hk.1.2, hk.2⟩)⟩, ⟨by (with_reducible repeat (first | apply Kd.R_alloc | apply Kd.R_drewN | apply Kd.R_drew)); exact Kd.R_mono HO480.out (fun _ hk => ⟨hk.1.2, hk.2⟩)⟩, ⟨by (with_reducible repeat (first | apply Kd.R_alloc | apply Kd.R_drewN | apply Kd.R_drew)); exact Kd.R_mono HO477.out (fun _ hk => trivial)⟩, ⟨by (with_reducible repeat (first | refine blk_drewN ?_ _ | refine blk_drew ?_ | refine blk_alloc ?_ _)); exact BK456.out⟩, ⟨xb⟩⟩
         ·rw [if_neg c38] at H
          have c38b0 : (t474 == 0) = false := beq_eq_false_iff_ne.mpr c38
          have c38b1 : (t474 != 0) = true := bne_iff_ne.mpr c38
          have H' := xy H
          clear H
          go_wp2
          go_meet
          case rel => exact ⟨_, (true), xg, H', ⟨by have := HJ2.out; have := HK2.out; first | omega | exact Nat.le_refl _⟩, ⟨by (with_reducible repeat (first | apply Kd.R_alloc | apply Kd.R_drewN | apply Kd.R_drew)); exact Kd.R_mono HO466.out (fun _ hk => ⟨hk.1.2, hk.2⟩)⟩, ⟨by (with_reducible repeat (first | apply Kd.R_alloc | apply Kd.R_drewN | apply Kd.R_drew)); exact Kd.R_mono HO473.out (fun _ hk => ⟨hk.1.2, hk.2⟩)⟩, ⟨by (with_reducible repeat (first | apply Kd.R_alloc | apply Kd.R_drewN | apply Kd.R_drew)); exact Kd.R_mono HO480.out (fun _ hk => ⟨hk.1.2, hk.2⟩)⟩, ⟨by (with_reducible repeat (first | apply Kd.R_alloc | apply Kd.R_drewN | apply Kd.R_drew)); exact Kd.R_mono HO477.out (fun _ hk => trivial)⟩, ⟨by (with_reducible repeat (first | refine blk_drewN ?_ _ | refine blk_drew ?_ | refine blk_alloc ?_ _)); exact BK456.out⟩, ⟨xb⟩⟩
        ·rw [if_neg c37] at H
         have c37b0 : (t467 == 0) = false := beq_eq_false_iff_ne.mpr c37
         have c37b1 : (t467 != 0) = true := bne_iff_ne.mpr c37
         (first | rw [c37b0] | (simp only [i64_w, i32_w]; rw [c37b0]) | skip)
         have H' := xy H
         clear H
         go_wp2
         go_meet
         case rel => exact ⟨_, (true), xg, H', ⟨by have := HJ2.out; have := HK2.out; first | omega | exact Nat.le_refl _⟩, ⟨by (with_reducible repeat (first | apply Kd.R_alloc | apply Kd.R_drewN | apply Kd.R_drew)); exact Kd.R_mono HO466.out (fun _ hk => ⟨hk.1.2, hk.2⟩)⟩, ⟨by (with_reducible repeat (first | apply Kd.R_alloc | apply Kd.R_drewN | apply Kd.R_drew)); exact Kd.R_mono HO473.out (fun _ hk => ⟨hk.1.2, hk.2⟩)⟩, ⟨by (with_reducible repeat (first | apply Kd.R_alloc | apply Kd.R_drewN | apply Kd.R_drew)); exact Kd.R_mono HO480.out (fun _ hk => ⟨hk.1.2, hk.2⟩)⟩, ⟨by (with_reducible repeat (first | apply Kd.R_alloc | apply Kd.R_drewN | apply Kd.R_drew)); exact Kd.R_mono HO477.out (fun _ hk => trivial)⟩, ⟨by (with_reducible repeat (first | refine blk_drewN ?_ _ | refine blk_drew ?_ | refine blk_alloc ?_ _)); exact BK456.out⟩, ⟨xb⟩⟩
       case rest =>
        clear HC24
        try clear c1
        try clear p2
        try clear c3
        try clear c4
        try clear p4
        try clear q4
        try clear hx4
        try clear c5
        try clear c6
        try clear p6
        try clear c7
        try clear c12
        try clear c14
        try clear c15
        try clear c15b0
        try clear c16
        try clear c16b0
        try clear c37
        try clear c37b0
        try clear c37b1
        try clear c38
        try clear c38b0
        try clear c38b1
        try clear hcz10_0 hcz10_1 hcz10_10 hcz10_11 hcz10_12 hcz10_13 hcz10_2 hcz10_3 hcz10_4 hcz10_5 hcz10_6 hcz10_7 hcz10_8 hcz10_9
        try clear hcz25_0 hcz25_1 hcz25_10 hcz25_11 hcz25_12 hcz25_13 hcz25_2 hcz25_3 hcz25_4 hcz25_5 hcz25_6 hcz25_7 hcz25_8 hcz25_9
        try clear hcz30_0 hcz30_1 hcz30_10 hcz30_11 hcz30_12 hcz30_13 hcz30_2 hcz30_3 hcz30_4 hcz30_5 hcz30_6 hcz30_7 hcz30_8 hcz30_9
        try clear hcz35_0 hcz35_1 hcz35_10 hcz35_11 hcz35_12 hcz35_13 hcz35_2 hcz35_3 hcz35_4 hcz35_5 hcz35_6 hcz35_7 hcz35_8 hcz35_9
        try clear hcz8_0 hcz8_1 hcz8_10 hcz8_11 hcz8_12 hcz8_13 hcz8_2 hcz8_3 hcz8_4 hcz8_5 hcz8_6 hcz8_7 hcz8_8 hcz8_9
        try clear hfz10_0 hfz10_1 hfz10_10 hfz10_11 hfz10_12 hfz10_13 hfz10_2 hfz10_3 hfz10_4 hfz10_5 hfz10_6 hfz10_7 hfz10_8 hfz10_9
        try clear hfz25_0 hfz25_1 hfz25_10 hfz25_11 hfz25_12 hfz25_13 hfz25_2 hfz25_3 hfz25_4 hfz25_5 hfz25_6 hfz25_7 hfz25_8 hfz25_9
        try clear hfz30_0 hfz30_1 hfz30_10 hfz30_11 hfz30_12 hfz30_13 hfz30_2 hfz30_3 hfz30_4 hfz30_5 hfz30_6 hfz30_7 hfz30_8 hfz30_9
        try clear hfz35_0 hfz35_1 hfz35_10 hfz35_11 hfz35_12 hfz35_13 hfz35_2 hfz35_3 hfz35_4 hfz35_5 hfz35_6 hfz35_7 hfz35_8 hfz35_9
        try clear hfz8_0 hfz8_1 hfz8_10 hfz8_11 hfz8_12 hfz8_13 hfz8_2 hfz8_3 hfz8_4 hfz8_5 hfz8_6 hfz8_7 hfz8_8 hfz8_9
        try clear hx460_0
        try clear p2
        try clear p460
        try clear q460
        obtain ⟨kq, x71_23, rfl, HA, HJ23, HO_7, HO_9, HO_11, HO_457001, BK456, HB⟩ := hcut
        cases kq with
        | zero => exact absurd HA.out (by simp [w18_MapperAll.j2])
        | succ kj23 =>
         have H := HA.out
         clear HA
         simp only [w18_MapperAll.j2] at H
         by_cases c39 : x71_23 = true
         ·subst c39
          rw [if_pos rfl] at H
          replace H := xj H
          obtain ⟨t482, A400, H⟩ := H
          try dsimp only at H
          have A40 := xy A400
          clear A400
          obtain rfl := Option.some.inj H
          go_wp2_with (first | ((with_reducible refine gate_callee (f := 7) rfl ?_); refine goesL_ (some 72) rfl rfl Tryz.func7 (by kernel_rfl) rfl #[] rfl xr ?_; (with_reducible refine (w18_alive.calls kj23  t482 _ (Tabs.below hT xf) A40.out).mono ?_); rintro e w41 ⟨rfl, hb⟩; refine ⟨_, rfl, ?_⟩; replace HO_7 := xy (Kd.R_below (xo HO_7.out) hb); replace HO_9 := xy (Kd.R_below (xo HO_9.out) hb); replace HO_11 := xy (Kd.R_below (xo HO_11.out) hb); replace HO_457001 := xy (Kd.R_below (xo HO_457001.out) hb); replace BK456 := xd BK456.out hb; replace HB := xy (below_step xb hb); (try clear hb); (try clear hb2); (try clear hk); (try clear hi)))
          go_ret
          exact ⟨xe, xb⟩
         ·replace c39 := Bool.eq_false_iff.mpr c39
          subst c39
          rw [if_neg (show ¬ (false = true) by decide)] at H
          replace H := xj H
          obtain ⟨t483, A420, H⟩ := H
          try dsimp only at H
          have A42 := xy A420
          clear A420
          by_cases c43 : t483 = true
          ·subst c43
           rw [if_pos rfl] at H
           by_cases c44 : (t464.length : Int) = x5_2
           ·rw [if_pos c44] at H
            have c44b0 : ((t464.length : Int) == x5_2) = true := beq_iff_eq.mpr c44
            have c44b1 : ((t464.length : Int) != x5_2) = false := bne_eq_false_iff_eq.mpr c44
            clear c44
            replace H := xj H
            obtain ⟨t484, A450, H⟩ := H
            try dsimp only at H
            have A45 := xy A450
            clear A450
            by_cases c46 : t484 = true
            ·subst c46
             rw [if_pos rfl] at H
             obtain rfl := Option.some.inj H
             go_wp2_with (first | ((with_reducible refine gate_callee (f := 7) rfl ?_); refine goesL_ (some 73) rfl rfl Tryz.func7 (by kernel_rfl) rfl #[] rfl xr ?_; (with_reducible refine (w18_alive.calls kj23  true _ (Tabs.below hT xf) A42.out).mono ?_); rintro e w47 ⟨rfl, hb⟩; refine ⟨_, rfl, ?_⟩; replace HO_7 := xy (Kd.R_below (xo HO_7.out) hb); replace HO_9 := xy (Kd.R_below (xo HO_9.out) hb); replace HO_11 := xy (Kd.R_below (xo HO_11.out) hb); replace HO_457001 := xy (Kd.R_below (xo HO_457001.out) hb); replace BK456 := xd BK456.out hb; replace HB := xy (below_step xb hb); (try clear hb); (try clear hb2); (try clear hk); (try clear hi); obtain ⟨Ao48, co48, eo48⟩ := Kd.R_slice HO_7.out; subst eo48; obtain ⟨Ao49, co49, eo49⟩ := Kd.R_slice HO_9.out; subst eo49) | (go_at_call 16; (with_reducible refine (mapper_Same.calls kj23 _ _ t464 _ _ t471 true _ (Tabs.below hT xf) ?side1 ?side2 ?side3 ?side4 A45.out).mono ?_); (case side1 => repeat (first | exact (Kd.R_reads' HO_7.out).2.2 | (with_reducible refine Kd.C_alloc ?_ _) | (with_reducible refine Kd.C_drewN ?_ _) | (with_reducible refine Kd.C_drew ?_))); (case side2 => exact (Kd.R_reads' HO_7.out).2.1); (case side3 => repeat (first | exact (Kd.R_reads' HO_9.out).2.2 | (with_reducible refine Kd.C_alloc ?_ _) | (with_reducible refine Kd.C_drewN ?_ _) | (with_reducible refine Kd.C_drew ?_))); (case side4 => exact (Kd.R_reads' HO_9.out).2.1); rintro e w' ⟨rfl, ⟨nd, rfl⟩⟩; obtain ⟨Ao50, co50, eo50⟩ := Kd.R_slice HO_11.out; subst eo50))
             go_ret
             exact ⟨xe, xb⟩
            ·replace c46 := Bool.eq_false_iff.mpr c46
             subst c46
             rw [if_neg (show ¬ (false = true) by decide)] at H
             exact absurd ((Option.some.inj H).trans hr_) (by decide)
           ·rw [if_neg c44] at H
            have c44b0 : ((t464.length : Int) == x5_2) = false := beq_eq_false_iff_ne.mpr c44
            have c44b1 : ((t464.length : Int) != x5_2) = true := bne_iff_ne.mpr c44
            exact absurd ((Option.some.inj H).trans hr_) (by decide)
          ·replace c43 := Bool.eq_false_iff.mpr c43
           subst c43
           rw [if_neg (show ¬ (false = true) by decide)] at H
           exact absurd ((Option.some.inj H).trans hr_) (by decide)
def w18_MapperAll.Pure : Prop := ∀ (x0 : S26) (x1 : List (List ByteArray)), (True ∧ (x0.f1.length * 32 ≤ 140737488351232 ∧ ∀ q0_ ∈ x0.f1, ((Lit.int .i64 q0_.f0).wf = true ∧ (Lit.int .i64 q0_.f1).wf = true ∧ q0_.f2.size ≤ 140737488351232)) ∧ (x0.f2.length * 32 ≤ 140737488351232 ∧ ∀ q0_ ∈ x0.f2, ((Lit.int .i64 q0_.f0).wf = true ∧ (Lit.int .i64 q0_.f1).wf = true ∧ q0_.f2.size ≤ 140737488351232)) ∧ (x0.f3.length * 32 ≤ 140737488351232 ∧ ∀ q0_ ∈ x0.f3, ((Lit.int .i64 q0_.f0).wf = true ∧ (Lit.int .i64 q0_.f1).wf = true ∧ q0_.f2.size ≤ 140737488351232)) ∧ (Lit.int .i64 x0.f4).wf = true ∧ (x0.f5.length * 32 ≤ 140737488351232 ∧ ∀ q0_ ∈ x0.f5, ((Lit.int .i64 q0_.f0).wf = true ∧ (Lit.int .i64 q0_.f1).wf = true ∧ q0_.f2.size ≤ 140737488351232)) ∧ (True ∧ (Lit.int .i64 x0.f6.f1).wf = true ∧ x0.f6.f2.size ≤ 140737488351232) ∧ True ∧ (Lit.int .i64 x0.f8).wf = true ∧ True ∧ True ∧ (Lit.int .i64 x0.f11).wf = true) → (x1.length * 24 ≤ 140737488351232 ∧ ∀ q0_ ∈ x1, (q0_.length * 16 ≤ 140737488351232 ∧ ∀ q1_ ∈ q0_, q1_.size ≤ 140737488351232)) → ∃ k, w18_MapperAll.f k x0.f0 x0.f1 x0.f2 x0.f3 x0.f4 x0.f5 x0.f6.f0 x0.f6.f1 x0.f6.f2 x0.f7 x0.f8 x0.f9 x0.f10 x0.f11 x1 = some true
end Go.Proofs.YtialoecplmnjfaaGreatDoor.PX
