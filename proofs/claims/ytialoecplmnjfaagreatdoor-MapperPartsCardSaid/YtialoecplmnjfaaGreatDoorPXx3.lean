/- Walked functions, by this session's program over the kit's print. -/
import Derived.Test.YtialoecplmnjfaaGreatDoorPXx0
namespace Go.Proofs.YtialoecplmnjfaaGreatDoor.PX
open Go.RowKit Go.Proofs.YtialoecplmnjfaaGreatDoorW.PrintWords Go.Proofs.YtialoecplmnjfaaGreatDoorW.PrintLast Go.Proofs.YtialoecplmnjfaaGreatDoorW.PrintMore
attribute [local go_sem] xm_gtr max2_int min2_int max_two min_two max_three min_three max_four min_four
set_option linter.unusedVariables false
set_option linter.unusedSimpArgs false
/- Walked functions, by this session's program over the kit's print. -/
def w18_small.l0 : Nat → List (S50) → Int → Option (Bool)
 | 0, _, _ => none
 | k + 1, x0, x3 => if x3 < (x0.length : Int) then (if x3 = 40 then (some false) else (if 0 ≤ x3 then (if (((rd_T50 x0 x3).f2).size : Int) > 1100 then (some false) else (w18_small.l0 k x0 (wrap64 (x3 + 1)))) else (none))) else (some true)
def w18_small.f (k : Nat) (l0 : List (S50)) : Option (Bool) := w18_small.l0 k l0 0
theorem w18_small.mono_l : ∀ k, (∀ y0 y1, LeO (w18_small.l0 k y0 y1) (w18_small.l0 (k + 1) y0 y1))
 | 0 => fun _ _ r h => by simp [w18_small.l0] at h
 | k + 1 => by
  have ih0 := w18_small.mono_l k
  ·intro y0 y1
   unfold w18_small.l0
   repeat' (with_reducible first | exact ih0 _ _ | exact LeO.refl _ | exact LeO.none _ | refine LeO.ite ?_ ?_ | refine LeO.bind ?_ (fun _ => ?_))
theorem w18_small.mono : ∀ a0 k, LeO (w18_small.f k a0) (w18_small.f (k + 1) a0) := by
 intro a0 k
 have ih0 := w18_small.mono_l k
 unfold w18_small.f
 repeat' (with_reducible first | exact ih0 _ _ | exact LeO.refl _ | exact LeO.none _ | refine LeO.ite ?_ ?_ | refine LeO.bind ?_ (fun _ => ?_))
set_option maxHeartbeats 8000000 in
set_option maxRecDepth 100000 in
theorem w18_small.calls (k : Nat) (A0 : Option Addr) (c0 : Nat) (l0 : List (S50)) (r : Bool) (w : World) (hT : Tabs w) (hr0 : Kd.C k50 w A0 l0.length l0) (hc0 : l0.length ≤ c0) (h : w18_small.f k l0 = some r) :
  Calls Tryz.prog 17 #[.slice A0 l0.length c0] w fun e w' => e = .returned (.bool r) ∧ Drawn0 w w' := by
 have HR0 := xy hr0
 have HC0 := xy hc0
 clear hr0 hc0
 unfold w18_small.f at h
 have H := h
 clear h
 have H' := xy H
 clear H
 go_enter Tryz.func17, Tryz.ntmps17
 go_wp2
 go_loopg [3] k (fun kq v3 w' => ∃ (x3_1 : Int), v3 = .int .i64 x3_1 ∧ Aside0 (w18_small.l0 kq l0 x3_1 = some r) ∧ Aside0 (kq ≤ k) ∧ Drawn0 w w')
 case atStart => exact ⟨(0), xg, H', ⟨Nat.le_refl _⟩, by repeat (first | exact Drawn0.refl _ | apply Drawn0.step)⟩
 case round =>
  clear H'
  try clear c1
  obtain ⟨x3_1, rfl, HA, HK1, ⟨m1, rfl⟩⟩ := hrel
  cases gk with
  | zero => exact absurd HA.out (by simp [w18_small.l0])
  | succ k1 =>
   have H := HA.out
   clear HA
   simp only [w18_small.l0] at H
   by_cases c2 : x3_1 < (l0.length : Int)
   ·rw [if_pos c2] at H
    have c2b0 : decide (x3_1 < (l0.length : Int)) = true := decide_eq_true c2
    clear c2
    by_cases c3 : x3_1 = 40
    ·rw [if_pos c3] at H
     have c3b0 : (x3_1 == 40) = true := beq_iff_eq.mpr c3
     have c3b1 : (x3_1 != 40) = false := bne_eq_false_iff_eq.mpr c3
     clear c3
     obtain rfl := Option.some.inj H
     go_wp2
     go_ret
     exact ⟨xg, xz⟩
    ·rw [if_neg c3] at H
     have c3b0 : (x3_1 == 40) = false := beq_eq_false_iff_ne.mpr c3
     have c3b1 : (x3_1 != 40) = true := bne_iff_ne.mpr c3
     by_cases c4 : 0 ≤ x3_1
     ·rw [if_pos c4] at H
      have c4b0 : decide (0 ≤ x3_1) = true := decide_eq_true c4
      clear c4
      by_cases c5 : (((rd_T50 l0 x3_1).f2).size : Int) > 1100
      ·rw [if_pos c5] at H
       have c5b0 : decide (1100 < (((rd_T50 l0 x3_1).f2).size : Int)) = true := decide_eq_true c5
       have c5b1 : decide (1100 < ((rd_T50 l0 x3_1).f2).size) = true := decide_eq_true (by omega)
       clear c5
       obtain rfl := Option.some.inj H
       have p101 : 0 ≤ (x3_1 : Int) := xi
       have q101 : x3_1 < (l0.length : Int) := xi
       obtain ⟨ad101, e101, hx101_0, hx101_1, hx101_2⟩ := at_T50 HR0.out x3_1 p101 q101
       cases e101
       replace p101 := eq_true p101
       replace q101 := eq_true q101
       go_wp2
       go_ret
       exact ⟨xg, xz⟩
      ·rw [if_neg c5] at H
       have c5b0 : decide (1100 < (((rd_T50 l0 x3_1).f2).size : Int)) = false := decide_eq_false c5
       have c5b1 : decide (1100 < ((rd_T50 l0 x3_1).f2).size) = false := decide_eq_false (by omega)
       clear c5
       have H' := xy H
       clear H
       have p101 : 0 ≤ (x3_1 : Int) := xi
       have q101 : x3_1 < (l0.length : Int) := xi
       obtain ⟨ad101, e101, hx101_0, hx101_1, hx101_2⟩ := at_T50 HR0.out x3_1 p101 q101
       cases e101
       replace p101 := eq_true p101
       replace q101 := eq_true q101
       go_wp2
       go_roundg k1
       case measure => have := HK1.out; omega
       case rel => exact ⟨(wrap64 (x3_1 + 1)), xg, H', ⟨by have := HK1.out; omega⟩, by repeat (first | exact Drawn0.refl _ | apply Drawn0.step)⟩
     ·rw [if_neg c4] at H
      exact absurd H (by simp)
   ·rw [if_neg c2] at H
    have c2b0 : decide (x3_1 < (l0.length : Int)) = false := decide_eq_false c2
    clear c2
    obtain rfl := Option.some.inj H
    go_wp2
    go_ret
    exact ⟨xg, xz⟩
def w18_little.f (k : Nat) (a0_0 : Bool) (l0_1 : List (S50)) (l0_2 : List (S50)) (l0_3 : List (S50)) (a0_4 : Int) (l0_5 : List (S50)) (a0_6 : Bool) (a0_7 : Int) (a0_8 : ByteArray) (a0_9 : Bool) (a0_10 : Int) (a0_11 : Bool) (a0_12 : Bool) (a0_13 : Int) : Option (Bool) := (w18_small.f k l0_1).bind fun t103 => (if t103 = true then ((w18_small.f k l0_2).bind fun t104 => (if t104 = true then ((w18_small.f k l0_3).bind fun t105 => (if t105 = true then ((w18_small.f k l0_5).bind fun t106 => (if t106 = true then (some (decide ((a0_8.size : Int) ≤ 1100))) else (some false))) else (some false))) else (some false))) else (some false))
theorem w18_little.mono : ∀ a0 a1 a2 a3 a4 a5 a6 a7 a8 a9 a10 a11 a12 a13 k, LeO (w18_little.f k a0 a1 a2 a3 a4 a5 a6 a7 a8 a9 a10 a11 a12 a13) (w18_little.f (k + 1) a0 a1 a2 a3 a4 a5 a6 a7 a8 a9 a10 a11 a12 a13) := by
 intro a0 a1 a2 a3 a4 a5 a6 a7 a8 a9 a10 a11 a12 a13 k
 unfold w18_little.f
 repeat' (with_reducible first | exact w18_small.mono _ _ | exact LeO.refl _ | exact LeO.none _ | refine LeO.ite ?_ ?_ | refine LeO.bind ?_ (fun _ => ?_))
set_option maxHeartbeats 8000000 in
set_option maxRecDepth 100000 in
theorem w18_little.calls (k : Nat) (a0_0 : Bool) (A0_1 : Option Addr) (c0_1 : Nat) (l0_1 : List (S50)) (A0_2 : Option Addr) (c0_2 : Nat) (l0_2 : List (S50)) (A0_3 : Option Addr) (c0_3 : Nat) (l0_3 : List (S50)) (a0_4 : Int) (A0_5 : Option Addr) (c0_5 : Nat) (l0_5 : List (S50)) (a0_6 : Bool) (a0_7 : Int) (a0_8 : ByteArray) (a0_9 : Bool) (a0_10 : Int) (a0_11 : Bool) (a0_12 : Bool) (a0_13 : Int) (r : Bool) (w : World) (hT : Tabs w) (hr0_1 : Kd.C k50 w A0_1 l0_1.length l0_1) (hc0_1 : l0_1.length ≤ c0_1) (hr0_2 : Kd.C k50 w A0_2 l0_2.length l0_2) (hc0_2 : l0_2.length ≤ c0_2) (hr0_3 : Kd.C k50 w A0_3 l0_3.length l0_3) (hc0_3 : l0_3.length ≤ c0_3) (hr0_5 : Kd.C k50 w A0_5 l0_5.length l0_5) (hc0_5 : l0_5.length ≤ c0_5) (h : w18_little.f k a0_0 l0_1 l0_2 l0_3 a0_4 l0_5 a0_6 a0_7 a0_8 a0_9 a0_10 a0_11 a0_12 a0_13 = some r) :
  Calls Tryz.prog 5 #[.agg #[.bool a0_0, .slice A0_1 l0_1.length c0_1, .slice A0_2 l0_2.length c0_2, .slice A0_3 l0_3.length c0_3, .int .i64 a0_4, .slice A0_5 l0_5.length c0_5, .bool a0_6, .int .i64 a0_7, .string a0_8, .bool a0_9, .int .i64 a0_10, .bool a0_11, .bool a0_12, .int .i64 a0_13]] w fun e w' => e = .returned (.bool r) ∧ Below w.heap.size w w' := by
 have hu26 := Tryz.underlying26
 have HR0_1 := xy hr0_1
 have HC0_1 := xy hc0_1
 clear hr0_1 hc0_1
 have HR0_2 := xy hr0_2
 have HC0_2 := xy hc0_2
 clear hr0_2 hc0_2
 have HR0_3 := xy hr0_3
 have HC0_3 := xy hc0_3
 clear hr0_3 hc0_3
 have HR0_5 := xy hr0_5
 have HC0_5 := xy hc0_5
 clear hr0_5 hc0_5
 have HB := xy (Below.refl w.heap.size w)
 unfold w18_little.f at h
 have H := h
 clear h
 replace H := xj H
 obtain ⟨t103, A20, H⟩ := H
 try dsimp only at H
 have A2 := xy A20
 clear A20
 by_cases c3 : t103 = true
 ·subst c3
  rw [if_pos rfl] at H
  replace H := xj H
  obtain ⟨t104, A40, H⟩ := H
  try dsimp only at H
  have A4 := xy A40
  clear A40
  by_cases c5 : t104 = true
  ·subst c5
   rw [if_pos rfl] at H
   replace H := xj H
   obtain ⟨t105, A60, H⟩ := H
   try dsimp only at H
   have A6 := xy A60
   clear A60
   by_cases c7 : t105 = true
   ·subst c7
    rw [if_pos rfl] at H
    replace H := xj H
    obtain ⟨t106, A80, H⟩ := H
    try dsimp only at H
    have A8 := xy A80
    clear A80
    by_cases c9 : t106 = true
    ·subst c9
     rw [if_pos rfl] at H
     obtain rfl := Option.some.inj H
     go_enter Tryz.func5, Tryz.ntmps5
     go_wp2_with (first | ((with_reducible refine gate_dst (N := 1) rfl ?_); (try (refine gate_guard (by rfl) ?_; dsimp only)); refine xq (N := 1) (cs := #[.bool a0_0, .slice A0_1 l0_1.length c0_1, .slice A0_2 l0_2.length c0_2, .slice A0_3 l0_3.length c0_3, .int .i64 a0_4, .slice A0_5 l0_5.length c0_5, .bool a0_6, .int .i64 a0_7, .string a0_8, .bool a0_9, .int .i64 a0_10, .bool a0_11, .bool a0_12, .int .i64 a0_13]) (t := 26) ?_; intro gb102 hg w10 hbox hb; have BK102 := xy (hbox); have GW102 := xs w hg; have GE102 := xs w hg; replace HB := xy (below_step xb hb); clear hb hbox hg; have hcz11_0 : w10.cell? ⟨gb102, 0, none⟩ = some (.bool a0_0) := (kc BK102.out 0).trans rfl; have hcz11_1 : w10.cell? ⟨gb102, 1, none⟩ = some (.slice A0_1 l0_1.length c0_1) := (kc BK102.out 1).trans rfl; have hcz11_2 : w10.cell? ⟨gb102, 2, none⟩ = some (.slice A0_2 l0_2.length c0_2) := (kc BK102.out 2).trans rfl; have hcz11_3 : w10.cell? ⟨gb102, 3, none⟩ = some (.slice A0_3 l0_3.length c0_3) := (kc BK102.out 3).trans rfl; have hcz11_4 : w10.cell? ⟨gb102, 4, none⟩ = some (.int .i64 a0_4) := (kc BK102.out 4).trans rfl; have hcz11_5 : w10.cell? ⟨gb102, 5, none⟩ = some (.slice A0_5 l0_5.length c0_5) := (kc BK102.out 5).trans rfl; have hcz11_6 : w10.cell? ⟨gb102, 6, none⟩ = some (.bool a0_6) := (kc BK102.out 6).trans rfl; have hcz11_7 : w10.cell? ⟨gb102, 7, none⟩ = some (.int .i64 a0_7) := (kc BK102.out 7).trans rfl; have hcz11_8 : w10.cell? ⟨gb102, 8, none⟩ = some (.string a0_8) := (kc BK102.out 8).trans rfl; have hcz11_9 : w10.cell? ⟨gb102, 9, none⟩ = some (.bool a0_9) := (kc BK102.out 9).trans rfl; have hcz11_10 : w10.cell? ⟨gb102, 10, none⟩ = some (.int .i64 a0_10) := (kc BK102.out 10).trans rfl; have hcz11_11 : w10.cell? ⟨gb102, 11, none⟩ = some (.bool a0_11) := (kc BK102.out 11).trans rfl; have hcz11_12 : w10.cell? ⟨gb102, 12, none⟩ = some (.bool a0_12) := (kc BK102.out 12).trans rfl; have hcz11_13 : w10.cell? ⟨gb102, 13, none⟩ = some (.int .i64 a0_13) := (kc BK102.out 13).trans rfl; have hfz11_0 := kf BK102.out 0; have hfz11_1 := kf BK102.out 1; have hfz11_2 := kf BK102.out 2; have hfz11_3 := kf BK102.out 3; have hfz11_4 := kf BK102.out 4; have hfz11_5 := kf BK102.out 5; have hfz11_6 := kf BK102.out 6; have hfz11_7 := kf BK102.out 7; have hfz11_8 := kf BK102.out 8; have hfz11_9 := kf BK102.out 9; have hfz11_10 := kf BK102.out 10; have hfz11_11 := kf BK102.out 11; have hfz11_12 := kf BK102.out 12; have hfz11_13 := kf BK102.out 13) | ((with_reducible refine gate_callee (f := 17) rfl ?_); refine goesL_ (some 5) rfl rfl Tryz.func17 (by kernel_rfl) rfl #[.slice A0_1 l0_1.length c0_1] rfl xr ?_; (with_reducible refine (w18_small.calls k _ _ l0_1 true _ (Tabs.below hT xf) ?side1 ?side2 A2.out).mono ?_); (case side1 => exact Kd.C_below HR0_1.out xb); (case side2 => exact HC0_1.out); rintro e w' ⟨rfl, ⟨nd, rfl⟩⟩; refine ⟨_, rfl, ?_⟩) | (go_at_call 17; (with_reducible refine (w18_small.calls k _ _ l0_2 true _ (Tabs.below hT xf) ?side1 ?side2 A4.out).mono ?_); (case side1 => repeat (first | exact (Kd.C_below HR0_2.out xb) | (with_reducible refine Kd.C_alloc ?_ _) | (with_reducible refine Kd.C_drewN ?_ _) | (with_reducible refine Kd.C_drew ?_))); (case side2 => exact HC0_2.out); rintro e w' ⟨rfl, ⟨nd, rfl⟩⟩) | (go_at_call 17; (with_reducible refine (w18_small.calls k _ _ l0_3 true _ (Tabs.below hT xf) ?side1 ?side2 A6.out).mono ?_); (case side1 => repeat (first | exact (Kd.C_below HR0_3.out xb) | (with_reducible refine Kd.C_alloc ?_ _) | (with_reducible refine Kd.C_drewN ?_ _) | (with_reducible refine Kd.C_drew ?_))); (case side2 => exact HC0_3.out); rintro e w' ⟨rfl, ⟨nd, rfl⟩⟩) | (go_at_call 17; (with_reducible refine (w18_small.calls k _ _ l0_5 true _ (Tabs.below hT xf) ?side1 ?side2 A8.out).mono ?_); (case side1 => repeat (first | exact (Kd.C_below HR0_5.out xb) | (with_reducible refine Kd.C_alloc ?_ _) | (with_reducible refine Kd.C_drewN ?_ _) | (with_reducible refine Kd.C_drew ?_))); (case side2 => exact HC0_5.out); rintro e w' ⟨rfl, ⟨nd, rfl⟩⟩))
     go_ret
     exact ⟨xe, xb⟩
    ·replace c9 := Bool.eq_false_iff.mpr c9
     subst c9
     rw [if_neg (show ¬ (false = true) by decide)] at H
     obtain rfl := Option.some.inj H
     go_enter Tryz.func5, Tryz.ntmps5
     go_wp2_with (first | ((with_reducible refine gate_dst (N := 1) rfl ?_); (try (refine gate_guard (by rfl) ?_; dsimp only)); refine xq (N := 1) (cs := #[.bool a0_0, .slice A0_1 l0_1.length c0_1, .slice A0_2 l0_2.length c0_2, .slice A0_3 l0_3.length c0_3, .int .i64 a0_4, .slice A0_5 l0_5.length c0_5, .bool a0_6, .int .i64 a0_7, .string a0_8, .bool a0_9, .int .i64 a0_10, .bool a0_11, .bool a0_12, .int .i64 a0_13]) (t := 26) ?_; intro gb102 hg w12 hbox hb; have BK102 := xy (hbox); have GW102 := xs w hg; have GE102 := xs w hg; replace HB := xy (below_step xb hb); clear hb hbox hg; have hcz13_0 : w12.cell? ⟨gb102, 0, none⟩ = some (.bool a0_0) := (kc BK102.out 0).trans rfl; have hcz13_1 : w12.cell? ⟨gb102, 1, none⟩ = some (.slice A0_1 l0_1.length c0_1) := (kc BK102.out 1).trans rfl; have hcz13_2 : w12.cell? ⟨gb102, 2, none⟩ = some (.slice A0_2 l0_2.length c0_2) := (kc BK102.out 2).trans rfl; have hcz13_3 : w12.cell? ⟨gb102, 3, none⟩ = some (.slice A0_3 l0_3.length c0_3) := (kc BK102.out 3).trans rfl; have hcz13_4 : w12.cell? ⟨gb102, 4, none⟩ = some (.int .i64 a0_4) := (kc BK102.out 4).trans rfl; have hcz13_5 : w12.cell? ⟨gb102, 5, none⟩ = some (.slice A0_5 l0_5.length c0_5) := (kc BK102.out 5).trans rfl; have hcz13_6 : w12.cell? ⟨gb102, 6, none⟩ = some (.bool a0_6) := (kc BK102.out 6).trans rfl; have hcz13_7 : w12.cell? ⟨gb102, 7, none⟩ = some (.int .i64 a0_7) := (kc BK102.out 7).trans rfl; have hcz13_8 : w12.cell? ⟨gb102, 8, none⟩ = some (.string a0_8) := (kc BK102.out 8).trans rfl; have hcz13_9 : w12.cell? ⟨gb102, 9, none⟩ = some (.bool a0_9) := (kc BK102.out 9).trans rfl; have hcz13_10 : w12.cell? ⟨gb102, 10, none⟩ = some (.int .i64 a0_10) := (kc BK102.out 10).trans rfl; have hcz13_11 : w12.cell? ⟨gb102, 11, none⟩ = some (.bool a0_11) := (kc BK102.out 11).trans rfl; have hcz13_12 : w12.cell? ⟨gb102, 12, none⟩ = some (.bool a0_12) := (kc BK102.out 12).trans rfl; have hcz13_13 : w12.cell? ⟨gb102, 13, none⟩ = some (.int .i64 a0_13) := (kc BK102.out 13).trans rfl; have hfz13_0 := kf BK102.out 0; have hfz13_1 := kf BK102.out 1; have hfz13_2 := kf BK102.out 2; have hfz13_3 := kf BK102.out 3; have hfz13_4 := kf BK102.out 4; have hfz13_5 := kf BK102.out 5; have hfz13_6 := kf BK102.out 6; have hfz13_7 := kf BK102.out 7; have hfz13_8 := kf BK102.out 8; have hfz13_9 := kf BK102.out 9; have hfz13_10 := kf BK102.out 10; have hfz13_11 := kf BK102.out 11; have hfz13_12 := kf BK102.out 12; have hfz13_13 := kf BK102.out 13) | ((with_reducible refine gate_callee (f := 17) rfl ?_); refine goesL_ (some 5) rfl rfl Tryz.func17 (by kernel_rfl) rfl #[.slice A0_1 l0_1.length c0_1] rfl xr ?_; (with_reducible refine (w18_small.calls k _ _ l0_1 true _ (Tabs.below hT xf) ?side1 ?side2 A2.out).mono ?_); (case side1 => exact Kd.C_below HR0_1.out xb); (case side2 => exact HC0_1.out); rintro e w' ⟨rfl, ⟨nd, rfl⟩⟩; refine ⟨_, rfl, ?_⟩) | (go_at_call 17; (with_reducible refine (w18_small.calls k _ _ l0_2 true _ (Tabs.below hT xf) ?side1 ?side2 A4.out).mono ?_); (case side1 => repeat (first | exact (Kd.C_below HR0_2.out xb) | (with_reducible refine Kd.C_alloc ?_ _) | (with_reducible refine Kd.C_drewN ?_ _) | (with_reducible refine Kd.C_drew ?_))); (case side2 => exact HC0_2.out); rintro e w' ⟨rfl, ⟨nd, rfl⟩⟩) | (go_at_call 17; (with_reducible refine (w18_small.calls k _ _ l0_3 true _ (Tabs.below hT xf) ?side1 ?side2 A6.out).mono ?_); (case side1 => repeat (first | exact (Kd.C_below HR0_3.out xb) | (with_reducible refine Kd.C_alloc ?_ _) | (with_reducible refine Kd.C_drewN ?_ _) | (with_reducible refine Kd.C_drew ?_))); (case side2 => exact HC0_3.out); rintro e w' ⟨rfl, ⟨nd, rfl⟩⟩) | (go_at_call 17; (with_reducible refine (w18_small.calls k _ _ l0_5 false _ (Tabs.below hT xf) ?side1 ?side2 A8.out).mono ?_); (case side1 => repeat (first | exact (Kd.C_below HR0_5.out xb) | (with_reducible refine Kd.C_alloc ?_ _) | (with_reducible refine Kd.C_drewN ?_ _) | (with_reducible refine Kd.C_drew ?_))); (case side2 => exact HC0_5.out); rintro e w' ⟨rfl, ⟨nd, rfl⟩⟩))
     go_ret
     exact ⟨xe, xb⟩
   ·replace c7 := Bool.eq_false_iff.mpr c7
    subst c7
    rw [if_neg (show ¬ (false = true) by decide)] at H
    obtain rfl := Option.some.inj H
    go_enter Tryz.func5, Tryz.ntmps5
    go_wp2_with (first | ((with_reducible refine gate_dst (N := 1) rfl ?_); (try (refine gate_guard (by rfl) ?_; dsimp only)); refine xq (N := 1) (cs := #[.bool a0_0, .slice A0_1 l0_1.length c0_1, .slice A0_2 l0_2.length c0_2, .slice A0_3 l0_3.length c0_3, .int .i64 a0_4, .slice A0_5 l0_5.length c0_5, .bool a0_6, .int .i64 a0_7, .string a0_8, .bool a0_9, .int .i64 a0_10, .bool a0_11, .bool a0_12, .int .i64 a0_13]) (t := 26) ?_; intro gb102 hg w14 hbox hb; have BK102 := xy (hbox); have GW102 := xs w hg; have GE102 := xs w hg; replace HB := xy (below_step xb hb); clear hb hbox hg; have hcz15_0 : w14.cell? ⟨gb102, 0, none⟩ = some (.bool a0_0) := (kc BK102.out 0).trans rfl; have hcz15_1 : w14.cell? ⟨gb102, 1, none⟩ = some (.slice A0_1 l0_1.length c0_1) := (kc BK102.out 1).trans rfl; have hcz15_2 : w14.cell? ⟨gb102, 2, none⟩ = some (.slice A0_2 l0_2.length c0_2) := (kc BK102.out 2).trans rfl; have hcz15_3 : w14.cell? ⟨gb102, 3, none⟩ = some (.slice A0_3 l0_3.length c0_3) := (kc BK102.out 3).trans rfl; have hcz15_4 : w14.cell? ⟨gb102, 4, none⟩ = some (.int .i64 a0_4) := (kc BK102.out 4).trans rfl; have hcz15_5 : w14.cell? ⟨gb102, 5, none⟩ = some (.slice A0_5 l0_5.length c0_5) := (kc BK102.out 5).trans rfl; have hcz15_6 : w14.cell? ⟨gb102, 6, none⟩ = some (.bool a0_6) := (kc BK102.out 6).trans rfl; have hcz15_7 : w14.cell? ⟨gb102, 7, none⟩ = some (.int .i64 a0_7) := (kc BK102.out 7).trans rfl; have hcz15_8 : w14.cell? ⟨gb102, 8, none⟩ = some (.string a0_8) := (kc BK102.out 8).trans rfl; have hcz15_9 : w14.cell? ⟨gb102, 9, none⟩ = some (.bool a0_9) := (kc BK102.out 9).trans rfl; have hcz15_10 : w14.cell? ⟨gb102, 10, none⟩ = some (.int .i64 a0_10) := (kc BK102.out 10).trans rfl; have hcz15_11 : w14.cell? ⟨gb102, 11, none⟩ = some (.bool a0_11) := (kc BK102.out 11).trans rfl; have hcz15_12 : w14.cell? ⟨gb102, 12, none⟩ = some (.bool a0_12) := (kc BK102.out 12).trans rfl; have hcz15_13 : w14.cell? ⟨gb102, 13, none⟩ = some (.int .i64 a0_13) := (kc BK102.out 13).trans rfl; have hfz15_0 := kf BK102.out 0; have hfz15_1 := kf BK102.out 1; have hfz15_2 := kf BK102.out 2; have hfz15_3 := kf BK102.out 3; have hfz15_4 := kf BK102.out 4; have hfz15_5 := kf BK102.out 5; have hfz15_6 := kf BK102.out 6; have hfz15_7 := kf BK102.out 7; have hfz15_8 := kf BK102.out 8; have hfz15_9 := kf BK102.out 9; have hfz15_10 := kf BK102.out 10; have hfz15_11 := kf BK102.out 11; have hfz15_12 := kf BK102.out 12; have hfz15_13 := kf BK102.out 13) | ((with_reducible refine gate_callee (f := 17) rfl ?_); refine goesL_ (some 5) rfl rfl Tryz.func17 (by kernel_rfl) rfl #[.slice A0_1 l0_1.length c0_1] rfl xr ?_; (with_reducible refine (w18_small.calls k _ _ l0_1 true _ (Tabs.below hT xf) ?side1 ?side2 A2.out).mono ?_); (case side1 => exact Kd.C_below HR0_1.out xb); (case side2 => exact HC0_1.out); rintro e w' ⟨rfl, ⟨nd, rfl⟩⟩; refine ⟨_, rfl, ?_⟩) | (go_at_call 17; (with_reducible refine (w18_small.calls k _ _ l0_2 true _ (Tabs.below hT xf) ?side1 ?side2 A4.out).mono ?_); (case side1 => repeat (first | exact (Kd.C_below HR0_2.out xb) | (with_reducible refine Kd.C_alloc ?_ _) | (with_reducible refine Kd.C_drewN ?_ _) | (with_reducible refine Kd.C_drew ?_))); (case side2 => exact HC0_2.out); rintro e w' ⟨rfl, ⟨nd, rfl⟩⟩) | (go_at_call 17; (with_reducible refine (w18_small.calls k _ _ l0_3 false _ (Tabs.below hT xf) ?side1 ?side2 A6.out).mono ?_); (case side1 => repeat (first | exact (Kd.C_below HR0_3.out xb) | (with_reducible refine Kd.C_alloc ?_ _) | (with_reducible refine Kd.C_drewN ?_ _) | (with_reducible refine Kd.C_drew ?_))); (case side2 => exact HC0_3.out); rintro e w' ⟨rfl, ⟨nd, rfl⟩⟩))
    go_ret
    exact ⟨xe, xb⟩
  ·replace c5 := Bool.eq_false_iff.mpr c5
   subst c5
   rw [if_neg (show ¬ (false = true) by decide)] at H
   obtain rfl := Option.some.inj H
   go_enter Tryz.func5, Tryz.ntmps5
   go_wp2_with (first | ((with_reducible refine gate_dst (N := 1) rfl ?_); (try (refine gate_guard (by rfl) ?_; dsimp only)); refine xq (N := 1) (cs := #[.bool a0_0, .slice A0_1 l0_1.length c0_1, .slice A0_2 l0_2.length c0_2, .slice A0_3 l0_3.length c0_3, .int .i64 a0_4, .slice A0_5 l0_5.length c0_5, .bool a0_6, .int .i64 a0_7, .string a0_8, .bool a0_9, .int .i64 a0_10, .bool a0_11, .bool a0_12, .int .i64 a0_13]) (t := 26) ?_; intro gb102 hg w16 hbox hb; have BK102 := xy (hbox); have GW102 := xs w hg; have GE102 := xs w hg; replace HB := xy (below_step xb hb); clear hb hbox hg; have hcz17_0 : w16.cell? ⟨gb102, 0, none⟩ = some (.bool a0_0) := (kc BK102.out 0).trans rfl; have hcz17_1 : w16.cell? ⟨gb102, 1, none⟩ = some (.slice A0_1 l0_1.length c0_1) := (kc BK102.out 1).trans rfl; have hcz17_2 : w16.cell? ⟨gb102, 2, none⟩ = some (.slice A0_2 l0_2.length c0_2) := (kc BK102.out 2).trans rfl; have hcz17_3 : w16.cell? ⟨gb102, 3, none⟩ = some (.slice A0_3 l0_3.length c0_3) := (kc BK102.out 3).trans rfl; have hcz17_4 : w16.cell? ⟨gb102, 4, none⟩ = some (.int .i64 a0_4) := (kc BK102.out 4).trans rfl; have hcz17_5 : w16.cell? ⟨gb102, 5, none⟩ = some (.slice A0_5 l0_5.length c0_5) := (kc BK102.out 5).trans rfl; have hcz17_6 : w16.cell? ⟨gb102, 6, none⟩ = some (.bool a0_6) := (kc BK102.out 6).trans rfl; have hcz17_7 : w16.cell? ⟨gb102, 7, none⟩ = some (.int .i64 a0_7) := (kc BK102.out 7).trans rfl; have hcz17_8 : w16.cell? ⟨gb102, 8, none⟩ = some (.string a0_8) := (kc BK102.out 8).trans rfl; have hcz17_9 : w16.cell? ⟨gb102, 9, none⟩ = some (.bool a0_9) := (kc BK102.out 9).trans rfl; have hcz17_10 : w16.cell? ⟨gb102, 10, none⟩ = some (.int .i64 a0_10) := (kc BK102.out 10).trans rfl; have hcz17_11 : w16.cell? ⟨gb102, 11, none⟩ = some (.bool a0_11) := (kc BK102.out 11).trans rfl; have hcz17_12 : w16.cell? ⟨gb102, 12, none⟩ = some (.bool a0_12) := (kc BK102.out 12).trans rfl; have hcz17_13 : w16.cell? ⟨gb102, 13, none⟩ = some (.int .i64 a0_13) := (kc BK102.out 13).trans rfl; have hfz17_0 := kf BK102.out 0; have hfz17_1 := kf BK102.out 1; have hfz17_2 := kf BK102.out 2; have hfz17_3 := kf BK102.out 3; have hfz17_4 := kf BK102.out 4; have hfz17_5 := kf BK102.out 5; have hfz17_6 := kf BK102.out 6; have hfz17_7 := kf BK102.out 7; have hfz17_8 := kf BK102.out 8; have hfz17_9 := kf BK102.out 9; have hfz17_10 := kf BK102.out 10; have hfz17_11 := kf BK102.out 11; have hfz17_12 := kf BK102.out 12; have hfz17_13 := kf BK102.out 13) | ((with_reducible refine gate_callee (f := 17) rfl ?_); refine goesL_ (some 5) rfl rfl Tryz.func17 (by kernel_rfl) rfl #[.slice A0_1 l0_1.length c0_1] rfl xr ?_; (with_reducible refine (w18_small.calls k _ _ l0_1 true _ (Tabs.below hT xf) ?side1 ?side2 A2.out).mono ?_); (case side1 => exact Kd.C_below HR0_1.out xb); (case side2 => exact HC0_1.out); rintro e w' ⟨rfl, ⟨nd, rfl⟩⟩; refine ⟨_, rfl, ?_⟩) | (go_at_call 17; (with_reducible refine (w18_small.calls k _ _ l0_2 false _ (Tabs.below hT xf) ?side1 ?side2 A4.out).mono ?_); (case side1 => repeat (first | exact (Kd.C_below HR0_2.out xb) | (with_reducible refine Kd.C_alloc ?_ _) | (with_reducible refine Kd.C_drewN ?_ _) | (with_reducible refine Kd.C_drew ?_))); (case side2 => exact HC0_2.out); rintro e w' ⟨rfl, ⟨nd, rfl⟩⟩))
   go_ret
   exact ⟨xe, xb⟩
 ·replace c3 := Bool.eq_false_iff.mpr c3
  subst c3
  rw [if_neg (show ¬ (false = true) by decide)] at H
  obtain rfl := Option.some.inj H
  go_enter Tryz.func5, Tryz.ntmps5
  go_wp2_with (first | ((with_reducible refine gate_dst (N := 1) rfl ?_); (try (refine gate_guard (by rfl) ?_; dsimp only)); refine xq (N := 1) (cs := #[.bool a0_0, .slice A0_1 l0_1.length c0_1, .slice A0_2 l0_2.length c0_2, .slice A0_3 l0_3.length c0_3, .int .i64 a0_4, .slice A0_5 l0_5.length c0_5, .bool a0_6, .int .i64 a0_7, .string a0_8, .bool a0_9, .int .i64 a0_10, .bool a0_11, .bool a0_12, .int .i64 a0_13]) (t := 26) ?_; intro gb102 hg w18 hbox hb; have BK102 := xy (hbox); have GW102 := xs w hg; have GE102 := xs w hg; replace HB := xy (below_step xb hb); clear hb hbox hg; have hcz19_0 : w18.cell? ⟨gb102, 0, none⟩ = some (.bool a0_0) := (kc BK102.out 0).trans rfl; have hcz19_1 : w18.cell? ⟨gb102, 1, none⟩ = some (.slice A0_1 l0_1.length c0_1) := (kc BK102.out 1).trans rfl; have hcz19_2 : w18.cell? ⟨gb102, 2, none⟩ = some (.slice A0_2 l0_2.length c0_2) := (kc BK102.out 2).trans rfl; have hcz19_3 : w18.cell? ⟨gb102, 3, none⟩ = some (.slice A0_3 l0_3.length c0_3) := (kc BK102.out 3).trans rfl; have hcz19_4 : w18.cell? ⟨gb102, 4, none⟩ = some (.int .i64 a0_4) := (kc BK102.out 4).trans rfl; have hcz19_5 : w18.cell? ⟨gb102, 5, none⟩ = some (.slice A0_5 l0_5.length c0_5) := (kc BK102.out 5).trans rfl; have hcz19_6 : w18.cell? ⟨gb102, 6, none⟩ = some (.bool a0_6) := (kc BK102.out 6).trans rfl; have hcz19_7 : w18.cell? ⟨gb102, 7, none⟩ = some (.int .i64 a0_7) := (kc BK102.out 7).trans rfl; have hcz19_8 : w18.cell? ⟨gb102, 8, none⟩ = some (.string a0_8) := (kc BK102.out 8).trans rfl; have hcz19_9 : w18.cell? ⟨gb102, 9, none⟩ = some (.bool a0_9) := (kc BK102.out 9).trans rfl; have hcz19_10 : w18.cell? ⟨gb102, 10, none⟩ = some (.int .i64 a0_10) := (kc BK102.out 10).trans rfl; have hcz19_11 : w18.cell? ⟨gb102, 11, none⟩ = some (.bool a0_11) := (kc BK102.out 11).trans rfl; have hcz19_12 : w18.cell? ⟨gb102, 12, none⟩ = some (.bool a0_12) := (kc BK102.out 12).trans rfl; have hcz19_13 : w18.cell? ⟨gb102, 13, none⟩ = some (.int .i64 a0_13) := (kc BK102.out 13).trans rfl; have hfz19_0 := kf BK102.out 0; have hfz19_1 := kf BK102.out 1; have hfz19_2 := kf BK102.out 2; have hfz19_3 := kf BK102.out 3; have hfz19_4 := kf BK102.out 4; have hfz19_5 := kf BK102.out 5; have hfz19_6 := kf BK102.out 6; have hfz19_7 := kf BK102.out 7; have hfz19_8 := kf BK102.out 8; have hfz19_9 := kf BK102.out 9; have hfz19_10 := kf BK102.out 10; have hfz19_11 := kf BK102.out 11; have hfz19_12 := kf BK102.out 12; have hfz19_13 := kf BK102.out 13) | ((with_reducible refine gate_callee (f := 17) rfl ?_); refine goesL_ (some 5) rfl rfl Tryz.func17 (by kernel_rfl) rfl #[.slice A0_1 l0_1.length c0_1] rfl xr ?_; (with_reducible refine (w18_small.calls k _ _ l0_1 false _ (Tabs.below hT xf) ?side1 ?side2 A2.out).mono ?_); (case side1 => exact Kd.C_below HR0_1.out xb); (case side2 => exact HC0_1.out); rintro e w' ⟨rfl, ⟨nd, rfl⟩⟩; refine ⟨_, rfl, ?_⟩))
  go_ret
  exact ⟨xe, xb⟩
def w18_few.l0 : Nat → List (S55) → Int → Int → Option (Bool)
 | 0, _, _, _ => none
 | k + 1, x0, x3, x4 => if x4 < (x0.length : Int) then (if 0 ≤ x4 then (if (wrap64 ((wrap64 ((wrap64 (x3 + 3)) + (((rd_T55 x0 x4).f0).size : Int))) + (((rd_T55 x0 x4).f1.f2).size : Int))) > 4000 then (some false) else (w18_few.l0 k x0 (wrap64 ((wrap64 ((wrap64 (x3 + 3)) + (((rd_T55 x0 x4).f0).size : Int))) + (((rd_T55 x0 x4).f1.f2).size : Int))) (wrap64 (x4 + 1)))) else (none)) else (some true)
def w18_few.f (k : Nat) (l0 : List (S55)) : Option (Bool) := w18_few.l0 k l0 0 0
theorem w18_few.mono_l : ∀ k, (∀ y0 y1 y2, LeO (w18_few.l0 k y0 y1 y2) (w18_few.l0 (k + 1) y0 y1 y2))
 | 0 => fun _ _ _ r h => by simp [w18_few.l0] at h
 | k + 1 => by
  have ih0 := w18_few.mono_l k
  ·intro y0 y1 y2
   unfold w18_few.l0
   repeat' (with_reducible first | exact ih0 _ _ _ | exact LeO.refl _ | exact LeO.none _ | refine LeO.ite ?_ ?_ | refine LeO.bind ?_ (fun _ => ?_))
theorem w18_few.mono : ∀ a0 k, LeO (w18_few.f k a0) (w18_few.f (k + 1) a0) := by
 intro a0 k
 have ih0 := w18_few.mono_l k
 unfold w18_few.f
 repeat' (with_reducible first | exact ih0 _ _ _ | exact LeO.refl _ | exact LeO.none _ | refine LeO.ite ?_ ?_ | refine LeO.bind ?_ (fun _ => ?_))
set_option maxHeartbeats 8000000 in
set_option maxRecDepth 100000 in
theorem w18_few.calls (k : Nat) (A0 : Option Addr) (c0 : Nat) (l0 : List (S55)) (r : Bool) (w : World) (hT : Tabs w) (hr0 : Kd.C k55 w A0 l0.length l0) (hc0 : l0.length ≤ c0) (h : w18_few.f k l0 = some r) :
  Calls Tryz.prog 6 #[.slice A0 l0.length c0] w fun e w' => e = .returned (.bool r) ∧ Drawn0 w w' := by
 have HR0 := xy hr0
 have HC0 := xy hc0
 clear hr0 hc0
 unfold w18_few.f at h
 have H := h
 clear h
 have H' := xy H
 clear H
 go_enter Tryz.func6, Tryz.ntmps6
 go_wp2
 repeat (go_quiet (fail); try go_wp2)
 go_loopg [3, 4] k (fun kq v3 v4 w' => ∃ (x3_1 : Int) (x4_1 : Int), v3 = .int .i64 x3_1 ∧ v4 = .int .i64 x4_1 ∧ Aside0 (w18_few.l0 kq l0 x3_1 x4_1 = some r) ∧ Aside0 (kq ≤ k) ∧ Drawn0 w w')
 case atStart => exact ⟨(0), (0), xg, xg, H', ⟨Nat.le_refl _⟩, by repeat (first | exact Drawn0.refl _ | apply Drawn0.step)⟩
 case round =>
  clear H'
  obtain ⟨x3_1, x4_1, rfl, rfl, HA, HK1, ⟨m1, rfl⟩⟩ := hrel
  cases gk with
  | zero => exact absurd HA.out (by simp [w18_few.l0])
  | succ k1 =>
   have H := HA.out
   clear HA
   simp only [w18_few.l0] at H
   by_cases c2 : x4_1 < (l0.length : Int)
   ·rw [if_pos c2] at H
    have c2b0 : decide (x4_1 < (l0.length : Int)) = true := decide_eq_true c2
    clear c2
    by_cases c3 : 0 ≤ x4_1
    ·rw [if_pos c3] at H
     have c3b0 : decide (0 ≤ x4_1) = true := decide_eq_true c3
     clear c3
     by_cases c4 : (wrap64 ((wrap64 ((wrap64 (x3_1 + 3)) + (((rd_T55 l0 x4_1).f0).size : Int))) + (((rd_T55 l0 x4_1).f1.f2).size : Int))) > 4000
     ·rw [if_pos c4] at H
      have c4b0 : decide (4000 < (wrap64 ((wrap64 ((wrap64 (x3_1 + 3)) + (((rd_T55 l0 x4_1).f0).size : Int))) + (((rd_T55 l0 x4_1).f1.f2).size : Int)))) = true := decide_eq_true c4
      clear c4
      obtain rfl := Option.some.inj H
      have p107 : 0 ≤ (x4_1 : Int) := xi
      have q107 : x4_1 < (l0.length : Int) := xi
      obtain ⟨ad107, e107, hx107_0, hx107_1, hx107_2, hx107_3⟩ := at_T55 HR0.out x4_1 p107 q107
      cases e107
      replace p107 := eq_true p107
      replace q107 := eq_true q107
      have p108 : 0 ≤ (x4_1 : Int) := xi
      have q108 : x4_1 < (l0.length : Int) := xi
      obtain ⟨ad108, e108, hx108_0, hx108_1, hx108_2, hx108_3⟩ := at_T55 HR0.out x4_1 p108 q108
      obtain rfl : ad107 = ad108 := (by injection e108)
      replace p108 := eq_true p108
      replace q108 := eq_true q108
      go_wp2
      repeat (go_quiet (fail); try go_wp2)
      go_ret
      exact ⟨xg, xz⟩
     ·rw [if_neg c4] at H
      have c4b0 : decide (4000 < (wrap64 ((wrap64 ((wrap64 (x3_1 + 3)) + (((rd_T55 l0 x4_1).f0).size : Int))) + (((rd_T55 l0 x4_1).f1.f2).size : Int)))) = false := decide_eq_false c4
      clear c4
      have H' := xy H
      clear H
      have p107 : 0 ≤ (x4_1 : Int) := xi
      have q107 : x4_1 < (l0.length : Int) := xi
      obtain ⟨ad107, e107, hx107_0, hx107_1, hx107_2, hx107_3⟩ := at_T55 HR0.out x4_1 p107 q107
      cases e107
      replace p107 := eq_true p107
      replace q107 := eq_true q107
      have p108 : 0 ≤ (x4_1 : Int) := xi
      have q108 : x4_1 < (l0.length : Int) := xi
      obtain ⟨ad108, e108, hx108_0, hx108_1, hx108_2, hx108_3⟩ := at_T55 HR0.out x4_1 p108 q108
      obtain rfl : ad107 = ad108 := (by injection e108)
      replace p108 := eq_true p108
      replace q108 := eq_true q108
      go_wp2
      repeat (go_quiet (fail); try go_wp2)
      go_roundg k1
      case measure => have := HK1.out; omega
      case rel => exact ⟨(wrap64 ((wrap64 ((wrap64 (x3_1 + 3)) + (((rd_T55 l0 x4_1).f0).size : Int))) + (((rd_T55 l0 x4_1).f1.f2).size : Int))), (wrap64 (x4_1 + 1)), xg, xg, H', ⟨by have := HK1.out; omega⟩, by repeat (first | exact Drawn0.refl _ | apply Drawn0.step)⟩
    ·rw [if_neg c3] at H
     exact absurd H (by simp)
   ·rw [if_neg c2] at H
    have c2b0 : decide (x4_1 < (l0.length : Int)) = false := decide_eq_false c2
    clear c2
    obtain rfl := Option.some.inj H
    go_wp2
    repeat (go_quiet (fail); try go_wp2)
    go_ret
    exact ⟨xg, xz⟩
def value_Hash.l0 : Nat → ByteArray → Int → Int → Int → Option (Int)
 | 0, _, _, _, _ => none
 | k + 1, x0, x3, x6, x7 => if x7 < x6 then (if 0 ≤ x7 then (if x7 < (x0.size : Int) then (value_Hash.l0 k x0 (((Go.bits .xor .u32 x3 ((bt x0 x7) % 4294967296)) * 16777619) % 4294967296) x6 (wrap64 (x7 + 1))) else (none)) else (none)) else (some (wrap64 (Go.bits .and .u32 x3 2147483647)))
def value_Hash.f (k : Nat) (a0 : ByteArray) : Option (Int) := value_Hash.l0 k a0 2166136261 (a0.size : Int) 0
theorem value_Hash.mono_l : ∀ k, (∀ y0 y1 y2 y3, LeO (value_Hash.l0 k y0 y1 y2 y3) (value_Hash.l0 (k + 1) y0 y1 y2 y3))
 | 0 => fun _ _ _ _ r h => by simp [value_Hash.l0] at h
 | k + 1 => by
  have ih0 := value_Hash.mono_l k
  ·intro y0 y1 y2 y3
   unfold value_Hash.l0
   repeat' (with_reducible first | exact ih0 _ _ _ _ | exact LeO.refl _ | exact LeO.none _ | refine LeO.ite ?_ ?_ | refine LeO.bind ?_ (fun _ => ?_))
theorem value_Hash.mono : ∀ a0 k, LeO (value_Hash.f k a0) (value_Hash.f (k + 1) a0) := by
 intro a0 k
 have ih0 := value_Hash.mono_l k
 unfold value_Hash.f
 repeat' (with_reducible first | exact ih0 _ _ _ _ | exact LeO.refl _ | exact LeO.none _ | refine LeO.ite ?_ ?_ | refine LeO.bind ?_ (fun _ => ?_))
set_option maxHeartbeats 8000000 in
set_option maxRecDepth 100000 in
theorem value_Hash.calls (k : Nat) (a0 : ByteArray) (r : Int) (w : World) (hT : Tabs w) (h : value_Hash.f k a0 = some r) :
  Calls Tryz.prog 26 #[.string a0] w fun e w' => e = .returned (.int .i64 r) ∧ Drawn0 w w' := by
 unfold value_Hash.f at h
 have H := h
 clear h
 have H' := xy H
 clear H
 go_enter Tryz.func26, Tryz.ntmps26
 go_wp2
 go_loopg [3, 7] k (fun kq v3 v7 w' => ∃ (x3_1 : Int) (x7_1 : Int), v3 = .int .u32 x3_1 ∧ v7 = .int .i64 x7_1 ∧ Aside0 (value_Hash.l0 kq a0 x3_1 (a0.size : Int) x7_1 = some r) ∧ Aside0 (kq ≤ k) ∧ Drawn0 w w')
 case atStart => exact ⟨(2166136261), (0), xg, xg, H', ⟨Nat.le_refl _⟩, by repeat (first | exact Drawn0.refl _ | apply Drawn0.step)⟩
 case round =>
  clear H'
  obtain ⟨x3_1, x7_1, rfl, rfl, HA, HK1, ⟨m1, rfl⟩⟩ := hrel
  cases gk with
  | zero => exact absurd HA.out (by simp [value_Hash.l0])
  | succ k1 =>
   have H := HA.out
   clear HA
   simp only [value_Hash.l0] at H
   by_cases c2 : x7_1 < (a0.size : Int)
   ·rw [if_pos c2] at H
    have c2b0 : decide (x7_1 < (a0.size : Int)) = true := decide_eq_true c2
    clear c2
    by_cases c3 : 0 ≤ x7_1
    ·rw [if_pos c3] at H
     have c3b0 : decide (0 ≤ x7_1) = true := decide_eq_true c3
     clear c3
     by_cases c4 : x7_1 < (a0.size : Int)
     ·rw [if_pos c4] at H
      have c4b0 : decide (x7_1 < (a0.size : Int)) = true := decide_eq_true c4
      clear c4
      have H' := xy H
      clear H
      have p5 : 0 ≤ (x7_1 : Int) := xi
      have q5 : x7_1 < (a0.size : Int) := xi
      have hx5 := bt_at a0 x7_1
      replace p5 := eq_true p5
      replace q5 := eq_true q5
      go_wp2
      go_roundg k1
      case measure => have := HK1.out; omega
      case rel => exact ⟨(((Go.bits .xor .u32 x3_1 ((bt a0 x7_1) % 4294967296)) * 16777619) % 4294967296), (wrap64 (x7_1 + 1)), xg, xg, H', ⟨by have := HK1.out; omega⟩, by repeat (first | exact Drawn0.refl _ | apply Drawn0.step)⟩
     ·rw [if_neg c4] at H
      exact absurd H (by simp)
    ·rw [if_neg c3] at H
     exact absurd H (by simp)
   ·rw [if_neg c2] at H
    have c2b0 : decide (x7_1 < (a0.size : Int)) = false := decide_eq_false c2
    clear c2
    obtain rfl := Option.some.inj H
    go_wp2
    go_ret
    exact ⟨xg, xz⟩
/- Walked functions, by this session's program over the kit's print. -/
def job_Part.f (k : Nat) (a0_0 : Bool) (l0_1 : List (S50)) (l0_2 : List (S50)) (l0_3 : List (S50)) (a0_4 : Int) (l0_5 : List (S50)) (a0_6 : Bool) (a0_7 : Int) (a0_8 : ByteArray) (a0_9 : Bool) (a0_10 : Int) (a0_11 : Bool) (a0_12 : Bool) (a0_13 : Int) (a1 : ByteArray) : Option (Int) := if a0_10 < 1 then (some 0) else ((value_Hash.f k a1).bind fun t110 => (if a0_10 = 0 then (none) else (some (Int.tmod t110 a0_10))))
theorem job_Part.mono : ∀ a0 a1 a2 a3 a4 a5 a6 a7 a8 a9 a10 a11 a12 a13 a14 k, LeO (job_Part.f k a0 a1 a2 a3 a4 a5 a6 a7 a8 a9 a10 a11 a12 a13 a14) (job_Part.f (k + 1) a0 a1 a2 a3 a4 a5 a6 a7 a8 a9 a10 a11 a12 a13 a14) := by
 intro a0 a1 a2 a3 a4 a5 a6 a7 a8 a9 a10 a11 a12 a13 a14 k
 unfold job_Part.f
 repeat' (with_reducible first | exact value_Hash.mono _ _ | exact LeO.refl _ | exact LeO.none _ | refine LeO.ite ?_ ?_ | refine LeO.bind ?_ (fun _ => ?_))
set_option maxHeartbeats 8000000 in
set_option maxRecDepth 100000 in
theorem job_Part.calls (k : Nat) (a0_0 : Bool) (A0_1 : Option Addr) (c0_1 : Nat) (l0_1 : List (S50)) (A0_2 : Option Addr) (c0_2 : Nat) (l0_2 : List (S50)) (A0_3 : Option Addr) (c0_3 : Nat) (l0_3 : List (S50)) (a0_4 : Int) (A0_5 : Option Addr) (c0_5 : Nat) (l0_5 : List (S50)) (a0_6 : Bool) (a0_7 : Int) (a0_8 : ByteArray) (a0_9 : Bool) (a0_10 : Int) (a0_11 : Bool) (a0_12 : Bool) (a0_13 : Int) (a1 : ByteArray) (r : Int) (w : World) (hT : Tabs w) (hr0_1 : Kd.C k50 w A0_1 l0_1.length l0_1) (hc0_1 : l0_1.length ≤ c0_1) (hr0_2 : Kd.C k50 w A0_2 l0_2.length l0_2) (hc0_2 : l0_2.length ≤ c0_2) (hr0_3 : Kd.C k50 w A0_3 l0_3.length l0_3) (hc0_3 : l0_3.length ≤ c0_3) (hr0_5 : Kd.C k50 w A0_5 l0_5.length l0_5) (hc0_5 : l0_5.length ≤ c0_5) (h : job_Part.f k a0_0 l0_1 l0_2 l0_3 a0_4 l0_5 a0_6 a0_7 a0_8 a0_9 a0_10 a0_11 a0_12 a0_13 a1 = some r) :
  Calls Tryz.prog 18 #[.agg #[.bool a0_0, .slice A0_1 l0_1.length c0_1, .slice A0_2 l0_2.length c0_2, .slice A0_3 l0_3.length c0_3, .int .i64 a0_4, .slice A0_5 l0_5.length c0_5, .bool a0_6, .int .i64 a0_7, .string a0_8, .bool a0_9, .int .i64 a0_10, .bool a0_11, .bool a0_12, .int .i64 a0_13], .string a1] w fun e w' => e = .returned (.int .i64 r) ∧ Below w.heap.size w w' := by
 have hu26 := Tryz.underlying26
 have HR0_1 := xy hr0_1
 have HC0_1 := xy hc0_1
 clear hr0_1 hc0_1
 have HR0_2 := xy hr0_2
 have HC0_2 := xy hc0_2
 clear hr0_2 hc0_2
 have HR0_3 := xy hr0_3
 have HC0_3 := xy hc0_3
 clear hr0_3 hc0_3
 have HR0_5 := xy hr0_5
 have HC0_5 := xy hc0_5
 clear hr0_5 hc0_5
 have HB := xy (Below.refl w.heap.size w)
 unfold job_Part.f at h
 have H := h
 clear h
 by_cases c3 : a0_10 < 1
 ·rw [if_pos c3] at H
  have c3b0 : decide (a0_10 < 1) = true := decide_eq_true c3
  clear c3
  obtain rfl := Option.some.inj H
  go_enter Tryz.func18, Tryz.ntmps18
  go_wp2_with (first | ((with_reducible refine gate_dst (N := 2) rfl ?_); refine xq (N := 2) (cs := #[.bool a0_0, .slice A0_1 l0_1.length c0_1, .slice A0_2 l0_2.length c0_2, .slice A0_3 l0_3.length c0_3, .int .i64 a0_4, .slice A0_5 l0_5.length c0_5, .bool a0_6, .int .i64 a0_7, .string a0_8, .bool a0_9, .int .i64 a0_10, .bool a0_11, .bool a0_12, .int .i64 a0_13]) (t := 26) ?_; intro gb109 hg w4 hbox hb; have BK109 := xy (hbox); have GW109 := xs w hg; have GE109 := xs w hg; replace HB := xy (below_step xb hb); clear hb hbox hg; have hcz5_0 : w4.cell? ⟨gb109, 0, none⟩ = some (.bool a0_0) := (kc BK109.out 0).trans rfl; have hcz5_1 : w4.cell? ⟨gb109, 1, none⟩ = some (.slice A0_1 l0_1.length c0_1) := (kc BK109.out 1).trans rfl; have hcz5_2 : w4.cell? ⟨gb109, 2, none⟩ = some (.slice A0_2 l0_2.length c0_2) := (kc BK109.out 2).trans rfl; have hcz5_3 : w4.cell? ⟨gb109, 3, none⟩ = some (.slice A0_3 l0_3.length c0_3) := (kc BK109.out 3).trans rfl; have hcz5_4 : w4.cell? ⟨gb109, 4, none⟩ = some (.int .i64 a0_4) := (kc BK109.out 4).trans rfl; have hcz5_5 : w4.cell? ⟨gb109, 5, none⟩ = some (.slice A0_5 l0_5.length c0_5) := (kc BK109.out 5).trans rfl; have hcz5_6 : w4.cell? ⟨gb109, 6, none⟩ = some (.bool a0_6) := (kc BK109.out 6).trans rfl; have hcz5_7 : w4.cell? ⟨gb109, 7, none⟩ = some (.int .i64 a0_7) := (kc BK109.out 7).trans rfl; have hcz5_8 : w4.cell? ⟨gb109, 8, none⟩ = some (.string a0_8) := (kc BK109.out 8).trans rfl; have hcz5_9 : w4.cell? ⟨gb109, 9, none⟩ = some (.bool a0_9) := (kc BK109.out 9).trans rfl; have hcz5_10 : w4.cell? ⟨gb109, 10, none⟩ = some (.int .i64 a0_10) := (kc BK109.out 10).trans rfl; have hcz5_11 : w4.cell? ⟨gb109, 11, none⟩ = some (.bool a0_11) := (kc BK109.out 11).trans rfl; have hcz5_12 : w4.cell? ⟨gb109, 12, none⟩ = some (.bool a0_12) := (kc BK109.out 12).trans rfl; have hcz5_13 : w4.cell? ⟨gb109, 13, none⟩ = some (.int .i64 a0_13) := (kc BK109.out 13).trans rfl; have hfz5_0 := kf BK109.out 0; have hfz5_1 := kf BK109.out 1; have hfz5_2 := kf BK109.out 2; have hfz5_3 := kf BK109.out 3; have hfz5_4 := kf BK109.out 4; have hfz5_5 := kf BK109.out 5; have hfz5_6 := kf BK109.out 6; have hfz5_7 := kf BK109.out 7; have hfz5_8 := kf BK109.out 8; have hfz5_9 := kf BK109.out 9; have hfz5_10 := kf BK109.out 10; have hfz5_11 := kf BK109.out 11; have hfz5_12 := kf BK109.out 12; have hfz5_13 := kf BK109.out 13))
  repeat (go_quiet (first | ((with_reducible refine gate_dst (N := 2) rfl ?_); refine xq (N := 2) (cs := #[.bool a0_0, .slice A0_1 l0_1.length c0_1, .slice A0_2 l0_2.length c0_2, .slice A0_3 l0_3.length c0_3, .int .i64 a0_4, .slice A0_5 l0_5.length c0_5, .bool a0_6, .int .i64 a0_7, .string a0_8, .bool a0_9, .int .i64 a0_10, .bool a0_11, .bool a0_12, .int .i64 a0_13]) (t := 26) ?_; intro gb109 hg w4 hbox hb; have BK109 := xy (hbox); have GW109 := xs w hg; have GE109 := xs w hg; replace HB := xy (below_step xb hb); clear hb hbox hg; have hcz5_0 : w4.cell? ⟨gb109, 0, none⟩ = some (.bool a0_0) := (kc BK109.out 0).trans rfl; have hcz5_1 : w4.cell? ⟨gb109, 1, none⟩ = some (.slice A0_1 l0_1.length c0_1) := (kc BK109.out 1).trans rfl; have hcz5_2 : w4.cell? ⟨gb109, 2, none⟩ = some (.slice A0_2 l0_2.length c0_2) := (kc BK109.out 2).trans rfl; have hcz5_3 : w4.cell? ⟨gb109, 3, none⟩ = some (.slice A0_3 l0_3.length c0_3) := (kc BK109.out 3).trans rfl; have hcz5_4 : w4.cell? ⟨gb109, 4, none⟩ = some (.int .i64 a0_4) := (kc BK109.out 4).trans rfl; have hcz5_5 : w4.cell? ⟨gb109, 5, none⟩ = some (.slice A0_5 l0_5.length c0_5) := (kc BK109.out 5).trans rfl; have hcz5_6 : w4.cell? ⟨gb109, 6, none⟩ = some (.bool a0_6) := (kc BK109.out 6).trans rfl; have hcz5_7 : w4.cell? ⟨gb109, 7, none⟩ = some (.int .i64 a0_7) := (kc BK109.out 7).trans rfl; have hcz5_8 : w4.cell? ⟨gb109, 8, none⟩ = some (.string a0_8) := (kc BK109.out 8).trans rfl; have hcz5_9 : w4.cell? ⟨gb109, 9, none⟩ = some (.bool a0_9) := (kc BK109.out 9).trans rfl; have hcz5_10 : w4.cell? ⟨gb109, 10, none⟩ = some (.int .i64 a0_10) := (kc BK109.out 10).trans rfl; have hcz5_11 : w4.cell? ⟨gb109, 11, none⟩ = some (.bool a0_11) := (kc BK109.out 11).trans rfl; have hcz5_12 : w4.cell? ⟨gb109, 12, none⟩ = some (.bool a0_12) := (kc BK109.out 12).trans rfl; have hcz5_13 : w4.cell? ⟨gb109, 13, none⟩ = some (.int .i64 a0_13) := (kc BK109.out 13).trans rfl; have hfz5_0 := kf BK109.out 0; have hfz5_1 := kf BK109.out 1; have hfz5_2 := kf BK109.out 2; have hfz5_3 := kf BK109.out 3; have hfz5_4 := kf BK109.out 4; have hfz5_5 := kf BK109.out 5; have hfz5_6 := kf BK109.out 6; have hfz5_7 := kf BK109.out 7; have hfz5_8 := kf BK109.out 8; have hfz5_9 := kf BK109.out 9; have hfz5_10 := kf BK109.out 10; have hfz5_11 := kf BK109.out 11; have hfz5_12 := kf BK109.out 12; have hfz5_13 := kf BK109.out 13)); try go_wp2_with (first | ((with_reducible refine gate_dst (N := 2) rfl ?_); refine xq (N := 2) (cs := #[.bool a0_0, .slice A0_1 l0_1.length c0_1, .slice A0_2 l0_2.length c0_2, .slice A0_3 l0_3.length c0_3, .int .i64 a0_4, .slice A0_5 l0_5.length c0_5, .bool a0_6, .int .i64 a0_7, .string a0_8, .bool a0_9, .int .i64 a0_10, .bool a0_11, .bool a0_12, .int .i64 a0_13]) (t := 26) ?_; intro gb109 hg w4 hbox hb; have BK109 := xy (hbox); have GW109 := xs w hg; have GE109 := xs w hg; replace HB := xy (below_step xb hb); clear hb hbox hg; have hcz5_0 : w4.cell? ⟨gb109, 0, none⟩ = some (.bool a0_0) := (kc BK109.out 0).trans rfl; have hcz5_1 : w4.cell? ⟨gb109, 1, none⟩ = some (.slice A0_1 l0_1.length c0_1) := (kc BK109.out 1).trans rfl; have hcz5_2 : w4.cell? ⟨gb109, 2, none⟩ = some (.slice A0_2 l0_2.length c0_2) := (kc BK109.out 2).trans rfl; have hcz5_3 : w4.cell? ⟨gb109, 3, none⟩ = some (.slice A0_3 l0_3.length c0_3) := (kc BK109.out 3).trans rfl; have hcz5_4 : w4.cell? ⟨gb109, 4, none⟩ = some (.int .i64 a0_4) := (kc BK109.out 4).trans rfl; have hcz5_5 : w4.cell? ⟨gb109, 5, none⟩ = some (.slice A0_5 l0_5.length c0_5) := (kc BK109.out 5).trans rfl; have hcz5_6 : w4.cell? ⟨gb109, 6, none⟩ = some (.bool a0_6) := (kc BK109.out 6).trans rfl; have hcz5_7 : w4.cell? ⟨gb109, 7, none⟩ = some (.int .i64 a0_7) := (kc BK109.out 7).trans rfl; have hcz5_8 : w4.cell? ⟨gb109, 8, none⟩ = some (.string a0_8) := (kc BK109.out 8).trans rfl; have hcz5_9 : w4.cell? ⟨gb109, 9, none⟩ = some (.bool a0_9) := (kc BK109.out 9).trans rfl; have hcz5_10 : w4.cell? ⟨gb109, 10, none⟩ = some (.int .i64 a0_10) := (kc BK109.out 10).trans rfl; have hcz5_11 : w4.cell? ⟨gb109, 11, none⟩ = some (.bool a0_11) := (kc BK109.out 11).trans rfl; have hcz5_12 : w4.cell? ⟨gb109, 12, none⟩ = some (.bool a0_12) := (kc BK109.out 12).trans rfl; have hcz5_13 : w4.cell? ⟨gb109, 13, none⟩ = some (.int .i64 a0_13) := (kc BK109.out 13).trans rfl; have hfz5_0 := kf BK109.out 0; have hfz5_1 := kf BK109.out 1; have hfz5_2 := kf BK109.out 2; have hfz5_3 := kf BK109.out 3; have hfz5_4 := kf BK109.out 4; have hfz5_5 := kf BK109.out 5; have hfz5_6 := kf BK109.out 6; have hfz5_7 := kf BK109.out 7; have hfz5_8 := kf BK109.out 8; have hfz5_9 := kf BK109.out 9; have hfz5_10 := kf BK109.out 10; have hfz5_11 := kf BK109.out 11; have hfz5_12 := kf BK109.out 12; have hfz5_13 := kf BK109.out 13)))
  go_ret
  exact ⟨xe, xb⟩
 ·rw [if_neg c3] at H
  have c3b0 : decide (a0_10 < 1) = false := decide_eq_false c3
  clear c3
  replace H := xj H
  obtain ⟨t110, A60, H⟩ := H
  try dsimp only at H
  have A6 := xy A60
  clear A60
  by_cases c7 : a0_10 = 0
  ·rw [if_pos c7] at H
   exact absurd H (by simp)
  ·rw [if_neg c7] at H
   have c7b0 : (a0_10 == 0) = false := beq_eq_false_iff_ne.mpr c7
   have c7b1 : (a0_10 != 0) = true := bne_iff_ne.mpr c7
   obtain rfl := Option.some.inj H
   go_enter Tryz.func18, Tryz.ntmps18
   go_wp2_with (first | ((with_reducible refine gate_dst (N := 2) rfl ?_); refine xq (N := 2) (cs := #[.bool a0_0, .slice A0_1 l0_1.length c0_1, .slice A0_2 l0_2.length c0_2, .slice A0_3 l0_3.length c0_3, .int .i64 a0_4, .slice A0_5 l0_5.length c0_5, .bool a0_6, .int .i64 a0_7, .string a0_8, .bool a0_9, .int .i64 a0_10, .bool a0_11, .bool a0_12, .int .i64 a0_13]) (t := 26) ?_; intro gb109 hg w8 hbox hb; have BK109 := xy (hbox); have GW109 := xs w hg; have GE109 := xs w hg; replace HB := xy (below_step xb hb); clear hb hbox hg; have hcz9_0 : w8.cell? ⟨gb109, 0, none⟩ = some (.bool a0_0) := (kc BK109.out 0).trans rfl; have hcz9_1 : w8.cell? ⟨gb109, 1, none⟩ = some (.slice A0_1 l0_1.length c0_1) := (kc BK109.out 1).trans rfl; have hcz9_2 : w8.cell? ⟨gb109, 2, none⟩ = some (.slice A0_2 l0_2.length c0_2) := (kc BK109.out 2).trans rfl; have hcz9_3 : w8.cell? ⟨gb109, 3, none⟩ = some (.slice A0_3 l0_3.length c0_3) := (kc BK109.out 3).trans rfl; have hcz9_4 : w8.cell? ⟨gb109, 4, none⟩ = some (.int .i64 a0_4) := (kc BK109.out 4).trans rfl; have hcz9_5 : w8.cell? ⟨gb109, 5, none⟩ = some (.slice A0_5 l0_5.length c0_5) := (kc BK109.out 5).trans rfl; have hcz9_6 : w8.cell? ⟨gb109, 6, none⟩ = some (.bool a0_6) := (kc BK109.out 6).trans rfl; have hcz9_7 : w8.cell? ⟨gb109, 7, none⟩ = some (.int .i64 a0_7) := (kc BK109.out 7).trans rfl; have hcz9_8 : w8.cell? ⟨gb109, 8, none⟩ = some (.string a0_8) := (kc BK109.out 8).trans rfl; have hcz9_9 : w8.cell? ⟨gb109, 9, none⟩ = some (.bool a0_9) := (kc BK109.out 9).trans rfl; have hcz9_10 : w8.cell? ⟨gb109, 10, none⟩ = some (.int .i64 a0_10) := (kc BK109.out 10).trans rfl; have hcz9_11 : w8.cell? ⟨gb109, 11, none⟩ = some (.bool a0_11) := (kc BK109.out 11).trans rfl; have hcz9_12 : w8.cell? ⟨gb109, 12, none⟩ = some (.bool a0_12) := (kc BK109.out 12).trans rfl; have hcz9_13 : w8.cell? ⟨gb109, 13, none⟩ = some (.int .i64 a0_13) := (kc BK109.out 13).trans rfl; have hfz9_0 := kf BK109.out 0; have hfz9_1 := kf BK109.out 1; have hfz9_2 := kf BK109.out 2; have hfz9_3 := kf BK109.out 3; have hfz9_4 := kf BK109.out 4; have hfz9_5 := kf BK109.out 5; have hfz9_6 := kf BK109.out 6; have hfz9_7 := kf BK109.out 7; have hfz9_8 := kf BK109.out 8; have hfz9_9 := kf BK109.out 9; have hfz9_10 := kf BK109.out 10; have hfz9_11 := kf BK109.out 11; have hfz9_12 := kf BK109.out 12; have hfz9_13 := kf BK109.out 13) | (go_at_call 26; (with_reducible refine (value_Hash.calls k a1 t110 _ (Tabs.below hT xf) A6.out).mono ?_); rintro e w' ⟨rfl, ⟨nd, rfl⟩⟩; (try first | exact ⟨rfl, _, World.drewN_drewN _ _ _⟩ | exact ⟨rfl, _, Eq.trans (World.drewN_drewN _ _ _) (congrArg (World.drewN _) (Nat.add_assoc _ _ _))⟩)))
   repeat (go_quiet (first | ((with_reducible refine gate_dst (N := 2) rfl ?_); refine xq (N := 2) (cs := #[.bool a0_0, .slice A0_1 l0_1.length c0_1, .slice A0_2 l0_2.length c0_2, .slice A0_3 l0_3.length c0_3, .int .i64 a0_4, .slice A0_5 l0_5.length c0_5, .bool a0_6, .int .i64 a0_7, .string a0_8, .bool a0_9, .int .i64 a0_10, .bool a0_11, .bool a0_12, .int .i64 a0_13]) (t := 26) ?_; intro gb109 hg w8 hbox hb; have BK109 := xy (hbox); have GW109 := xs w hg; have GE109 := xs w hg; replace HB := xy (below_step xb hb); clear hb hbox hg; have hcz9_0 : w8.cell? ⟨gb109, 0, none⟩ = some (.bool a0_0) := (kc BK109.out 0).trans rfl; have hcz9_1 : w8.cell? ⟨gb109, 1, none⟩ = some (.slice A0_1 l0_1.length c0_1) := (kc BK109.out 1).trans rfl; have hcz9_2 : w8.cell? ⟨gb109, 2, none⟩ = some (.slice A0_2 l0_2.length c0_2) := (kc BK109.out 2).trans rfl; have hcz9_3 : w8.cell? ⟨gb109, 3, none⟩ = some (.slice A0_3 l0_3.length c0_3) := (kc BK109.out 3).trans rfl; have hcz9_4 : w8.cell? ⟨gb109, 4, none⟩ = some (.int .i64 a0_4) := (kc BK109.out 4).trans rfl; have hcz9_5 : w8.cell? ⟨gb109, 5, none⟩ = some (.slice A0_5 l0_5.length c0_5) := (kc BK109.out 5).trans rfl; have hcz9_6 : w8.cell? ⟨gb109, 6, none⟩ = some (.bool a0_6) := (kc BK109.out 6).trans rfl; have hcz9_7 : w8.cell? ⟨gb109, 7, none⟩ = some (.int .i64 a0_7) := (kc BK109.out 7).trans rfl; have hcz9_8 : w8.cell? ⟨gb109, 8, none⟩ = some (.string a0_8) := (kc BK109.out 8).trans rfl; have hcz9_9 : w8.cell? ⟨gb109, 9, none⟩ = some (.bool a0_9) := (kc BK109.out 9).trans rfl; have hcz9_10 : w8.cell? ⟨gb109, 10, none⟩ = some (.int .i64 a0_10) := (kc BK109.out 10).trans rfl; have hcz9_11 : w8.cell? ⟨gb109, 11, none⟩ = some (.bool a0_11) := (kc BK109.out 11).trans rfl; have hcz9_12 : w8.cell? ⟨gb109, 12, none⟩ = some (.bool a0_12) := (kc BK109.out 12).trans rfl; have hcz9_13 : w8.cell? ⟨gb109, 13, none⟩ = some (.int .i64 a0_13) := (kc BK109.out 13).trans rfl; have hfz9_0 := kf BK109.out 0; have hfz9_1 := kf BK109.out 1; have hfz9_2 := kf BK109.out 2; have hfz9_3 := kf BK109.out 3; have hfz9_4 := kf BK109.out 4; have hfz9_5 := kf BK109.out 5; have hfz9_6 := kf BK109.out 6; have hfz9_7 := kf BK109.out 7; have hfz9_8 := kf BK109.out 8; have hfz9_9 := kf BK109.out 9; have hfz9_10 := kf BK109.out 10; have hfz9_11 := kf BK109.out 11; have hfz9_12 := kf BK109.out 12; have hfz9_13 := kf BK109.out 13) | (go_at_call 26; (with_reducible refine (value_Hash.calls k a1 t110 _ (Tabs.below hT xf) A6.out).mono ?_); rintro e w' ⟨rfl, ⟨nd, rfl⟩⟩; (try first | exact ⟨rfl, _, World.drewN_drewN _ _ _⟩ | exact ⟨rfl, _, Eq.trans (World.drewN_drewN _ _ _) (congrArg (World.drewN _) (Nat.add_assoc _ _ _))⟩))); try go_wp2_with (first | ((with_reducible refine gate_dst (N := 2) rfl ?_); refine xq (N := 2) (cs := #[.bool a0_0, .slice A0_1 l0_1.length c0_1, .slice A0_2 l0_2.length c0_2, .slice A0_3 l0_3.length c0_3, .int .i64 a0_4, .slice A0_5 l0_5.length c0_5, .bool a0_6, .int .i64 a0_7, .string a0_8, .bool a0_9, .int .i64 a0_10, .bool a0_11, .bool a0_12, .int .i64 a0_13]) (t := 26) ?_; intro gb109 hg w8 hbox hb; have BK109 := xy (hbox); have GW109 := xs w hg; have GE109 := xs w hg; replace HB := xy (below_step xb hb); clear hb hbox hg; have hcz9_0 : w8.cell? ⟨gb109, 0, none⟩ = some (.bool a0_0) := (kc BK109.out 0).trans rfl; have hcz9_1 : w8.cell? ⟨gb109, 1, none⟩ = some (.slice A0_1 l0_1.length c0_1) := (kc BK109.out 1).trans rfl; have hcz9_2 : w8.cell? ⟨gb109, 2, none⟩ = some (.slice A0_2 l0_2.length c0_2) := (kc BK109.out 2).trans rfl; have hcz9_3 : w8.cell? ⟨gb109, 3, none⟩ = some (.slice A0_3 l0_3.length c0_3) := (kc BK109.out 3).trans rfl; have hcz9_4 : w8.cell? ⟨gb109, 4, none⟩ = some (.int .i64 a0_4) := (kc BK109.out 4).trans rfl; have hcz9_5 : w8.cell? ⟨gb109, 5, none⟩ = some (.slice A0_5 l0_5.length c0_5) := (kc BK109.out 5).trans rfl; have hcz9_6 : w8.cell? ⟨gb109, 6, none⟩ = some (.bool a0_6) := (kc BK109.out 6).trans rfl; have hcz9_7 : w8.cell? ⟨gb109, 7, none⟩ = some (.int .i64 a0_7) := (kc BK109.out 7).trans rfl; have hcz9_8 : w8.cell? ⟨gb109, 8, none⟩ = some (.string a0_8) := (kc BK109.out 8).trans rfl; have hcz9_9 : w8.cell? ⟨gb109, 9, none⟩ = some (.bool a0_9) := (kc BK109.out 9).trans rfl; have hcz9_10 : w8.cell? ⟨gb109, 10, none⟩ = some (.int .i64 a0_10) := (kc BK109.out 10).trans rfl; have hcz9_11 : w8.cell? ⟨gb109, 11, none⟩ = some (.bool a0_11) := (kc BK109.out 11).trans rfl; have hcz9_12 : w8.cell? ⟨gb109, 12, none⟩ = some (.bool a0_12) := (kc BK109.out 12).trans rfl; have hcz9_13 : w8.cell? ⟨gb109, 13, none⟩ = some (.int .i64 a0_13) := (kc BK109.out 13).trans rfl; have hfz9_0 := kf BK109.out 0; have hfz9_1 := kf BK109.out 1; have hfz9_2 := kf BK109.out 2; have hfz9_3 := kf BK109.out 3; have hfz9_4 := kf BK109.out 4; have hfz9_5 := kf BK109.out 5; have hfz9_6 := kf BK109.out 6; have hfz9_7 := kf BK109.out 7; have hfz9_8 := kf BK109.out 8; have hfz9_9 := kf BK109.out 9; have hfz9_10 := kf BK109.out 10; have hfz9_11 := kf BK109.out 11; have hfz9_12 := kf BK109.out 12; have hfz9_13 := kf BK109.out 13) | (go_at_call 26; (with_reducible refine (value_Hash.calls k a1 t110 _ (Tabs.below hT xf) A6.out).mono ?_); rintro e w' ⟨rfl, ⟨nd, rfl⟩⟩; (try first | exact ⟨rfl, _, World.drewN_drewN _ _ _⟩ | exact ⟨rfl, _, Eq.trans (World.drewN_drewN _ _ _) (congrArg (World.drewN _) (Nat.add_assoc _ _ _))⟩))))
   go_ret
   exact ⟨xe, xb⟩
end Go.Proofs.YtialoecplmnjfaaGreatDoor.PX
