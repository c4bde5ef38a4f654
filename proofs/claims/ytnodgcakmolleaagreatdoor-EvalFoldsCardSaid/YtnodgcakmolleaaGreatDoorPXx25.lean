/- Walked functions, by this session's program over the kit's print. -/
import Derived.Test.YtnodgcakmolleaaGreatDoorPXx0
import Derived.Test.YtnodgcakmolleaaGreatDoorPXx1
import Derived.Test.YtnodgcakmolleaaGreatDoorPXx9
import Derived.Test.YtnodgcakmolleaaGreatDoorPXx11
import Derived.Test.YtnodgcakmolleaaGreatDoorPXx23
namespace Go.Proofs.YtnodgcakmolleaaGreatDoor.PX
open Go.RowKit Go.Proofs.YtnodgcakmolleaaGreatDoorW.PrintWords Go.Proofs.YtnodgcakmolleaaGreatDoorW.PrintLast Go.Proofs.YtnodgcakmolleaaGreatDoorW.PrintMore
attribute [local go_sem] xm_gtr max2_int min2_int max_two min_two max_three min_three max_four min_four
set_option linter.unusedVariables false
set_option linter.unusedSimpArgs false
section
/- Walked functions, by this session's program over the kit's print. -/
attribute [local go_sem high] eqA32
def w16_EvalFolds.j0 : Nat → List (S44) → Bool → Bool → Int → ByteArray → Bool → Int → ByteArray → Int → Option (Bool)
 | 0, _, _, _, _, _, _, _, _, _ => none
 | k + 1, x0, x27, x512000, x512001, x512002, x512003, x512004, x512005, x512006 => if x27 = true then ((w16_alive.f k).bind fun t513 => (some t513)) else ((eval_Fold.f k x0 x512000 x512001 x512002 x512003 x512004 x512005 x512006).bind fun bt514 => ((r16_Fold.f k x0 x512000 x512001 x512002 x512003 x512004 x512005 x512006).bind fun bt520 => ((w16_alive.f k).bind fun t526 => (if t526 = true then (if (bt514.1 == bt520.1 && (bt514.2.1 == bt520.2.1 && (bt514.2.2.1.toList == bt520.2.2.1.toList))) = true then (if bt514.2.2.2.1 = bt520.2.2.2.1 then (some (bt514.2.2.2.2 == bt520.2.2.2.2)) else (some false)) else (some false)) else (some false)))))
def w16_EvalFolds.f (k : Nat) (l0 : List (S44)) (a1_0 : Bool) (a1_1 : Int) (a1_2 : ByteArray) (a1_3 : Bool) (a1_4 : Int) (a1_5 : ByteArray) (a1_6 : Int) : Option (Bool) := (w16_small.f k l0 ([] : List ByteArray)).bind fun t512 => (if t512 = true then (if (a1_2.size : Int) > 2000 then (w16_EvalFolds.j0 k l0 true a1_0 a1_1 a1_2 a1_3 a1_4 a1_5 a1_6) else (w16_EvalFolds.j0 k l0 (decide ((a1_5.size : Int) > 2000)) a1_0 a1_1 a1_2 a1_3 a1_4 a1_5 a1_6)) else (w16_EvalFolds.j0 k l0 true a1_0 a1_1 a1_2 a1_3 a1_4 a1_5 a1_6))
theorem w16_EvalFolds.mono_l : ∀ k, (∀ y0 y1 y2 y3 y4 y5 y6 y7 y8, LeO (w16_EvalFolds.j0 k y0 y1 y2 y3 y4 y5 y6 y7 y8) (w16_EvalFolds.j0 (k + 1) y0 y1 y2 y3 y4 y5 y6 y7 y8))
 | 0 => fun _ _ _ _ _ _ _ _ _ r h => by simp [w16_EvalFolds.j0] at h
 | k + 1 => by
  have ih0 := w16_EvalFolds.mono_l k
  ·intro y0 y1 y2 y3 y4 y5 y6 y7 y8
   unfold w16_EvalFolds.j0
   repeat' (with_reducible first | exact ih0 _ _ _ _ _ _ _ _ _ | exact eval_Fold.mono _ _ _ _ _ _ _ _ _ | exact w16_alive.mono _ | exact w16_small.mono _ _ _ | exact r16_Fold.mono _ _ _ _ _ _ _ _ _ | exact LeO.refl _ | exact LeO.none _ | refine LeO.ite ?_ ?_ | refine LeO.bind ?_ (fun _ => ?_))
theorem w16_EvalFolds.mono : ∀ a0 a1 a2 a3 a4 a5 a6 a7 k, LeO (w16_EvalFolds.f k a0 a1 a2 a3 a4 a5 a6 a7) (w16_EvalFolds.f (k + 1) a0 a1 a2 a3 a4 a5 a6 a7) := by
 intro a0 a1 a2 a3 a4 a5 a6 a7 k
 have ih0 := w16_EvalFolds.mono_l k
 unfold w16_EvalFolds.f
 repeat' (with_reducible first | exact ih0 _ _ _ _ _ _ _ _ _ | exact eval_Fold.mono _ _ _ _ _ _ _ _ _ | exact w16_alive.mono _ | exact w16_small.mono _ _ _ | exact r16_Fold.mono _ _ _ _ _ _ _ _ _ | exact LeO.refl _ | exact LeO.none _ | refine LeO.ite ?_ ?_ | refine LeO.bind ?_ (fun _ => ?_))
set_option maxHeartbeats 8000000 in
set_option maxRecDepth 100000 in
theorem w16_EvalFolds.calls (k : Nat) (A0 : Option Addr) (c0 : Nat) (l0 : List (S44)) (a1_0 : Bool) (a1_1 : Int) (a1_2 : ByteArray) (a1_3 : Bool) (a1_4 : Int) (a1_5 : ByteArray) (a1_6 : Int) (r : Bool) (w : World) (hT : Tabs w) (hr0 : Kd.C k44 w A0 l0.length l0) (hc0 : l0.length ≤ c0) (h : w16_EvalFolds.f k l0 a1_0 a1_1 a1_2 a1_3 a1_4 a1_5 a1_6 = some r) (hr_ : r = true := by rfl) :
  Calls Tryz.prog 4 #[.slice A0 l0.length c0, .agg #[.bool a1_0, .int .i64 a1_1, .string a1_2, .bool a1_3, .int .i64 a1_4, .string a1_5, .int .i64 a1_6]] w fun e w' => e = .returned (.bool r) ∧ Below w.heap.size w w' := by
 have hu40 := Tryz.underlying40
 have hu32 := Tryz.underlying32
 have HR0 := xy hr0
 have HC0 := xy hc0
 clear hr0 hc0
 have HB := xy (Below.refl w.heap.size w)
 unfold w16_EvalFolds.f at h
 have H := h
 clear h
 have HC3 := xy H
 clear H
 go_enter Tryz.func4, Tryz.ntmps4
 go_upto_region 1 with (((with_reducible refine gate_dst (N := 3) rfl ?_); (try (refine gate_guard (by rfl) ?_; dsimp only)); refine xq (N := 3) (cs := #[.bool a1_0, .int .i64 a1_1, .string a1_2, .bool a1_3, .int .i64 a1_4, .string a1_5, .int .i64 a1_6]) (t := 40) ?_; intro gb511 hg w4 hbox hb; have BK511 := xy (hbox); have GW511 := xs w hg; have GE511 := xs w hg; replace HB := xy (below_step xb hb); clear hb hbox hg))
 (try simp only [Act.put, List.setIfInBounds_toArray, List.set_cons_zero, List.set_cons_succ])
 go_cut [27] (fun v27 wc => ∃ (kq : Nat) (x27_2 : Bool), v27 = .bool x27_2 ∧ Aside0 (w16_EvalFolds.j0 kq l0 x27_2 a1_0 a1_1 a1_2 a1_3 a1_4 a1_5 a1_6 = some r) ∧ Aside0 (kq ≤ k) ∧ Aside0 (wc.heap[gb511]? = some (.cells #[.bool a1_0, .int .i64 a1_1, .string a1_2, .bool a1_3, .int .i64 a1_4, .string a1_5, .int .i64 a1_6] 40 (0, 0))) ∧ Aside0 (Below w.heap.size w wc))
 case first =>
  have H := HC3.out
  clear HC3
  replace H := xj H
  obtain ⟨t512, A50, H⟩ := H
  try dsimp only at H
  have A5 := xy A50
  clear A50
  by_cases c6 : t512 = true
  ·subst c6
   rw [if_pos rfl] at H
   by_cases c7 : (a1_2.size : Int) > 2000
   ·rw [if_pos c7] at H
    have c7b0 : decide (2000 < (a1_2.size : Int)) = true := decide_eq_true c7
    have c7b1 : decide (2000 < a1_2.size) = true := decide_eq_true (by omega)
    clear c7
    (first | rw [c7b0] | (simp only [i64_w, i32_w]; rw [c7b0]) | skip)
    have H' := xy H
    clear H
    go_wp2_with (((with_reducible refine gate_callee (f := 5) rfl ?_); refine goesL_ (some 12) rfl rfl Tryz.func5 (by kernel_rfl) rfl #[.slice A0 l0.length c0, .slice none 0 0] rfl xr ?_; (refine (w16_small.calls k _ _ l0 (fun k_ => False) _ _ ([] : List ByteArray) true _ (Tabs.below hT xf) ?side1 ?side2 ?side3 A5.out).mono ?_); (case side1 => exact Kd.C_below HR0.out xb); (case side2 => exact HC0.out); (case side3 => exact Kd.V_nil _ _ _ _ _); rintro e w8 ⟨rfl, hb⟩; refine ⟨_, rfl, ?_⟩; replace BK511 := xd BK511.out hb; replace HB := xy (below_step xb hb); (try clear hb); (try clear hb2); (try clear hk); (try clear hi); have hcz9_0 : w8.cell? ⟨gb511, 0, none⟩ = some (.bool a1_0) := (kc BK511.out 0).trans rfl; have hcz9_1 : w8.cell? ⟨gb511, 1, none⟩ = some (.int .i64 a1_1) := (kc BK511.out 1).trans rfl; have hcz9_2 : w8.cell? ⟨gb511, 2, none⟩ = some (.string a1_2) := (kc BK511.out 2).trans rfl; have hcz9_3 : w8.cell? ⟨gb511, 3, none⟩ = some (.bool a1_3) := (kc BK511.out 3).trans rfl; have hcz9_4 : w8.cell? ⟨gb511, 4, none⟩ = some (.int .i64 a1_4) := (kc BK511.out 4).trans rfl; have hcz9_5 : w8.cell? ⟨gb511, 5, none⟩ = some (.string a1_5) := (kc BK511.out 5).trans rfl; have hcz9_6 : w8.cell? ⟨gb511, 6, none⟩ = some (.int .i64 a1_6) := (kc BK511.out 6).trans rfl; have hfz9_0 := kf BK511.out 0; have hfz9_1 := kf BK511.out 1; have hfz9_2 := kf BK511.out 2; have hfz9_3 := kf BK511.out 3; have hfz9_4 := kf BK511.out 4; have hfz9_5 := kf BK511.out 5; have hfz9_6 := kf BK511.out 6))
    go_meet
    case rel => exact ⟨_, (true), xg, H', ⟨by first | omega | exact Nat.le_refl _⟩, ⟨by (with_reducible repeat (first | refine blk_drewN ?_ _ | refine blk_drew ?_ | refine blk_alloc ?_ _)); exact BK511.out⟩, ⟨xb⟩⟩
   ·rw [if_neg c7] at H
    have c7b0 : decide (2000 < (a1_2.size : Int)) = false := decide_eq_false c7
    have c7b1 : decide (2000 < a1_2.size) = false := decide_eq_false (by omega)
    clear c7
    (first | rw [c7b0] | (simp only [i64_w, i32_w]; rw [c7b0]) | skip)
    have H' := xy H
    clear H
    go_wp2_with (((with_reducible refine gate_callee (f := 5) rfl ?_); refine goesL_ (some 12) rfl rfl Tryz.func5 (by kernel_rfl) rfl #[.slice A0 l0.length c0, .slice none 0 0] rfl xr ?_; (refine (w16_small.calls k _ _ l0 (fun k_ => False) _ _ ([] : List ByteArray) true _ (Tabs.below hT xf) ?side1 ?side2 ?side3 A5.out).mono ?_); (case side1 => exact Kd.C_below HR0.out xb); (case side2 => exact HC0.out); (case side3 => exact Kd.V_nil _ _ _ _ _); rintro e w10 ⟨rfl, hb⟩; refine ⟨_, rfl, ?_⟩; replace BK511 := xd BK511.out hb; replace HB := xy (below_step xb hb); (try clear hb); (try clear hb2); (try clear hk); (try clear hi); have hcz11_0 : w10.cell? ⟨gb511, 0, none⟩ = some (.bool a1_0) := (kc BK511.out 0).trans rfl; have hcz11_1 : w10.cell? ⟨gb511, 1, none⟩ = some (.int .i64 a1_1) := (kc BK511.out 1).trans rfl; have hcz11_2 : w10.cell? ⟨gb511, 2, none⟩ = some (.string a1_2) := (kc BK511.out 2).trans rfl; have hcz11_3 : w10.cell? ⟨gb511, 3, none⟩ = some (.bool a1_3) := (kc BK511.out 3).trans rfl; have hcz11_4 : w10.cell? ⟨gb511, 4, none⟩ = some (.int .i64 a1_4) := (kc BK511.out 4).trans rfl; have hcz11_5 : w10.cell? ⟨gb511, 5, none⟩ = some (.string a1_5) := (kc BK511.out 5).trans rfl; have hcz11_6 : w10.cell? ⟨gb511, 6, none⟩ = some (.int .i64 a1_6) := (kc BK511.out 6).trans rfl; have hfz11_0 := kf BK511.out 0; have hfz11_1 := kf BK511.out 1; have hfz11_2 := kf BK511.out 2; have hfz11_3 := kf BK511.out 3; have hfz11_4 := kf BK511.out 4; have hfz11_5 := kf BK511.out 5; have hfz11_6 := kf BK511.out 6))
    go_meet
    case rel => exact ⟨_, (decide ((a1_5.size : Int) > 2000)), xg, H', ⟨by first | omega | exact Nat.le_refl _⟩, ⟨by (with_reducible repeat (first | refine blk_drewN ?_ _ | refine blk_drew ?_ | refine blk_alloc ?_ _)); exact BK511.out⟩, ⟨xb⟩⟩
  ·replace c6 := Bool.eq_false_iff.mpr c6
   subst c6
   rw [if_neg (show ¬ (false = true) by decide)] at H
   have H' := xy H
   clear H
   go_wp2_with (((with_reducible refine gate_callee (f := 5) rfl ?_); refine goesL_ (some 12) rfl rfl Tryz.func5 (by kernel_rfl) rfl #[.slice A0 l0.length c0, .slice none 0 0] rfl xr ?_; (refine (w16_small.calls k _ _ l0 (fun k_ => False) _ _ ([] : List ByteArray) false _ (Tabs.below hT xf) ?side1 ?side2 ?side3 A5.out).mono ?_); (case side1 => exact Kd.C_below HR0.out xb); (case side2 => exact HC0.out); (case side3 => exact Kd.V_nil _ _ _ _ _); rintro e w12 ⟨rfl, hb⟩; refine ⟨_, rfl, ?_⟩; replace BK511 := xd BK511.out hb; replace HB := xy (below_step xb hb); (try clear hb); (try clear hb2); (try clear hk); (try clear hi)))
   go_meet
   case rel => exact ⟨_, (true), xg, H', ⟨by first | omega | exact Nat.le_refl _⟩, ⟨by (with_reducible repeat (first | refine blk_drewN ?_ _ | refine blk_drew ?_ | refine blk_alloc ?_ _)); exact BK511.out⟩, ⟨xb⟩⟩
 case rest =>
  clear HC3
  try clear p2
  try clear c4
  try clear c5
  try clear c6
  try clear c7
  try clear c7b0
  try clear c7b1
  try clear hcz11_0
  try clear hcz11_1
  try clear hcz11_2
  try clear hcz11_3
  try clear hcz11_4
  try clear hcz11_5
  try clear hcz11_6
  try clear hcz9_0
  try clear hcz9_1
  try clear hcz9_2
  try clear hcz9_3
  try clear hcz9_4
  try clear hcz9_5
  try clear hcz9_6
  try clear hfz11_0
  try clear hfz11_1
  try clear hfz11_2
  try clear hfz11_3
  try clear hfz11_4
  try clear hfz11_5
  try clear hfz11_6
  try clear hfz9_0
  try clear hfz9_1
  try clear hfz9_2
  try clear hfz9_3
  try clear hfz9_4
  try clear hfz9_5
  try clear hfz9_6
  obtain ⟨kq, x27_2, rfl, HA, HJ2, BK511, HB⟩ := hcut
  cases kq with
  | zero => exact absurd HA.out (by simp [w16_EvalFolds.j0])
  | succ kj2 =>
   have H := HA.out
   clear HA
   simp only [w16_EvalFolds.j0] at H
   by_cases c13 : x27_2 = true
   ·subst c13
    rw [if_pos rfl] at H
    replace H := xj H
    obtain ⟨t513, A140, H⟩ := H
    try dsimp only at H
    have A14 := xy A140
    clear A140
    obtain rfl := Option.some.inj H
    go_wp2_with (((with_reducible refine gate_callee (f := 6) rfl ?_); refine goesL_ (some 28) rfl rfl Tryz.func6 (by kernel_rfl) rfl #[] rfl xr ?_; (with_reducible refine (w16_alive.calls kj2  t513 _ (Tabs.below hT xf) A14.out).mono ?_); rintro e w15 ⟨rfl, hb⟩; refine ⟨_, rfl, ?_⟩; replace BK511 := xd BK511.out hb; replace HB := xy (below_step xb hb); (try clear hb); (try clear hb2); (try clear hk); (try clear hi)))
    go_ret
    exact ⟨xe, xb⟩
   ·replace c13 := Bool.eq_false_iff.mpr c13
    subst c13
    rw [if_neg (show ¬ (false = true) by decide)] at H
    replace H := xj H
    obtain ⟨⟨t514, t515, t516, t517, t518⟩, A160, H⟩ := H
    try dsimp only at H
    have A16 := xy A160
    clear A160
    replace H := xj H
    obtain ⟨⟨t520, t521, t522, t523, t524⟩, A170, H⟩ := H
    try dsimp only at H
    have A17 := xy A170
    clear A170
    replace H := xj H
    obtain ⟨t526, A180, H⟩ := H
    try dsimp only at H
    have A18 := xy A180
    clear A180
    by_cases c19 : t526 = true
    ·subst c19
     rw [if_pos rfl] at H
     by_cases c20 : (t514 == t520 && (t515 == t521 && (t516.toList == t522.toList))) = true
     ·rw [if_pos c20] at H
      have c20b0 : (t514 == t520 && (t515 == t521 && (t516.toList == t522.toList))) = true := c20
      (try (have c20b1 : decide (t514 = t520 && (t515 == t521 && (t516.toList == t522.toList))) = true := by simpa using c20))
      (try (have c20b2 : (t514 == t520 && (t515 == t521 && (t516.toList == t522.toList))) = true := by simpa using c20))
      clear c20
      by_cases c21 : t517 = t523
      ·rw [if_pos c21] at H
       have c21b0 : (t517 == t523) = true := beq_iff_eq.mpr c21
       have c21b1 : (t517 != t523) = false := bne_eq_false_iff_eq.mpr c21
       clear c21
       obtain rfl := Option.some.inj H
       have hcz22_0 : wc.cell? ⟨gb511, 0, none⟩ = some (.bool a1_0) := (kc BK511.out 0).trans rfl
       have hcz22_1 : wc.cell? ⟨gb511, 1, none⟩ = some (.int .i64 a1_1) := (kc BK511.out 1).trans rfl
       have hcz22_2 : wc.cell? ⟨gb511, 2, none⟩ = some (.string a1_2) := (kc BK511.out 2).trans rfl
       have hcz22_3 : wc.cell? ⟨gb511, 3, none⟩ = some (.bool a1_3) := (kc BK511.out 3).trans rfl
       have hcz22_4 : wc.cell? ⟨gb511, 4, none⟩ = some (.int .i64 a1_4) := (kc BK511.out 4).trans rfl
       have hcz22_5 : wc.cell? ⟨gb511, 5, none⟩ = some (.string a1_5) := (kc BK511.out 5).trans rfl
       have hcz22_6 : wc.cell? ⟨gb511, 6, none⟩ = some (.int .i64 a1_6) := (kc BK511.out 6).trans rfl
       have hfz22_0 := kf BK511.out 0
       have hfz22_1 := kf BK511.out 1
       have hfz22_2 := kf BK511.out 2
       have hfz22_3 := kf BK511.out 3
       have hfz22_4 := kf BK511.out 4
       have hfz22_5 := kf BK511.out 5
       have hfz22_6 := kf BK511.out 6
       go_wp2_with (first | ((with_reducible refine gate_callee (f := 14) rfl ?_); refine goesL_ (some 37) rfl rfl Tryz.func14 (by kernel_rfl) rfl #[.slice A0 l0.length c0, .agg #[.bool a1_0, .int .i64 a1_1, .string a1_2], .agg #[.bool a1_3, .int .i64 a1_4, .string a1_5], .int .i64 a1_6] rfl xr ?_; (with_reducible refine (eval_Fold.calls kj2 _ _ l0 a1_0 a1_1 a1_2 a1_3 a1_4 a1_5 a1_6 t514 t515 t516 t517 t518 _ (Tabs.below hT xf) ?side1 ?side2 A16.out).mono ?_); (case side1 => exact Kd.C_below HR0.out xb); (case side2 => exact HC0.out); rintro e w23 ⟨rfl, hb⟩; refine ⟨_, rfl, ?_⟩; replace BK511 := xd BK511.out hb; replace HB := xy (below_step xb hb); (try clear hb); (try clear hb2); (try clear hk); (try clear hi)) | ((with_reducible refine gate_dst (N := 5) rfl ?_); (try (refine gate_guard (by rfl) ?_; dsimp only)); refine xq (N := 5) (cs := #[.bool false, .int .i64 0, .string (⟨#[]⟩ : ByteArray)]) (t := 32) ?_; intro gb519 hg w24 hbox hb; have BK519 := xy (hbox); have GW519 := xs w hg; have GE519 := xs w hg; replace HB := xy (below_step xb hb); have NB511_519 := xn hg BK511.out; have NB519_511 := xp hg BK511.out; replace BK511 := xd BK511.out hb; clear hb hbox hg; have hnb25 := NB519_511.out; have hnc25 := NB511_519.out; have hcz26_0 : w24.cell? ⟨gb519, 0, none⟩ = some (.bool false) := (kc BK519.out 0).trans rfl; have hcz26_1 : w24.cell? ⟨gb519, 1, none⟩ = some (.int .i64 0) := (kc BK519.out 1).trans rfl; have hcz26_2 : w24.cell? ⟨gb519, 2, none⟩ = some (.string (⟨#[]⟩ : ByteArray)) := (kc BK519.out 2).trans rfl; have hfz26_0 := kf BK519.out 0; have hfz26_1 := kf BK519.out 1; have hfz26_2 := kf BK519.out 2; have hcz27_0 : w24.cell? ⟨gb511, 0, none⟩ = some (.bool a1_0) := (kc BK511.out 0).trans rfl; have hcz27_1 : w24.cell? ⟨gb511, 1, none⟩ = some (.int .i64 a1_1) := (kc BK511.out 1).trans rfl; have hcz27_2 : w24.cell? ⟨gb511, 2, none⟩ = some (.string a1_2) := (kc BK511.out 2).trans rfl; have hcz27_3 : w24.cell? ⟨gb511, 3, none⟩ = some (.bool a1_3) := (kc BK511.out 3).trans rfl; have hcz27_4 : w24.cell? ⟨gb511, 4, none⟩ = some (.int .i64 a1_4) := (kc BK511.out 4).trans rfl; have hcz27_5 : w24.cell? ⟨gb511, 5, none⟩ = some (.string a1_5) := (kc BK511.out 5).trans rfl; have hcz27_6 : w24.cell? ⟨gb511, 6, none⟩ = some (.int .i64 a1_6) := (kc BK511.out 6).trans rfl; have hfz27_0 := kf BK511.out 0; have hfz27_1 := kf BK511.out 1; have hfz27_2 := kf BK511.out 2; have hfz27_3 := kf BK511.out 3; have hfz27_4 := kf BK511.out 4; have hfz27_5 := kf BK511.out 5; have hfz27_6 := kf BK511.out 6) | ((with_reducible refine gate_callee (f := 15) rfl ?_); refine goesL_ (some 49) rfl rfl Tryz.func15 (by kernel_rfl) rfl #[.slice A0 l0.length c0, .agg #[.bool a1_0, .int .i64 a1_1, .string a1_2], .agg #[.bool a1_3, .int .i64 a1_4, .string a1_5], .int .i64 a1_6] rfl xr ?_; (with_reducible refine (r16_Fold.calls kj2 _ _ l0 a1_0 a1_1 a1_2 a1_3 a1_4 a1_5 a1_6 t520 t521 t522 t523 t524 _ (Tabs.below hT xf) ?side1 ?side2 A17.out).mono ?_); (case side1 => exact Kd.C_below HR0.out xb); (case side2 => exact HC0.out); rintro e w28 ⟨rfl, hb⟩; refine ⟨_, rfl, ?_⟩; replace BK511 := xy (blk_below (g := gb511) (o := .cells #[.bool a1_0, .int .i64 a1_1, .string a1_2, .bool a1_3, .int .i64 a1_4, .string a1_5, .int .i64 a1_6] 40 (0, 0)) (by repeat (first | (with_reducible first | exact BK511.out | refine blk_drewN ?_ _ | refine blk_drew ?_ | refine blk_alloc ?_ _) | refine blk_far ?_ NB511_519.out _ | exact BK511.out)) hb); replace BK519 := xy (blk_below (g := gb519) (o := .cells #[.bool t514, .int .i64 t515, .string t516] 32 (0, 0)) (kp BK519.out) hb); replace HB := xy (below_step xb hb); (try clear hb); (try clear hb2); (try clear hk); (try clear hi)) | ((with_reducible refine gate_dst (N := 8) rfl ?_); (try (refine gate_guard (by rfl) ?_; dsimp only)); refine xq (N := 8) (cs := #[.bool false, .int .i64 0, .string (⟨#[]⟩ : ByteArray)]) (t := 32) ?_; intro gb525 hg w29 hbox hb; have BK525 := xy (hbox); have GW525 := xs w hg; have GE525 := xs w hg; replace HB := xy (below_step xb hb); have NB511_525 := xn hg BK511.out; have NB525_511 := xp hg BK511.out; replace BK511 := xd BK511.out hb; have NB519_525 := xn hg BK519.out; have NB525_519 := xp hg BK519.out; replace BK519 := xd BK519.out hb; clear hb hbox hg; have hnb30 := NB525_511.out; have hnc30 := NB511_525.out; have hnb31 := NB525_519.out; have hnc31 := NB519_525.out; have hcz32_0 : w29.cell? ⟨gb525, 0, none⟩ = some (.bool false) := (kc BK525.out 0).trans rfl; have hcz32_1 : w29.cell? ⟨gb525, 1, none⟩ = some (.int .i64 0) := (kc BK525.out 1).trans rfl; have hcz32_2 : w29.cell? ⟨gb525, 2, none⟩ = some (.string (⟨#[]⟩ : ByteArray)) := (kc BK525.out 2).trans rfl; have hfz32_0 := kf BK525.out 0; have hfz32_1 := kf BK525.out 1; have hfz32_2 := kf BK525.out 2) | ((with_reducible refine gate_callee (f := 6) rfl ?_); refine goesL_ (some 53) rfl rfl Tryz.func6 (by kernel_rfl) rfl #[] rfl xr ?_; (with_reducible refine (w16_alive.calls kj2  true _ (Tabs.below hT xf) A18.out).mono ?_); rintro e w33 ⟨rfl, hb⟩; refine ⟨_, rfl, ?_⟩; replace BK511 := xy (blk_below (g := gb511) (o := .cells #[.bool a1_0, .int .i64 a1_1, .string a1_2, .bool a1_3, .int .i64 a1_4, .string a1_5, .int .i64 a1_6] 40 (0, 0)) (by repeat (first | (with_reducible first | exact BK511.out | refine blk_drewN ?_ _ | refine blk_drew ?_ | refine blk_alloc ?_ _) | refine blk_far ?_ NB511_525.out _ | exact BK511.out)) hb); replace BK519 := xy (blk_below (g := gb519) (o := .cells #[.bool t514, .int .i64 t515, .string t516] 32 (0, 0)) (by repeat (first | (with_reducible first | exact BK519.out | refine blk_drewN ?_ _ | refine blk_drew ?_ | refine blk_alloc ?_ _) | refine blk_far ?_ NB519_525.out _ | exact BK519.out)) hb); replace BK525 := xy (blk_below (g := gb525) (o := .cells #[.bool t520, .int .i64 t521, .string t522] 32 (0, 0)) (kp BK525.out) hb); replace HB := xy (below_step xb hb); (try clear hb); (try clear hb2); (try clear hk); (try clear hi); have hcz34_0 : w33.cell? ⟨gb519, 0, none⟩ = some (.bool t514) := (kc BK519.out 0).trans rfl; have hcz34_1 : w33.cell? ⟨gb519, 1, none⟩ = some (.int .i64 t515) := (kc BK519.out 1).trans rfl; have hcz34_2 : w33.cell? ⟨gb519, 2, none⟩ = some (.string t516) := (kc BK519.out 2).trans rfl; have hfz34_0 := kf BK519.out 0; have hfz34_1 := kf BK519.out 1; have hfz34_2 := kf BK519.out 2; have hcz35_0 : w33.cell? ⟨gb525, 0, none⟩ = some (.bool t520) := (kc BK525.out 0).trans rfl; have hcz35_1 : w33.cell? ⟨gb525, 1, none⟩ = some (.int .i64 t521) := (kc BK525.out 1).trans rfl; have hcz35_2 : w33.cell? ⟨gb525, 2, none⟩ = some (.string t522) := (kc BK525.out 2).trans rfl; have hfz35_0 := kf BK525.out 0; have hfz35_1 := kf BK525.out 1; have hfz35_2 := kf BK525.out 2))
       go_ret
       exact ⟨xe, xb⟩
      ·rw [if_neg c21] at H
       have c21b0 : (t517 == t523) = false := beq_eq_false_iff_ne.mpr c21
       have c21b1 : (t517 != t523) = true := bne_iff_ne.mpr c21
       exact absurd ((Option.some.inj H).trans hr_) (by decide)
     ·rw [if_neg c20] at H
      have c20b0 : (t514 == t520 && (t515 == t521 && (t516.toList == t522.toList))) = false := by simpa using c20
      (try (have c20b1 : decide (t514 = t520 && (t515 == t521 && (t516.toList == t522.toList))) = false := by simpa using c20))
      (try (have c20b2 : (t514 == t520 && (t515 == t521 && (t516.toList == t522.toList))) = false := by simpa using c20))
      (try (have c20b3 : ¬ (t514 = t520 && (t515 == t521 && (t516.toList == t522.toList))) := by simpa using c20))
      clear c20
      exact absurd ((Option.some.inj H).trans hr_) (by decide)
    ·replace c19 := Bool.eq_false_iff.mpr c19
     subst c19
     rw [if_neg (show ¬ (false = true) by decide)] at H
     exact absurd ((Option.some.inj H).trans hr_) (by decide)
def w16_EvalFolds.Pure : Prop := ∀ (x0 : List (S44)) (x1 : S40), (x0.length * 32 ≤ 140737488351232 ∧ ∀ q0_ ∈ x0, ((Lit.int .i64 q0_.f0).wf = true ∧ (Lit.int .i64 q0_.f1).wf = true ∧ q0_.f2.size ≤ 140737488351232)) → ((True ∧ (Lit.int .i64 x1.f0.f1).wf = true ∧ x1.f0.f2.size ≤ 140737488351232) ∧ (True ∧ (Lit.int .i64 x1.f1.f1).wf = true ∧ x1.f1.f2.size ≤ 140737488351232) ∧ (Lit.int .i64 x1.f2).wf = true) → ∃ k, w16_EvalFolds.f k x0 x1.f0.f0 x1.f0.f1 x1.f0.f2 x1.f1.f0 x1.f1.f1 x1.f1.f2 x1.f2 = some true
end
end Go.Proofs.YtnodgcakmolleaaGreatDoor.PX
