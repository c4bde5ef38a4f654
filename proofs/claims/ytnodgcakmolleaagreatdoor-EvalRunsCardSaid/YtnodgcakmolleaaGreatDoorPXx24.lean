/- Walked functions, by this session's program over the kit's print. -/
import Derived.Test.YtnodgcakmolleaaGreatDoorPXx0
import Derived.Test.YtnodgcakmolleaaGreatDoorPXx1
import Derived.Test.YtnodgcakmolleaaGreatDoorPXx9
import Derived.Test.YtnodgcakmolleaaGreatDoorPXx22
namespace Go.Proofs.YtnodgcakmolleaaGreatDoor.PX
open Go.RowKit Go.Proofs.YtnodgcakmolleaaGreatDoorW.PrintWords Go.Proofs.YtnodgcakmolleaaGreatDoorW.PrintLast Go.Proofs.YtnodgcakmolleaaGreatDoorW.PrintMore
attribute [local go_sem] xm_gtr max2_int min2_int max_two min_two max_three min_three max_four min_four
set_option linter.unusedVariables false
set_option linter.unusedSimpArgs false
section
/- Walked functions, by this session's program over the kit's print. -/
attribute [local go_sem high] eqA32
def w16_EvalRuns.f (k : Nat) (l0 : List (S44)) (l1 : List ByteArray) (a2 : Int) : Option (Bool) := (w16_small.f k l0 l1).bind fun t521 => (if t521 = true then ((eval_Run.f k l0 l1 a2).bind fun bt523 => ((r16_Run.f k l0 l1 a2).bind fun bt528 => ((eval_One.f k l0 l1 a2).bind fun bt533 => ((r16_One.f k l0 l1 a2).bind fun bt539 => ((eval_Yes.f k l0 l1 a2).bind fun bt545 => ((r16_Yes.f k l0 l1 a2).bind fun bt548 => ((w16_alive.f k).bind fun t551 => (if t551 = true then ((r16_Same.f k bt523.1 bt528.1).bind fun t552 => (if t552 = true then (if bt523.2.1 = bt528.2.1 then (if bt523.2.2 = bt528.2.2 then (if (bt533.1 == bt539.1 && (bt533.2.1 == bt539.2.1 && (bt533.2.2.1.toList == bt539.2.2.1.toList))) = true then (if bt533.2.2.2.1 = bt539.2.2.2.1 then (if bt533.2.2.2.2 = bt539.2.2.2.2 then (if (bt545.1 == bt548.1) = true then (if bt545.2.1 = bt548.2.1 then (some (bt545.2.2 == bt548.2.2)) else (some false)) else (some false)) else (some false)) else (some false)) else (some false)) else (some false)) else (some false)) else (some false))) else (some false))))))))) else ((w16_alive.f k).bind fun t522 => (some t522)))
theorem w16_EvalRuns.mono : ∀ a0 a1 a2 k, LeO (w16_EvalRuns.f k a0 a1 a2) (w16_EvalRuns.f (k + 1) a0 a1 a2) := by
 intro a0 a1 a2 k
 unfold w16_EvalRuns.f
 repeat' (with_reducible first | exact eval_One.mono _ _ _ _ | exact eval_Run.mono _ _ _ _ | exact eval_Yes.mono _ _ _ _ | exact w16_alive.mono _ | exact w16_small.mono _ _ _ | exact r16_One.mono _ _ _ _ | exact r16_Run.mono _ _ _ _ | exact r16_Same.mono _ _ _ | exact r16_Yes.mono _ _ _ _ | exact LeO.refl _ | exact LeO.none _ | refine LeO.ite ?_ ?_ | refine LeO.bind ?_ (fun _ => ?_))
set_option maxHeartbeats 8000000 in
set_option maxRecDepth 100000 in
theorem w16_EvalRuns.calls (k : Nat) (A0 : Option Addr) (c0 : Nat) (l0 : List (S44)) (A1 : Option Addr) (c1 : Nat) (l1 : List ByteArray) (a2 : Int) (r : Bool) (w : World) (hT : Tabs w) (hr0 : Kd.C k44 w A0 l0.length l0) (hc0 : l0.length ≤ c0) (hr1 : Kd.C Kd.string w A1 l1.length l1) (hc1 : l1.length ≤ c1) (h : w16_EvalRuns.f k l0 l1 a2 = some r) (hr_ : r = true := by rfl) :
  Calls Tryz.prog 3 #[.slice A0 l0.length c0, .slice A1 l1.length c1, .int .i64 a2] w fun e w' => e = .returned (.bool r) ∧ Below w.heap.size w w' := by
 have hu32 := Tryz.underlying32
 have HR0 := xy hr0
 have HC0 := xy hc0
 clear hr0 hc0
 have HR1 := xy hr1
 have HC1 := xy hc1
 clear hr1 hc1
 have HB := xy (Below.refl w.heap.size w)
 unfold w16_EvalRuns.f at h
 have H := h
 clear h
 replace H := xj H
 obtain ⟨t521, A40, H⟩ := H
 replace H : (if t521 = true then ((eval_Run.f k l0 l1 a2).bind fun bt523 => ((r16_Run.f k l0 l1 a2).bind fun bt528 => ((eval_One.f k l0 l1 a2).bind fun bt533 => ((r16_One.f k l0 l1 a2).bind fun bt539 => ((eval_Yes.f k l0 l1 a2).bind fun bt545 => ((r16_Yes.f k l0 l1 a2).bind fun bt548 => ((w16_alive.f k).bind fun t551 => (if t551 = true then ((r16_Same.f k bt523.1 bt528.1).bind fun t552 => (if t552 = true then (if bt523.2.1 = bt528.2.1 then (if bt523.2.2 = bt528.2.2 then (if (bt533.1 == bt539.1 && (bt533.2.1 == bt539.2.1 && (bt533.2.2.1.toList == bt539.2.2.1.toList))) = true then (if bt533.2.2.2.1 = bt539.2.2.2.1 then (if bt533.2.2.2.2 = bt539.2.2.2.2 then (if (bt545.1 == bt548.1) = true then (if bt545.2.1 = bt548.2.1 then (some (bt545.2.2 == bt548.2.2)) else (some false)) else (some false)) else (some false)) else (some false)) else (some false)) else (some false)) else (some false)) else (some false))) else (some false))))))))) else ((w16_alive.f k).bind fun t522 => (some t522))) = some r := H
 have A4 := xy A40
 clear A40
 by_cases c5 : t521 = true
 ·subst c5
  rw [if_pos rfl] at H
  replace H := xj H
  obtain ⟨⟨t523, t524, t525⟩, A60, H⟩ := H
  replace H : ((r16_Run.f k l0 l1 a2).bind fun bt528 => ((eval_One.f k l0 l1 a2).bind fun bt533 => ((r16_One.f k l0 l1 a2).bind fun bt539 => ((eval_Yes.f k l0 l1 a2).bind fun bt545 => ((r16_Yes.f k l0 l1 a2).bind fun bt548 => ((w16_alive.f k).bind fun t551 => (if t551 = true then ((r16_Same.f k t523 bt528.1).bind fun t552 => (if t552 = true then (if t524 = bt528.2.1 then (if t525 = bt528.2.2 then (if (bt533.1 == bt539.1 && (bt533.2.1 == bt539.2.1 && (bt533.2.2.1.toList == bt539.2.2.1.toList))) = true then (if bt533.2.2.2.1 = bt539.2.2.2.1 then (if bt533.2.2.2.2 = bt539.2.2.2.2 then (if (bt545.1 == bt548.1) = true then (if bt545.2.1 = bt548.2.1 then (some (bt545.2.2 == bt548.2.2)) else (some false)) else (some false)) else (some false)) else (some false)) else (some false)) else (some false)) else (some false)) else (some false))) else (some false)))))))) = some r := H
  have A6 := xy A60
  clear A60
  replace H := xj H
  obtain ⟨⟨t528, t529, t530⟩, A70, H⟩ := H
  replace H : ((eval_One.f k l0 l1 a2).bind fun bt533 => ((r16_One.f k l0 l1 a2).bind fun bt539 => ((eval_Yes.f k l0 l1 a2).bind fun bt545 => ((r16_Yes.f k l0 l1 a2).bind fun bt548 => ((w16_alive.f k).bind fun t551 => (if t551 = true then ((r16_Same.f k t523 t528).bind fun t552 => (if t552 = true then (if t524 = t529 then (if t525 = t530 then (if (bt533.1 == bt539.1 && (bt533.2.1 == bt539.2.1 && (bt533.2.2.1.toList == bt539.2.2.1.toList))) = true then (if bt533.2.2.2.1 = bt539.2.2.2.1 then (if bt533.2.2.2.2 = bt539.2.2.2.2 then (if (bt545.1 == bt548.1) = true then (if bt545.2.1 = bt548.2.1 then (some (bt545.2.2 == bt548.2.2)) else (some false)) else (some false)) else (some false)) else (some false)) else (some false)) else (some false)) else (some false)) else (some false))) else (some false))))))) = some r := H
  have A7 := xy A70
  clear A70
  replace H := xj H
  obtain ⟨⟨t533, t534, t535, t536, t537⟩, A80, H⟩ := H
  replace H : ((r16_One.f k l0 l1 a2).bind fun bt539 => ((eval_Yes.f k l0 l1 a2).bind fun bt545 => ((r16_Yes.f k l0 l1 a2).bind fun bt548 => ((w16_alive.f k).bind fun t551 => (if t551 = true then ((r16_Same.f k t523 t528).bind fun t552 => (if t552 = true then (if t524 = t529 then (if t525 = t530 then (if (t533 == bt539.1 && (t534 == bt539.2.1 && (t535.toList == bt539.2.2.1.toList))) = true then (if t536 = bt539.2.2.2.1 then (if t537 = bt539.2.2.2.2 then (if (bt545.1 == bt548.1) = true then (if bt545.2.1 = bt548.2.1 then (some (bt545.2.2 == bt548.2.2)) else (some false)) else (some false)) else (some false)) else (some false)) else (some false)) else (some false)) else (some false)) else (some false))) else (some false)))))) = some r := H
  have A8 := xy A80
  clear A80
  replace H := xj H
  obtain ⟨⟨t539, t540, t541, t542, t543⟩, A90, H⟩ := H
  replace H : ((eval_Yes.f k l0 l1 a2).bind fun bt545 => ((r16_Yes.f k l0 l1 a2).bind fun bt548 => ((w16_alive.f k).bind fun t551 => (if t551 = true then ((r16_Same.f k t523 t528).bind fun t552 => (if t552 = true then (if t524 = t529 then (if t525 = t530 then (if (t533 == t539 && (t534 == t540 && (t535.toList == t541.toList))) = true then (if t536 = t542 then (if t537 = t543 then (if (bt545.1 == bt548.1) = true then (if bt545.2.1 = bt548.2.1 then (some (bt545.2.2 == bt548.2.2)) else (some false)) else (some false)) else (some false)) else (some false)) else (some false)) else (some false)) else (some false)) else (some false))) else (some false))))) = some r := H
  have A9 := xy A90
  clear A90
  replace H := xj H
  obtain ⟨⟨t545, t546, t547⟩, A100, H⟩ := H
  replace H : ((r16_Yes.f k l0 l1 a2).bind fun bt548 => ((w16_alive.f k).bind fun t551 => (if t551 = true then ((r16_Same.f k t523 t528).bind fun t552 => (if t552 = true then (if t524 = t529 then (if t525 = t530 then (if (t533 == t539 && (t534 == t540 && (t535.toList == t541.toList))) = true then (if t536 = t542 then (if t537 = t543 then (if (t545 == bt548.1) = true then (if t546 = bt548.2.1 then (some (t547 == bt548.2.2)) else (some false)) else (some false)) else (some false)) else (some false)) else (some false)) else (some false)) else (some false)) else (some false))) else (some false)))) = some r := H
  have A10 := xy A100
  clear A100
  replace H := xj H
  obtain ⟨⟨t548, t549, t550⟩, A110, H⟩ := H
  replace H : ((w16_alive.f k).bind fun t551 => (if t551 = true then ((r16_Same.f k t523 t528).bind fun t552 => (if t552 = true then (if t524 = t529 then (if t525 = t530 then (if (t533 == t539 && (t534 == t540 && (t535.toList == t541.toList))) = true then (if t536 = t542 then (if t537 = t543 then (if (t545 == t548) = true then (if t546 = t549 then (some (t547 == t550)) else (some false)) else (some false)) else (some false)) else (some false)) else (some false)) else (some false)) else (some false)) else (some false))) else (some false))) = some r := H
  have A11 := xy A110
  clear A110
  replace H := xj H
  obtain ⟨t551, A120, H⟩ := H
  replace H : (if t551 = true then ((r16_Same.f k t523 t528).bind fun t552 => (if t552 = true then (if t524 = t529 then (if t525 = t530 then (if (t533 == t539 && (t534 == t540 && (t535.toList == t541.toList))) = true then (if t536 = t542 then (if t537 = t543 then (if (t545 == t548) = true then (if t546 = t549 then (some (t547 == t550)) else (some false)) else (some false)) else (some false)) else (some false)) else (some false)) else (some false)) else (some false)) else (some false))) else (some false)) = some r := H
  have A12 := xy A120
  clear A120
  by_cases c13 : t551 = true
  ·subst c13
   rw [if_pos rfl] at H
   replace H := xj H
   obtain ⟨t552, A140, H⟩ := H
   replace H : (if t552 = true then (if t524 = t529 then (if t525 = t530 then (if (t533 == t539 && (t534 == t540 && (t535.toList == t541.toList))) = true then (if t536 = t542 then (if t537 = t543 then (if (t545 == t548) = true then (if t546 = t549 then (some (t547 == t550)) else (some false)) else (some false)) else (some false)) else (some false)) else (some false)) else (some false)) else (some false)) else (some false)) = some r := H
   have A14 := xy A140
   clear A140
   by_cases c15 : t552 = true
   ·subst c15
    rw [if_pos rfl] at H
    by_cases c16 : t524 = t529
    ·rw [if_pos c16] at H
     have c16b0 : (t524 == t529) = true := beq_iff_eq.mpr c16
     have c16b1 : (t524 != t529) = false := bne_eq_false_iff_eq.mpr c16
     clear c16
     by_cases c17 : t525 = t530
     ·rw [if_pos c17] at H
      have c17b0 : (t525 == t530) = true := beq_iff_eq.mpr c17
      have c17b1 : (t525 != t530) = false := bne_eq_false_iff_eq.mpr c17
      clear c17
      by_cases c18 : (t533 == t539 && (t534 == t540 && (t535.toList == t541.toList))) = true
      ·rw [if_pos c18] at H
       have c18b0 : (t533 == t539 && (t534 == t540 && (t535.toList == t541.toList))) = true := c18
       (try (have c18b1 : decide (t533 = t539 && (t534 == t540 && (t535.toList == t541.toList))) = true := by simpa using c18))
       (try (have c18b2 : (t533 == t539 && (t534 == t540 && (t535.toList == t541.toList))) = true := by simpa using c18))
       clear c18
       by_cases c19 : t536 = t542
       ·rw [if_pos c19] at H
        have c19b0 : (t536 == t542) = true := beq_iff_eq.mpr c19
        have c19b1 : (t536 != t542) = false := bne_eq_false_iff_eq.mpr c19
        clear c19
        by_cases c20 : t537 = t543
        ·rw [if_pos c20] at H
         have c20b0 : (t537 == t543) = true := beq_iff_eq.mpr c20
         have c20b1 : (t537 != t543) = false := bne_eq_false_iff_eq.mpr c20
         clear c20
         by_cases c21 : (t545 == t548) = true
         ·rw [if_pos c21] at H
          have c21b0 : (t545 == t548) = true := c21
          (try (have c21b1 : decide (t545 = t548) = true := by simpa using c21))
          (try (have c21b2 : (t545 == t548) = true := by simpa using c21))
          clear c21
          by_cases c22 : t546 = t549
          ·rw [if_pos c22] at H
           have c22b0 : (t546 == t549) = true := beq_iff_eq.mpr c22
           have c22b1 : (t546 != t549) = false := bne_eq_false_iff_eq.mpr c22
           clear c22
           obtain rfl := Option.some.inj H
           go_enter Tryz.func3, Tryz.ntmps3
           go_wp2_with (first | ((with_reducible refine gate_callee (f := 5) rfl ?_); refine goesL_ (some 27) rfl rfl Tryz.func5 (by kernel_rfl) rfl #[.slice A0 l0.length c0, .slice A1 l1.length c1] rfl xr ?_; (with_reducible refine (w16_small.calls k _ _ l0 (fun k_ => k_ < w.heap.size) _ _ l1 true _ (Tabs.below hT xf) ?side1 ?side2 ?side3 A4.out).mono ?_); (case side1 => repeat (first | exact HR0.out | (with_reducible refine Kd.C_alloc ?_ _) | (with_reducible refine Kd.C_drewN ?_ _) | (with_reducible refine Kd.C_drew ?_))); (case side2 => exact HC0.out); (case side3 => exact Kd.V_mk HC1.out (Kd.F_below (Kd.C_F Kd.heap_string HR1.out) xb)); rintro e w23 ⟨rfl, hb⟩; refine ⟨_, rfl, ?_⟩; replace HB := xy (below_step xb hb); (try clear hb); (try clear hb2); (try clear hk); (try clear hi)) | ((with_reducible refine gate_callee (f := 7) rfl ?_); refine goesL_ (some 34) rfl rfl Tryz.func7 (by kernel_rfl) rfl #[.slice A0 l0.length c0, .slice A1 l1.length c1, .int .i64 a2] rfl xr ?_; (with_reducible refine (eval_Run.calls k _ _ l0 _ _ l1 a2 t523 t524 t525 _ (Tabs.below hT xf) ?side1 ?side2 ?side3 ?side4 A6.out).mono ?_); (case side1 => exact Kd.C_below HR0.out xb); (case side2 => exact HC0.out); (case side3 => exact Kd.C_below HR1.out xb); (case side4 => exact HC1.out); rintro e w24 ⟨v526, rfl, ho0, hb⟩; refine ⟨_, rfl, ?_⟩; have HO527 := xy (Kd.R_lower ho0 (below_size xb)); replace HB := xy (below_step xb hb); (try clear hb); (try clear hb2); (try clear hk); (try clear hi); (try clear ho0)) | ((with_reducible refine gate_callee (f := 8) rfl ?_); refine goesL_ (some 42) rfl rfl Tryz.func8 (by kernel_rfl) rfl #[.slice A0 l0.length c0, .slice A1 l1.length c1, .int .i64 a2] rfl xr ?_; (with_reducible refine (r16_Run.calls k _ _ l0 _ _ l1 a2 t528 t529 t530 _ (Tabs.below hT xf) ?side1 ?side2 ?side3 ?side4 A7.out).mono ?_); (case side1 => exact Kd.C_below HR0.out xb); (case side2 => exact HC0.out); (case side3 => exact Kd.C_below HR1.out xb); (case side4 => exact HC1.out); rintro e w25 ⟨v531, rfl, ho0, hb⟩; refine ⟨_, rfl, ?_⟩; have HO532 := xy (Kd.R_lower (Kd.R_new' ho0 (Kd.R_lt (xo HO527.out))) (below_size xb)); replace HO527 := xy (Kd.R_elder' (xo HO527.out) (Kd.R_base ho0) hb); replace HB := xy (below_step xb hb); (try clear hb); (try clear hb2); (try clear hk); (try clear hi); (try clear ho0)) | ((with_reducible refine gate_callee (f := 9) rfl ?_); refine goesL_ (some 50) rfl rfl Tryz.func9 (by kernel_rfl) rfl #[.slice A0 l0.length c0, .slice A1 l1.length c1, .int .i64 a2] rfl xr ?_; (with_reducible refine (eval_One.calls k _ _ l0 _ _ l1 a2 t533 t534 t535 t536 t537 _ (Tabs.below hT xf) ?side1 ?side2 ?side3 ?side4 A8.out).mono ?_); (case side1 => exact Kd.C_below HR0.out xb); (case side2 => exact HC0.out); (case side3 => exact Kd.C_below HR1.out xb); (case side4 => exact HC1.out); rintro e w26 ⟨rfl, hb⟩; refine ⟨_, rfl, ?_⟩; replace HO527 := xy (Kd.R_below (xo HO527.out) hb); replace HO532 := xy (Kd.R_below (xo HO532.out) hb); replace HB := xy (below_step xb hb); (try clear hb); (try clear hb2); (try clear hk); (try clear hi)) | ((with_reducible refine gate_dst (N := 13) rfl ?_); refine xq (N := 13) (cs := #[.bool false, .int .i64 0, .string (⟨#[]⟩ : ByteArray)]) (t := 32) ?_; intro gb538 hg w27 hbox hb; replace HO527 := xy (Kd.R_below (Kd.R_elderB (xo HO527.out) gb538 (Nat.le_of_eq hg.symm)) hb); replace HO532 := xy (Kd.R_below (Kd.R_elderB (xo HO532.out) gb538 (Nat.le_of_eq hg.symm)) hb); have BK538 := xy (hbox); have GW538 := xs w hg; have GE538 := xs w hg; replace HB := xy (below_step xb hb); clear hb hbox hg; have hcz28_0 : w27.cell? ⟨gb538, 0, none⟩ = some (.bool false) := (kc BK538.out 0).trans rfl; have hcz28_1 : w27.cell? ⟨gb538, 1, none⟩ = some (.int .i64 0) := (kc BK538.out 1).trans rfl; have hcz28_2 : w27.cell? ⟨gb538, 2, none⟩ = some (.string (⟨#[]⟩ : ByteArray)) := (kc BK538.out 2).trans rfl; have hfz28_0 := kf BK538.out 0; have hfz28_1 := kf BK538.out 1; have hfz28_2 := kf BK538.out 2) | ((with_reducible refine gate_callee (f := 10) rfl ?_); refine goesL_ (some 58) rfl rfl Tryz.func10 (by kernel_rfl) rfl #[.slice A0 l0.length c0, .slice A1 l1.length c1, .int .i64 a2] rfl xr ?_; (with_reducible refine (r16_One.calls k _ _ l0 _ _ l1 a2 t539 t540 t541 t542 t543 _ (Tabs.below hT xf) ?side1 ?side2 ?side3 ?side4 A9.out).mono ?_); (case side1 => exact Kd.C_below HR0.out xb); (case side2 => exact HC0.out); (case side3 => exact Kd.C_below HR1.out xb); (case side4 => exact HC1.out); rintro e w29 ⟨rfl, hb⟩; refine ⟨_, rfl, ?_⟩; replace HO527 := xy (Kd.R_below (by (with_reducible repeat (first | apply Kd.R_alloc | apply Kd.R_drewN | apply Kd.R_drew)); exact (Kd.R_mono (Kd.R_far (p := ⟨gb538, 2, none⟩) (Kd.R_far (p := ⟨gb538, 1, none⟩) (Kd.R_far (p := ⟨gb538, 0, none⟩) (Kd.R_mono HO527.out (fun k_ hk => (⟨hk, hk.2⟩ : _ ∧ k_ ≠ gb538))) (fun _ hk => hk.2) (.bool t533)) (fun _ hk => hk.2) (.int .i64 t534)) (fun _ hk => hk.2) (.string t535)) (fun _ h_ => h_.1))) hb); replace HO532 := xy (Kd.R_below (by (with_reducible repeat (first | apply Kd.R_alloc | apply Kd.R_drewN | apply Kd.R_drew)); exact (Kd.R_mono (Kd.R_far (p := ⟨gb538, 2, none⟩) (Kd.R_far (p := ⟨gb538, 1, none⟩) (Kd.R_far (p := ⟨gb538, 0, none⟩) (Kd.R_mono HO532.out (fun k_ hk => (⟨hk, hk.2⟩ : _ ∧ k_ ≠ gb538))) (fun _ hk => hk.2) (.bool t533)) (fun _ hk => hk.2) (.int .i64 t534)) (fun _ hk => hk.2) (.string t535)) (fun _ h_ => h_.1))) hb); replace BK538 := xy (blk_below (g := gb538) (o := .cells #[.bool t533, .int .i64 t534, .string t535] 32 (0, 0)) (kp BK538.out) hb); replace HB := xy (below_step xb hb); (try clear hb); (try clear hb2); (try clear hk); (try clear hi)) | ((with_reducible refine gate_dst (N := 16) rfl ?_); refine xq (N := 16) (cs := #[.bool false, .int .i64 0, .string (⟨#[]⟩ : ByteArray)]) (t := 32) ?_; intro gb544 hg w30 hbox hb; replace HO527 := xy (Kd.R_below (Kd.R_elderB (xo HO527.out) gb544 (Nat.le_of_eq hg.symm)) hb); replace HO532 := xy (Kd.R_below (Kd.R_elderB (xo HO532.out) gb544 (Nat.le_of_eq hg.symm)) hb); have BK544 := xy (hbox); have GW544 := xs w hg; have GE544 := xs w hg; replace HB := xy (below_step xb hb); have NB538_544 := xn hg BK538.out; have NB544_538 := xp hg BK538.out; replace BK538 := xd BK538.out hb; clear hb hbox hg; have hnb31 := NB544_538.out; have hnc31 := NB538_544.out; have hcz32_0 : w30.cell? ⟨gb544, 0, none⟩ = some (.bool false) := (kc BK544.out 0).trans rfl; have hcz32_1 : w30.cell? ⟨gb544, 1, none⟩ = some (.int .i64 0) := (kc BK544.out 1).trans rfl; have hcz32_2 : w30.cell? ⟨gb544, 2, none⟩ = some (.string (⟨#[]⟩ : ByteArray)) := (kc BK544.out 2).trans rfl; have hfz32_0 := kf BK544.out 0; have hfz32_1 := kf BK544.out 1; have hfz32_2 := kf BK544.out 2) | ((with_reducible refine gate_callee (f := 11) rfl ?_); refine goesL_ (some 66) rfl rfl Tryz.func11 (by kernel_rfl) rfl #[.slice A0 l0.length c0, .slice A1 l1.length c1, .int .i64 a2] rfl xr ?_; (with_reducible refine (eval_Yes.calls k _ _ l0 _ _ l1 a2 t545 t546 t547 _ (Tabs.below hT xf) ?side1 ?side2 ?side3 ?side4 A10.out).mono ?_); (case side1 => exact Kd.C_below HR0.out xb); (case side2 => exact HC0.out); (case side3 => exact Kd.C_below HR1.out xb); (case side4 => exact HC1.out); rintro e w33 ⟨rfl, hb⟩; refine ⟨_, rfl, ?_⟩; replace HO527 := xy (Kd.R_below (by (with_reducible repeat (first | apply Kd.R_alloc | apply Kd.R_drewN | apply Kd.R_drew)); exact (Kd.R_mono (Kd.R_far (p := ⟨gb544, 2, none⟩) (Kd.R_far (p := ⟨gb544, 1, none⟩) (Kd.R_far (p := ⟨gb544, 0, none⟩) (Kd.R_mono HO527.out (fun k_ hk => (⟨hk, hk.2⟩ : _ ∧ k_ ≠ gb544))) (fun _ hk => hk.2) (.bool t539)) (fun _ hk => hk.2) (.int .i64 t540)) (fun _ hk => hk.2) (.string t541)) (fun _ h_ => h_.1))) hb); replace HO532 := xy (Kd.R_below (by (with_reducible repeat (first | apply Kd.R_alloc | apply Kd.R_drewN | apply Kd.R_drew)); exact (Kd.R_mono (Kd.R_far (p := ⟨gb544, 2, none⟩) (Kd.R_far (p := ⟨gb544, 1, none⟩) (Kd.R_far (p := ⟨gb544, 0, none⟩) (Kd.R_mono HO532.out (fun k_ hk => (⟨hk, hk.2⟩ : _ ∧ k_ ≠ gb544))) (fun _ hk => hk.2) (.bool t539)) (fun _ hk => hk.2) (.int .i64 t540)) (fun _ hk => hk.2) (.string t541)) (fun _ h_ => h_.1))) hb); replace BK538 := xy (blk_below (g := gb538) (o := .cells #[.bool t533, .int .i64 t534, .string t535] 32 (0, 0)) (by repeat (first | (with_reducible first | exact BK538.out | refine blk_drewN ?_ _ | refine blk_drew ?_ | refine blk_alloc ?_ _) | refine blk_far ?_ NB538_544.out _ | exact BK538.out)) hb); replace BK544 := xy (blk_below (g := gb544) (o := .cells #[.bool t539, .int .i64 t540, .string t541] 32 (0, 0)) (kp BK544.out) hb); replace HB := xy (below_step xb hb); (try clear hb); (try clear hb2); (try clear hk); (try clear hi)) | ((with_reducible refine gate_callee (f := 12) rfl ?_); refine goesL_ (some 74) rfl rfl Tryz.func12 (by kernel_rfl) rfl #[.slice A0 l0.length c0, .slice A1 l1.length c1, .int .i64 a2] rfl xr ?_; (with_reducible refine (r16_Yes.calls k _ _ l0 _ _ l1 a2 t548 t549 t550 _ (Tabs.below hT xf) ?side1 ?side2 ?side3 ?side4 A11.out).mono ?_); (case side1 => exact Kd.C_below HR0.out xb); (case side2 => exact HC0.out); (case side3 => exact Kd.C_below HR1.out xb); (case side4 => exact HC1.out); rintro e w34 ⟨rfl, hb⟩; refine ⟨_, rfl, ?_⟩; replace HO527 := xy (Kd.R_below (xo HO527.out) hb); replace HO532 := xy (Kd.R_below (xo HO532.out) hb); replace BK538 := xd BK538.out hb; replace BK544 := xd BK544.out hb; replace HB := xy (below_step xb hb); (try clear hb); (try clear hb2); (try clear hk); (try clear hi)) | ((with_reducible refine gate_callee (f := 6) rfl ?_); refine goesL_ (some 78) rfl rfl Tryz.func6 (by kernel_rfl) rfl #[] rfl xr ?_; (with_reducible refine (w16_alive.calls k  true _ (Tabs.below hT xf) A12.out).mono ?_); rintro e w35 ⟨rfl, hb⟩; refine ⟨_, rfl, ?_⟩; replace HO527 := xy (Kd.R_below (xo HO527.out) hb); replace HO532 := xy (Kd.R_below (xo HO532.out) hb); replace BK538 := xd BK538.out hb; replace BK544 := xd BK544.out hb; replace HB := xy (below_step xb hb); (try clear hb); (try clear hb2); (try clear hk); (try clear hi); obtain ⟨Ao36, co36, eo36⟩ := Kd.R_slice HO527.out; subst eo36; obtain ⟨Ao37, co37, eo37⟩ := Kd.R_slice HO532.out; subst eo37) | (go_at_call 13; (with_reducible refine (r16_Same.calls k _ _ t523 _ _ t528 true _ (Tabs.below hT xf) ?side1 ?side2 ?side3 ?side4 A14.out).mono ?_); (case side1 => repeat (first | exact (Kd.R_reads' HO527.out).2.2 | (with_reducible refine Kd.C_alloc ?_ _) | (with_reducible refine Kd.C_drewN ?_ _) | (with_reducible refine Kd.C_drew ?_))); (case side2 => exact (Kd.R_reads' HO527.out).2.1); (case side3 => repeat (first | exact (Kd.R_reads' HO532.out).2.2 | (with_reducible refine Kd.C_alloc ?_ _) | (with_reducible refine Kd.C_drewN ?_ _) | (with_reducible refine Kd.C_drew ?_))); (case side4 => exact (Kd.R_reads' HO532.out).2.1); rintro e w' ⟨rfl, ⟨nd, rfl⟩⟩; have hcz38_0 : w35.cell? ⟨gb538, 0, none⟩ = some (.bool t533) := (kc BK538.out 0).trans rfl; have hcz38_1 : w35.cell? ⟨gb538, 1, none⟩ = some (.int .i64 t534) := (kc BK538.out 1).trans rfl; have hcz38_2 : w35.cell? ⟨gb538, 2, none⟩ = some (.string t535) := (kc BK538.out 2).trans rfl; have hfz38_0 := kf BK538.out 0; have hfz38_1 := kf BK538.out 1; have hfz38_2 := kf BK538.out 2; have hcz39_0 : w35.cell? ⟨gb544, 0, none⟩ = some (.bool t539) := (kc BK544.out 0).trans rfl; have hcz39_1 : w35.cell? ⟨gb544, 1, none⟩ = some (.int .i64 t540) := (kc BK544.out 1).trans rfl; have hcz39_2 : w35.cell? ⟨gb544, 2, none⟩ = some (.string t541) := (kc BK544.out 2).trans rfl; have hfz39_0 := kf BK544.out 0; have hfz39_1 := kf BK544.out 1; have hfz39_2 := kf BK544.out 2))
           go_ret
           exact ⟨xe, xb⟩
          ·rw [if_neg c22] at H
           have c22b0 : (t546 == t549) = false := beq_eq_false_iff_ne.mpr c22
           have c22b1 : (t546 != t549) = true := bne_iff_ne.mpr c22
           exact absurd ((Option.some.inj H).trans hr_) (by decide)
         ·rw [if_neg c21] at H
          have c21b0 : (t545 == t548) = false := by simpa using c21
          (try (have c21b1 : decide (t545 = t548) = false := by simpa using c21))
          (try (have c21b2 : (t545 == t548) = false := by simpa using c21))
          (try (have c21b3 : ¬ (t545 = t548) := by simpa using c21))
          clear c21
          exact absurd ((Option.some.inj H).trans hr_) (by decide)
        ·rw [if_neg c20] at H
         have c20b0 : (t537 == t543) = false := beq_eq_false_iff_ne.mpr c20
         have c20b1 : (t537 != t543) = true := bne_iff_ne.mpr c20
         exact absurd ((Option.some.inj H).trans hr_) (by decide)
       ·rw [if_neg c19] at H
        have c19b0 : (t536 == t542) = false := beq_eq_false_iff_ne.mpr c19
        have c19b1 : (t536 != t542) = true := bne_iff_ne.mpr c19
        exact absurd ((Option.some.inj H).trans hr_) (by decide)
      ·rw [if_neg c18] at H
       have c18b0 : (t533 == t539 && (t534 == t540 && (t535.toList == t541.toList))) = false := by simpa using c18
       (try (have c18b1 : decide (t533 = t539 && (t534 == t540 && (t535.toList == t541.toList))) = false := by simpa using c18))
       (try (have c18b2 : (t533 == t539 && (t534 == t540 && (t535.toList == t541.toList))) = false := by simpa using c18))
       (try (have c18b3 : ¬ (t533 = t539 && (t534 == t540 && (t535.toList == t541.toList))) := by simpa using c18))
       clear c18
       exact absurd ((Option.some.inj H).trans hr_) (by decide)
     ·rw [if_neg c17] at H
      have c17b0 : (t525 == t530) = false := beq_eq_false_iff_ne.mpr c17
      have c17b1 : (t525 != t530) = true := bne_iff_ne.mpr c17
      exact absurd ((Option.some.inj H).trans hr_) (by decide)
    ·rw [if_neg c16] at H
     have c16b0 : (t524 == t529) = false := beq_eq_false_iff_ne.mpr c16
     have c16b1 : (t524 != t529) = true := bne_iff_ne.mpr c16
     exact absurd ((Option.some.inj H).trans hr_) (by decide)
   ·replace c15 := Bool.eq_false_iff.mpr c15
    subst c15
    rw [if_neg (show ¬ (false = true) by decide)] at H
    exact absurd ((Option.some.inj H).trans hr_) (by decide)
  ·replace c13 := Bool.eq_false_iff.mpr c13
   subst c13
   rw [if_neg (show ¬ (false = true) by decide)] at H
   exact absurd ((Option.some.inj H).trans hr_) (by decide)
 ·replace c5 := Bool.eq_false_iff.mpr c5
  subst c5
  rw [if_neg (show ¬ (false = true) by decide)] at H
  replace H := xj H
  obtain ⟨t522, A1830, H⟩ := H
  replace H : (some t522) = some r := H
  have A183 := xy A1830
  clear A1830
  obtain rfl := Option.some.inj H
  go_enter Tryz.func3, Tryz.ntmps3
  go_wp2_with (first | ((with_reducible refine gate_callee (f := 5) rfl ?_); refine goesL_ (some 27) rfl rfl Tryz.func5 (by kernel_rfl) rfl #[.slice A0 l0.length c0, .slice A1 l1.length c1] rfl xr ?_; (with_reducible refine (w16_small.calls k _ _ l0 (fun k_ => k_ < w.heap.size) _ _ l1 false _ (Tabs.below hT xf) ?side1 ?side2 ?side3 A4.out).mono ?_); (case side1 => repeat (first | exact HR0.out | (with_reducible refine Kd.C_alloc ?_ _) | (with_reducible refine Kd.C_drewN ?_ _) | (with_reducible refine Kd.C_drew ?_))); (case side2 => exact HC0.out); (case side3 => exact Kd.V_mk HC1.out (Kd.F_below (Kd.C_F Kd.heap_string HR1.out) xb)); rintro e w184 ⟨rfl, hb⟩; refine ⟨_, rfl, ?_⟩; replace HB := xy (below_step xb hb); (try clear hb); (try clear hb2); (try clear hk); (try clear hi)) | ((with_reducible refine gate_callee (f := 6) rfl ?_); refine goesL_ (some 29) rfl rfl Tryz.func6 (by kernel_rfl) rfl #[] rfl xr ?_; (with_reducible refine (w16_alive.calls k  t522 _ (Tabs.below hT xf) A183.out).mono ?_); rintro e w185 ⟨rfl, hb⟩; refine ⟨_, rfl, ?_⟩; replace HB := xy (below_step xb hb); (try clear hb); (try clear hb2); (try clear hk); (try clear hi)))
  go_ret
  exact ⟨xe, xb⟩
def w16_EvalRuns.Pure : Prop := ∀ (x0 : List (S44)) (x1 : List ByteArray) (x2 : Int), (x0.length * 32 ≤ 140737488351232 ∧ ∀ q0_ ∈ x0, ((Lit.int .i64 q0_.f0).wf = true ∧ (Lit.int .i64 q0_.f1).wf = true ∧ q0_.f2.size ≤ 140737488351232)) → (x1.length * 16 ≤ 140737488351232 ∧ ∀ q0_ ∈ x1, q0_.size ≤ 140737488351232) → (Lit.int .i64 x2).wf = true → ∃ k, w16_EvalRuns.f k x0 x1 x2 = some true
end
end Go.Proofs.YtnodgcakmolleaaGreatDoor.PX
