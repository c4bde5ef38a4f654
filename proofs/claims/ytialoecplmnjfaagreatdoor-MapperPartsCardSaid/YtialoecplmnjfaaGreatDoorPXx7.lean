/- Walked functions, by this session's program over the kit's print. -/
import Derived.Test.YtialoecplmnjfaaGreatDoorXD
import Derived.Test.YtialoecplmnjfaaGreatDoorPXx0
import Derived.Test.YtialoecplmnjfaaGreatDoorPXx5
namespace Go.Proofs.YtialoecplmnjfaaGreatDoor.PX
open Go.RowKit Go.Proofs.YtialoecplmnjfaaGreatDoorW.PrintWords Go.Proofs.YtialoecplmnjfaaGreatDoorW.PrintLast Go.Proofs.YtialoecplmnjfaaGreatDoorW.PrintMore
attribute [local go_sem] xm_gtr max2_int min2_int max_two min_two max_three min_three max_four min_four
set_option linter.unusedVariables false
set_option linter.unusedSimpArgs false
/- Walked functions, by this session's program over the kit's print. -/
def code_May.f (a0_0 : Int) (a0_1 : Int) (a0_2 : ByteArray) : Option (Bool) := if a0_0 = 0 then ((code_isOp.f a0_0).bind fun t146 => (if t146 = true then (some (a0_2.toList == ([] : List UInt8))) else (some false))) else (if a0_0 = 1 then ((code_isOp.f a0_0).bind fun t147 => (if t147 = true then (if a0_1 = 0 then (some (decide ((a0_2.size : Int) ≤ 1000))) else (some false)) else (some false))) else (if a0_0 = 2 then (if a0_1 ≥ 0 then ((code_isOp.f a0_0).bind fun t148 => (if t148 = true then (if a0_1 < 50 then (some (a0_2.toList == ([] : List UInt8))) else (some false)) else (some false))) else ((code_isOp.f a0_0).bind fun t149 => (if t149 = true then (some false) else (some false)))) else ((code_isOp.f a0_0).bind fun t150 => (if t150 = true then (if a0_1 = 0 then (some (a0_2.toList == ([] : List UInt8))) else (some false)) else (some false)))))
set_option maxHeartbeats 8000000 in
set_option maxRecDepth 100000 in
theorem code_May.calls (a0_0 : Int) (a0_1 : Int) (a0_2 : ByteArray) (r : Bool) (w : World) (hT : Tabs w) (h : code_May.f a0_0 a0_1 a0_2 = some r) :
  Calls Tryz.prog 55 #[.agg #[.int .i64 a0_0, .int .i64 a0_1, .string a0_2]] w fun e w' => e = .returned (.bool r) ∧ Below w.heap.size w w' := by
 have hu50 := Tryz.underlying50
 have HB := xy (Below.refl w.heap.size w)
 unfold code_May.f at h
 have H := h
 clear h
 by_cases c2 : a0_0 = 0
 ·rw [if_pos c2] at H
  have c2b0 : (a0_0 == 0) = true := beq_iff_eq.mpr c2
  have c2b1 : (a0_0 != 0) = false := bne_eq_false_iff_eq.mpr c2
  clear c2
  replace H := xj H
  obtain ⟨t146, A30, H⟩ := H
  try dsimp only at H
  have A3 := xy A30
  clear A30
  by_cases c4 : t146 = true
  ·subst c4
   rw [if_pos rfl] at H
   obtain rfl := Option.some.inj H
   go_enter Tryz.func55, Tryz.ntmps55
   go_wp2_with (((with_reducible refine gate_dst (N := 1) rfl ?_); refine xq (N := 1) (cs := #[.int .i64 a0_0, .int .i64 a0_1, .string a0_2]) (t := 50) ?_; intro gb145 hg w5 hbox hb; have BK145 := xy (hbox); have GW145 := xs w hg; have GE145 := xs w hg; replace HB := xy (below_step xb hb); clear hb hbox hg; have hcz6_0 : w5.cell? ⟨gb145, 0, none⟩ = some (.int .i64 a0_0) := (kc BK145.out 0).trans rfl; have hcz6_1 : w5.cell? ⟨gb145, 1, none⟩ = some (.int .i64 a0_1) := (kc BK145.out 1).trans rfl; have hcz6_2 : w5.cell? ⟨gb145, 2, none⟩ = some (.string a0_2) := (kc BK145.out 2).trans rfl; have hfz6_0 := kf BK145.out 0; have hfz6_1 := kf BK145.out 1; have hfz6_2 := kf BK145.out 2))
   repeat (go_quiet (fail); try go_wp2_with ((go_at_call 61; (with_reducible refine (code_isOp.calls a0_0 true _ (Tabs.below hT xf) A3.out).mono ?_); rintro e w7 ⟨rfl, hb⟩; replace BK145 := xd BK145.out hb; replace HB := xy (below_step xb hb); (try clear hb); (try clear hb2); (try clear hk); (try clear hi))))
   go_ret
   exact ⟨xe, xb⟩
  ·replace c4 := Bool.eq_false_iff.mpr c4
   subst c4
   rw [if_neg (show ¬ (false = true) by decide)] at H
   obtain rfl := Option.some.inj H
   go_enter Tryz.func55, Tryz.ntmps55
   go_wp2_with (((with_reducible refine gate_dst (N := 1) rfl ?_); refine xq (N := 1) (cs := #[.int .i64 a0_0, .int .i64 a0_1, .string a0_2]) (t := 50) ?_; intro gb145 hg w8 hbox hb; have BK145 := xy (hbox); have GW145 := xs w hg; have GE145 := xs w hg; replace HB := xy (below_step xb hb); clear hb hbox hg; have hcz9_0 : w8.cell? ⟨gb145, 0, none⟩ = some (.int .i64 a0_0) := (kc BK145.out 0).trans rfl; have hcz9_1 : w8.cell? ⟨gb145, 1, none⟩ = some (.int .i64 a0_1) := (kc BK145.out 1).trans rfl; have hcz9_2 : w8.cell? ⟨gb145, 2, none⟩ = some (.string a0_2) := (kc BK145.out 2).trans rfl; have hfz9_0 := kf BK145.out 0; have hfz9_1 := kf BK145.out 1; have hfz9_2 := kf BK145.out 2))
   repeat (go_quiet (fail); try go_wp2_with ((go_at_call 61; (with_reducible refine (code_isOp.calls a0_0 false _ (Tabs.below hT xf) A3.out).mono ?_); rintro e w10 ⟨rfl, hb⟩; replace BK145 := xd BK145.out hb; replace HB := xy (below_step xb hb); (try clear hb); (try clear hb2); (try clear hk); (try clear hi))))
   go_ret
   exact ⟨xe, xb⟩
 ·rw [if_neg c2] at H
  have c2b0 : (a0_0 == 0) = false := beq_eq_false_iff_ne.mpr c2
  have c2b1 : (a0_0 != 0) = true := bne_iff_ne.mpr c2
  by_cases c11 : a0_0 = 1
  ·rw [if_pos c11] at H
   have c11b0 : (a0_0 == 1) = true := beq_iff_eq.mpr c11
   have c11b1 : (a0_0 != 1) = false := bne_eq_false_iff_eq.mpr c11
   clear c11
   replace H := xj H
   obtain ⟨t147, A120, H⟩ := H
   try dsimp only at H
   have A12 := xy A120
   clear A120
   by_cases c13 : t147 = true
   ·subst c13
    rw [if_pos rfl] at H
    by_cases c14 : a0_1 = 0
    ·rw [if_pos c14] at H
     have c14b0 : (a0_1 == 0) = true := beq_iff_eq.mpr c14
     have c14b1 : (a0_1 != 0) = false := bne_eq_false_iff_eq.mpr c14
     clear c14
     obtain rfl := Option.some.inj H
     go_enter Tryz.func55, Tryz.ntmps55
     go_wp2_with (((with_reducible refine gate_dst (N := 1) rfl ?_); refine xq (N := 1) (cs := #[.int .i64 a0_0, .int .i64 a0_1, .string a0_2]) (t := 50) ?_; intro gb145 hg w15 hbox hb; have BK145 := xy (hbox); have GW145 := xs w hg; have GE145 := xs w hg; replace HB := xy (below_step xb hb); clear hb hbox hg; have hcz16_0 : w15.cell? ⟨gb145, 0, none⟩ = some (.int .i64 a0_0) := (kc BK145.out 0).trans rfl; have hcz16_1 : w15.cell? ⟨gb145, 1, none⟩ = some (.int .i64 a0_1) := (kc BK145.out 1).trans rfl; have hcz16_2 : w15.cell? ⟨gb145, 2, none⟩ = some (.string a0_2) := (kc BK145.out 2).trans rfl; have hfz16_0 := kf BK145.out 0; have hfz16_1 := kf BK145.out 1; have hfz16_2 := kf BK145.out 2))
     repeat (go_quiet (fail); try go_wp2_with ((go_at_call 61; (with_reducible refine (code_isOp.calls a0_0 true _ (Tabs.below hT xf) A12.out).mono ?_); rintro e w17 ⟨rfl, hb⟩; replace BK145 := xd BK145.out hb; replace HB := xy (below_step xb hb); (try clear hb); (try clear hb2); (try clear hk); (try clear hi))))
     go_ret
     exact ⟨xe, xb⟩
    ·rw [if_neg c14] at H
     have c14b0 : (a0_1 == 0) = false := beq_eq_false_iff_ne.mpr c14
     have c14b1 : (a0_1 != 0) = true := bne_iff_ne.mpr c14
     obtain rfl := Option.some.inj H
     go_enter Tryz.func55, Tryz.ntmps55
     go_wp2_with (((with_reducible refine gate_dst (N := 1) rfl ?_); refine xq (N := 1) (cs := #[.int .i64 a0_0, .int .i64 a0_1, .string a0_2]) (t := 50) ?_; intro gb145 hg w18 hbox hb; have BK145 := xy (hbox); have GW145 := xs w hg; have GE145 := xs w hg; replace HB := xy (below_step xb hb); clear hb hbox hg; have hcz19_0 : w18.cell? ⟨gb145, 0, none⟩ = some (.int .i64 a0_0) := (kc BK145.out 0).trans rfl; have hcz19_1 : w18.cell? ⟨gb145, 1, none⟩ = some (.int .i64 a0_1) := (kc BK145.out 1).trans rfl; have hcz19_2 : w18.cell? ⟨gb145, 2, none⟩ = some (.string a0_2) := (kc BK145.out 2).trans rfl; have hfz19_0 := kf BK145.out 0; have hfz19_1 := kf BK145.out 1; have hfz19_2 := kf BK145.out 2))
     repeat (go_quiet (fail); try go_wp2_with ((go_at_call 61; (with_reducible refine (code_isOp.calls a0_0 true _ (Tabs.below hT xf) A12.out).mono ?_); rintro e w20 ⟨rfl, hb⟩; replace BK145 := xd BK145.out hb; replace HB := xy (below_step xb hb); (try clear hb); (try clear hb2); (try clear hk); (try clear hi))))
     go_ret
     exact ⟨xe, xb⟩
   ·replace c13 := Bool.eq_false_iff.mpr c13
    subst c13
    rw [if_neg (show ¬ (false = true) by decide)] at H
    obtain rfl := Option.some.inj H
    go_enter Tryz.func55, Tryz.ntmps55
    go_wp2_with (((with_reducible refine gate_dst (N := 1) rfl ?_); refine xq (N := 1) (cs := #[.int .i64 a0_0, .int .i64 a0_1, .string a0_2]) (t := 50) ?_; intro gb145 hg w21 hbox hb; have BK145 := xy (hbox); have GW145 := xs w hg; have GE145 := xs w hg; replace HB := xy (below_step xb hb); clear hb hbox hg; have hcz22_0 : w21.cell? ⟨gb145, 0, none⟩ = some (.int .i64 a0_0) := (kc BK145.out 0).trans rfl; have hcz22_1 : w21.cell? ⟨gb145, 1, none⟩ = some (.int .i64 a0_1) := (kc BK145.out 1).trans rfl; have hcz22_2 : w21.cell? ⟨gb145, 2, none⟩ = some (.string a0_2) := (kc BK145.out 2).trans rfl; have hfz22_0 := kf BK145.out 0; have hfz22_1 := kf BK145.out 1; have hfz22_2 := kf BK145.out 2))
    repeat (go_quiet (fail); try go_wp2_with ((go_at_call 61; (with_reducible refine (code_isOp.calls a0_0 false _ (Tabs.below hT xf) A12.out).mono ?_); rintro e w23 ⟨rfl, hb⟩; replace BK145 := xd BK145.out hb; replace HB := xy (below_step xb hb); (try clear hb); (try clear hb2); (try clear hk); (try clear hi))))
    go_ret
    exact ⟨xe, xb⟩
  ·rw [if_neg c11] at H
   have c11b0 : (a0_0 == 1) = false := beq_eq_false_iff_ne.mpr c11
   have c11b1 : (a0_0 != 1) = true := bne_iff_ne.mpr c11
   by_cases c24 : a0_0 = 2
   ·rw [if_pos c24] at H
    have c24b0 : (a0_0 == 2) = true := beq_iff_eq.mpr c24
    have c24b1 : (a0_0 != 2) = false := bne_eq_false_iff_eq.mpr c24
    clear c24
    by_cases c25 : a0_1 ≥ 0
    ·rw [if_pos c25] at H
     have c25b0 : decide (0 ≤ a0_1) = true := decide_eq_true c25
     clear c25
     replace H := xj H
     obtain ⟨t148, A260, H⟩ := H
     try dsimp only at H
     have A26 := xy A260
     clear A260
     by_cases c27 : t148 = true
     ·subst c27
      rw [if_pos rfl] at H
      by_cases c28 : a0_1 < 50
      ·rw [if_pos c28] at H
       have c28b0 : decide (a0_1 < 50) = true := decide_eq_true c28
       clear c28
       obtain rfl := Option.some.inj H
       go_enter Tryz.func55, Tryz.ntmps55
       go_wp2_with (((with_reducible refine gate_dst (N := 1) rfl ?_); refine xq (N := 1) (cs := #[.int .i64 a0_0, .int .i64 a0_1, .string a0_2]) (t := 50) ?_; intro gb145 hg w29 hbox hb; have BK145 := xy (hbox); have GW145 := xs w hg; have GE145 := xs w hg; replace HB := xy (below_step xb hb); clear hb hbox hg; have hcz30_0 : w29.cell? ⟨gb145, 0, none⟩ = some (.int .i64 a0_0) := (kc BK145.out 0).trans rfl; have hcz30_1 : w29.cell? ⟨gb145, 1, none⟩ = some (.int .i64 a0_1) := (kc BK145.out 1).trans rfl; have hcz30_2 : w29.cell? ⟨gb145, 2, none⟩ = some (.string a0_2) := (kc BK145.out 2).trans rfl; have hfz30_0 := kf BK145.out 0; have hfz30_1 := kf BK145.out 1; have hfz30_2 := kf BK145.out 2))
       repeat (go_quiet (fail); try go_wp2_with ((go_at_call 61; (with_reducible refine (code_isOp.calls a0_0 true _ (Tabs.below hT xf) A26.out).mono ?_); rintro e w31 ⟨rfl, hb⟩; replace BK145 := xd BK145.out hb; replace HB := xy (below_step xb hb); (try clear hb); (try clear hb2); (try clear hk); (try clear hi))))
       go_ret
       exact ⟨xe, xb⟩
      ·rw [if_neg c28] at H
       have c28b0 : decide (a0_1 < 50) = false := decide_eq_false c28
       clear c28
       obtain rfl := Option.some.inj H
       go_enter Tryz.func55, Tryz.ntmps55
       go_wp2_with (((with_reducible refine gate_dst (N := 1) rfl ?_); refine xq (N := 1) (cs := #[.int .i64 a0_0, .int .i64 a0_1, .string a0_2]) (t := 50) ?_; intro gb145 hg w32 hbox hb; have BK145 := xy (hbox); have GW145 := xs w hg; have GE145 := xs w hg; replace HB := xy (below_step xb hb); clear hb hbox hg; have hcz33_0 : w32.cell? ⟨gb145, 0, none⟩ = some (.int .i64 a0_0) := (kc BK145.out 0).trans rfl; have hcz33_1 : w32.cell? ⟨gb145, 1, none⟩ = some (.int .i64 a0_1) := (kc BK145.out 1).trans rfl; have hcz33_2 : w32.cell? ⟨gb145, 2, none⟩ = some (.string a0_2) := (kc BK145.out 2).trans rfl; have hfz33_0 := kf BK145.out 0; have hfz33_1 := kf BK145.out 1; have hfz33_2 := kf BK145.out 2))
       repeat (go_quiet (fail); try go_wp2_with ((go_at_call 61; (with_reducible refine (code_isOp.calls a0_0 true _ (Tabs.below hT xf) A26.out).mono ?_); rintro e w34 ⟨rfl, hb⟩; replace BK145 := xd BK145.out hb; replace HB := xy (below_step xb hb); (try clear hb); (try clear hb2); (try clear hk); (try clear hi))))
       go_ret
       exact ⟨xe, xb⟩
     ·replace c27 := Bool.eq_false_iff.mpr c27
      subst c27
      rw [if_neg (show ¬ (false = true) by decide)] at H
      obtain rfl := Option.some.inj H
      go_enter Tryz.func55, Tryz.ntmps55
      go_wp2_with (((with_reducible refine gate_dst (N := 1) rfl ?_); refine xq (N := 1) (cs := #[.int .i64 a0_0, .int .i64 a0_1, .string a0_2]) (t := 50) ?_; intro gb145 hg w35 hbox hb; have BK145 := xy (hbox); have GW145 := xs w hg; have GE145 := xs w hg; replace HB := xy (below_step xb hb); clear hb hbox hg; have hcz36_0 : w35.cell? ⟨gb145, 0, none⟩ = some (.int .i64 a0_0) := (kc BK145.out 0).trans rfl; have hcz36_1 : w35.cell? ⟨gb145, 1, none⟩ = some (.int .i64 a0_1) := (kc BK145.out 1).trans rfl; have hcz36_2 : w35.cell? ⟨gb145, 2, none⟩ = some (.string a0_2) := (kc BK145.out 2).trans rfl; have hfz36_0 := kf BK145.out 0; have hfz36_1 := kf BK145.out 1; have hfz36_2 := kf BK145.out 2))
      repeat (go_quiet (fail); try go_wp2_with ((go_at_call 61; (with_reducible refine (code_isOp.calls a0_0 false _ (Tabs.below hT xf) A26.out).mono ?_); rintro e w37 ⟨rfl, hb⟩; replace BK145 := xd BK145.out hb; replace HB := xy (below_step xb hb); (try clear hb); (try clear hb2); (try clear hk); (try clear hi))))
      go_ret
      exact ⟨xe, xb⟩
    ·rw [if_neg c25] at H
     have c25b0 : decide (0 ≤ a0_1) = false := decide_eq_false c25
     clear c25
     replace H := xj H
     obtain ⟨t149, A380, H⟩ := H
     try dsimp only at H
     have A38 := xy A380
     clear A380
     by_cases c39 : t149 = true
     ·subst c39
      rw [if_pos rfl] at H
      obtain rfl := Option.some.inj H
      go_enter Tryz.func55, Tryz.ntmps55
      go_wp2_with (((with_reducible refine gate_dst (N := 1) rfl ?_); refine xq (N := 1) (cs := #[.int .i64 a0_0, .int .i64 a0_1, .string a0_2]) (t := 50) ?_; intro gb145 hg w40 hbox hb; have BK145 := xy (hbox); have GW145 := xs w hg; have GE145 := xs w hg; replace HB := xy (below_step xb hb); clear hb hbox hg; have hcz41_0 : w40.cell? ⟨gb145, 0, none⟩ = some (.int .i64 a0_0) := (kc BK145.out 0).trans rfl; have hcz41_1 : w40.cell? ⟨gb145, 1, none⟩ = some (.int .i64 a0_1) := (kc BK145.out 1).trans rfl; have hcz41_2 : w40.cell? ⟨gb145, 2, none⟩ = some (.string a0_2) := (kc BK145.out 2).trans rfl; have hfz41_0 := kf BK145.out 0; have hfz41_1 := kf BK145.out 1; have hfz41_2 := kf BK145.out 2))
      repeat (go_quiet (fail); try go_wp2_with ((go_at_call 61; (with_reducible refine (code_isOp.calls a0_0 true _ (Tabs.below hT xf) A38.out).mono ?_); rintro e w42 ⟨rfl, hb⟩; replace BK145 := xd BK145.out hb; replace HB := xy (below_step xb hb); (try clear hb); (try clear hb2); (try clear hk); (try clear hi))))
      go_ret
      exact ⟨xe, xb⟩
     ·replace c39 := Bool.eq_false_iff.mpr c39
      subst c39
      rw [if_neg (show ¬ (false = true) by decide)] at H
      obtain rfl := Option.some.inj H
      go_enter Tryz.func55, Tryz.ntmps55
      go_wp2_with (((with_reducible refine gate_dst (N := 1) rfl ?_); refine xq (N := 1) (cs := #[.int .i64 a0_0, .int .i64 a0_1, .string a0_2]) (t := 50) ?_; intro gb145 hg w43 hbox hb; have BK145 := xy (hbox); have GW145 := xs w hg; have GE145 := xs w hg; replace HB := xy (below_step xb hb); clear hb hbox hg; have hcz44_0 : w43.cell? ⟨gb145, 0, none⟩ = some (.int .i64 a0_0) := (kc BK145.out 0).trans rfl; have hcz44_1 : w43.cell? ⟨gb145, 1, none⟩ = some (.int .i64 a0_1) := (kc BK145.out 1).trans rfl; have hcz44_2 : w43.cell? ⟨gb145, 2, none⟩ = some (.string a0_2) := (kc BK145.out 2).trans rfl; have hfz44_0 := kf BK145.out 0; have hfz44_1 := kf BK145.out 1; have hfz44_2 := kf BK145.out 2))
      repeat (go_quiet (fail); try go_wp2_with ((go_at_call 61; (with_reducible refine (code_isOp.calls a0_0 false _ (Tabs.below hT xf) A38.out).mono ?_); rintro e w45 ⟨rfl, hb⟩; replace BK145 := xd BK145.out hb; replace HB := xy (below_step xb hb); (try clear hb); (try clear hb2); (try clear hk); (try clear hi))))
      go_ret
      exact ⟨xe, xb⟩
   ·rw [if_neg c24] at H
    have c24b0 : (a0_0 == 2) = false := beq_eq_false_iff_ne.mpr c24
    have c24b1 : (a0_0 != 2) = true := bne_iff_ne.mpr c24
    replace H := xj H
    obtain ⟨t150, A460, H⟩ := H
    try dsimp only at H
    have A46 := xy A460
    clear A460
    by_cases c47 : t150 = true
    ·subst c47
     rw [if_pos rfl] at H
     by_cases c48 : a0_1 = 0
     ·rw [if_pos c48] at H
      have c48b0 : (a0_1 == 0) = true := beq_iff_eq.mpr c48
      have c48b1 : (a0_1 != 0) = false := bne_eq_false_iff_eq.mpr c48
      clear c48
      obtain rfl := Option.some.inj H
      go_enter Tryz.func55, Tryz.ntmps55
      go_wp2_with (((with_reducible refine gate_dst (N := 1) rfl ?_); refine xq (N := 1) (cs := #[.int .i64 a0_0, .int .i64 a0_1, .string a0_2]) (t := 50) ?_; intro gb145 hg w49 hbox hb; have BK145 := xy (hbox); have GW145 := xs w hg; have GE145 := xs w hg; replace HB := xy (below_step xb hb); clear hb hbox hg; have hcz50_0 : w49.cell? ⟨gb145, 0, none⟩ = some (.int .i64 a0_0) := (kc BK145.out 0).trans rfl; have hcz50_1 : w49.cell? ⟨gb145, 1, none⟩ = some (.int .i64 a0_1) := (kc BK145.out 1).trans rfl; have hcz50_2 : w49.cell? ⟨gb145, 2, none⟩ = some (.string a0_2) := (kc BK145.out 2).trans rfl; have hfz50_0 := kf BK145.out 0; have hfz50_1 := kf BK145.out 1; have hfz50_2 := kf BK145.out 2))
      repeat (go_quiet (fail); try go_wp2_with ((go_at_call 61; (with_reducible refine (code_isOp.calls a0_0 true _ (Tabs.below hT xf) A46.out).mono ?_); rintro e w51 ⟨rfl, hb⟩; replace BK145 := xd BK145.out hb; replace HB := xy (below_step xb hb); (try clear hb); (try clear hb2); (try clear hk); (try clear hi))))
      go_ret
      exact ⟨xe, xb⟩
     ·rw [if_neg c48] at H
      have c48b0 : (a0_1 == 0) = false := beq_eq_false_iff_ne.mpr c48
      have c48b1 : (a0_1 != 0) = true := bne_iff_ne.mpr c48
      obtain rfl := Option.some.inj H
      go_enter Tryz.func55, Tryz.ntmps55
      go_wp2_with (((with_reducible refine gate_dst (N := 1) rfl ?_); refine xq (N := 1) (cs := #[.int .i64 a0_0, .int .i64 a0_1, .string a0_2]) (t := 50) ?_; intro gb145 hg w52 hbox hb; have BK145 := xy (hbox); have GW145 := xs w hg; have GE145 := xs w hg; replace HB := xy (below_step xb hb); clear hb hbox hg; have hcz53_0 : w52.cell? ⟨gb145, 0, none⟩ = some (.int .i64 a0_0) := (kc BK145.out 0).trans rfl; have hcz53_1 : w52.cell? ⟨gb145, 1, none⟩ = some (.int .i64 a0_1) := (kc BK145.out 1).trans rfl; have hcz53_2 : w52.cell? ⟨gb145, 2, none⟩ = some (.string a0_2) := (kc BK145.out 2).trans rfl; have hfz53_0 := kf BK145.out 0; have hfz53_1 := kf BK145.out 1; have hfz53_2 := kf BK145.out 2))
      repeat (go_quiet (fail); try go_wp2_with ((go_at_call 61; (with_reducible refine (code_isOp.calls a0_0 true _ (Tabs.below hT xf) A46.out).mono ?_); rintro e w54 ⟨rfl, hb⟩; replace BK145 := xd BK145.out hb; replace HB := xy (below_step xb hb); (try clear hb); (try clear hb2); (try clear hk); (try clear hi))))
      go_ret
      exact ⟨xe, xb⟩
    ·replace c47 := Bool.eq_false_iff.mpr c47
     subst c47
     rw [if_neg (show ¬ (false = true) by decide)] at H
     obtain rfl := Option.some.inj H
     go_enter Tryz.func55, Tryz.ntmps55
     go_wp2_with (((with_reducible refine gate_dst (N := 1) rfl ?_); refine xq (N := 1) (cs := #[.int .i64 a0_0, .int .i64 a0_1, .string a0_2]) (t := 50) ?_; intro gb145 hg w55 hbox hb; have BK145 := xy (hbox); have GW145 := xs w hg; have GE145 := xs w hg; replace HB := xy (below_step xb hb); clear hb hbox hg; have hcz56_0 : w55.cell? ⟨gb145, 0, none⟩ = some (.int .i64 a0_0) := (kc BK145.out 0).trans rfl; have hcz56_1 : w55.cell? ⟨gb145, 1, none⟩ = some (.int .i64 a0_1) := (kc BK145.out 1).trans rfl; have hcz56_2 : w55.cell? ⟨gb145, 2, none⟩ = some (.string a0_2) := (kc BK145.out 2).trans rfl; have hfz56_0 := kf BK145.out 0; have hfz56_1 := kf BK145.out 1; have hfz56_2 := kf BK145.out 2))
     repeat (go_quiet (fail); try go_wp2_with ((go_at_call 61; (with_reducible refine (code_isOp.calls a0_0 false _ (Tabs.below hT xf) A46.out).mono ?_); rintro e w57 ⟨rfl, hb⟩; replace BK145 := xd BK145.out hb; replace HB := xy (below_step xb hb); (try clear hb); (try clear hb2); (try clear hk); (try clear hi))))
     go_ret
     exact ⟨xe, xb⟩
theorem check_Stack.may_some (x : XCheck.Ins) : ∃ b, code_May.f x.f0 x.f1 x.f2 = some b := by
 have hop : ∀ o, ∃ b, code_isOp.f o = some b := fun o => by
  unfold code_isOp.f value_Arity.f
  simp only [Option.bind_some]
  repeat' split
  all_goals exact ⟨_, rfl⟩
 obtain ⟨b, hb⟩ := hop x.f0
 unfold code_May.f
 simp only [hb, Option.bind_some]
 repeat' split
 all_goals exact ⟨_, rfl⟩
def check_Stack.may (x : XCheck.Ins) : Bool := (code_May.f x.f0 x.f1 x.f2).getD false
theorem check_Stack.may_eq (x : XCheck.Ins) : code_May.f x.f0 x.f1 x.f2 = some (check_Stack.may x) := by
 obtain ⟨b, hb⟩ := check_Stack.may_some x
 unfold check_Stack.may
 rw [hb]
 rfl
theorem check_Stack.may_calls (x : XCheck.Ins) (w : World) (hT : Tabs w) : Calls Tryz.prog 55 #[XCheck.insV x.f0 x.f1 x.f2] w fun e w' => e = .returned (.bool (check_Stack.may x)) ∧ Below w.heap.size w w' :=
 code_May.calls x.f0 x.f1 x.f2 _ w hT (check_Stack.may_eq x)
theorem check_Stack.arity_lt {o : Int} (h : 0 < XOps.arityF o) : o < 22 := by
 by_cases c : o < 22
 ·exact c
 ·have e : XOps.opFn o = none := by
   unfold XOps.opFn
   repeat' (rw [if_neg (by omega)])
  unfold XOps.arityF at h
  rw [e] at h
  cases h
theorem check_Stack.may_op (x : XCheck.Ins) (h : check_Stack.may x = true) (h2 : 22 ≤ x.f0) : x.f0 = 22 ∨ x.f0 = 23 := by
 have e := check_Stack.may_eq x
 rw [h] at e
 have hop : code_isOp.f x.f0 = some true := by
  rcases hq : code_isOp.f x.f0 with _ | b
  ·unfold code_May.f at e
   rw [hq] at e
   simp only [Option.bind_none, if_neg (show ¬ x.f0 = 0 by omega), if_neg (show ¬ x.f0 = 1 by omega), if_neg (show ¬ x.f0 = 2 by omega)] at e
   cases e
  ·cases b
   ·unfold code_May.f at e
    rw [hq] at e
    simp [if_neg (show ¬ x.f0 = 0 by omega), if_neg (show ¬ x.f0 = 1 by omega), if_neg (show ¬ x.f0 = 2 by omega)] at e
   ·rfl
 by_cases c : x.f0 = 22
 ·exact .inl c
 ·by_cases d : x.f0 = 23
  ·exact .inr d
  ·unfold code_isOp.f value_Arity.f at hop
   simp only [if_pos (show x.f0 ≥ 0 by omega), if_neg (show ¬ x.f0 ≤ 3 by omega), if_neg c, if_neg d, Option.bind_some] at hop
   have h3 := Option.some.inj hop
   have := check_Stack.arity_lt (of_decide_eq_true h3)
   omega
def check_Stack.f (l0 : List (S50)) (l1 : List Bool) : Option (List Bool × Int × Int) := some (XCheck.stackP check_Stack.may l0 l1)
theorem check_Stack.calls (A0 : Option Addr) (c0 : Nat) (l0 : List (S50)) (A1 : Option Addr) (c1 : Nat) (l1 : List Bool) (r1 : List Bool) (r2 : Int) (r3 : Int) (w : World) (hT : Tabs w) (hr0 : Kd.C k50 w A0 l0.length l0) (hc0 : l0.length ≤ c0) (hr1 : Kd.C Kd.bool w A1 l1.length l1) (hc1 : l1.length ≤ c1) (h : check_Stack.f l0 l1 = some (r1, r2, r3)) :
  Calls Tryz.prog 40 #[.slice A0 l0.length c0, .slice A1 l1.length c1] w fun e w' => ∃ v0_ : Value, e = .returned (.tuple #[v0_, .int .i64 r2, .int .i64 r3]) ∧ Kd.R Kd.bool 4 w' w.heap.size (fun _ => True) v0_ r1 ∧ Below w.heap.size w w' := by
 have e : XCheck.stackP check_Stack.may l0 l1 = (r1, r2, r3) := Option.some.inj h
 have := XCheck.stack_calls (T := Tabs) (fun w w' h hb => h.below hb) check_Stack.may check_Stack.may_calls check_Stack.may_op A0 c0 l0 A1 c1 l1 w hT hr0 hr1
 rw [e] at this
 exact this
def slices_Equal_bool_bool.l0 : Nat → List Bool → List Bool → Int → Int → Option (Bool)
 | 0, _, _, _, _ => none
 | k + 1, x0, x1, x12, x13 => if x13 < x12 then (if 0 ≤ x13 then (if x13 < (x0.length : Int) then (if x13 < (x1.length : Int) then (if ((rdOf false x0 x13) != (rdOf false x1 x13)) = true then (some false) else (slices_Equal_bool_bool.l0 k x0 x1 x12 (wrap64 (x13 + 1)))) else (none)) else (none)) else (none)) else (some true)
def slices_Equal_bool_bool.f (k : Nat) (l0 : List Bool) (l1 : List Bool) : Option (Bool) := if (l0.length : Int) = (l1.length : Int) then (slices_Equal_bool_bool.l0 k l0 l1 (l0.length : Int) 0) else (some false)
theorem slices_Equal_bool_bool.mono_l : ∀ k, (∀ y0 y1 y2 y3, LeO (slices_Equal_bool_bool.l0 k y0 y1 y2 y3) (slices_Equal_bool_bool.l0 (k + 1) y0 y1 y2 y3))
 | 0 => fun _ _ _ _ r h => by simp [slices_Equal_bool_bool.l0] at h
 | k + 1 => by
  have ih0 := slices_Equal_bool_bool.mono_l k
  ·intro y0 y1 y2 y3
   unfold slices_Equal_bool_bool.l0
   repeat' (with_reducible first | exact ih0 _ _ _ _ | exact LeO.refl _ | exact LeO.none _ | refine LeO.ite ?_ ?_ | refine LeO.bind ?_ (fun _ => ?_))
theorem slices_Equal_bool_bool.mono : ∀ a0 a1 k, LeO (slices_Equal_bool_bool.f k a0 a1) (slices_Equal_bool_bool.f (k + 1) a0 a1) := by
 intro a0 a1 k
 have ih0 := slices_Equal_bool_bool.mono_l k
 unfold slices_Equal_bool_bool.f
 repeat' (with_reducible first | exact ih0 _ _ _ _ | exact LeO.refl _ | exact LeO.none _ | refine LeO.ite ?_ ?_ | refine LeO.bind ?_ (fun _ => ?_))
set_option maxHeartbeats 8000000 in
set_option maxRecDepth 100000 in
theorem slices_Equal_bool_bool.calls (k : Nat) (A0 : Option Addr) (c0 : Nat) (l0 : List Bool) (A1 : Option Addr) (c1 : Nat) (l1 : List Bool) (r : Bool) (w : World) (hT : Tabs w) (hr0 : Kd.C Kd.bool w A0 l0.length l0) (hc0 : l0.length ≤ c0) (hr1 : Kd.C Kd.bool w A1 l1.length l1) (hc1 : l1.length ≤ c1) (h : slices_Equal_bool_bool.f k l0 l1 = some r) :
  Calls Tryz.prog 46 #[.slice A0 l0.length c0, .slice A1 l1.length c1] w fun e w' => e = .returned (.bool r) ∧ Drawn0 w w' := by
 have HR0 := xy hr0
 have HC0 := xy hc0
 clear hr0 hc0
 have HR1 := xy hr1
 have HC1 := xy hc1
 clear hr1 hc1
 unfold slices_Equal_bool_bool.f at h
 have H := h
 clear h
 by_cases c3 : (l0.length : Int) = (l1.length : Int)
 ·rw [if_pos c3] at H
  have c3b0 : ((l0.length : Int) == (l1.length : Int)) = true := beq_iff_eq.mpr c3
  have c3b1 : ((l0.length : Int) != (l1.length : Int)) = false := bne_eq_false_iff_eq.mpr c3
  have c3b2 : (l0.length == l1.length) = true := by first | simpa using c3 | (simp at c3 ⊢; omega)
  clear c3
  have H' := xy H
  clear H
  go_enter Tryz.func46, Tryz.ntmps46
  go_wp2
  repeat (go_quiet (fail); try go_wp2)
  go_loopg [13] k (fun kq v13 w' => ∃ (x13_1 : Int), v13 = .int .i64 x13_1 ∧ Aside0 (slices_Equal_bool_bool.l0 kq l0 l1 (l0.length : Int) x13_1 = some r) ∧ Aside0 (kq ≤ k) ∧ Drawn0 w w')
  case atStart => exact ⟨(0), xg, H', ⟨Nat.le_refl _⟩, by repeat (first | exact Drawn0.refl _ | apply Drawn0.step)⟩
  case round =>
   clear H'
   try clear c1
   try clear p2
   try clear c3
   try clear c3b0
   try clear c3b1
   try clear c3b2
   obtain ⟨x13_1, rfl, HA, HK1, ⟨m1, rfl⟩⟩ := hrel
   cases gk with
   | zero => exact absurd HA.out (by simp [slices_Equal_bool_bool.l0])
   | succ k1 =>
    have H := HA.out
    clear HA
    simp only [slices_Equal_bool_bool.l0] at H
    by_cases c4 : x13_1 < (l0.length : Int)
    ·rw [if_pos c4] at H
     have c4b0 : decide (x13_1 < (l0.length : Int)) = true := decide_eq_true c4
     clear c4
     by_cases c5 : 0 ≤ x13_1
     ·rw [if_pos c5] at H
      have c5b0 : decide (0 ≤ x13_1) = true := decide_eq_true c5
      clear c5
      by_cases c6 : x13_1 < (l0.length : Int)
      ·rw [if_pos c6] at H
       have c6b0 : decide (x13_1 < (l0.length : Int)) = true := decide_eq_true c6
       clear c6
       by_cases c7 : x13_1 < (l1.length : Int)
       ·rw [if_pos c7] at H
        have c7b0 : decide (x13_1 < (l1.length : Int)) = true := decide_eq_true c7
        clear c7
        by_cases c8 : ((rdOf false l0 x13_1) != (rdOf false l1 x13_1)) = true
        ·rw [if_pos c8] at H
         have c8b0 : ((rdOf false l0 x13_1) != (rdOf false l1 x13_1)) = true := c8
         (try (have c8b1 : decide ((rdOf false l0 x13_1) = (rdOf false l1 x13_1)) = false := by simpa using c8))
         (try (have c8b2 : ((rdOf false l0 x13_1) == (rdOf false l1 x13_1)) = false := by simpa using c8))
         (try (have c8b3 : ¬ ((rdOf false l0 x13_1) = (rdOf false l1 x13_1)) := by simpa using c8))
         clear c8
         obtain rfl := Option.some.inj H
         have p151 : 0 ≤ (x13_1 : Int) := xi
         have q151 : x13_1 < (l0.length : Int) := xi
         obtain ⟨ad151, e151, hx151_0⟩ := Kd.at_bool HR0.out x13_1 p151 q151
         cases e151
         replace p151 := eq_true p151
         replace q151 := eq_true q151
         have p152 : 0 ≤ (x13_1 : Int) := xi
         have q152 : x13_1 < (l1.length : Int) := xi
         obtain ⟨ad152, e152, hx152_0⟩ := Kd.at_bool HR1.out x13_1 p152 q152
         cases e152
         replace p152 := eq_true p152
         replace q152 := eq_true q152
         go_wp2
         repeat (go_quiet (fail); try go_wp2)
         go_ret
         exact ⟨xg, xz⟩
        ·rw [if_neg c8] at H
         have c8b0 : ((rdOf false l0 x13_1) != (rdOf false l1 x13_1)) = false := by simpa using c8
         (try (have c8b1 : decide ((rdOf false l0 x13_1) = (rdOf false l1 x13_1)) = true := by simpa using c8))
         (try (have c8b2 : ((rdOf false l0 x13_1) == (rdOf false l1 x13_1)) = true := by simpa using c8))
         clear c8
         have H' := xy H
         clear H
         have p151 : 0 ≤ (x13_1 : Int) := xi
         have q151 : x13_1 < (l0.length : Int) := xi
         obtain ⟨ad151, e151, hx151_0⟩ := Kd.at_bool HR0.out x13_1 p151 q151
         cases e151
         replace p151 := eq_true p151
         replace q151 := eq_true q151
         have p152 : 0 ≤ (x13_1 : Int) := xi
         have q152 : x13_1 < (l1.length : Int) := xi
         obtain ⟨ad152, e152, hx152_0⟩ := Kd.at_bool HR1.out x13_1 p152 q152
         cases e152
         replace p152 := eq_true p152
         replace q152 := eq_true q152
         go_wp2
         repeat (go_quiet (fail); try go_wp2)
         go_roundg k1
         case measure => have := HK1.out; omega
         case rel => exact ⟨(wrap64 (x13_1 + 1)), xg, H', ⟨by have := HK1.out; omega⟩, by repeat (first | exact Drawn0.refl _ | apply Drawn0.step)⟩
       ·rw [if_neg c7] at H
        exact absurd H (by simp)
      ·rw [if_neg c6] at H
       exact absurd H (by simp)
     ·rw [if_neg c5] at H
      exact absurd H (by simp)
    ·rw [if_neg c4] at H
     have c4b0 : decide (x13_1 < (l0.length : Int)) = false := decide_eq_false c4
     clear c4
     obtain rfl := Option.some.inj H
     go_wp2
     repeat (go_quiet (fail); try go_wp2)
     go_ret
     exact ⟨xg, xz⟩
 ·rw [if_neg c3] at H
  have c3b0 : ((l0.length : Int) == (l1.length : Int)) = false := beq_eq_false_iff_ne.mpr c3
  have c3b1 : ((l0.length : Int) != (l1.length : Int)) = true := bne_iff_ne.mpr c3
  have c3b2 : (l0.length == l1.length) = false := by first | simpa using c3 | (simp at c3 ⊢; omega)
  obtain rfl := Option.some.inj H
  go_enter Tryz.func46, Tryz.ntmps46
  go_wp2
  repeat (go_quiet (fail); try go_wp2)
  go_ret
  exact ⟨xg, xz⟩
/- Walked functions, by this session's program over the kit's print. -/
def check_Check.f (k : Nat) (l0 : List (S50)) (l1 : List Bool) (l2 : List Bool) : Option (Int) := (check_Stack.f l0 l1).bind fun bt153 => (if bt153.2.2 = 0 then ((slices_Equal_bool_bool.f k bt153.1 l2).bind fun t158 => (if t158 = true then (some bt153.2.2) else (some 11))) else (some bt153.2.2))
theorem check_Check.mono : ∀ a0 a1 a2 k, LeO (check_Check.f k a0 a1 a2) (check_Check.f (k + 1) a0 a1 a2) := by
 intro a0 a1 a2 k
 unfold check_Check.f
 repeat' (with_reducible first | exact slices_Equal_bool_bool.mono _ _ _ | exact LeO.refl _ | exact LeO.none _ | refine LeO.ite ?_ ?_ | refine LeO.bind ?_ (fun _ => ?_))
set_option maxHeartbeats 8000000 in
set_option maxRecDepth 100000 in
theorem check_Check.calls (k : Nat) (A0 : Option Addr) (c0 : Nat) (l0 : List (S50)) (A1 : Option Addr) (c1 : Nat) (l1 : List Bool) (A2 : Option Addr) (c2 : Nat) (l2 : List Bool) (r : Int) (w : World) (hT : Tabs w) (hr0 : Kd.C k50 w A0 l0.length l0) (hc0 : l0.length ≤ c0) (hr1 : Kd.C Kd.bool w A1 l1.length l1) (hc1 : l1.length ≤ c1) (hr2 : Kd.C Kd.bool w A2 l2.length l2) (hc2 : l2.length ≤ c2) (h : check_Check.f k l0 l1 l2 = some r) :
  Calls Tryz.prog 37 #[.slice A0 l0.length c0, .slice A1 l1.length c1, .slice A2 l2.length c2] w fun e w' => e = .returned (.int .i64 r) ∧ Below w.heap.size w w' := by
 have HR0 := xy hr0
 have HC0 := xy hc0
 clear hr0 hc0
 have HR1 := xy hr1
 have HC1 := xy hc1
 clear hr1 hc1
 have HR2 := xy hr2
 have HC2 := xy hc2
 clear hr2 hc2
 have HB := xy (Below.refl w.heap.size w)
 unfold check_Check.f at h
 have H := h
 clear h
 replace H := xj H
 obtain ⟨⟨t153, t154, t155⟩, A40, H⟩ := H
 try dsimp only at H
 have A4 := xy A40
 clear A40
 by_cases c5 : t155 = 0
 ·rw [if_pos c5] at H
  have c5b0 : (t155 == 0) = true := beq_iff_eq.mpr c5
  have c5b1 : (t155 != 0) = false := bne_eq_false_iff_eq.mpr c5
  clear c5
  replace H := xj H
  obtain ⟨t158, A60, H⟩ := H
  try dsimp only at H
  have A6 := xy A60
  clear A60
  by_cases c7 : t158 = true
  ·subst c7
   rw [if_pos rfl] at H
   obtain rfl := Option.some.inj H
   go_enter Tryz.func37, Tryz.ntmps37
   go_wp2_with (first | ((with_reducible refine gate_callee (f := 40) rfl ?_); refine goesL_ (some 13) rfl rfl Tryz.func40 (by kernel_rfl) rfl #[.slice A0 l0.length c0, .slice A1 l1.length c1] rfl xr ?_; (with_reducible refine (check_Stack.calls _ _ l0 _ _ l1 t153 t154 t155 _ (Tabs.below hT xf) ?side1 ?side2 ?side3 ?side4 A4.out).mono ?_); (case side1 => repeat (first | exact HR0.out | (with_reducible refine Kd.C_alloc ?_ _) | (with_reducible refine Kd.C_drewN ?_ _) | (with_reducible refine Kd.C_drew ?_))); (case side2 => exact HC0.out); (case side3 => repeat (first | exact HR1.out | (with_reducible refine Kd.C_alloc ?_ _) | (with_reducible refine Kd.C_drewN ?_ _) | (with_reducible refine Kd.C_drew ?_))); (case side4 => exact HC1.out); rintro e w8 ⟨v156, rfl, ho0, hb⟩; refine ⟨_, rfl, ?_⟩; have HO157 := xy (Kd.R_lower ho0 (below_size xb)); replace HB := xy (below_step xb hb); (try clear hb); (try clear hb2); (try clear hk); (try clear hi); (try clear ho0); obtain ⟨Ao9, co9, eo9⟩ := Kd.R_slice HO157.out; subst eo9) | (go_at_call 46; (with_reducible refine (slices_Equal_bool_bool.calls k _ _ t153 _ _ l2 true _ (Tabs.below hT xf) ?side1 ?side2 ?side3 ?side4 A6.out).mono ?_); (case side1 => repeat (first | exact (Kd.R_reads' HO157.out).2.2 | (with_reducible refine Kd.C_alloc ?_ _) | (with_reducible refine Kd.C_drewN ?_ _) | (with_reducible refine Kd.C_drew ?_))); (case side2 => exact (Kd.R_reads' HO157.out).2.1); (case side3 => exact Kd.C_below HR2.out xb); (case side4 => exact HC2.out); rintro e w' ⟨rfl, ⟨nd, rfl⟩⟩))
   go_ret
   exact ⟨xe, xb⟩
  ·replace c7 := Bool.eq_false_iff.mpr c7
   subst c7
   rw [if_neg (show ¬ (false = true) by decide)] at H
   obtain rfl := Option.some.inj H
   go_enter Tryz.func37, Tryz.ntmps37
   go_wp2_with (first | ((with_reducible refine gate_callee (f := 40) rfl ?_); refine goesL_ (some 13) rfl rfl Tryz.func40 (by kernel_rfl) rfl #[.slice A0 l0.length c0, .slice A1 l1.length c1] rfl xr ?_; (with_reducible refine (check_Stack.calls _ _ l0 _ _ l1 t153 t154 t155 _ (Tabs.below hT xf) ?side1 ?side2 ?side3 ?side4 A4.out).mono ?_); (case side1 => repeat (first | exact HR0.out | (with_reducible refine Kd.C_alloc ?_ _) | (with_reducible refine Kd.C_drewN ?_ _) | (with_reducible refine Kd.C_drew ?_))); (case side2 => exact HC0.out); (case side3 => repeat (first | exact HR1.out | (with_reducible refine Kd.C_alloc ?_ _) | (with_reducible refine Kd.C_drewN ?_ _) | (with_reducible refine Kd.C_drew ?_))); (case side4 => exact HC1.out); rintro e w10 ⟨v156, rfl, ho0, hb⟩; refine ⟨_, rfl, ?_⟩; have HO157 := xy (Kd.R_lower ho0 (below_size xb)); replace HB := xy (below_step xb hb); (try clear hb); (try clear hb2); (try clear hk); (try clear hi); (try clear ho0); obtain ⟨Ao11, co11, eo11⟩ := Kd.R_slice HO157.out; subst eo11) | (go_at_call 46; (with_reducible refine (slices_Equal_bool_bool.calls k _ _ t153 _ _ l2 false _ (Tabs.below hT xf) ?side1 ?side2 ?side3 ?side4 A6.out).mono ?_); (case side1 => repeat (first | exact (Kd.R_reads' HO157.out).2.2 | (with_reducible refine Kd.C_alloc ?_ _) | (with_reducible refine Kd.C_drewN ?_ _) | (with_reducible refine Kd.C_drew ?_))); (case side2 => exact (Kd.R_reads' HO157.out).2.1); (case side3 => exact Kd.C_below HR2.out xb); (case side4 => exact HC2.out); rintro e w' ⟨rfl, ⟨nd, rfl⟩⟩))
   go_ret
   exact ⟨xe, xb⟩
 ·rw [if_neg c5] at H
  have c5b0 : (t155 == 0) = false := beq_eq_false_iff_ne.mpr c5
  have c5b1 : (t155 != 0) = true := bne_iff_ne.mpr c5
  obtain rfl := Option.some.inj H
  go_enter Tryz.func37, Tryz.ntmps37
  go_wp2_with (((with_reducible refine gate_callee (f := 40) rfl ?_); refine goesL_ (some 13) rfl rfl Tryz.func40 (by kernel_rfl) rfl #[.slice A0 l0.length c0, .slice A1 l1.length c1] rfl xr ?_; (with_reducible refine (check_Stack.calls _ _ l0 _ _ l1 t153 t154 t155 _ (Tabs.below hT xf) ?side1 ?side2 ?side3 ?side4 A4.out).mono ?_); (case side1 => repeat (first | exact HR0.out | (with_reducible refine Kd.C_alloc ?_ _) | (with_reducible refine Kd.C_drewN ?_ _) | (with_reducible refine Kd.C_drew ?_))); (case side2 => exact HC0.out); (case side3 => repeat (first | exact HR1.out | (with_reducible refine Kd.C_alloc ?_ _) | (with_reducible refine Kd.C_drewN ?_ _) | (with_reducible refine Kd.C_drew ?_))); (case side4 => exact HC1.out); rintro e w12 ⟨v156, rfl, ho0, hb⟩; refine ⟨_, rfl, ?_⟩; have HO157 := xy (Kd.R_lower ho0 (below_size xb)); replace HB := xy (below_step xb hb); (try clear hb); (try clear hb2); (try clear hk); (try clear hi); (try clear ho0)))
  go_ret
  exact ⟨xe, xb⟩
def job_one.f (l0 : List (S50)) : Option (Bool × Bool) := (check_Stack.f l0 ([] : List Bool)).bind fun bt159 => (if bt159.2.2 = 0 then (if (bt159.1.length : Int) = 1 then (if 0 < (bt159.1.length : Int) then (some (rdOf false bt159.1 0, true)) else (none)) else (some (false, false))) else (some (false, false)))
set_option maxHeartbeats 8000000 in
set_option maxRecDepth 100000 in
theorem job_one.calls (A0 : Option Addr) (c0 : Nat) (l0 : List (S50)) (r1 : Bool) (r2 : Bool) (w : World) (hT : Tabs w) (hr0 : Kd.C k50 w A0 l0.length l0) (hc0 : l0.length ≤ c0) (h : job_one.f l0 = some (r1, r2)) :
  Calls Tryz.prog 38 #[.slice A0 l0.length c0] w fun e w' => e = .returned (.tuple #[.bool r1, .bool r2]) ∧ Below w.heap.size w w' := by
 have HR0 := xy hr0
 have HC0 := xy hc0
 clear hr0 hc0
 have HB := xy (Below.refl w.heap.size w)
 unfold job_one.f at h
 have H := h
 clear h
 replace H := xj H
 obtain ⟨⟨t159, t160, t161⟩, A20, H⟩ := H
 try dsimp only at H
 have A2 := xy A20
 clear A20
 by_cases c3 : t161 = 0
 ·rw [if_pos c3] at H
  have c3b0 : (t161 == 0) = true := beq_iff_eq.mpr c3
  have c3b1 : (t161 != 0) = false := bne_eq_false_iff_eq.mpr c3
  clear c3
  by_cases c4 : (t159.length : Int) = 1
  ·rw [if_pos c4] at H
   have c4b0 : ((t159.length : Int) == 1) = true := beq_iff_eq.mpr c4
   have c4b1 : ((t159.length : Int) != 1) = false := bne_eq_false_iff_eq.mpr c4
   clear c4
   by_cases c5 : 0 < (t159.length : Int)
   ·rw [if_pos c5] at H
    have c5b0 : decide (0 < (t159.length : Int)) = true := decide_eq_true c5
    have c5b1 : decide (0 < t159.length) = true := decide_eq_true (by omega)
    clear c5
    simp only [Option.some.injEq, Prod.mk.injEq] at H
    obtain ⟨rfl, rfl⟩ := H
    go_enter Tryz.func38, Tryz.ntmps38
    go_wp2_with (first | ((with_reducible refine gate_callee (f := 40) rfl ?_); refine goesL_ (some 9) rfl rfl Tryz.func40 (by kernel_rfl) rfl #[.slice A0 l0.length c0, .slice none 0 0] rfl xr ?_; (refine (check_Stack.calls _ _ l0 _ _ ([] : List Bool) t159 t160 t161 _ (Tabs.below hT xf) ?side1 ?side2 ?side3 ?side4 A2.out).mono ?_); (case side1 => repeat (first | exact HR0.out | (with_reducible refine Kd.C_alloc ?_ _) | (with_reducible refine Kd.C_drewN ?_ _) | (with_reducible refine Kd.C_drew ?_))); (case side2 => exact HC0.out); (case side3 => exact Kd.C_nil _ _); (case side4 => exact Nat.le_refl _); rintro e w6 ⟨v162, rfl, ho0, hb⟩; refine ⟨_, rfl, ?_⟩; have HO163 := xy (Kd.R_lower ho0 (below_size xb)); replace HB := xy (below_step xb hb); (try clear hb); (try clear hb2); (try clear hk); (try clear hi); (try clear ho0); obtain ⟨Ao7, co7, eo7⟩ := Kd.R_slice HO163.out; subst eo7; have p164 : 0 ≤ (0 : Int) := (by omega); have q164 : 0 < (t159.length : Int) := xi; obtain ⟨ad164, e164, hx164_0⟩ := Kd.at_bool (Kd.R_reads' HO163.out).2.2 0 p164 q164; cases e164; have qi164 : (0 < t159.length) = True := eq_true (by omega); (try rw [show ((0 : Int)).toNat = 0 from rfl] at hx164_0); (try rw [Addr.add_zero'] at hx164_0); replace p164 := eq_true p164; replace q164 := eq_true q164))
    go_ret2
    exact ⟨xe, xb⟩
   ·rw [if_neg c5] at H
    exact absurd H (by simp)
  ·rw [if_neg c4] at H
   have c4b0 : ((t159.length : Int) == 1) = false := beq_eq_false_iff_ne.mpr c4
   have c4b1 : ((t159.length : Int) != 1) = true := bne_iff_ne.mpr c4
   simp only [Option.some.injEq, Prod.mk.injEq] at H
   obtain ⟨rfl, rfl⟩ := H
   go_enter Tryz.func38, Tryz.ntmps38
   go_wp2_with (first | ((with_reducible refine gate_callee (f := 40) rfl ?_); refine goesL_ (some 9) rfl rfl Tryz.func40 (by kernel_rfl) rfl #[.slice A0 l0.length c0, .slice none 0 0] rfl xr ?_; (refine (check_Stack.calls _ _ l0 _ _ ([] : List Bool) t159 t160 t161 _ (Tabs.below hT xf) ?side1 ?side2 ?side3 ?side4 A2.out).mono ?_); (case side1 => repeat (first | exact HR0.out | (with_reducible refine Kd.C_alloc ?_ _) | (with_reducible refine Kd.C_drewN ?_ _) | (with_reducible refine Kd.C_drew ?_))); (case side2 => exact HC0.out); (case side3 => exact Kd.C_nil _ _); (case side4 => exact Nat.le_refl _); rintro e w8 ⟨v162, rfl, ho0, hb⟩; refine ⟨_, rfl, ?_⟩; have HO163 := xy (Kd.R_lower ho0 (below_size xb)); replace HB := xy (below_step xb hb); (try clear hb); (try clear hb2); (try clear hk); (try clear hi); (try clear ho0); obtain ⟨Ao9, co9, eo9⟩ := Kd.R_slice HO163.out; subst eo9))
   go_ret2
   exact ⟨xe, xb⟩
 ·rw [if_neg c3] at H
  have c3b0 : (t161 == 0) = false := beq_eq_false_iff_ne.mpr c3
  have c3b1 : (t161 != 0) = true := bne_iff_ne.mpr c3
  simp only [Option.some.injEq, Prod.mk.injEq] at H
  obtain ⟨rfl, rfl⟩ := H
  go_enter Tryz.func38, Tryz.ntmps38
  go_wp2_with (first | ((with_reducible refine gate_callee (f := 40) rfl ?_); refine goesL_ (some 9) rfl rfl Tryz.func40 (by kernel_rfl) rfl #[.slice A0 l0.length c0, .slice none 0 0] rfl xr ?_; (refine (check_Stack.calls _ _ l0 _ _ ([] : List Bool) t159 t160 t161 _ (Tabs.below hT xf) ?side1 ?side2 ?side3 ?side4 A2.out).mono ?_); (case side1 => repeat (first | exact HR0.out | (with_reducible refine Kd.C_alloc ?_ _) | (with_reducible refine Kd.C_drewN ?_ _) | (with_reducible refine Kd.C_drew ?_))); (case side2 => exact HC0.out); (case side3 => exact Kd.C_nil _ _); (case side4 => exact Nat.le_refl _); rintro e w10 ⟨v162, rfl, ho0, hb⟩; refine ⟨_, rfl, ?_⟩; have HO163 := xy (Kd.R_lower ho0 (below_size xb)); replace HB := xy (below_step xb hb); (try clear hb); (try clear hb2); (try clear hk); (try clear hi); (try clear ho0)))
  go_ret2
  exact ⟨xe, xb⟩
end Go.Proofs.YtialoecplmnjfaaGreatDoor.PX
