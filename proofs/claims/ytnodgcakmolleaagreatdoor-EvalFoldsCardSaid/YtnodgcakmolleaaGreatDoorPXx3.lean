/- Walked functions, by this session's program over the kit's print. -/
import Derived.Test.YtnodgcakmolleaaGreatDoorXCheckRun
import Derived.Test.YtnodgcakmolleaaGreatDoorXResult
import Derived.Test.YtnodgcakmolleaaGreatDoorPXx0
import Derived.Test.YtnodgcakmolleaaGreatDoorPXx1
namespace Go.Proofs.YtnodgcakmolleaaGreatDoor.PX
open Go.RowKit Go.Proofs.YtnodgcakmolleaaGreatDoorW.PrintWords Go.Proofs.YtnodgcakmolleaaGreatDoorW.PrintLast Go.Proofs.YtnodgcakmolleaaGreatDoorW.PrintMore
attribute [local go_sem] xm_gtr max2_int min2_int max_two min_two max_three min_three max_four min_four
set_option linter.unusedVariables false
set_option linter.unusedSimpArgs false
/- Walked functions, by this session's program over the kit's print. -/
def code_May.f (a0_0 : Int) (a0_1 : Int) (a0_2 : ByteArray) : Option (Bool) := if a0_0 = 0 then ((code_isOp.f a0_0).bind fun t112 => (if t112 = true then (some (a0_2.toList == ([] : List UInt8))) else (some false))) else (if a0_0 = 1 then ((code_isOp.f a0_0).bind fun t113 => (if t113 = true then (if a0_1 = 0 then (some (decide ((a0_2.size : Int) ≤ 1000))) else (some false)) else (some false))) else (if a0_0 = 2 then (if a0_1 ≥ 0 then ((code_isOp.f a0_0).bind fun t114 => (if t114 = true then (if a0_1 < 50 then (some (a0_2.toList == ([] : List UInt8))) else (some false)) else (some false))) else ((code_isOp.f a0_0).bind fun t115 => (if t115 = true then (some false) else (some false)))) else ((code_isOp.f a0_0).bind fun t116 => (if t116 = true then (if a0_1 = 0 then (some (a0_2.toList == ([] : List UInt8))) else (some false)) else (some false)))))
set_option maxHeartbeats 8000000 in
set_option maxRecDepth 100000 in
theorem code_May.calls (a0_0 : Int) (a0_1 : Int) (a0_2 : ByteArray) (r : Bool) (w : World) (hT : Tabs w) (h : code_May.f a0_0 a0_1 a0_2 = some r) :
  Calls Tryz.prog 38 #[.agg #[.int .i64 a0_0, .int .i64 a0_1, .string a0_2]] w fun e w' => e = .returned (.bool r) ∧ Below w.heap.size w w' := by
 have hu44 := Tryz.underlying44
 have HB := xy (Below.refl w.heap.size w)
 unfold code_May.f at h
 have H := h
 clear h
 by_cases c2 : a0_0 = 0
 ·rw [if_pos c2] at H
  have c2b0 : (a0_0 == 0) = true := beq_iff_eq.mpr c2
  have c2b1 : (a0_0 != 0) = false := bne_eq_false_iff_eq.mpr c2
  clear c2
  replace H := xj H
  obtain ⟨t112, A30, H⟩ := H
  try dsimp only at H
  have A3 := xy A30
  clear A30
  by_cases c4 : t112 = true
  ·subst c4
   rw [if_pos rfl] at H
   obtain rfl := Option.some.inj H
   go_enter Tryz.func38, Tryz.ntmps38
   go_wp2_with (((with_reducible refine gate_dst (N := 1) rfl ?_); refine xq (N := 1) (cs := #[.int .i64 a0_0, .int .i64 a0_1, .string a0_2]) (t := 44) ?_; intro gb111 hg w5 hbox hb; have BK111 := xy (hbox); have GW111 := xs w hg; have GE111 := xs w hg; replace HB := xy (below_step xb hb); clear hb hbox hg; have hcz6_0 : w5.cell? ⟨gb111, 0, none⟩ = some (.int .i64 a0_0) := (kc BK111.out 0).trans rfl; have hcz6_1 : w5.cell? ⟨gb111, 1, none⟩ = some (.int .i64 a0_1) := (kc BK111.out 1).trans rfl; have hcz6_2 : w5.cell? ⟨gb111, 2, none⟩ = some (.string a0_2) := (kc BK111.out 2).trans rfl; have hfz6_0 := kf BK111.out 0; have hfz6_1 := kf BK111.out 1; have hfz6_2 := kf BK111.out 2))
   repeat (go_quiet (fail); try go_wp2_with ((go_at_call 53; (with_reducible refine (code_isOp.calls a0_0 true _ (Tabs.below hT xf) A3.out).mono ?_); rintro e w7 ⟨rfl, hb⟩; replace BK111 := xd BK111.out hb; replace HB := xy (below_step xb hb); (try clear hb); (try clear hb2); (try clear hk); (try clear hi))))
   go_ret
   exact ⟨xe, xb⟩
  ·replace c4 := Bool.eq_false_iff.mpr c4
   subst c4
   rw [if_neg (show ¬ (false = true) by decide)] at H
   obtain rfl := Option.some.inj H
   go_enter Tryz.func38, Tryz.ntmps38
   go_wp2_with (((with_reducible refine gate_dst (N := 1) rfl ?_); refine xq (N := 1) (cs := #[.int .i64 a0_0, .int .i64 a0_1, .string a0_2]) (t := 44) ?_; intro gb111 hg w8 hbox hb; have BK111 := xy (hbox); have GW111 := xs w hg; have GE111 := xs w hg; replace HB := xy (below_step xb hb); clear hb hbox hg; have hcz9_0 : w8.cell? ⟨gb111, 0, none⟩ = some (.int .i64 a0_0) := (kc BK111.out 0).trans rfl; have hcz9_1 : w8.cell? ⟨gb111, 1, none⟩ = some (.int .i64 a0_1) := (kc BK111.out 1).trans rfl; have hcz9_2 : w8.cell? ⟨gb111, 2, none⟩ = some (.string a0_2) := (kc BK111.out 2).trans rfl; have hfz9_0 := kf BK111.out 0; have hfz9_1 := kf BK111.out 1; have hfz9_2 := kf BK111.out 2))
   repeat (go_quiet (fail); try go_wp2_with ((go_at_call 53; (with_reducible refine (code_isOp.calls a0_0 false _ (Tabs.below hT xf) A3.out).mono ?_); rintro e w10 ⟨rfl, hb⟩; replace BK111 := xd BK111.out hb; replace HB := xy (below_step xb hb); (try clear hb); (try clear hb2); (try clear hk); (try clear hi))))
   go_ret
   exact ⟨xe, xb⟩
 ·rw [if_neg c2] at H
  have c2b0 : (a0_0 == 0) = false := beq_eq_false_iff_ne.mpr c2
  have c2b1 : (a0_0 != 0) = true := bne_iff_ne.mpr c2
  by_cases c11 : a0_0 = 1
  ·rw [if_pos c11] at H
   have c11b0 : (a0_0 == 1) = true := beq_iff_eq.mpr c11
   have c11b1 : (a0_0 != 1) = false := bne_eq_false_iff_eq.mpr c11
   clear c11
   replace H := xj H
   obtain ⟨t113, A120, H⟩ := H
   try dsimp only at H
   have A12 := xy A120
   clear A120
   by_cases c13 : t113 = true
   ·subst c13
    rw [if_pos rfl] at H
    by_cases c14 : a0_1 = 0
    ·rw [if_pos c14] at H
     have c14b0 : (a0_1 == 0) = true := beq_iff_eq.mpr c14
     have c14b1 : (a0_1 != 0) = false := bne_eq_false_iff_eq.mpr c14
     clear c14
     obtain rfl := Option.some.inj H
     go_enter Tryz.func38, Tryz.ntmps38
     go_wp2_with (((with_reducible refine gate_dst (N := 1) rfl ?_); refine xq (N := 1) (cs := #[.int .i64 a0_0, .int .i64 a0_1, .string a0_2]) (t := 44) ?_; intro gb111 hg w15 hbox hb; have BK111 := xy (hbox); have GW111 := xs w hg; have GE111 := xs w hg; replace HB := xy (below_step xb hb); clear hb hbox hg; have hcz16_0 : w15.cell? ⟨gb111, 0, none⟩ = some (.int .i64 a0_0) := (kc BK111.out 0).trans rfl; have hcz16_1 : w15.cell? ⟨gb111, 1, none⟩ = some (.int .i64 a0_1) := (kc BK111.out 1).trans rfl; have hcz16_2 : w15.cell? ⟨gb111, 2, none⟩ = some (.string a0_2) := (kc BK111.out 2).trans rfl; have hfz16_0 := kf BK111.out 0; have hfz16_1 := kf BK111.out 1; have hfz16_2 := kf BK111.out 2))
     repeat (go_quiet (fail); try go_wp2_with ((go_at_call 53; (with_reducible refine (code_isOp.calls a0_0 true _ (Tabs.below hT xf) A12.out).mono ?_); rintro e w17 ⟨rfl, hb⟩; replace BK111 := xd BK111.out hb; replace HB := xy (below_step xb hb); (try clear hb); (try clear hb2); (try clear hk); (try clear hi))))
     go_ret
     exact ⟨xe, xb⟩
    ·rw [if_neg c14] at H
     have c14b0 : (a0_1 == 0) = false := beq_eq_false_iff_ne.mpr c14
     have c14b1 : (a0_1 != 0) = true := bne_iff_ne.mpr c14
     obtain rfl := Option.some.inj H
     go_enter Tryz.func38, Tryz.ntmps38
     go_wp2_with (((with_reducible refine gate_dst (N := 1) rfl ?_); refine xq (N := 1) (cs := #[.int .i64 a0_0, .int .i64 a0_1, .string a0_2]) (t := 44) ?_; intro gb111 hg w18 hbox hb; have BK111 := xy (hbox); have GW111 := xs w hg; have GE111 := xs w hg; replace HB := xy (below_step xb hb); clear hb hbox hg; have hcz19_0 : w18.cell? ⟨gb111, 0, none⟩ = some (.int .i64 a0_0) := (kc BK111.out 0).trans rfl; have hcz19_1 : w18.cell? ⟨gb111, 1, none⟩ = some (.int .i64 a0_1) := (kc BK111.out 1).trans rfl; have hcz19_2 : w18.cell? ⟨gb111, 2, none⟩ = some (.string a0_2) := (kc BK111.out 2).trans rfl; have hfz19_0 := kf BK111.out 0; have hfz19_1 := kf BK111.out 1; have hfz19_2 := kf BK111.out 2))
     repeat (go_quiet (fail); try go_wp2_with ((go_at_call 53; (with_reducible refine (code_isOp.calls a0_0 true _ (Tabs.below hT xf) A12.out).mono ?_); rintro e w20 ⟨rfl, hb⟩; replace BK111 := xd BK111.out hb; replace HB := xy (below_step xb hb); (try clear hb); (try clear hb2); (try clear hk); (try clear hi))))
     go_ret
     exact ⟨xe, xb⟩
   ·replace c13 := Bool.eq_false_iff.mpr c13
    subst c13
    rw [if_neg (show ¬ (false = true) by decide)] at H
    obtain rfl := Option.some.inj H
    go_enter Tryz.func38, Tryz.ntmps38
    go_wp2_with (((with_reducible refine gate_dst (N := 1) rfl ?_); refine xq (N := 1) (cs := #[.int .i64 a0_0, .int .i64 a0_1, .string a0_2]) (t := 44) ?_; intro gb111 hg w21 hbox hb; have BK111 := xy (hbox); have GW111 := xs w hg; have GE111 := xs w hg; replace HB := xy (below_step xb hb); clear hb hbox hg; have hcz22_0 : w21.cell? ⟨gb111, 0, none⟩ = some (.int .i64 a0_0) := (kc BK111.out 0).trans rfl; have hcz22_1 : w21.cell? ⟨gb111, 1, none⟩ = some (.int .i64 a0_1) := (kc BK111.out 1).trans rfl; have hcz22_2 : w21.cell? ⟨gb111, 2, none⟩ = some (.string a0_2) := (kc BK111.out 2).trans rfl; have hfz22_0 := kf BK111.out 0; have hfz22_1 := kf BK111.out 1; have hfz22_2 := kf BK111.out 2))
    repeat (go_quiet (fail); try go_wp2_with ((go_at_call 53; (with_reducible refine (code_isOp.calls a0_0 false _ (Tabs.below hT xf) A12.out).mono ?_); rintro e w23 ⟨rfl, hb⟩; replace BK111 := xd BK111.out hb; replace HB := xy (below_step xb hb); (try clear hb); (try clear hb2); (try clear hk); (try clear hi))))
    go_ret
    exact ⟨xe, xb⟩
  ·rw [if_neg c11] at H
   have c11b0 : (a0_0 == 1) = false := beq_eq_false_iff_ne.mpr c11
   have c11b1 : (a0_0 != 1) = true := bne_iff_ne.mpr c11
   by_cases c24 : a0_0 = 2
   ·rw [if_pos c24] at H
    have c24b0 : (a0_0 == 2) = true := beq_iff_eq.mpr c24
    have c24b1 : (a0_0 != 2) = false := bne_eq_false_iff_eq.mpr c24
    clear c24
    by_cases c25 : a0_1 ≥ 0
    ·rw [if_pos c25] at H
     have c25b0 : decide (0 ≤ a0_1) = true := decide_eq_true c25
     clear c25
     replace H := xj H
     obtain ⟨t114, A260, H⟩ := H
     try dsimp only at H
     have A26 := xy A260
     clear A260
     by_cases c27 : t114 = true
     ·subst c27
      rw [if_pos rfl] at H
      by_cases c28 : a0_1 < 50
      ·rw [if_pos c28] at H
       have c28b0 : decide (a0_1 < 50) = true := decide_eq_true c28
       clear c28
       obtain rfl := Option.some.inj H
       go_enter Tryz.func38, Tryz.ntmps38
       go_wp2_with (((with_reducible refine gate_dst (N := 1) rfl ?_); refine xq (N := 1) (cs := #[.int .i64 a0_0, .int .i64 a0_1, .string a0_2]) (t := 44) ?_; intro gb111 hg w29 hbox hb; have BK111 := xy (hbox); have GW111 := xs w hg; have GE111 := xs w hg; replace HB := xy (below_step xb hb); clear hb hbox hg; have hcz30_0 : w29.cell? ⟨gb111, 0, none⟩ = some (.int .i64 a0_0) := (kc BK111.out 0).trans rfl; have hcz30_1 : w29.cell? ⟨gb111, 1, none⟩ = some (.int .i64 a0_1) := (kc BK111.out 1).trans rfl; have hcz30_2 : w29.cell? ⟨gb111, 2, none⟩ = some (.string a0_2) := (kc BK111.out 2).trans rfl; have hfz30_0 := kf BK111.out 0; have hfz30_1 := kf BK111.out 1; have hfz30_2 := kf BK111.out 2))
       repeat (go_quiet (fail); try go_wp2_with ((go_at_call 53; (with_reducible refine (code_isOp.calls a0_0 true _ (Tabs.below hT xf) A26.out).mono ?_); rintro e w31 ⟨rfl, hb⟩; replace BK111 := xd BK111.out hb; replace HB := xy (below_step xb hb); (try clear hb); (try clear hb2); (try clear hk); (try clear hi))))
       go_ret
       exact ⟨xe, xb⟩
      ·rw [if_neg c28] at H
       have c28b0 : decide (a0_1 < 50) = false := decide_eq_false c28
       clear c28
       obtain rfl := Option.some.inj H
       go_enter Tryz.func38, Tryz.ntmps38
       go_wp2_with (((with_reducible refine gate_dst (N := 1) rfl ?_); refine xq (N := 1) (cs := #[.int .i64 a0_0, .int .i64 a0_1, .string a0_2]) (t := 44) ?_; intro gb111 hg w32 hbox hb; have BK111 := xy (hbox); have GW111 := xs w hg; have GE111 := xs w hg; replace HB := xy (below_step xb hb); clear hb hbox hg; have hcz33_0 : w32.cell? ⟨gb111, 0, none⟩ = some (.int .i64 a0_0) := (kc BK111.out 0).trans rfl; have hcz33_1 : w32.cell? ⟨gb111, 1, none⟩ = some (.int .i64 a0_1) := (kc BK111.out 1).trans rfl; have hcz33_2 : w32.cell? ⟨gb111, 2, none⟩ = some (.string a0_2) := (kc BK111.out 2).trans rfl; have hfz33_0 := kf BK111.out 0; have hfz33_1 := kf BK111.out 1; have hfz33_2 := kf BK111.out 2))
       repeat (go_quiet (fail); try go_wp2_with ((go_at_call 53; (with_reducible refine (code_isOp.calls a0_0 true _ (Tabs.below hT xf) A26.out).mono ?_); rintro e w34 ⟨rfl, hb⟩; replace BK111 := xd BK111.out hb; replace HB := xy (below_step xb hb); (try clear hb); (try clear hb2); (try clear hk); (try clear hi))))
       go_ret
       exact ⟨xe, xb⟩
     ·replace c27 := Bool.eq_false_iff.mpr c27
      subst c27
      rw [if_neg (show ¬ (false = true) by decide)] at H
      obtain rfl := Option.some.inj H
      go_enter Tryz.func38, Tryz.ntmps38
      go_wp2_with (((with_reducible refine gate_dst (N := 1) rfl ?_); refine xq (N := 1) (cs := #[.int .i64 a0_0, .int .i64 a0_1, .string a0_2]) (t := 44) ?_; intro gb111 hg w35 hbox hb; have BK111 := xy (hbox); have GW111 := xs w hg; have GE111 := xs w hg; replace HB := xy (below_step xb hb); clear hb hbox hg; have hcz36_0 : w35.cell? ⟨gb111, 0, none⟩ = some (.int .i64 a0_0) := (kc BK111.out 0).trans rfl; have hcz36_1 : w35.cell? ⟨gb111, 1, none⟩ = some (.int .i64 a0_1) := (kc BK111.out 1).trans rfl; have hcz36_2 : w35.cell? ⟨gb111, 2, none⟩ = some (.string a0_2) := (kc BK111.out 2).trans rfl; have hfz36_0 := kf BK111.out 0; have hfz36_1 := kf BK111.out 1; have hfz36_2 := kf BK111.out 2))
      repeat (go_quiet (fail); try go_wp2_with ((go_at_call 53; (with_reducible refine (code_isOp.calls a0_0 false _ (Tabs.below hT xf) A26.out).mono ?_); rintro e w37 ⟨rfl, hb⟩; replace BK111 := xd BK111.out hb; replace HB := xy (below_step xb hb); (try clear hb); (try clear hb2); (try clear hk); (try clear hi))))
      go_ret
      exact ⟨xe, xb⟩
    ·rw [if_neg c25] at H
     have c25b0 : decide (0 ≤ a0_1) = false := decide_eq_false c25
     clear c25
     replace H := xj H
     obtain ⟨t115, A380, H⟩ := H
     try dsimp only at H
     have A38 := xy A380
     clear A380
     by_cases c39 : t115 = true
     ·subst c39
      rw [if_pos rfl] at H
      obtain rfl := Option.some.inj H
      go_enter Tryz.func38, Tryz.ntmps38
      go_wp2_with (((with_reducible refine gate_dst (N := 1) rfl ?_); refine xq (N := 1) (cs := #[.int .i64 a0_0, .int .i64 a0_1, .string a0_2]) (t := 44) ?_; intro gb111 hg w40 hbox hb; have BK111 := xy (hbox); have GW111 := xs w hg; have GE111 := xs w hg; replace HB := xy (below_step xb hb); clear hb hbox hg; have hcz41_0 : w40.cell? ⟨gb111, 0, none⟩ = some (.int .i64 a0_0) := (kc BK111.out 0).trans rfl; have hcz41_1 : w40.cell? ⟨gb111, 1, none⟩ = some (.int .i64 a0_1) := (kc BK111.out 1).trans rfl; have hcz41_2 : w40.cell? ⟨gb111, 2, none⟩ = some (.string a0_2) := (kc BK111.out 2).trans rfl; have hfz41_0 := kf BK111.out 0; have hfz41_1 := kf BK111.out 1; have hfz41_2 := kf BK111.out 2))
      repeat (go_quiet (fail); try go_wp2_with ((go_at_call 53; (with_reducible refine (code_isOp.calls a0_0 true _ (Tabs.below hT xf) A38.out).mono ?_); rintro e w42 ⟨rfl, hb⟩; replace BK111 := xd BK111.out hb; replace HB := xy (below_step xb hb); (try clear hb); (try clear hb2); (try clear hk); (try clear hi))))
      go_ret
      exact ⟨xe, xb⟩
     ·replace c39 := Bool.eq_false_iff.mpr c39
      subst c39
      rw [if_neg (show ¬ (false = true) by decide)] at H
      obtain rfl := Option.some.inj H
      go_enter Tryz.func38, Tryz.ntmps38
      go_wp2_with (((with_reducible refine gate_dst (N := 1) rfl ?_); refine xq (N := 1) (cs := #[.int .i64 a0_0, .int .i64 a0_1, .string a0_2]) (t := 44) ?_; intro gb111 hg w43 hbox hb; have BK111 := xy (hbox); have GW111 := xs w hg; have GE111 := xs w hg; replace HB := xy (below_step xb hb); clear hb hbox hg; have hcz44_0 : w43.cell? ⟨gb111, 0, none⟩ = some (.int .i64 a0_0) := (kc BK111.out 0).trans rfl; have hcz44_1 : w43.cell? ⟨gb111, 1, none⟩ = some (.int .i64 a0_1) := (kc BK111.out 1).trans rfl; have hcz44_2 : w43.cell? ⟨gb111, 2, none⟩ = some (.string a0_2) := (kc BK111.out 2).trans rfl; have hfz44_0 := kf BK111.out 0; have hfz44_1 := kf BK111.out 1; have hfz44_2 := kf BK111.out 2))
      repeat (go_quiet (fail); try go_wp2_with ((go_at_call 53; (with_reducible refine (code_isOp.calls a0_0 false _ (Tabs.below hT xf) A38.out).mono ?_); rintro e w45 ⟨rfl, hb⟩; replace BK111 := xd BK111.out hb; replace HB := xy (below_step xb hb); (try clear hb); (try clear hb2); (try clear hk); (try clear hi))))
      go_ret
      exact ⟨xe, xb⟩
   ·rw [if_neg c24] at H
    have c24b0 : (a0_0 == 2) = false := beq_eq_false_iff_ne.mpr c24
    have c24b1 : (a0_0 != 2) = true := bne_iff_ne.mpr c24
    replace H := xj H
    obtain ⟨t116, A460, H⟩ := H
    try dsimp only at H
    have A46 := xy A460
    clear A460
    by_cases c47 : t116 = true
    ·subst c47
     rw [if_pos rfl] at H
     by_cases c48 : a0_1 = 0
     ·rw [if_pos c48] at H
      have c48b0 : (a0_1 == 0) = true := beq_iff_eq.mpr c48
      have c48b1 : (a0_1 != 0) = false := bne_eq_false_iff_eq.mpr c48
      clear c48
      obtain rfl := Option.some.inj H
      go_enter Tryz.func38, Tryz.ntmps38
      go_wp2_with (((with_reducible refine gate_dst (N := 1) rfl ?_); refine xq (N := 1) (cs := #[.int .i64 a0_0, .int .i64 a0_1, .string a0_2]) (t := 44) ?_; intro gb111 hg w49 hbox hb; have BK111 := xy (hbox); have GW111 := xs w hg; have GE111 := xs w hg; replace HB := xy (below_step xb hb); clear hb hbox hg; have hcz50_0 : w49.cell? ⟨gb111, 0, none⟩ = some (.int .i64 a0_0) := (kc BK111.out 0).trans rfl; have hcz50_1 : w49.cell? ⟨gb111, 1, none⟩ = some (.int .i64 a0_1) := (kc BK111.out 1).trans rfl; have hcz50_2 : w49.cell? ⟨gb111, 2, none⟩ = some (.string a0_2) := (kc BK111.out 2).trans rfl; have hfz50_0 := kf BK111.out 0; have hfz50_1 := kf BK111.out 1; have hfz50_2 := kf BK111.out 2))
      repeat (go_quiet (fail); try go_wp2_with ((go_at_call 53; (with_reducible refine (code_isOp.calls a0_0 true _ (Tabs.below hT xf) A46.out).mono ?_); rintro e w51 ⟨rfl, hb⟩; replace BK111 := xd BK111.out hb; replace HB := xy (below_step xb hb); (try clear hb); (try clear hb2); (try clear hk); (try clear hi))))
      go_ret
      exact ⟨xe, xb⟩
     ·rw [if_neg c48] at H
      have c48b0 : (a0_1 == 0) = false := beq_eq_false_iff_ne.mpr c48
      have c48b1 : (a0_1 != 0) = true := bne_iff_ne.mpr c48
      obtain rfl := Option.some.inj H
      go_enter Tryz.func38, Tryz.ntmps38
      go_wp2_with (((with_reducible refine gate_dst (N := 1) rfl ?_); refine xq (N := 1) (cs := #[.int .i64 a0_0, .int .i64 a0_1, .string a0_2]) (t := 44) ?_; intro gb111 hg w52 hbox hb; have BK111 := xy (hbox); have GW111 := xs w hg; have GE111 := xs w hg; replace HB := xy (below_step xb hb); clear hb hbox hg; have hcz53_0 : w52.cell? ⟨gb111, 0, none⟩ = some (.int .i64 a0_0) := (kc BK111.out 0).trans rfl; have hcz53_1 : w52.cell? ⟨gb111, 1, none⟩ = some (.int .i64 a0_1) := (kc BK111.out 1).trans rfl; have hcz53_2 : w52.cell? ⟨gb111, 2, none⟩ = some (.string a0_2) := (kc BK111.out 2).trans rfl; have hfz53_0 := kf BK111.out 0; have hfz53_1 := kf BK111.out 1; have hfz53_2 := kf BK111.out 2))
      repeat (go_quiet (fail); try go_wp2_with ((go_at_call 53; (with_reducible refine (code_isOp.calls a0_0 true _ (Tabs.below hT xf) A46.out).mono ?_); rintro e w54 ⟨rfl, hb⟩; replace BK111 := xd BK111.out hb; replace HB := xy (below_step xb hb); (try clear hb); (try clear hb2); (try clear hk); (try clear hi))))
      go_ret
      exact ⟨xe, xb⟩
    ·replace c47 := Bool.eq_false_iff.mpr c47
     subst c47
     rw [if_neg (show ¬ (false = true) by decide)] at H
     obtain rfl := Option.some.inj H
     go_enter Tryz.func38, Tryz.ntmps38
     go_wp2_with (((with_reducible refine gate_dst (N := 1) rfl ?_); refine xq (N := 1) (cs := #[.int .i64 a0_0, .int .i64 a0_1, .string a0_2]) (t := 44) ?_; intro gb111 hg w55 hbox hb; have BK111 := xy (hbox); have GW111 := xs w hg; have GE111 := xs w hg; replace HB := xy (below_step xb hb); clear hb hbox hg; have hcz56_0 : w55.cell? ⟨gb111, 0, none⟩ = some (.int .i64 a0_0) := (kc BK111.out 0).trans rfl; have hcz56_1 : w55.cell? ⟨gb111, 1, none⟩ = some (.int .i64 a0_1) := (kc BK111.out 1).trans rfl; have hcz56_2 : w55.cell? ⟨gb111, 2, none⟩ = some (.string a0_2) := (kc BK111.out 2).trans rfl; have hfz56_0 := kf BK111.out 0; have hfz56_1 := kf BK111.out 1; have hfz56_2 := kf BK111.out 2))
     repeat (go_quiet (fail); try go_wp2_with ((go_at_call 53; (with_reducible refine (code_isOp.calls a0_0 false _ (Tabs.below hT xf) A46.out).mono ?_); rintro e w57 ⟨rfl, hb⟩; replace BK111 := xd BK111.out hb; replace HB := xy (below_step xb hb); (try clear hb); (try clear hb2); (try clear hk); (try clear hi))))
     go_ret
     exact ⟨xe, xb⟩
theorem check_Stack.may_some (x : XCheck.Ins) : ∃ b, code_May.f x.f0 x.f1 x.f2 = some b := by
 have hop : ∀ o, ∃ b, code_isOp.f o = some b := fun o => by
  unfold code_isOp.f value_Arity.f
  simp only [Option.bind_some]
  repeat' split
  all_goals exact ⟨_, rfl⟩
 obtain ⟨b, hb⟩ := hop x.f0
 unfold code_May.f
 simp only [hb, Option.bind_some]
 repeat' split
 all_goals exact ⟨_, rfl⟩
def check_Stack.may (x : XCheck.Ins) : Bool := (code_May.f x.f0 x.f1 x.f2).getD false
theorem check_Stack.may_eq (x : XCheck.Ins) : code_May.f x.f0 x.f1 x.f2 = some (check_Stack.may x) := by
 obtain ⟨b, hb⟩ := check_Stack.may_some x
 unfold check_Stack.may
 rw [hb]
 rfl
theorem check_Stack.may_calls (x : XCheck.Ins) (w : World) (hT : Tabs w) : Calls Tryz.prog 38 #[XCheck.insV x.f0 x.f1 x.f2] w fun e w' => e = .returned (.bool (check_Stack.may x)) ∧ Below w.heap.size w w' :=
 code_May.calls x.f0 x.f1 x.f2 _ w hT (check_Stack.may_eq x)
theorem check_Stack.arity_lt {o : Int} (h : 0 < XOps.arityF o) : o < 22 := by
 by_cases c : o < 22
 ·exact c
 ·have e : XOps.opFn o = none := by
   unfold XOps.opFn
   repeat' (rw [if_neg (by omega)])
  unfold XOps.arityF at h
  rw [e] at h
  cases h
theorem check_Stack.may_op (x : XCheck.Ins) (h : check_Stack.may x = true) (h2 : 22 ≤ x.f0) : x.f0 = 22 ∨ x.f0 = 23 := by
 have e := check_Stack.may_eq x
 rw [h] at e
 have hop : code_isOp.f x.f0 = some true := by
  rcases hq : code_isOp.f x.f0 with _ | b
  ·unfold code_May.f at e
   rw [hq] at e
   simp only [Option.bind_none, if_neg (show ¬ x.f0 = 0 by omega), if_neg (show ¬ x.f0 = 1 by omega), if_neg (show ¬ x.f0 = 2 by omega)] at e
   cases e
  ·cases b
   ·unfold code_May.f at e
    rw [hq] at e
    simp [if_neg (show ¬ x.f0 = 0 by omega), if_neg (show ¬ x.f0 = 1 by omega), if_neg (show ¬ x.f0 = 2 by omega)] at e
   ·rfl
 by_cases c : x.f0 = 22
 ·exact .inl c
 ·by_cases d : x.f0 = 23
  ·exact .inr d
  ·unfold code_isOp.f value_Arity.f at hop
   simp only [if_pos (show x.f0 ≥ 0 by omega), if_neg (show ¬ x.f0 ≤ 3 by omega), if_neg c, if_neg d, Option.bind_some] at hop
   have h3 := Option.some.inj hop
   have := check_Stack.arity_lt (of_decide_eq_true h3)
   omega
def check_Stack.f (l0 : List (S44)) (l1 : List Bool) : Option (List Bool × Int × Int) := some (XCheck.stackP check_Stack.may l0 l1)
theorem check_Stack.calls (A0 : Option Addr) (c0 : Nat) (l0 : List (S44)) (A1 : Option Addr) (c1 : Nat) (l1 : List Bool) (r1 : List Bool) (r2 : Int) (r3 : Int) (w : World) (hT : Tabs w) (hr0 : Kd.C k44 w A0 l0.length l0) (hc0 : l0.length ≤ c0) (hr1 : Kd.C Kd.bool w A1 l1.length l1) (hc1 : l1.length ≤ c1) (h : check_Stack.f l0 l1 = some (r1, r2, r3)) :
  Calls Tryz.prog 17 #[.slice A0 l0.length c0, .slice A1 l1.length c1] w fun e w' => ∃ v0_ : Value, e = .returned (.tuple #[v0_, .int .i64 r2, .int .i64 r3]) ∧ Kd.R Kd.bool 4 w' w.heap.size (fun _ => True) v0_ r1 ∧ Below w.heap.size w w' := by
 have e : XCheck.stackP check_Stack.may l0 l1 = (r1, r2, r3) := Option.some.inj h
 have := XCheck.stack_calls (T := Tabs) (fun w w' h hb => h.below hb) check_Stack.may check_Stack.may_calls check_Stack.may_op A0 c0 l0 A1 c1 l1 w hT hr0 hr1
 rw [e] at this
 exact this
def value_Text.f (a0 : ByteArray) : Option (Bool × Int × ByteArray) := if 0 ≤ (mn (a0.size : Int) 1000) then (if (mn (a0.size : Int) 1000) ≤ (a0.size : Int) then (some (true, 0, a0.extract 0 ((mn (a0.size : Int) 1000) : Int).toNat)) else (none)) else (none)
set_option maxHeartbeats 8000000 in
set_option maxRecDepth 100000 in
theorem value_Text.calls (a0 : ByteArray) (r1 : Bool) (r2 : Int) (r3 : ByteArray) (w : World) (hT : Tabs w) (h : value_Text.f a0 = some (r1, r2, r3)) :
  Calls Tryz.prog 35 #[.string a0] w fun e w' => e = .returned (.agg #[.bool r1, .int .i64 r2, .string r3]) ∧ Below w.heap.size w w' := by
 have hu32 := Tryz.underlying32
 have HB := xy (Below.refl w.heap.size w)
 unfold value_Text.f at h
 have H := h
 clear h
 obtain ⟨ji2, hji2⟩ : ∃ j_ : Int, (mn (a0.size : Int) 1000) = j_ := ⟨_, rfl⟩
 replace H : (if 0 ≤ (ji2) then (if (ji2) ≤ (a0.size : Int) then (some (true, 0, a0.extract 0 ((ji2) : Int).toNat)) else (none)) else (none)) = some (r1, r2, r3) := by first | (rw [hji2] at H; exact H) | (simp only [hji2] at H ⊢; exact H)
 (try (have hji2h : ji2 ≤ 1000 := by (rw [← hji2]; unfold mn; (repeat' split) <;> omega)))
 (try (have hji2g : ji2 ≤ 64 := by omega))
 (try (have hji2l : 0 ≤ ji2 := by (rw [← hji2]; unfold mn; (repeat' split) <;> omega)))
 (try (have hji2m : 0 ≤ ji2 := by omega))
 have hji2_ : (if 1000 < (a0.size : Int) then 1000 else (a0.size : Int)) = ji2 := hji2
 by_cases c3 : 0 ≤ (ji2)
 ·rw [if_pos c3] at H
  have c3b0 := eq_true c3
  have c3b1 : decide (0 ≤ (ji2)) = true := decide_eq_true c3
  clear c3
  by_cases c4 : (ji2) ≤ (a0.size : Int)
  ·rw [if_pos c4] at H
   have c4b0 := eq_true c4
   have c4b1 : decide ((ji2) ≤ (a0.size : Int)) = true := decide_eq_true c4
   clear c4
   simp only [Option.some.injEq, Prod.mk.injEq] at H
   obtain ⟨rfl, rfl, rfl⟩ := H
   go_enter Tryz.func35, Tryz.ntmps35
   go_wp2_with (((with_reducible refine gate_dst (N := 2) rfl ?_); refine xq (N := 2) (cs := #[.bool false, .int .i64 0, .string (⟨#[]⟩ : ByteArray)]) (t := 32) ?_; intro gb117 hg w5 hbox hb; have BK117 := xy (hbox); have GW117 := xs w hg; have GE117 := xs w hg; replace HB := xy (below_step xb hb); clear hb hbox hg; have hcz6_0 : w5.cell? ⟨gb117, 0, none⟩ = some (.bool false) := (kc BK117.out 0).trans rfl; have hcz6_1 : w5.cell? ⟨gb117, 1, none⟩ = some (.int .i64 0) := (kc BK117.out 1).trans rfl; have hcz6_2 : w5.cell? ⟨gb117, 2, none⟩ = some (.string (⟨#[]⟩ : ByteArray)) := (kc BK117.out 2).trans rfl; have hfz6_0 := kf BK117.out 0; have hfz6_1 := kf BK117.out 1; have hfz6_2 := kf BK117.out 2))
   refine bodyPost_ret (results_cell_row rfl _ _ gb117 32 #[.bool true, .int .i64 0, .string (a0.extract 0 ((ji2) : Int).toNat)] (0, 0) _ rfl (kp BK117.out) Tryz.underlying32 rfl (by kernel_rfl)) rfl ?_
   exact ⟨by first | rfl | (simp [errW_none, errW_some] <;> rfl) | (simp only [← hji2]; first | rfl | (simp [errW_none, errW_some] <;> rfl)) | (simp [*, errW_none, errW_some] <;> rfl), xb⟩
  ·rw [if_neg c4] at H
   exact absurd H (by simp)
 ·rw [if_neg c3] at H
  exact absurd H (by simp)
def value_Num.f (a0 : Int) : Option (Bool × Int × ByteArray) := some (false, a0, (⟨#[]⟩ : ByteArray))
set_option maxHeartbeats 8000000 in
set_option maxRecDepth 100000 in
theorem value_Num.calls (a0 : Int) (r1 : Bool) (r2 : Int) (r3 : ByteArray) (w : World) (hT : Tabs w) (h : value_Num.f a0 = some (r1, r2, r3)) :
  Calls Tryz.prog 36 #[.int .i64 a0] w fun e w' => e = .returned (.agg #[.bool r1, .int .i64 r2, .string r3]) ∧ Below w.heap.size w w' := by
 have hu32 := Tryz.underlying32
 have HB := xy (Below.refl w.heap.size w)
 unfold value_Num.f at h
 have H := h
 clear h
 simp only [Option.some.injEq, Prod.mk.injEq] at H
 obtain ⟨rfl, rfl, rfl⟩ := H
 go_enter Tryz.func36, Tryz.ntmps36
 go_wp2_with (((with_reducible refine gate_dst (N := 2) rfl ?_); refine xq (N := 2) (cs := #[.bool false, .int .i64 0, .string (⟨#[]⟩ : ByteArray)]) (t := 32) ?_; intro gb118 hg w2 hbox hb; have BK118 := xy (hbox); have GW118 := xs w hg; have GE118 := xs w hg; replace HB := xy (below_step xb hb); clear hb hbox hg; have hcz3_0 : w2.cell? ⟨gb118, 0, none⟩ = some (.bool false) := (kc BK118.out 0).trans rfl; have hcz3_1 : w2.cell? ⟨gb118, 1, none⟩ = some (.int .i64 0) := (kc BK118.out 1).trans rfl; have hcz3_2 : w2.cell? ⟨gb118, 2, none⟩ = some (.string (⟨#[]⟩ : ByteArray)) := (kc BK118.out 2).trans rfl; have hfz3_0 := kf BK118.out 0; have hfz3_1 := kf BK118.out 1; have hfz3_2 := kf BK118.out 2))
 refine bodyPost_ret (results_cell_row rfl _ _ gb118 32 #[.bool false, .int .i64 a0, .string (⟨#[]⟩ : ByteArray)] (0, 0) _ rfl (kp BK118.out) Tryz.underlying32 rfl (by kernel_rfl)) rfl ?_
 exact ⟨xe, xb⟩
def value_Result.f (a0 : Int) (l1 : List Bool) : Option (Bool × Int) := some (XOps.resultF a0 l1)
theorem value_Result.calls (a0 : Int) (A1 : Option Addr) (c1 : Nat) (l1 : List Bool) (r1 : Bool) (r2 : Int) (w : World) (hT : Tabs w) (hr1 : Kd.C Kd.bool w A1 l1.length l1) (hc1 : l1.length ≤ c1) (h : value_Result.f a0 l1 = some (r1, r2)) :
  Calls Tryz.prog 69 #[.int .i64 a0, .slice A1 l1.length c1] w fun e w' => e = .returned (.tuple #[.bool r1, .int .i64 r2]) ∧ Below w.heap.size w w' := by
 have e : XOps.resultF a0 l1 = (r1, r2) := Option.some.inj h
 have := XOps.result_calls a0 A1 c1 l1 w hr1
 rw [e] at this
 exact this
def value_val_add.f (a0_0 : Bool) (a0_1 : Int) (a0_2 : ByteArray) (a1_0 : Bool) (a1_1 : Int) (a1_2 : ByteArray) (a2_0 : Bool) (a2_1 : Int) (a2_2 : ByteArray) : Option (Bool × Int × ByteArray) := (value_Num.f (wrap64 (a0_1 + a1_1))).bind fun bt123 => (some (bt123.1, bt123.2.1, bt123.2.2))
set_option maxHeartbeats 8000000 in
set_option maxRecDepth 100000 in
theorem value_val_add.calls (a0_0 : Bool) (a0_1 : Int) (a0_2 : ByteArray) (a1_0 : Bool) (a1_1 : Int) (a1_2 : ByteArray) (a2_0 : Bool) (a2_1 : Int) (a2_2 : ByteArray) (r1 : Bool) (r2 : Int) (r3 : ByteArray) (w : World) (hT : Tabs w) (h : value_val_add.f a0_0 a0_1 a0_2 a1_0 a1_1 a1_2 a2_0 a2_1 a2_2 = some (r1, r2, r3)) :
  Calls Tryz.prog 70 #[.agg #[.bool a0_0, .int .i64 a0_1, .string a0_2], .agg #[.bool a1_0, .int .i64 a1_1, .string a1_2], .agg #[.bool a2_0, .int .i64 a2_1, .string a2_2]] w fun e w' => e = .returned (.agg #[.bool r1, .int .i64 r2, .string r3]) ∧ Below w.heap.size w w' := by
 have hu104 := Tryz.underlying104
 have hu32 := Tryz.underlying32
 have HB := xy (Below.refl w.heap.size w)
 unfold value_val_add.f at h
 have H := h
 clear h
 replace H := xj H
 obtain ⟨⟨t123, t124, t125⟩, A40, H⟩ := H
 try dsimp only at H
 have A4 := xy A40
 clear A40
 simp only [Option.some.injEq, Prod.mk.injEq] at H
 obtain ⟨rfl, rfl, rfl⟩ := H
 go_enter Tryz.func70, Tryz.ntmps70
 go_wp2_with (first | ((with_reducible refine gate_dst (N := 3) rfl ?_); refine xq (N := 3) (cs := #[.bool a0_0, .int .i64 a0_1, .string a0_2]) (t := 104) ?_; intro gb119 hg w5 hbox hb; have BK119 := xy (hbox); have GW119 := xs w hg; have GE119 := xs w hg; replace HB := xy (below_step xb hb); clear hb hbox hg) | ((with_reducible refine gate_dst (N := 4) rfl ?_); refine xq (N := 4) (cs := #[.bool a1_0, .int .i64 a1_1, .string a1_2]) (t := 104) ?_; intro gb120 hg w6 hbox hb; have BK120 := xy (hbox); have GW120 := xs w hg; have GE120 := xs w hg; replace HB := xy (below_step xb hb); have NB119_120 := xn hg BK119.out; have NB120_119 := xp hg BK119.out; replace BK119 := xd BK119.out hb; clear hb hbox hg) | ((with_reducible refine gate_dst (N := 5) rfl ?_); refine xq (N := 5) (cs := #[.bool a2_0, .int .i64 a2_1, .string a2_2]) (t := 104) ?_; intro gb121 hg w7 hbox hb; have BK121 := xy (hbox); have GW121 := xs w hg; have GE121 := xs w hg; replace HB := xy (below_step xb hb); have NB119_121 := xn hg BK119.out; have NB121_119 := xp hg BK119.out; replace BK119 := xd BK119.out hb; have NB120_121 := xn hg BK120.out; have NB121_120 := xp hg BK120.out; replace BK120 := xd BK120.out hb; clear hb hbox hg) | ((with_reducible refine gate_dst (N := 6) rfl ?_); refine xq (N := 6) (cs := #[.bool false, .int .i64 0, .string (⟨#[]⟩ : ByteArray)]) (t := 32) ?_; intro gb122 hg w8 hbox hb; have BK122 := xy (hbox); have GW122 := xs w hg; have GE122 := xs w hg; replace HB := xy (below_step xb hb); have NB119_122 := xn hg BK119.out; have NB122_119 := xp hg BK119.out; replace BK119 := xd BK119.out hb; have NB120_122 := xn hg BK120.out; have NB122_120 := xp hg BK120.out; replace BK120 := xd BK120.out hb; have NB121_122 := xn hg BK121.out; have NB122_121 := xp hg BK121.out; replace BK121 := xd BK121.out hb; clear hb hbox hg; have hnb9 := NB119_120.out; have hnc9 := NB120_119.out; have hnb10 := NB119_121.out; have hnc10 := NB121_119.out; have hnb11 := NB119_122.out; have hnc11 := NB122_119.out; have hcz12_0 : w8.cell? ⟨gb119, 0, none⟩ = some (.bool a0_0) := (kc BK119.out 0).trans rfl; have hcz12_1 : w8.cell? ⟨gb119, 1, none⟩ = some (.int .i64 a0_1) := (kc BK119.out 1).trans rfl; have hcz12_2 : w8.cell? ⟨gb119, 2, none⟩ = some (.string a0_2) := (kc BK119.out 2).trans rfl; have hfz12_0 := kf BK119.out 0; have hfz12_1 := kf BK119.out 1; have hfz12_2 := kf BK119.out 2; have hnb13 := NB120_121.out; have hnc13 := NB121_120.out; have hnb14 := NB120_122.out; have hnc14 := NB122_120.out; have hcz15_0 : w8.cell? ⟨gb120, 0, none⟩ = some (.bool a1_0) := (kc BK120.out 0).trans rfl; have hcz15_1 : w8.cell? ⟨gb120, 1, none⟩ = some (.int .i64 a1_1) := (kc BK120.out 1).trans rfl; have hcz15_2 : w8.cell? ⟨gb120, 2, none⟩ = some (.string a1_2) := (kc BK120.out 2).trans rfl; have hfz15_0 := kf BK120.out 0; have hfz15_1 := kf BK120.out 1; have hfz15_2 := kf BK120.out 2) | ((with_reducible refine gate_callee (f := 36) rfl ?_); refine goesL_ (some 12) rfl rfl Tryz.func36 (by kernel_rfl) rfl #[.int .i64 (wrap64 (a0_1 + a1_1))] rfl xr ?_; (with_reducible refine (value_Num.calls (wrap64 (a0_1 + a1_1)) t123 t124 t125 _ (Tabs.below hT xf) A4.out).mono ?_); rintro e w16 ⟨rfl, hb⟩; refine ⟨_, rfl, ?_⟩; replace BK119 := xd BK119.out hb; replace BK120 := xd BK120.out hb; replace BK121 := xd BK121.out hb; replace BK122 := xd BK122.out hb; replace HB := xy (below_step xb hb); (try clear hb); (try clear hb2); (try clear hk); (try clear hi); have hnb17 := NB122_121.out; have hnc17 := NB121_122.out; have hcz18_0 : w16.cell? ⟨gb122, 0, none⟩ = some (.bool false) := (kc BK122.out 0).trans rfl; have hcz18_1 : w16.cell? ⟨gb122, 1, none⟩ = some (.int .i64 0) := (kc BK122.out 1).trans rfl; have hcz18_2 : w16.cell? ⟨gb122, 2, none⟩ = some (.string (⟨#[]⟩ : ByteArray)) := (kc BK122.out 2).trans rfl; have hfz18_0 := kf BK122.out 0; have hfz18_1 := kf BK122.out 1; have hfz18_2 := kf BK122.out 2))
 refine bodyPost_ret (results_cell_row rfl _ _ gb122 32 #[.bool t123, .int .i64 t124, .string t125] (0, 0) _ rfl (kp BK122.out) Tryz.underlying32 rfl (by kernel_rfl)) rfl ?_
 exact ⟨xe, xb⟩
def value_val_sub.f (a0_0 : Bool) (a0_1 : Int) (a0_2 : ByteArray) (a1_0 : Bool) (a1_1 : Int) (a1_2 : ByteArray) (a2_0 : Bool) (a2_1 : Int) (a2_2 : ByteArray) : Option (Bool × Int × ByteArray) := (value_Num.f (wrap64 (a0_1 - a1_1))).bind fun bt130 => (some (bt130.1, bt130.2.1, bt130.2.2))
set_option maxHeartbeats 8000000 in
set_option maxRecDepth 100000 in
theorem value_val_sub.calls (a0_0 : Bool) (a0_1 : Int) (a0_2 : ByteArray) (a1_0 : Bool) (a1_1 : Int) (a1_2 : ByteArray) (a2_0 : Bool) (a2_1 : Int) (a2_2 : ByteArray) (r1 : Bool) (r2 : Int) (r3 : ByteArray) (w : World) (hT : Tabs w) (h : value_val_sub.f a0_0 a0_1 a0_2 a1_0 a1_1 a1_2 a2_0 a2_1 a2_2 = some (r1, r2, r3)) :
  Calls Tryz.prog 71 #[.agg #[.bool a0_0, .int .i64 a0_1, .string a0_2], .agg #[.bool a1_0, .int .i64 a1_1, .string a1_2], .agg #[.bool a2_0, .int .i64 a2_1, .string a2_2]] w fun e w' => e = .returned (.agg #[.bool r1, .int .i64 r2, .string r3]) ∧ Below w.heap.size w w' := by
 have hu104 := Tryz.underlying104
 have hu32 := Tryz.underlying32
 have HB := xy (Below.refl w.heap.size w)
 unfold value_val_sub.f at h
 have H := h
 clear h
 replace H := xj H
 obtain ⟨⟨t130, t131, t132⟩, A40, H⟩ := H
 try dsimp only at H
 have A4 := xy A40
 clear A40
 simp only [Option.some.injEq, Prod.mk.injEq] at H
 obtain ⟨rfl, rfl, rfl⟩ := H
 go_enter Tryz.func71, Tryz.ntmps71
 go_wp2_with (first | ((with_reducible refine gate_dst (N := 3) rfl ?_); refine xq (N := 3) (cs := #[.bool a0_0, .int .i64 a0_1, .string a0_2]) (t := 104) ?_; intro gb126 hg w5 hbox hb; have BK126 := xy (hbox); have GW126 := xs w hg; have GE126 := xs w hg; replace HB := xy (below_step xb hb); clear hb hbox hg) | ((with_reducible refine gate_dst (N := 4) rfl ?_); refine xq (N := 4) (cs := #[.bool a1_0, .int .i64 a1_1, .string a1_2]) (t := 104) ?_; intro gb127 hg w6 hbox hb; have BK127 := xy (hbox); have GW127 := xs w hg; have GE127 := xs w hg; replace HB := xy (below_step xb hb); have NB126_127 := xn hg BK126.out; have NB127_126 := xp hg BK126.out; replace BK126 := xd BK126.out hb; clear hb hbox hg) | ((with_reducible refine gate_dst (N := 5) rfl ?_); refine xq (N := 5) (cs := #[.bool a2_0, .int .i64 a2_1, .string a2_2]) (t := 104) ?_; intro gb128 hg w7 hbox hb; have BK128 := xy (hbox); have GW128 := xs w hg; have GE128 := xs w hg; replace HB := xy (below_step xb hb); have NB126_128 := xn hg BK126.out; have NB128_126 := xp hg BK126.out; replace BK126 := xd BK126.out hb; have NB127_128 := xn hg BK127.out; have NB128_127 := xp hg BK127.out; replace BK127 := xd BK127.out hb; clear hb hbox hg) | ((with_reducible refine gate_dst (N := 6) rfl ?_); refine xq (N := 6) (cs := #[.bool false, .int .i64 0, .string (⟨#[]⟩ : ByteArray)]) (t := 32) ?_; intro gb129 hg w8 hbox hb; have BK129 := xy (hbox); have GW129 := xs w hg; have GE129 := xs w hg; replace HB := xy (below_step xb hb); have NB126_129 := xn hg BK126.out; have NB129_126 := xp hg BK126.out; replace BK126 := xd BK126.out hb; have NB127_129 := xn hg BK127.out; have NB129_127 := xp hg BK127.out; replace BK127 := xd BK127.out hb; have NB128_129 := xn hg BK128.out; have NB129_128 := xp hg BK128.out; replace BK128 := xd BK128.out hb; clear hb hbox hg; have hnb9 := NB126_127.out; have hnc9 := NB127_126.out; have hnb10 := NB126_128.out; have hnc10 := NB128_126.out; have hnb11 := NB126_129.out; have hnc11 := NB129_126.out; have hcz12_0 : w8.cell? ⟨gb126, 0, none⟩ = some (.bool a0_0) := (kc BK126.out 0).trans rfl; have hcz12_1 : w8.cell? ⟨gb126, 1, none⟩ = some (.int .i64 a0_1) := (kc BK126.out 1).trans rfl; have hcz12_2 : w8.cell? ⟨gb126, 2, none⟩ = some (.string a0_2) := (kc BK126.out 2).trans rfl; have hfz12_0 := kf BK126.out 0; have hfz12_1 := kf BK126.out 1; have hfz12_2 := kf BK126.out 2; have hnb13 := NB127_128.out; have hnc13 := NB128_127.out; have hnb14 := NB127_129.out; have hnc14 := NB129_127.out; have hcz15_0 : w8.cell? ⟨gb127, 0, none⟩ = some (.bool a1_0) := (kc BK127.out 0).trans rfl; have hcz15_1 : w8.cell? ⟨gb127, 1, none⟩ = some (.int .i64 a1_1) := (kc BK127.out 1).trans rfl; have hcz15_2 : w8.cell? ⟨gb127, 2, none⟩ = some (.string a1_2) := (kc BK127.out 2).trans rfl; have hfz15_0 := kf BK127.out 0; have hfz15_1 := kf BK127.out 1; have hfz15_2 := kf BK127.out 2) | ((with_reducible refine gate_callee (f := 36) rfl ?_); refine goesL_ (some 12) rfl rfl Tryz.func36 (by kernel_rfl) rfl #[.int .i64 (wrap64 (a0_1 - a1_1))] rfl xr ?_; (with_reducible refine (value_Num.calls (wrap64 (a0_1 - a1_1)) t130 t131 t132 _ (Tabs.below hT xf) A4.out).mono ?_); rintro e w16 ⟨rfl, hb⟩; refine ⟨_, rfl, ?_⟩; replace BK126 := xd BK126.out hb; replace BK127 := xd BK127.out hb; replace BK128 := xd BK128.out hb; replace BK129 := xd BK129.out hb; replace HB := xy (below_step xb hb); (try clear hb); (try clear hb2); (try clear hk); (try clear hi); have hnb17 := NB129_128.out; have hnc17 := NB128_129.out; have hcz18_0 : w16.cell? ⟨gb129, 0, none⟩ = some (.bool false) := (kc BK129.out 0).trans rfl; have hcz18_1 : w16.cell? ⟨gb129, 1, none⟩ = some (.int .i64 0) := (kc BK129.out 1).trans rfl; have hcz18_2 : w16.cell? ⟨gb129, 2, none⟩ = some (.string (⟨#[]⟩ : ByteArray)) := (kc BK129.out 2).trans rfl; have hfz18_0 := kf BK129.out 0; have hfz18_1 := kf BK129.out 1; have hfz18_2 := kf BK129.out 2))
 refine bodyPost_ret (results_cell_row rfl _ _ gb129 32 #[.bool t130, .int .i64 t131, .string t132] (0, 0) _ rfl (kp BK129.out) Tryz.underlying32 rfl (by kernel_rfl)) rfl ?_
 exact ⟨xe, xb⟩
def value_val_mul.f (a0_0 : Bool) (a0_1 : Int) (a0_2 : ByteArray) (a1_0 : Bool) (a1_1 : Int) (a1_2 : ByteArray) (a2_0 : Bool) (a2_1 : Int) (a2_2 : ByteArray) : Option (Bool × Int × ByteArray) := (value_Num.f (wrap64 (a0_1 * a1_1))).bind fun bt137 => (some (bt137.1, bt137.2.1, bt137.2.2))
set_option maxHeartbeats 8000000 in
set_option maxRecDepth 100000 in
theorem value_val_mul.calls (a0_0 : Bool) (a0_1 : Int) (a0_2 : ByteArray) (a1_0 : Bool) (a1_1 : Int) (a1_2 : ByteArray) (a2_0 : Bool) (a2_1 : Int) (a2_2 : ByteArray) (r1 : Bool) (r2 : Int) (r3 : ByteArray) (w : World) (hT : Tabs w) (h : value_val_mul.f a0_0 a0_1 a0_2 a1_0 a1_1 a1_2 a2_0 a2_1 a2_2 = some (r1, r2, r3)) :
  Calls Tryz.prog 72 #[.agg #[.bool a0_0, .int .i64 a0_1, .string a0_2], .agg #[.bool a1_0, .int .i64 a1_1, .string a1_2], .agg #[.bool a2_0, .int .i64 a2_1, .string a2_2]] w fun e w' => e = .returned (.agg #[.bool r1, .int .i64 r2, .string r3]) ∧ Below w.heap.size w w' := by
 have hu104 := Tryz.underlying104
 have hu32 := Tryz.underlying32
 have HB := xy (Below.refl w.heap.size w)
 unfold value_val_mul.f at h
 have H := h
 clear h
 replace H := xj H
 obtain ⟨⟨t137, t138, t139⟩, A40, H⟩ := H
 try dsimp only at H
 have A4 := xy A40
 clear A40
 simp only [Option.some.injEq, Prod.mk.injEq] at H
 obtain ⟨rfl, rfl, rfl⟩ := H
 go_enter Tryz.func72, Tryz.ntmps72
 go_wp2_with (first | ((with_reducible refine gate_dst (N := 3) rfl ?_); refine xq (N := 3) (cs := #[.bool a0_0, .int .i64 a0_1, .string a0_2]) (t := 104) ?_; intro gb133 hg w5 hbox hb; have BK133 := xy (hbox); have GW133 := xs w hg; have GE133 := xs w hg; replace HB := xy (below_step xb hb); clear hb hbox hg) | ((with_reducible refine gate_dst (N := 4) rfl ?_); refine xq (N := 4) (cs := #[.bool a1_0, .int .i64 a1_1, .string a1_2]) (t := 104) ?_; intro gb134 hg w6 hbox hb; have BK134 := xy (hbox); have GW134 := xs w hg; have GE134 := xs w hg; replace HB := xy (below_step xb hb); have NB133_134 := xn hg BK133.out; have NB134_133 := xp hg BK133.out; replace BK133 := xd BK133.out hb; clear hb hbox hg) | ((with_reducible refine gate_dst (N := 5) rfl ?_); refine xq (N := 5) (cs := #[.bool a2_0, .int .i64 a2_1, .string a2_2]) (t := 104) ?_; intro gb135 hg w7 hbox hb; have BK135 := xy (hbox); have GW135 := xs w hg; have GE135 := xs w hg; replace HB := xy (below_step xb hb); have NB133_135 := xn hg BK133.out; have NB135_133 := xp hg BK133.out; replace BK133 := xd BK133.out hb; have NB134_135 := xn hg BK134.out; have NB135_134 := xp hg BK134.out; replace BK134 := xd BK134.out hb; clear hb hbox hg) | ((with_reducible refine gate_dst (N := 6) rfl ?_); refine xq (N := 6) (cs := #[.bool false, .int .i64 0, .string (⟨#[]⟩ : ByteArray)]) (t := 32) ?_; intro gb136 hg w8 hbox hb; have BK136 := xy (hbox); have GW136 := xs w hg; have GE136 := xs w hg; replace HB := xy (below_step xb hb); have NB133_136 := xn hg BK133.out; have NB136_133 := xp hg BK133.out; replace BK133 := xd BK133.out hb; have NB134_136 := xn hg BK134.out; have NB136_134 := xp hg BK134.out; replace BK134 := xd BK134.out hb; have NB135_136 := xn hg BK135.out; have NB136_135 := xp hg BK135.out; replace BK135 := xd BK135.out hb; clear hb hbox hg; have hnb9 := NB133_134.out; have hnc9 := NB134_133.out; have hnb10 := NB133_135.out; have hnc10 := NB135_133.out; have hnb11 := NB133_136.out; have hnc11 := NB136_133.out; have hcz12_0 : w8.cell? ⟨gb133, 0, none⟩ = some (.bool a0_0) := (kc BK133.out 0).trans rfl; have hcz12_1 : w8.cell? ⟨gb133, 1, none⟩ = some (.int .i64 a0_1) := (kc BK133.out 1).trans rfl; have hcz12_2 : w8.cell? ⟨gb133, 2, none⟩ = some (.string a0_2) := (kc BK133.out 2).trans rfl; have hfz12_0 := kf BK133.out 0; have hfz12_1 := kf BK133.out 1; have hfz12_2 := kf BK133.out 2; have hnb13 := NB134_135.out; have hnc13 := NB135_134.out; have hnb14 := NB134_136.out; have hnc14 := NB136_134.out; have hcz15_0 : w8.cell? ⟨gb134, 0, none⟩ = some (.bool a1_0) := (kc BK134.out 0).trans rfl; have hcz15_1 : w8.cell? ⟨gb134, 1, none⟩ = some (.int .i64 a1_1) := (kc BK134.out 1).trans rfl; have hcz15_2 : w8.cell? ⟨gb134, 2, none⟩ = some (.string a1_2) := (kc BK134.out 2).trans rfl; have hfz15_0 := kf BK134.out 0; have hfz15_1 := kf BK134.out 1; have hfz15_2 := kf BK134.out 2) | ((with_reducible refine gate_callee (f := 36) rfl ?_); refine goesL_ (some 12) rfl rfl Tryz.func36 (by kernel_rfl) rfl #[.int .i64 (wrap64 (a0_1 * a1_1))] rfl xr ?_; (with_reducible refine (value_Num.calls (wrap64 (a0_1 * a1_1)) t137 t138 t139 _ (Tabs.below hT xf) A4.out).mono ?_); rintro e w16 ⟨rfl, hb⟩; refine ⟨_, rfl, ?_⟩; replace BK133 := xd BK133.out hb; replace BK134 := xd BK134.out hb; replace BK135 := xd BK135.out hb; replace BK136 := xd BK136.out hb; replace HB := xy (below_step xb hb); (try clear hb); (try clear hb2); (try clear hk); (try clear hi); have hnb17 := NB136_135.out; have hnc17 := NB135_136.out; have hcz18_0 : w16.cell? ⟨gb136, 0, none⟩ = some (.bool false) := (kc BK136.out 0).trans rfl; have hcz18_1 : w16.cell? ⟨gb136, 1, none⟩ = some (.int .i64 0) := (kc BK136.out 1).trans rfl; have hcz18_2 : w16.cell? ⟨gb136, 2, none⟩ = some (.string (⟨#[]⟩ : ByteArray)) := (kc BK136.out 2).trans rfl; have hfz18_0 := kf BK136.out 0; have hfz18_1 := kf BK136.out 1; have hfz18_2 := kf BK136.out 2))
 refine bodyPost_ret (results_cell_row rfl _ _ gb136 32 #[.bool t137, .int .i64 t138, .string t139] (0, 0) _ rfl (kp BK136.out) Tryz.underlying32 rfl (by kernel_rfl)) rfl ?_
 exact ⟨xe, xb⟩
def value_val_div.f (a0_0 : Bool) (a0_1 : Int) (a0_2 : ByteArray) (a1_0 : Bool) (a1_1 : Int) (a1_2 : ByteArray) (a2_0 : Bool) (a2_1 : Int) (a2_2 : ByteArray) : Option (Bool × Int × ByteArray) := if a1_1 = 0 then ((value_Num.f 0).bind fun bt144 => (some (bt144.1, bt144.2.1, bt144.2.2))) else ((value_Num.f (wrap64 (Int.tdiv a0_1 a1_1))).bind fun bt147 => (some (bt147.1, bt147.2.1, bt147.2.2)))
set_option maxHeartbeats 8000000 in
set_option maxRecDepth 100000 in
theorem value_val_div.calls (a0_0 : Bool) (a0_1 : Int) (a0_2 : ByteArray) (a1_0 : Bool) (a1_1 : Int) (a1_2 : ByteArray) (a2_0 : Bool) (a2_1 : Int) (a2_2 : ByteArray) (r1 : Bool) (r2 : Int) (r3 : ByteArray) (w : World) (hT : Tabs w) (h : value_val_div.f a0_0 a0_1 a0_2 a1_0 a1_1 a1_2 a2_0 a2_1 a2_2 = some (r1, r2, r3)) :
  Calls Tryz.prog 73 #[.agg #[.bool a0_0, .int .i64 a0_1, .string a0_2], .agg #[.bool a1_0, .int .i64 a1_1, .string a1_2], .agg #[.bool a2_0, .int .i64 a2_1, .string a2_2]] w fun e w' => e = .returned (.agg #[.bool r1, .int .i64 r2, .string r3]) ∧ Below w.heap.size w w' := by
 have hu104 := Tryz.underlying104
 have hu32 := Tryz.underlying32
 have HB := xy (Below.refl w.heap.size w)
 unfold value_val_div.f at h
 have H := h
 clear h
 by_cases c4 : a1_1 = 0
 ·rw [if_pos c4] at H
  have c4b0 : (a1_1 == 0) = true := beq_iff_eq.mpr c4
  have c4b1 : (a1_1 != 0) = false := bne_eq_false_iff_eq.mpr c4
  clear c4
  replace H := xj H
  obtain ⟨⟨t144, t145, t146⟩, A50, H⟩ := H
  try dsimp only at H
  have A5 := xy A50
  clear A50
  simp only [Option.some.injEq, Prod.mk.injEq] at H
  obtain ⟨rfl, rfl, rfl⟩ := H
  go_enter Tryz.func73, Tryz.ntmps73
  go_wp2_with (first | ((with_reducible refine gate_dst (N := 3) rfl ?_); refine xq (N := 3) (cs := #[.bool a0_0, .int .i64 a0_1, .string a0_2]) (t := 104) ?_; intro gb140 hg w6 hbox hb; have BK140 := xy (hbox); have GW140 := xs w hg; have GE140 := xs w hg; replace HB := xy (below_step xb hb); clear hb hbox hg) | ((with_reducible refine gate_dst (N := 4) rfl ?_); refine xq (N := 4) (cs := #[.bool a1_0, .int .i64 a1_1, .string a1_2]) (t := 104) ?_; intro gb141 hg w7 hbox hb; have BK141 := xy (hbox); have GW141 := xs w hg; have GE141 := xs w hg; replace HB := xy (below_step xb hb); have NB140_141 := xn hg BK140.out; have NB141_140 := xp hg BK140.out; replace BK140 := xd BK140.out hb; clear hb hbox hg) | ((with_reducible refine gate_dst (N := 5) rfl ?_); refine xq (N := 5) (cs := #[.bool a2_0, .int .i64 a2_1, .string a2_2]) (t := 104) ?_; intro gb142 hg w8 hbox hb; have BK142 := xy (hbox); have GW142 := xs w hg; have GE142 := xs w hg; replace HB := xy (below_step xb hb); have NB140_142 := xn hg BK140.out; have NB142_140 := xp hg BK140.out; replace BK140 := xd BK140.out hb; have NB141_142 := xn hg BK141.out; have NB142_141 := xp hg BK141.out; replace BK141 := xd BK141.out hb; clear hb hbox hg) | ((with_reducible refine gate_dst (N := 6) rfl ?_); refine xq (N := 6) (cs := #[.bool false, .int .i64 0, .string (⟨#[]⟩ : ByteArray)]) (t := 32) ?_; intro gb143 hg w9 hbox hb; have BK143 := xy (hbox); have GW143 := xs w hg; have GE143 := xs w hg; replace HB := xy (below_step xb hb); have NB140_143 := xn hg BK140.out; have NB143_140 := xp hg BK140.out; replace BK140 := xd BK140.out hb; have NB141_143 := xn hg BK141.out; have NB143_141 := xp hg BK141.out; replace BK141 := xd BK141.out hb; have NB142_143 := xn hg BK142.out; have NB143_142 := xp hg BK142.out; replace BK142 := xd BK142.out hb; clear hb hbox hg; have hnb10 := NB141_140.out; have hnc10 := NB140_141.out; have hnb11 := NB141_142.out; have hnc11 := NB142_141.out; have hnb12 := NB141_143.out; have hnc12 := NB143_141.out; have hcz13_0 : w9.cell? ⟨gb141, 0, none⟩ = some (.bool a1_0) := (kc BK141.out 0).trans rfl; have hcz13_1 : w9.cell? ⟨gb141, 1, none⟩ = some (.int .i64 a1_1) := (kc BK141.out 1).trans rfl; have hcz13_2 : w9.cell? ⟨gb141, 2, none⟩ = some (.string a1_2) := (kc BK141.out 2).trans rfl; have hfz13_0 := kf BK141.out 0; have hfz13_1 := kf BK141.out 1; have hfz13_2 := kf BK141.out 2) | ((with_reducible refine gate_callee (f := 36) rfl ?_); refine goesL_ (some 10) rfl rfl Tryz.func36 (by kernel_rfl) rfl #[.int .i64 0] rfl xr ?_; (with_reducible refine (value_Num.calls 0 t144 t145 t146 _ (Tabs.below hT xf) A5.out).mono ?_); rintro e w14 ⟨rfl, hb⟩; refine ⟨_, rfl, ?_⟩; replace BK140 := xd BK140.out hb; replace BK141 := xd BK141.out hb; replace BK142 := xd BK142.out hb; replace BK143 := xd BK143.out hb; replace HB := xy (below_step xb hb); (try clear hb); (try clear hb2); (try clear hk); (try clear hi); have hnb15 := NB143_140.out; have hnc15 := NB140_143.out; have hnb16 := NB143_142.out; have hnc16 := NB142_143.out; have hcz17_0 : w14.cell? ⟨gb143, 0, none⟩ = some (.bool false) := (kc BK143.out 0).trans rfl; have hcz17_1 : w14.cell? ⟨gb143, 1, none⟩ = some (.int .i64 0) := (kc BK143.out 1).trans rfl; have hcz17_2 : w14.cell? ⟨gb143, 2, none⟩ = some (.string (⟨#[]⟩ : ByteArray)) := (kc BK143.out 2).trans rfl; have hfz17_0 := kf BK143.out 0; have hfz17_1 := kf BK143.out 1; have hfz17_2 := kf BK143.out 2))
  refine bodyPost_ret (results_cell_row rfl _ _ gb143 32 #[.bool t144, .int .i64 t145, .string t146] (0, 0) _ rfl (kp BK143.out) Tryz.underlying32 rfl (by kernel_rfl)) rfl ?_
  exact ⟨xe, xb⟩
 ·rw [if_neg c4] at H
  have c4b0 : (a1_1 == 0) = false := beq_eq_false_iff_ne.mpr c4
  have c4b1 : (a1_1 != 0) = true := bne_iff_ne.mpr c4
  replace H := xj H
  obtain ⟨⟨t147, t148, t149⟩, A180, H⟩ := H
  try dsimp only at H
  have A18 := xy A180
  clear A180
  simp only [Option.some.injEq, Prod.mk.injEq] at H
  obtain ⟨rfl, rfl, rfl⟩ := H
  go_enter Tryz.func73, Tryz.ntmps73
  go_wp2_with (first | ((with_reducible refine gate_dst (N := 3) rfl ?_); refine xq (N := 3) (cs := #[.bool a0_0, .int .i64 a0_1, .string a0_2]) (t := 104) ?_; intro gb140 hg w19 hbox hb; have BK140 := xy (hbox); have GW140 := xs w hg; have GE140 := xs w hg; replace HB := xy (below_step xb hb); clear hb hbox hg) | ((with_reducible refine gate_dst (N := 4) rfl ?_); refine xq (N := 4) (cs := #[.bool a1_0, .int .i64 a1_1, .string a1_2]) (t := 104) ?_; intro gb141 hg w20 hbox hb; have BK141 := xy (hbox); have GW141 := xs w hg; have GE141 := xs w hg; replace HB := xy (below_step xb hb); have NB140_141 := xn hg BK140.out; have NB141_140 := xp hg BK140.out; replace BK140 := xd BK140.out hb; clear hb hbox hg) | ((with_reducible refine gate_dst (N := 5) rfl ?_); refine xq (N := 5) (cs := #[.bool a2_0, .int .i64 a2_1, .string a2_2]) (t := 104) ?_; intro gb142 hg w21 hbox hb; have BK142 := xy (hbox); have GW142 := xs w hg; have GE142 := xs w hg; replace HB := xy (below_step xb hb); have NB140_142 := xn hg BK140.out; have NB142_140 := xp hg BK140.out; replace BK140 := xd BK140.out hb; have NB141_142 := xn hg BK141.out; have NB142_141 := xp hg BK141.out; replace BK141 := xd BK141.out hb; clear hb hbox hg) | ((with_reducible refine gate_dst (N := 6) rfl ?_); refine xq (N := 6) (cs := #[.bool false, .int .i64 0, .string (⟨#[]⟩ : ByteArray)]) (t := 32) ?_; intro gb143 hg w22 hbox hb; have BK143 := xy (hbox); have GW143 := xs w hg; have GE143 := xs w hg; replace HB := xy (below_step xb hb); have NB140_143 := xn hg BK140.out; have NB143_140 := xp hg BK140.out; replace BK140 := xd BK140.out hb; have NB141_143 := xn hg BK141.out; have NB143_141 := xp hg BK141.out; replace BK141 := xd BK141.out hb; have NB142_143 := xn hg BK142.out; have NB143_142 := xp hg BK142.out; replace BK142 := xd BK142.out hb; clear hb hbox hg; have hnb23 := NB141_140.out; have hnc23 := NB140_141.out; have hnb24 := NB141_142.out; have hnc24 := NB142_141.out; have hnb25 := NB141_143.out; have hnc25 := NB143_141.out; have hcz26_0 : w22.cell? ⟨gb141, 0, none⟩ = some (.bool a1_0) := (kc BK141.out 0).trans rfl; have hcz26_1 : w22.cell? ⟨gb141, 1, none⟩ = some (.int .i64 a1_1) := (kc BK141.out 1).trans rfl; have hcz26_2 : w22.cell? ⟨gb141, 2, none⟩ = some (.string a1_2) := (kc BK141.out 2).trans rfl; have hfz26_0 := kf BK141.out 0; have hfz26_1 := kf BK141.out 1; have hfz26_2 := kf BK141.out 2; have hnb27 := NB140_142.out; have hnc27 := NB142_140.out; have hnb28 := NB140_143.out; have hnc28 := NB143_140.out; have hcz29_0 : w22.cell? ⟨gb140, 0, none⟩ = some (.bool a0_0) := (kc BK140.out 0).trans rfl; have hcz29_1 : w22.cell? ⟨gb140, 1, none⟩ = some (.int .i64 a0_1) := (kc BK140.out 1).trans rfl; have hcz29_2 : w22.cell? ⟨gb140, 2, none⟩ = some (.string a0_2) := (kc BK140.out 2).trans rfl; have hfz29_0 := kf BK140.out 0; have hfz29_1 := kf BK140.out 1; have hfz29_2 := kf BK140.out 2) | ((with_reducible refine gate_callee (f := 36) rfl ?_); refine goesL_ (some 16) rfl rfl Tryz.func36 (by kernel_rfl) rfl #[.int .i64 (wrap64 (Int.tdiv a0_1 a1_1))] rfl xr ?_; (with_reducible refine (value_Num.calls (wrap64 (Int.tdiv a0_1 a1_1)) t147 t148 t149 _ (Tabs.below hT xf) A18.out).mono ?_); rintro e w30 ⟨rfl, hb⟩; refine ⟨_, rfl, ?_⟩; replace BK140 := xd BK140.out hb; replace BK141 := xd BK141.out hb; replace BK142 := xd BK142.out hb; replace BK143 := xd BK143.out hb; replace HB := xy (below_step xb hb); (try clear hb); (try clear hb2); (try clear hk); (try clear hi); have hnb31 := NB143_142.out; have hnc31 := NB142_143.out; have hcz32_0 : w30.cell? ⟨gb143, 0, none⟩ = some (.bool false) := (kc BK143.out 0).trans rfl; have hcz32_1 : w30.cell? ⟨gb143, 1, none⟩ = some (.int .i64 0) := (kc BK143.out 1).trans rfl; have hcz32_2 : w30.cell? ⟨gb143, 2, none⟩ = some (.string (⟨#[]⟩ : ByteArray)) := (kc BK143.out 2).trans rfl; have hfz32_0 := kf BK143.out 0; have hfz32_1 := kf BK143.out 1; have hfz32_2 := kf BK143.out 2))
  refine bodyPost_ret (results_cell_row rfl _ _ gb143 32 #[.bool t147, .int .i64 t148, .string t149] (0, 0) _ rfl (kp BK143.out) Tryz.underlying32 rfl (by kernel_rfl)) rfl ?_
  exact ⟨xe, xb⟩
def value_val_mod.f (a0_0 : Bool) (a0_1 : Int) (a0_2 : ByteArray) (a1_0 : Bool) (a1_1 : Int) (a1_2 : ByteArray) (a2_0 : Bool) (a2_1 : Int) (a2_2 : ByteArray) : Option (Bool × Int × ByteArray) := if a1_1 = 0 then ((value_Num.f 0).bind fun bt154 => (some (bt154.1, bt154.2.1, bt154.2.2))) else ((value_Num.f (Int.tmod a0_1 a1_1)).bind fun bt157 => (some (bt157.1, bt157.2.1, bt157.2.2)))
set_option maxHeartbeats 8000000 in
set_option maxRecDepth 100000 in
theorem value_val_mod.calls (a0_0 : Bool) (a0_1 : Int) (a0_2 : ByteArray) (a1_0 : Bool) (a1_1 : Int) (a1_2 : ByteArray) (a2_0 : Bool) (a2_1 : Int) (a2_2 : ByteArray) (r1 : Bool) (r2 : Int) (r3 : ByteArray) (w : World) (hT : Tabs w) (h : value_val_mod.f a0_0 a0_1 a0_2 a1_0 a1_1 a1_2 a2_0 a2_1 a2_2 = some (r1, r2, r3)) :
  Calls Tryz.prog 74 #[.agg #[.bool a0_0, .int .i64 a0_1, .string a0_2], .agg #[.bool a1_0, .int .i64 a1_1, .string a1_2], .agg #[.bool a2_0, .int .i64 a2_1, .string a2_2]] w fun e w' => e = .returned (.agg #[.bool r1, .int .i64 r2, .string r3]) ∧ Below w.heap.size w w' := by
 have hu104 := Tryz.underlying104
 have hu32 := Tryz.underlying32
 have HB := xy (Below.refl w.heap.size w)
 unfold value_val_mod.f at h
 have H := h
 clear h
 by_cases c4 : a1_1 = 0
 ·rw [if_pos c4] at H
  have c4b0 : (a1_1 == 0) = true := beq_iff_eq.mpr c4
  have c4b1 : (a1_1 != 0) = false := bne_eq_false_iff_eq.mpr c4
  clear c4
  replace H := xj H
  obtain ⟨⟨t154, t155, t156⟩, A50, H⟩ := H
  try dsimp only at H
  have A5 := xy A50
  clear A50
  simp only [Option.some.injEq, Prod.mk.injEq] at H
  obtain ⟨rfl, rfl, rfl⟩ := H
  go_enter Tryz.func74, Tryz.ntmps74
  go_wp2_with (first | ((with_reducible refine gate_dst (N := 3) rfl ?_); refine xq (N := 3) (cs := #[.bool a0_0, .int .i64 a0_1, .string a0_2]) (t := 104) ?_; intro gb150 hg w6 hbox hb; have BK150 := xy (hbox); have GW150 := xs w hg; have GE150 := xs w hg; replace HB := xy (below_step xb hb); clear hb hbox hg) | ((with_reducible refine gate_dst (N := 4) rfl ?_); refine xq (N := 4) (cs := #[.bool a1_0, .int .i64 a1_1, .string a1_2]) (t := 104) ?_; intro gb151 hg w7 hbox hb; have BK151 := xy (hbox); have GW151 := xs w hg; have GE151 := xs w hg; replace HB := xy (below_step xb hb); have NB150_151 := xn hg BK150.out; have NB151_150 := xp hg BK150.out; replace BK150 := xd BK150.out hb; clear hb hbox hg) | ((with_reducible refine gate_dst (N := 5) rfl ?_); refine xq (N := 5) (cs := #[.bool a2_0, .int .i64 a2_1, .string a2_2]) (t := 104) ?_; intro gb152 hg w8 hbox hb; have BK152 := xy (hbox); have GW152 := xs w hg; have GE152 := xs w hg; replace HB := xy (below_step xb hb); have NB150_152 := xn hg BK150.out; have NB152_150 := xp hg BK150.out; replace BK150 := xd BK150.out hb; have NB151_152 := xn hg BK151.out; have NB152_151 := xp hg BK151.out; replace BK151 := xd BK151.out hb; clear hb hbox hg) | ((with_reducible refine gate_dst (N := 6) rfl ?_); refine xq (N := 6) (cs := #[.bool false, .int .i64 0, .string (⟨#[]⟩ : ByteArray)]) (t := 32) ?_; intro gb153 hg w9 hbox hb; have BK153 := xy (hbox); have GW153 := xs w hg; have GE153 := xs w hg; replace HB := xy (below_step xb hb); have NB150_153 := xn hg BK150.out; have NB153_150 := xp hg BK150.out; replace BK150 := xd BK150.out hb; have NB151_153 := xn hg BK151.out; have NB153_151 := xp hg BK151.out; replace BK151 := xd BK151.out hb; have NB152_153 := xn hg BK152.out; have NB153_152 := xp hg BK152.out; replace BK152 := xd BK152.out hb; clear hb hbox hg; have hnb10 := NB151_150.out; have hnc10 := NB150_151.out; have hnb11 := NB151_152.out; have hnc11 := NB152_151.out; have hnb12 := NB151_153.out; have hnc12 := NB153_151.out; have hcz13_0 : w9.cell? ⟨gb151, 0, none⟩ = some (.bool a1_0) := (kc BK151.out 0).trans rfl; have hcz13_1 : w9.cell? ⟨gb151, 1, none⟩ = some (.int .i64 a1_1) := (kc BK151.out 1).trans rfl; have hcz13_2 : w9.cell? ⟨gb151, 2, none⟩ = some (.string a1_2) := (kc BK151.out 2).trans rfl; have hfz13_0 := kf BK151.out 0; have hfz13_1 := kf BK151.out 1; have hfz13_2 := kf BK151.out 2) | ((with_reducible refine gate_callee (f := 36) rfl ?_); refine goesL_ (some 10) rfl rfl Tryz.func36 (by kernel_rfl) rfl #[.int .i64 0] rfl xr ?_; (with_reducible refine (value_Num.calls 0 t154 t155 t156 _ (Tabs.below hT xf) A5.out).mono ?_); rintro e w14 ⟨rfl, hb⟩; refine ⟨_, rfl, ?_⟩; replace BK150 := xd BK150.out hb; replace BK151 := xd BK151.out hb; replace BK152 := xd BK152.out hb; replace BK153 := xd BK153.out hb; replace HB := xy (below_step xb hb); (try clear hb); (try clear hb2); (try clear hk); (try clear hi); have hnb15 := NB153_150.out; have hnc15 := NB150_153.out; have hnb16 := NB153_152.out; have hnc16 := NB152_153.out; have hcz17_0 : w14.cell? ⟨gb153, 0, none⟩ = some (.bool false) := (kc BK153.out 0).trans rfl; have hcz17_1 : w14.cell? ⟨gb153, 1, none⟩ = some (.int .i64 0) := (kc BK153.out 1).trans rfl; have hcz17_2 : w14.cell? ⟨gb153, 2, none⟩ = some (.string (⟨#[]⟩ : ByteArray)) := (kc BK153.out 2).trans rfl; have hfz17_0 := kf BK153.out 0; have hfz17_1 := kf BK153.out 1; have hfz17_2 := kf BK153.out 2))
  refine bodyPost_ret (results_cell_row rfl _ _ gb153 32 #[.bool t154, .int .i64 t155, .string t156] (0, 0) _ rfl (kp BK153.out) Tryz.underlying32 rfl (by kernel_rfl)) rfl ?_
  exact ⟨xe, xb⟩
 ·rw [if_neg c4] at H
  have c4b0 : (a1_1 == 0) = false := beq_eq_false_iff_ne.mpr c4
  have c4b1 : (a1_1 != 0) = true := bne_iff_ne.mpr c4
  replace H := xj H
  obtain ⟨⟨t157, t158, t159⟩, A180, H⟩ := H
  try dsimp only at H
  have A18 := xy A180
  clear A180
  simp only [Option.some.injEq, Prod.mk.injEq] at H
  obtain ⟨rfl, rfl, rfl⟩ := H
  go_enter Tryz.func74, Tryz.ntmps74
  go_wp2_with (first | ((with_reducible refine gate_dst (N := 3) rfl ?_); refine xq (N := 3) (cs := #[.bool a0_0, .int .i64 a0_1, .string a0_2]) (t := 104) ?_; intro gb150 hg w19 hbox hb; have BK150 := xy (hbox); have GW150 := xs w hg; have GE150 := xs w hg; replace HB := xy (below_step xb hb); clear hb hbox hg) | ((with_reducible refine gate_dst (N := 4) rfl ?_); refine xq (N := 4) (cs := #[.bool a1_0, .int .i64 a1_1, .string a1_2]) (t := 104) ?_; intro gb151 hg w20 hbox hb; have BK151 := xy (hbox); have GW151 := xs w hg; have GE151 := xs w hg; replace HB := xy (below_step xb hb); have NB150_151 := xn hg BK150.out; have NB151_150 := xp hg BK150.out; replace BK150 := xd BK150.out hb; clear hb hbox hg) | ((with_reducible refine gate_dst (N := 5) rfl ?_); refine xq (N := 5) (cs := #[.bool a2_0, .int .i64 a2_1, .string a2_2]) (t := 104) ?_; intro gb152 hg w21 hbox hb; have BK152 := xy (hbox); have GW152 := xs w hg; have GE152 := xs w hg; replace HB := xy (below_step xb hb); have NB150_152 := xn hg BK150.out; have NB152_150 := xp hg BK150.out; replace BK150 := xd BK150.out hb; have NB151_152 := xn hg BK151.out; have NB152_151 := xp hg BK151.out; replace BK151 := xd BK151.out hb; clear hb hbox hg) | ((with_reducible refine gate_dst (N := 6) rfl ?_); refine xq (N := 6) (cs := #[.bool false, .int .i64 0, .string (⟨#[]⟩ : ByteArray)]) (t := 32) ?_; intro gb153 hg w22 hbox hb; have BK153 := xy (hbox); have GW153 := xs w hg; have GE153 := xs w hg; replace HB := xy (below_step xb hb); have NB150_153 := xn hg BK150.out; have NB153_150 := xp hg BK150.out; replace BK150 := xd BK150.out hb; have NB151_153 := xn hg BK151.out; have NB153_151 := xp hg BK151.out; replace BK151 := xd BK151.out hb; have NB152_153 := xn hg BK152.out; have NB153_152 := xp hg BK152.out; replace BK152 := xd BK152.out hb; clear hb hbox hg; have hnb23 := NB151_150.out; have hnc23 := NB150_151.out; have hnb24 := NB151_152.out; have hnc24 := NB152_151.out; have hnb25 := NB151_153.out; have hnc25 := NB153_151.out; have hcz26_0 : w22.cell? ⟨gb151, 0, none⟩ = some (.bool a1_0) := (kc BK151.out 0).trans rfl; have hcz26_1 : w22.cell? ⟨gb151, 1, none⟩ = some (.int .i64 a1_1) := (kc BK151.out 1).trans rfl; have hcz26_2 : w22.cell? ⟨gb151, 2, none⟩ = some (.string a1_2) := (kc BK151.out 2).trans rfl; have hfz26_0 := kf BK151.out 0; have hfz26_1 := kf BK151.out 1; have hfz26_2 := kf BK151.out 2; have hnb27 := NB150_152.out; have hnc27 := NB152_150.out; have hnb28 := NB150_153.out; have hnc28 := NB153_150.out; have hcz29_0 : w22.cell? ⟨gb150, 0, none⟩ = some (.bool a0_0) := (kc BK150.out 0).trans rfl; have hcz29_1 : w22.cell? ⟨gb150, 1, none⟩ = some (.int .i64 a0_1) := (kc BK150.out 1).trans rfl; have hcz29_2 : w22.cell? ⟨gb150, 2, none⟩ = some (.string a0_2) := (kc BK150.out 2).trans rfl; have hfz29_0 := kf BK150.out 0; have hfz29_1 := kf BK150.out 1; have hfz29_2 := kf BK150.out 2) | ((with_reducible refine gate_callee (f := 36) rfl ?_); refine goesL_ (some 16) rfl rfl Tryz.func36 (by kernel_rfl) rfl #[.int .i64 (Int.tmod a0_1 a1_1)] rfl xr ?_; (with_reducible refine (value_Num.calls (Int.tmod a0_1 a1_1) t157 t158 t159 _ (Tabs.below hT xf) A18.out).mono ?_); rintro e w30 ⟨rfl, hb⟩; refine ⟨_, rfl, ?_⟩; replace BK150 := xd BK150.out hb; replace BK151 := xd BK151.out hb; replace BK152 := xd BK152.out hb; replace BK153 := xd BK153.out hb; replace HB := xy (below_step xb hb); (try clear hb); (try clear hb2); (try clear hk); (try clear hi); have hnb31 := NB153_152.out; have hnc31 := NB152_153.out; have hcz32_0 : w30.cell? ⟨gb153, 0, none⟩ = some (.bool false) := (kc BK153.out 0).trans rfl; have hcz32_1 : w30.cell? ⟨gb153, 1, none⟩ = some (.int .i64 0) := (kc BK153.out 1).trans rfl; have hcz32_2 : w30.cell? ⟨gb153, 2, none⟩ = some (.string (⟨#[]⟩ : ByteArray)) := (kc BK153.out 2).trans rfl; have hfz32_0 := kf BK153.out 0; have hfz32_1 := kf BK153.out 1; have hfz32_2 := kf BK153.out 2))
  refine bodyPost_ret (results_cell_row rfl _ _ gb153 32 #[.bool t157, .int .i64 t158, .string t159] (0, 0) _ rfl (kp BK153.out) Tryz.underlying32 rfl (by kernel_rfl)) rfl ?_
  exact ⟨xe, xb⟩
end Go.Proofs.YtnodgcakmolleaaGreatDoor.PX
