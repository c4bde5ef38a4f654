/- Walked functions, by this session's program over the kit's print. -/
import Derived.Test.YtialoecplmnjfaaGreatDoorXD
import Derived.Test.YtialoecplmnjfaaGreatDoorPXx0
import Derived.Test.YtialoecplmnjfaaGreatDoorPXx3
namespace Go.Proofs.YtialoecplmnjfaaGreatDoor.PX
open Go.RowKit Go.Proofs.YtialoecplmnjfaaGreatDoorW.PrintWords Go.Proofs.YtialoecplmnjfaaGreatDoorW.PrintLast Go.Proofs.YtialoecplmnjfaaGreatDoorW.PrintMore
attribute [local go_sem] xm_gtr max2_int min2_int max_two min_two max_three min_three max_four min_four
set_option linter.unusedVariables false
set_option linter.unusedSimpArgs false
/- Walked functions, by this session's program over the kit's print. -/
def code_May.f (a0_0 : Int) (a0_1 : Int) (a0_2 : ByteArray) : Option (Bool) := if a0_0 = 0 then ((code_isOp.f a0_0).bind fun t144 => (if t144 = true then (some (a0_2.toList == ([] : List UInt8))) else (some false))) else (if a0_0 = 1 then ((code_isOp.f a0_0).bind fun t145 => (if t145 = true then (if a0_1 = 0 then (some (decide ((a0_2.size : Int) ≤ 1000))) else (some false)) else (some false))) else (if a0_0 = 2 then (if a0_1 ≥ 0 then ((code_isOp.f a0_0).bind fun t146 => (if t146 = true then (if a0_1 < 50 then (some (a0_2.toList == ([] : List UInt8))) else (some false)) else (some false))) else ((code_isOp.f a0_0).bind fun t147 => (if t147 = true then (some false) else (some false)))) else ((code_isOp.f a0_0).bind fun t148 => (if t148 = true then (if a0_1 = 0 then (some (a0_2.toList == ([] : List UInt8))) else (some false)) else (some false)))))
set_option maxHeartbeats 8000000 in
set_option maxRecDepth 100000 in
theorem code_May.calls (a0_0 : Int) (a0_1 : Int) (a0_2 : ByteArray) (r : Bool) (w : World) (hT : Tabs w) (h : code_May.f a0_0 a0_1 a0_2 = some r) :
  Calls Tryz.prog 55 #[.agg #[.int .i64 a0_0, .int .i64 a0_1, .string a0_2]] w fun e w' => e = .returned (.bool r) ∧ Below w.heap.size w w' := by
 have hu50 := Tryz.underlying50
 have HB := xy (Below.refl w.heap.size w)
 unfold code_May.f at h
 have H := h
 clear h
 by_cases c2 : a0_0 = 0
 ·rw [if_pos c2] at H
  have c2b0 : (a0_0 == 0) = true := beq_iff_eq.mpr c2
  have c2b1 : (a0_0 != 0) = false := bne_eq_false_iff_eq.mpr c2
  clear c2
  replace H := xj H
  obtain ⟨t144, A30, H⟩ := H
  try dsimp only at H
  have A3 := xy A30
  clear A30
  by_cases c4 : t144 = true
  ·subst c4
   rw [if_pos rfl] at H
   obtain rfl := Option.some.inj H
   go_enter Tryz.func55, Tryz.ntmps55
   go_wp2_with (((with_reducible refine gate_dst (N := 1) rfl ?_); refine xq (N := 1) (cs := #[.int .i64 a0_0, .int .i64 a0_1, .string a0_2]) (t := 50) ?_; intro gb143 hg w5 hbox hb; have BK143 := xy (hbox); have GW143 := xs w hg; have GE143 := xs w hg; replace HB := xy (below_step xb hb); clear hb hbox hg; obtain ⟨hcz6_0, hcz6_1, hcz6_2⟩ := kt3 BK143.out))
   repeat (go_quiet (fail); try go_wp2_with ((go_at_call 61; (with_reducible refine (code_isOp.calls a0_0 true _ (Tabs.below hT xf) A3.out).mono ?_); rintro e w7 ⟨rfl, hb⟩; replace BK143 := xd BK143.out hb; replace HB := xy (below_step xb hb); (try clear hb); (try clear hb2); (try clear hk); (try clear hi))))
   go_ret
   exact ⟨xe, xb⟩
  ·replace c4 := Bool.eq_false_iff.mpr c4
   subst c4
   rw [if_neg (show ¬ (false = true) by decide)] at H
   obtain rfl := Option.some.inj H
   go_enter Tryz.func55, Tryz.ntmps55
   go_wp2_with (((with_reducible refine gate_dst (N := 1) rfl ?_); refine xq (N := 1) (cs := #[.int .i64 a0_0, .int .i64 a0_1, .string a0_2]) (t := 50) ?_; intro gb143 hg w8 hbox hb; have BK143 := xy (hbox); have GW143 := xs w hg; have GE143 := xs w hg; replace HB := xy (below_step xb hb); clear hb hbox hg; obtain ⟨hcz9_0, hcz9_1, hcz9_2⟩ := kt3 BK143.out))
   repeat (go_quiet (fail); try go_wp2_with ((go_at_call 61; (with_reducible refine (code_isOp.calls a0_0 false _ (Tabs.below hT xf) A3.out).mono ?_); rintro e w10 ⟨rfl, hb⟩; replace BK143 := xd BK143.out hb; replace HB := xy (below_step xb hb); (try clear hb); (try clear hb2); (try clear hk); (try clear hi))))
   go_ret
   exact ⟨xe, xb⟩
 ·rw [if_neg c2] at H
  have c2b0 : (a0_0 == 0) = false := beq_eq_false_iff_ne.mpr c2
  have c2b1 : (a0_0 != 0) = true := bne_iff_ne.mpr c2
  by_cases c11 : a0_0 = 1
  ·rw [if_pos c11] at H
   have c11b0 : (a0_0 == 1) = true := beq_iff_eq.mpr c11
   have c11b1 : (a0_0 != 1) = false := bne_eq_false_iff_eq.mpr c11
   clear c11
   replace H := xj H
   obtain ⟨t145, A120, H⟩ := H
   try dsimp only at H
   have A12 := xy A120
   clear A120
   by_cases c13 : t145 = true
   ·subst c13
    rw [if_pos rfl] at H
    by_cases c14 : a0_1 = 0
    ·rw [if_pos c14] at H
     have c14b0 : (a0_1 == 0) = true := beq_iff_eq.mpr c14
     have c14b1 : (a0_1 != 0) = false := bne_eq_false_iff_eq.mpr c14
     clear c14
     obtain rfl := Option.some.inj H
     go_enter Tryz.func55, Tryz.ntmps55
     go_wp2_with (((with_reducible refine gate_dst (N := 1) rfl ?_); refine xq (N := 1) (cs := #[.int .i64 a0_0, .int .i64 a0_1, .string a0_2]) (t := 50) ?_; intro gb143 hg w15 hbox hb; have BK143 := xy (hbox); have GW143 := xs w hg; have GE143 := xs w hg; replace HB := xy (below_step xb hb); clear hb hbox hg; obtain ⟨hcz16_0, hcz16_1, hcz16_2⟩ := kt3 BK143.out))
     repeat (go_quiet (fail); try go_wp2_with ((go_at_call 61; (with_reducible refine (code_isOp.calls a0_0 true _ (Tabs.below hT xf) A12.out).mono ?_); rintro e w17 ⟨rfl, hb⟩; replace BK143 := xd BK143.out hb; replace HB := xy (below_step xb hb); (try clear hb); (try clear hb2); (try clear hk); (try clear hi))))
     go_ret
     exact ⟨xe, xb⟩
    ·rw [if_neg c14] at H
     have c14b0 : (a0_1 == 0) = false := beq_eq_false_iff_ne.mpr c14
     have c14b1 : (a0_1 != 0) = true := bne_iff_ne.mpr c14
     obtain rfl := Option.some.inj H
     go_enter Tryz.func55, Tryz.ntmps55
     go_wp2_with (((with_reducible refine gate_dst (N := 1) rfl ?_); refine xq (N := 1) (cs := #[.int .i64 a0_0, .int .i64 a0_1, .string a0_2]) (t := 50) ?_; intro gb143 hg w18 hbox hb; have BK143 := xy (hbox); have GW143 := xs w hg; have GE143 := xs w hg; replace HB := xy (below_step xb hb); clear hb hbox hg; obtain ⟨hcz19_0, hcz19_1, hcz19_2⟩ := kt3 BK143.out))
     repeat (go_quiet (fail); try go_wp2_with ((go_at_call 61; (with_reducible refine (code_isOp.calls a0_0 true _ (Tabs.below hT xf) A12.out).mono ?_); rintro e w20 ⟨rfl, hb⟩; replace BK143 := xd BK143.out hb; replace HB := xy (below_step xb hb); (try clear hb); (try clear hb2); (try clear hk); (try clear hi))))
     go_ret
     exact ⟨xe, xb⟩
   ·replace c13 := Bool.eq_false_iff.mpr c13
    subst c13
    rw [if_neg (show ¬ (false = true) by decide)] at H
    obtain rfl := Option.some.inj H
    go_enter Tryz.func55, Tryz.ntmps55
    go_wp2_with (((with_reducible refine gate_dst (N := 1) rfl ?_); refine xq (N := 1) (cs := #[.int .i64 a0_0, .int .i64 a0_1, .string a0_2]) (t := 50) ?_; intro gb143 hg w21 hbox hb; have BK143 := xy (hbox); have GW143 := xs w hg; have GE143 := xs w hg; replace HB := xy (below_step xb hb); clear hb hbox hg; obtain ⟨hcz22_0, hcz22_1, hcz22_2⟩ := kt3 BK143.out))
    repeat (go_quiet (fail); try go_wp2_with ((go_at_call 61; (with_reducible refine (code_isOp.calls a0_0 false _ (Tabs.below hT xf) A12.out).mono ?_); rintro e w23 ⟨rfl, hb⟩; replace BK143 := xd BK143.out hb; replace HB := xy (below_step xb hb); (try clear hb); (try clear hb2); (try clear hk); (try clear hi))))
    go_ret
    exact ⟨xe, xb⟩
  ·rw [if_neg c11] at H
   have c11b0 : (a0_0 == 1) = false := beq_eq_false_iff_ne.mpr c11
   have c11b1 : (a0_0 != 1) = true := bne_iff_ne.mpr c11
   by_cases c24 : a0_0 = 2
   ·rw [if_pos c24] at H
    have c24b0 : (a0_0 == 2) = true := beq_iff_eq.mpr c24
    have c24b1 : (a0_0 != 2) = false := bne_eq_false_iff_eq.mpr c24
    clear c24
    by_cases c25 : a0_1 ≥ 0
    ·rw [if_pos c25] at H
     have c25b0 : decide (0 ≤ a0_1) = true := decide_eq_true c25
     clear c25
     replace H := xj H
     obtain ⟨t146, A260, H⟩ := H
     try dsimp only at H
     have A26 := xy A260
     clear A260
     by_cases c27 : t146 = true
     ·subst c27
      rw [if_pos rfl] at H
      by_cases c28 : a0_1 < 50
      ·rw [if_pos c28] at H
       have c28b0 : decide (a0_1 < 50) = true := decide_eq_true c28
       clear c28
       obtain rfl := Option.some.inj H
       go_enter Tryz.func55, Tryz.ntmps55
       go_wp2_with (((with_reducible refine gate_dst (N := 1) rfl ?_); refine xq (N := 1) (cs := #[.int .i64 a0_0, .int .i64 a0_1, .string a0_2]) (t := 50) ?_; intro gb143 hg w29 hbox hb; have BK143 := xy (hbox); have GW143 := xs w hg; have GE143 := xs w hg; replace HB := xy (below_step xb hb); clear hb hbox hg; obtain ⟨hcz30_0, hcz30_1, hcz30_2⟩ := kt3 BK143.out))
       repeat (go_quiet (fail); try go_wp2_with ((go_at_call 61; (with_reducible refine (code_isOp.calls a0_0 true _ (Tabs.below hT xf) A26.out).mono ?_); rintro e w31 ⟨rfl, hb⟩; replace BK143 := xd BK143.out hb; replace HB := xy (below_step xb hb); (try clear hb); (try clear hb2); (try clear hk); (try clear hi))))
       go_ret
       exact ⟨xe, xb⟩
      ·rw [if_neg c28] at H
       have c28b0 : decide (a0_1 < 50) = false := decide_eq_false c28
       clear c28
       obtain rfl := Option.some.inj H
       go_enter Tryz.func55, Tryz.ntmps55
       go_wp2_with (((with_reducible refine gate_dst (N := 1) rfl ?_); refine xq (N := 1) (cs := #[.int .i64 a0_0, .int .i64 a0_1, .string a0_2]) (t := 50) ?_; intro gb143 hg w32 hbox hb; have BK143 := xy (hbox); have GW143 := xs w hg; have GE143 := xs w hg; replace HB := xy (below_step xb hb); clear hb hbox hg; obtain ⟨hcz33_0, hcz33_1, hcz33_2⟩ := kt3 BK143.out))
       repeat (go_quiet (fail); try go_wp2_with ((go_at_call 61; (with_reducible refine (code_isOp.calls a0_0 true _ (Tabs.below hT xf) A26.out).mono ?_); rintro e w34 ⟨rfl, hb⟩; replace BK143 := xd BK143.out hb; replace HB := xy (below_step xb hb); (try clear hb); (try clear hb2); (try clear hk); (try clear hi))))
       go_ret
       exact ⟨xe, xb⟩
     ·replace c27 := Bool.eq_false_iff.mpr c27
      subst c27
      rw [if_neg (show ¬ (false = true) by decide)] at H
      obtain rfl := Option.some.inj H
      go_enter Tryz.func55, Tryz.ntmps55
      go_wp2_with (((with_reducible refine gate_dst (N := 1) rfl ?_); refine xq (N := 1) (cs := #[.int .i64 a0_0, .int .i64 a0_1, .string a0_2]) (t := 50) ?_; intro gb143 hg w35 hbox hb; have BK143 := xy (hbox); have GW143 := xs w hg; have GE143 := xs w hg; replace HB := xy (below_step xb hb); clear hb hbox hg; obtain ⟨hcz36_0, hcz36_1, hcz36_2⟩ := kt3 BK143.out))
      repeat (go_quiet (fail); try go_wp2_with ((go_at_call 61; (with_reducible refine (code_isOp.calls a0_0 false _ (Tabs.below hT xf) A26.out).mono ?_); rintro e w37 ⟨rfl, hb⟩; replace BK143 := xd BK143.out hb; replace HB := xy (below_step xb hb); (try clear hb); (try clear hb2); (try clear hk); (try clear hi))))
      go_ret
      exact ⟨xe, xb⟩
    ·rw [if_neg c25] at H
     have c25b0 : decide (0 ≤ a0_1) = false := decide_eq_false c25
     clear c25
     replace H := xj H
     obtain ⟨t147, A380, H⟩ := H
     try dsimp only at H
     have A38 := xy A380
     clear A380
     by_cases c39 : t147 = true
     ·subst c39
      rw [if_pos rfl] at H
      obtain rfl := Option.some.inj H
      go_enter Tryz.func55, Tryz.ntmps55
      go_wp2_with (((with_reducible refine gate_dst (N := 1) rfl ?_); refine xq (N := 1) (cs := #[.int .i64 a0_0, .int .i64 a0_1, .string a0_2]) (t := 50) ?_; intro gb143 hg w40 hbox hb; have BK143 := xy (hbox); have GW143 := xs w hg; have GE143 := xs w hg; replace HB := xy (below_step xb hb); clear hb hbox hg; obtain ⟨hcz41_0, hcz41_1, hcz41_2⟩ := kt3 BK143.out))
      repeat (go_quiet (fail); try go_wp2_with ((go_at_call 61; (with_reducible refine (code_isOp.calls a0_0 true _ (Tabs.below hT xf) A38.out).mono ?_); rintro e w42 ⟨rfl, hb⟩; replace BK143 := xd BK143.out hb; replace HB := xy (below_step xb hb); (try clear hb); (try clear hb2); (try clear hk); (try clear hi))))
      go_ret
      exact ⟨xe, xb⟩
     ·replace c39 := Bool.eq_false_iff.mpr c39
      subst c39
      rw [if_neg (show ¬ (false = true) by decide)] at H
      obtain rfl := Option.some.inj H
      go_enter Tryz.func55, Tryz.ntmps55
      go_wp2_with (((with_reducible refine gate_dst (N := 1) rfl ?_); refine xq (N := 1) (cs := #[.int .i64 a0_0, .int .i64 a0_1, .string a0_2]) (t := 50) ?_; intro gb143 hg w43 hbox hb; have BK143 := xy (hbox); have GW143 := xs w hg; have GE143 := xs w hg; replace HB := xy (below_step xb hb); clear hb hbox hg; obtain ⟨hcz44_0, hcz44_1, hcz44_2⟩ := kt3 BK143.out))
      repeat (go_quiet (fail); try go_wp2_with ((go_at_call 61; (with_reducible refine (code_isOp.calls a0_0 false _ (Tabs.below hT xf) A38.out).mono ?_); rintro e w45 ⟨rfl, hb⟩; replace BK143 := xd BK143.out hb; replace HB := xy (below_step xb hb); (try clear hb); (try clear hb2); (try clear hk); (try clear hi))))
      go_ret
      exact ⟨xe, xb⟩
   ·rw [if_neg c24] at H
    have c24b0 : (a0_0 == 2) = false := beq_eq_false_iff_ne.mpr c24
    have c24b1 : (a0_0 != 2) = true := bne_iff_ne.mpr c24
    replace H := xj H
    obtain ⟨t148, A460, H⟩ := H
    try dsimp only at H
    have A46 := xy A460
    clear A460
    by_cases c47 : t148 = true
    ·subst c47
     rw [if_pos rfl] at H
     by_cases c48 : a0_1 = 0
     ·rw [if_pos c48] at H
      have c48b0 : (a0_1 == 0) = true := beq_iff_eq.mpr c48
      have c48b1 : (a0_1 != 0) = false := bne_eq_false_iff_eq.mpr c48
      clear c48
      obtain rfl := Option.some.inj H
      go_enter Tryz.func55, Tryz.ntmps55
      go_wp2_with (((with_reducible refine gate_dst (N := 1) rfl ?_); refine xq (N := 1) (cs := #[.int .i64 a0_0, .int .i64 a0_1, .string a0_2]) (t := 50) ?_; intro gb143 hg w49 hbox hb; have BK143 := xy (hbox); have GW143 := xs w hg; have GE143 := xs w hg; replace HB := xy (below_step xb hb); clear hb hbox hg; obtain ⟨hcz50_0, hcz50_1, hcz50_2⟩ := kt3 BK143.out))
      repeat (go_quiet (fail); try go_wp2_with ((go_at_call 61; (with_reducible refine (code_isOp.calls a0_0 true _ (Tabs.below hT xf) A46.out).mono ?_); rintro e w51 ⟨rfl, hb⟩; replace BK143 := xd BK143.out hb; replace HB := xy (below_step xb hb); (try clear hb); (try clear hb2); (try clear hk); (try clear hi))))
      go_ret
      exact ⟨xe, xb⟩
     ·rw [if_neg c48] at H
      have c48b0 : (a0_1 == 0) = false := beq_eq_false_iff_ne.mpr c48
      have c48b1 : (a0_1 != 0) = true := bne_iff_ne.mpr c48
      obtain rfl := Option.some.inj H
      go_enter Tryz.func55, Tryz.ntmps55
      go_wp2_with (((with_reducible refine gate_dst (N := 1) rfl ?_); refine xq (N := 1) (cs := #[.int .i64 a0_0, .int .i64 a0_1, .string a0_2]) (t := 50) ?_; intro gb143 hg w52 hbox hb; have BK143 := xy (hbox); have GW143 := xs w hg; have GE143 := xs w hg; replace HB := xy (below_step xb hb); clear hb hbox hg; obtain ⟨hcz53_0, hcz53_1, hcz53_2⟩ := kt3 BK143.out))
      repeat (go_quiet (fail); try go_wp2_with ((go_at_call 61; (with_reducible refine (code_isOp.calls a0_0 true _ (Tabs.below hT xf) A46.out).mono ?_); rintro e w54 ⟨rfl, hb⟩; replace BK143 := xd BK143.out hb; replace HB := xy (below_step xb hb); (try clear hb); (try clear hb2); (try clear hk); (try clear hi))))
      go_ret
      exact ⟨xe, xb⟩
    ·replace c47 := Bool.eq_false_iff.mpr c47
     subst c47
     rw [if_neg (show ¬ (false = true) by decide)] at H
     obtain rfl := Option.some.inj H
     go_enter Tryz.func55, Tryz.ntmps55
     go_wp2_with (((with_reducible refine gate_dst (N := 1) rfl ?_); refine xq (N := 1) (cs := #[.int .i64 a0_0, .int .i64 a0_1, .string a0_2]) (t := 50) ?_; intro gb143 hg w55 hbox hb; have BK143 := xy (hbox); have GW143 := xs w hg; have GE143 := xs w hg; replace HB := xy (below_step xb hb); clear hb hbox hg; obtain ⟨hcz56_0, hcz56_1, hcz56_2⟩ := kt3 BK143.out))
     repeat (go_quiet (fail); try go_wp2_with ((go_at_call 61; (with_reducible refine (code_isOp.calls a0_0 false _ (Tabs.below hT xf) A46.out).mono ?_); rintro e w57 ⟨rfl, hb⟩; replace BK143 := xd BK143.out hb; replace HB := xy (below_step xb hb); (try clear hb); (try clear hb2); (try clear hk); (try clear hi))))
     go_ret
     exact ⟨xe, xb⟩
theorem check_Stack.may_some (x : XCheck.Ins) : ∃ b, code_May.f x.f0 x.f1 x.f2 = some b := by
 have hop : ∀ o, ∃ b, code_isOp.f o = some b := fun o => by
  unfold code_isOp.f value_Arity.f
  simp only [Option.bind_some]
  repeat' split
  all_goals exact ⟨_, rfl⟩
 obtain ⟨b, hb⟩ := hop x.f0
 unfold code_May.f
 simp only [hb, Option.bind_some]
 repeat' split
 all_goals exact ⟨_, rfl⟩
def check_Stack.may (x : XCheck.Ins) : Bool := (code_May.f x.f0 x.f1 x.f2).getD false
theorem check_Stack.may_eq (x : XCheck.Ins) : code_May.f x.f0 x.f1 x.f2 = some (check_Stack.may x) := by
 obtain ⟨b, hb⟩ := check_Stack.may_some x
 unfold check_Stack.may
 rw [hb]
 rfl
theorem check_Stack.may_calls (x : XCheck.Ins) (w : World) (hT : Tabs w) : Calls Tryz.prog 55 #[XCheck.insV x.f0 x.f1 x.f2] w fun e w' => e = .returned (.bool (check_Stack.may x)) ∧ Below w.heap.size w w' :=
 code_May.calls x.f0 x.f1 x.f2 _ w hT (check_Stack.may_eq x)
theorem check_Stack.arity_lt {o : Int} (h : 0 < XOps.arityF o) : o < 22 := by
 by_cases c : o < 22
 ·exact c
 ·have e : XOps.opFn o = none := by
   unfold XOps.opFn
   repeat' (rw [if_neg (by omega)])
  unfold XOps.arityF at h
  rw [e] at h
  cases h
theorem check_Stack.may_op (x : XCheck.Ins) (h : check_Stack.may x = true) (h2 : 22 ≤ x.f0) : x.f0 = 22 ∨ x.f0 = 23 := by
 have e := check_Stack.may_eq x
 rw [h] at e
 have hop : code_isOp.f x.f0 = some true := by
  rcases hq : code_isOp.f x.f0 with _ | b
  ·unfold code_May.f at e
   rw [hq] at e
   simp only [Option.bind_none, if_neg (show ¬ x.f0 = 0 by omega), if_neg (show ¬ x.f0 = 1 by omega), if_neg (show ¬ x.f0 = 2 by omega)] at e
   cases e
  ·cases b
   ·unfold code_May.f at e
    rw [hq] at e
    simp [if_neg (show ¬ x.f0 = 0 by omega), if_neg (show ¬ x.f0 = 1 by omega), if_neg (show ¬ x.f0 = 2 by omega)] at e
   ·rfl
 by_cases c : x.f0 = 22
 ·exact .inl c
 ·by_cases d : x.f0 = 23
  ·exact .inr d
  ·unfold code_isOp.f value_Arity.f at hop
   simp only [if_pos (show x.f0 ≥ 0 by omega), if_neg (show ¬ x.f0 ≤ 3 by omega), if_neg c, if_neg d, Option.bind_some] at hop
   have h3 := Option.some.inj hop
   have := check_Stack.arity_lt (of_decide_eq_true h3)
   omega
def check_Stack.f (l0 : List (S50)) (l1 : List Bool) : Option (List Bool × Int × Int) := some (XCheck.stackP check_Stack.may l0 l1)
theorem check_Stack.calls (A0 : Option Addr) (c0 : Nat) (l0 : List (S50)) (A1 : Option Addr) (c1 : Nat) (l1 : List Bool) (r1 : List Bool) (r2 : Int) (r3 : Int) (w : World) (hT : Tabs w) (hr0 : Kd.C k50 w A0 l0.length l0) (hc0 : l0.length ≤ c0) (hr1 : Kd.C Kd.bool w A1 l1.length l1) (hc1 : l1.length ≤ c1) (h : check_Stack.f l0 l1 = some (r1, r2, r3)) :
  Calls Tryz.prog 40 #[.slice A0 l0.length c0, .slice A1 l1.length c1] w fun e w' => ∃ v0_ : Value, e = .returned (.tuple #[v0_, .int .i64 r2, .int .i64 r3]) ∧ Kd.R Kd.bool 4 w' w.heap.size (fun _ => True) v0_ r1 ∧ Below w.heap.size w w' := by
 have e : XCheck.stackP check_Stack.may l0 l1 = (r1, r2, r3) := Option.some.inj h
 have := XCheck.stack_calls (T := Tabs) (fun w w' h hb => h.below hb) check_Stack.may check_Stack.may_calls check_Stack.may_op A0 c0 l0 A1 c1 l1 w hT hr0 hr1
 rw [e] at this
 exact this
def slices_Equal_bool_bool.l0 : Nat → List Bool → List Bool → Int → Int → Option (Bool)
 | 0, _, _, _, _ => none
 | k + 1, x0, x1, x12, x13 => if x13 < x12 then (if 0 ≤ x13 then (if x13 < (x0.length : Int) then (if x13 < (x1.length : Int) then (if ((rdOf false x0 x13) != (rdOf false x1 x13)) = true then (some false) else (slices_Equal_bool_bool.l0 k x0 x1 x12 (wrap64 (x13 + 1)))) else (none)) else (none)) else (none)) else (some true)
def slices_Equal_bool_bool.f (k : Nat) (l0 : List Bool) (l1 : List Bool) : Option (Bool) := if (l0.length : Int) = (l1.length : Int) then (slices_Equal_bool_bool.l0 k l0 l1 (l0.length : Int) 0) else (some false)
theorem slices_Equal_bool_bool.mono_l : ∀ k, (∀ y0 y1 y2 y3, LeO (slices_Equal_bool_bool.l0 k y0 y1 y2 y3) (slices_Equal_bool_bool.l0 (k + 1) y0 y1 y2 y3))
 | 0 => fun _ _ _ _ r h => by simp [slices_Equal_bool_bool.l0] at h
 | k + 1 => by
  have ih0 := slices_Equal_bool_bool.mono_l k
  ·intro y0 y1 y2 y3
   unfold slices_Equal_bool_bool.l0
   repeat' (with_reducible first | exact ih0 _ _ _ _ | exact LeO.refl _ | exact LeO.none _ | refine LeO.ite ?_ ?_ | refine LeO.bind ?_ (fun _ => ?_))
theorem slices_Equal_bool_bool.mono : ∀ a0 a1 k, LeO (slices_Equal_bool_bool.f k a0 a1) (slices_Equal_bool_bool.f (k + 1) a0 a1) := by
 intro a0 a1 k
 have ih0 := slices_Equal_bool_bool.mono_l k
 unfold slices_Equal_bool_bool.f
 repeat' (with_reducible first | exact ih0 _ _ _ _ | exact LeO.refl _ | exact LeO.none _ | refine LeO.ite ?_ ?_ | refine LeO.bind ?_ (fun _ => ?_))
set_option maxHeartbeats 8000000 in
set_option maxRecDepth 100000 in
theorem slices_Equal_bool_bool.calls (k : Nat) (A0 : Option Addr) (c0 : Nat) (l0 : List Bool) (A1 : Option Addr) (c1 : Nat) (l1 : List Bool) (r : Bool) (w : World) (hT : Tabs w) (hr0 : Kd.C Kd.bool w A0 l0.length l0) (hc0 : l0.length ≤ c0) (hr1 : Kd.C Kd.bool w A1 l1.length l1) (hc1 : l1.length ≤ c1) (h : slices_Equal_bool_bool.f k l0 l1 = some r) :
  Calls Tryz.prog 46 #[.slice A0 l0.length c0, .slice A1 l1.length c1] w fun e w' => e = .returned (.bool r) ∧ Drawn0 w w' := by
 have HR0 := xy hr0
 have HC0 := xy hc0
 clear hr0 hc0
 have HR1 := xy hr1
 have HC1 := xy hc1
 clear hr1 hc1
 unfold slices_Equal_bool_bool.f at h
 have H := h
 clear h
 by_cases c3 : (l0.length : Int) = (l1.length : Int)
 ·rw [if_pos c3] at H
  have c3b0 : ((l0.length : Int) == (l1.length : Int)) = true := beq_iff_eq.mpr c3
  have c3b1 : ((l0.length : Int) != (l1.length : Int)) = false := bne_eq_false_iff_eq.mpr c3
  have c3b2 : (l0.length == l1.length) = true := by first | simpa using c3 | (simp at c3 ⊢; omega)
  clear c3
  have H' := xy H
  clear H
  go_enter Tryz.func46, Tryz.ntmps46
  go_wp2
  repeat (go_quiet (fail); try go_wp2)
  go_loopg [13] k (fun kq v13 w' => ∃ (x13_1 : Int), v13 = .int .i64 x13_1 ∧ Aside0 (slices_Equal_bool_bool.l0 kq l0 l1 (l0.length : Int) x13_1 = some r) ∧ Aside0 (kq ≤ k) ∧ Drawn0 w w')
  case atStart => exact ⟨(0), xg, H', ⟨Nat.le_refl _⟩, by repeat (first | exact Drawn0.refl _ | apply Drawn0.step)⟩
  case round =>
   clear H'
   try clear c1
   try clear p2
   try clear c3
   try clear c3b0
   try clear c3b1
   try clear c3b2
   obtain ⟨x13_1, rfl, HA, HK1, ⟨m1, rfl⟩⟩ := hrel
   cases gk with
   | zero => exact absurd HA.out (by simp [slices_Equal_bool_bool.l0])
   | succ k1 =>
    have H := HA.out
    clear HA
    simp only [slices_Equal_bool_bool.l0] at H
    by_cases c4 : x13_1 < (l0.length : Int)
    ·rw [if_pos c4] at H
     have c4b0 : decide (x13_1 < (l0.length : Int)) = true := decide_eq_true c4
     clear c4
     by_cases c5 : 0 ≤ x13_1
     ·rw [if_pos c5] at H
      have c5b0 : decide (0 ≤ x13_1) = true := decide_eq_true c5
      clear c5
      by_cases c6 : x13_1 < (l0.length : Int)
      ·rw [if_pos c6] at H
       have c6b0 : decide (x13_1 < (l0.length : Int)) = true := decide_eq_true c6
       clear c6
       by_cases c7 : x13_1 < (l1.length : Int)
       ·rw [if_pos c7] at H
        have c7b0 : decide (x13_1 < (l1.length : Int)) = true := decide_eq_true c7
        clear c7
        by_cases c8 : ((rdOf false l0 x13_1) != (rdOf false l1 x13_1)) = true
        ·rw [if_pos c8] at H
         have c8b0 : ((rdOf false l0 x13_1) != (rdOf false l1 x13_1)) = true := c8
         (try (have c8b1 : decide ((rdOf false l0 x13_1) = (rdOf false l1 x13_1)) = false := by simpa using c8))
         (try (have c8b2 : ((rdOf false l0 x13_1) == (rdOf false l1 x13_1)) = false := by simpa using c8))
         (try (have c8b3 : ¬ ((rdOf false l0 x13_1) = (rdOf false l1 x13_1)) := by simpa using c8))
         clear c8
         obtain rfl := Option.some.inj H
         have p149 : 0 ≤ (x13_1 : Int) := xi
         have q149 : x13_1 < (l0.length : Int) := xi
         obtain ⟨ad149, e149, hx149_0⟩ := Kd.at_bool HR0.out x13_1 p149 q149
         cases e149
         replace p149 := eq_true p149
         replace q149 := eq_true q149
         have p150 : 0 ≤ (x13_1 : Int) := xi
         have q150 : x13_1 < (l1.length : Int) := xi
         obtain ⟨ad150, e150, hx150_0⟩ := Kd.at_bool HR1.out x13_1 p150 q150
         cases e150
         replace p150 := eq_true p150
         replace q150 := eq_true q150
         go_wp2
         repeat (go_quiet (fail); try go_wp2)
         go_ret
         exact ⟨xg, xz⟩
        ·rw [if_neg c8] at H
         have c8b0 : ((rdOf false l0 x13_1) != (rdOf false l1 x13_1)) = false := by simpa using c8
         (try (have c8b1 : decide ((rdOf false l0 x13_1) = (rdOf false l1 x13_1)) = true := by simpa using c8))
         (try (have c8b2 : ((rdOf false l0 x13_1) == (rdOf false l1 x13_1)) = true := by simpa using c8))
         clear c8
         have H' := xy H
         clear H
         have p149 : 0 ≤ (x13_1 : Int) := xi
         have q149 : x13_1 < (l0.length : Int) := xi
         obtain ⟨ad149, e149, hx149_0⟩ := Kd.at_bool HR0.out x13_1 p149 q149
         cases e149
         replace p149 := eq_true p149
         replace q149 := eq_true q149
         have p150 : 0 ≤ (x13_1 : Int) := xi
         have q150 : x13_1 < (l1.length : Int) := xi
         obtain ⟨ad150, e150, hx150_0⟩ := Kd.at_bool HR1.out x13_1 p150 q150
         cases e150
         replace p150 := eq_true p150
         replace q150 := eq_true q150
         go_wp2
         repeat (go_quiet (fail); try go_wp2)
         go_roundg k1
         case measure => have := HK1.out; omega
         case rel => exact ⟨(wrap64 (x13_1 + 1)), xg, H', ⟨by have := HK1.out; omega⟩, by repeat (first | exact Drawn0.refl _ | apply Drawn0.step)⟩
       ·rw [if_neg c7] at H
        exact absurd H (by simp)
      ·rw [if_neg c6] at H
       exact absurd H (by simp)
     ·rw [if_neg c5] at H
      exact absurd H (by simp)
    ·rw [if_neg c4] at H
     have c4b0 : decide (x13_1 < (l0.length : Int)) = false := decide_eq_false c4
     clear c4
     obtain rfl := Option.some.inj H
     go_wp2
     repeat (go_quiet (fail); try go_wp2)
     go_ret
     exact ⟨xg, xz⟩
 ·rw [if_neg c3] at H
  have c3b0 : ((l0.length : Int) == (l1.length : Int)) = false := beq_eq_false_iff_ne.mpr c3
  have c3b1 : ((l0.length : Int) != (l1.length : Int)) = true := bne_iff_ne.mpr c3
  have c3b2 : (l0.length == l1.length) = false := by first | simpa using c3 | (simp at c3 ⊢; omega)
  obtain rfl := Option.some.inj H
  go_enter Tryz.func46, Tryz.ntmps46
  go_wp2
  repeat (go_quiet (fail); try go_wp2)
  go_ret
  exact ⟨xg, xz⟩
/- Walked functions, by this session's program over the kit's print. -/
def check_Check.f (k : Nat) (l0 : List (S50)) (l1 : List Bool) (l2 : List Bool) : Option (Int) := (check_Stack.f l0 l1).bind fun bt151 => (if bt151.2.2 = 0 then ((slices_Equal_bool_bool.f k bt151.1 l2).bind fun t156 => (if t156 = true then (some bt151.2.2) else (some 11))) else (some bt151.2.2))
theorem check_Check.mono : ∀ a0 a1 a2 k, LeO (check_Check.f k a0 a1 a2) (check_Check.f (k + 1) a0 a1 a2) := by
 intro a0 a1 a2 k
 unfold check_Check.f
 repeat' (with_reducible first | exact slices_Equal_bool_bool.mono _ _ _ | exact LeO.refl _ | exact LeO.none _ | refine LeO.ite ?_ ?_ | refine LeO.bind ?_ (fun _ => ?_))
set_option maxHeartbeats 8000000 in
set_option maxRecDepth 100000 in
theorem check_Check.calls (k : Nat) (A0 : Option Addr) (c0 : Nat) (l0 : List (S50)) (A1 : Option Addr) (c1 : Nat) (l1 : List Bool) (A2 : Option Addr) (c2 : Nat) (l2 : List Bool) (r : Int) (w : World) (hT : Tabs w) (hr0 : Kd.C k50 w A0 l0.length l0) (hc0 : l0.length ≤ c0) (hr1 : Kd.C Kd.bool w A1 l1.length l1) (hc1 : l1.length ≤ c1) (hr2 : Kd.C Kd.bool w A2 l2.length l2) (hc2 : l2.length ≤ c2) (h : check_Check.f k l0 l1 l2 = some r) :
  Calls Tryz.prog 37 #[.slice A0 l0.length c0, .slice A1 l1.length c1, .slice A2 l2.length c2] w fun e w' => e = .returned (.int .i64 r) ∧ Below w.heap.size w w' := by
 have HR0 := xy hr0
 have HC0 := xy hc0
 clear hr0 hc0
 have HR1 := xy hr1
 have HC1 := xy hc1
 clear hr1 hc1
 have HR2 := xy hr2
 have HC2 := xy hc2
 clear hr2 hc2
 have HB := xy (Below.refl w.heap.size w)
 unfold check_Check.f at h
 have H := h
 clear h
 replace H := xj H
 obtain ⟨⟨t151, t152, t153⟩, A40, H⟩ := H
 try dsimp only at H
 have A4 := xy A40
 clear A40
 by_cases c5 : t153 = 0
 ·rw [if_pos c5] at H
  have c5b0 : (t153 == 0) = true := beq_iff_eq.mpr c5
  have c5b1 : (t153 != 0) = false := bne_eq_false_iff_eq.mpr c5
  clear c5
  replace H := xj H
  obtain ⟨t156, A60, H⟩ := H
  try dsimp only at H
  have A6 := xy A60
  clear A60
  by_cases c7 : t156 = true
  ·subst c7
   rw [if_pos rfl] at H
   obtain rfl := Option.some.inj H
   go_enter Tryz.func37, Tryz.ntmps37
   go_wp2_with (first | ((with_reducible refine gate_callee (f := 40) rfl ?_); refine goesL_ (some 13) rfl rfl Tryz.func40 (by kernel_rfl) rfl #[.slice A0 l0.length c0, .slice A1 l1.length c1] rfl xr ?_; (with_reducible refine (check_Stack.calls _ _ l0 _ _ l1 t151 t152 t153 _ (Tabs.below hT xf) ?side1 ?side2 ?side3 ?side4 A4.out).mono ?_); (case side1 => repeat (first | exact HR0.out | (with_reducible refine Kd.C_alloc ?_ _) | (with_reducible refine Kd.C_drewN ?_ _) | (with_reducible refine Kd.C_drew ?_))); (case side2 => exact HC0.out); (case side3 => repeat (first | exact HR1.out | (with_reducible refine Kd.C_alloc ?_ _) | (with_reducible refine Kd.C_drewN ?_ _) | (with_reducible refine Kd.C_drew ?_))); (case side4 => exact HC1.out); rintro e w8 ⟨v154, rfl, ho0, hb⟩; refine ⟨_, rfl, ?_⟩; have HO155 := xy (Kd.R_lower ho0 (below_size xb)); replace HB := xy (below_step xb hb); (try clear hb); (try clear hb2); (try clear hk); (try clear hi); (try clear ho0); obtain ⟨Ao9, co9, eo9⟩ := Kd.R_slice HO155.out; subst eo9) | (go_at_call 46; (with_reducible refine (slices_Equal_bool_bool.calls k _ _ t151 _ _ l2 true _ (Tabs.below hT xf) ?side1 ?side2 ?side3 ?side4 A6.out).mono ?_); (case side1 => repeat (first | exact (Kd.R_reads' HO155.out).2.2 | (with_reducible refine Kd.C_alloc ?_ _) | (with_reducible refine Kd.C_drewN ?_ _) | (with_reducible refine Kd.C_drew ?_))); (case side2 => exact (Kd.R_reads' HO155.out).2.1); (case side3 => exact Kd.C_below HR2.out xb); (case side4 => exact HC2.out); rintro e w' ⟨rfl, ⟨nd, rfl⟩⟩))
   go_ret
   exact ⟨xe, xb⟩
  ·replace c7 := Bool.eq_false_iff.mpr c7
   subst c7
   rw [if_neg (show ¬ (false = true) by decide)] at H
   obtain rfl := Option.some.inj H
   go_enter Tryz.func37, Tryz.ntmps37
   go_wp2_with (first | ((with_reducible refine gate_callee (f := 40) rfl ?_); refine goesL_ (some 13) rfl rfl Tryz.func40 (by kernel_rfl) rfl #[.slice A0 l0.length c0, .slice A1 l1.length c1] rfl xr ?_; (with_reducible refine (check_Stack.calls _ _ l0 _ _ l1 t151 t152 t153 _ (Tabs.below hT xf) ?side1 ?side2 ?side3 ?side4 A4.out).mono ?_); (case side1 => repeat (first | exact HR0.out | (with_reducible refine Kd.C_alloc ?_ _) | (with_reducible refine Kd.C_drewN ?_ _) | (with_reducible refine Kd.C_drew ?_))); (case side2 => exact HC0.out); (case side3 => repeat (first | exact HR1.out | (with_reducible refine Kd.C_alloc ?_ _) | (with_reducible refine Kd.C_drewN ?_ _) | (with_reducible refine Kd.C_drew ?_))); (case side4 => exact HC1.out); rintro e w10 ⟨v154, rfl, ho0, hb⟩; refine ⟨_, rfl, ?_⟩; have HO155 := xy (Kd.R_lower ho0 (below_size xb)); replace HB := xy (below_step xb hb); (try clear hb); (try clear hb2); (try clear hk); (try clear hi); (try clear ho0); obtain ⟨Ao11, co11, eo11⟩ := Kd.R_slice HO155.out; subst eo11) | (go_at_call 46; (with_reducible refine (slices_Equal_bool_bool.calls k _ _ t151 _ _ l2 false _ (Tabs.below hT xf) ?side1 ?side2 ?side3 ?side4 A6.out).mono ?_); (case side1 => repeat (first | exact (Kd.R_reads' HO155.out).2.2 | (with_reducible refine Kd.C_alloc ?_ _) | (with_reducible refine Kd.C_drewN ?_ _) | (with_reducible refine Kd.C_drew ?_))); (case side2 => exact (Kd.R_reads' HO155.out).2.1); (case side3 => exact Kd.C_below HR2.out xb); (case side4 => exact HC2.out); rintro e w' ⟨rfl, ⟨nd, rfl⟩⟩))
   go_ret
   exact ⟨xe, xb⟩
 ·rw [if_neg c5] at H
  have c5b0 : (t153 == 0) = false := beq_eq_false_iff_ne.mpr c5
  have c5b1 : (t153 != 0) = true := bne_iff_ne.mpr c5
  obtain rfl := Option.some.inj H
  go_enter Tryz.func37, Tryz.ntmps37
  go_wp2_with (((with_reducible refine gate_callee (f := 40) rfl ?_); refine goesL_ (some 13) rfl rfl Tryz.func40 (by kernel_rfl) rfl #[.slice A0 l0.length c0, .slice A1 l1.length c1] rfl xr ?_; (with_reducible refine (check_Stack.calls _ _ l0 _ _ l1 t151 t152 t153 _ (Tabs.below hT xf) ?side1 ?side2 ?side3 ?side4 A4.out).mono ?_); (case side1 => repeat (first | exact HR0.out | (with_reducible refine Kd.C_alloc ?_ _) | (with_reducible refine Kd.C_drewN ?_ _) | (with_reducible refine Kd.C_drew ?_))); (case side2 => exact HC0.out); (case side3 => repeat (first | exact HR1.out | (with_reducible refine Kd.C_alloc ?_ _) | (with_reducible refine Kd.C_drewN ?_ _) | (with_reducible refine Kd.C_drew ?_))); (case side4 => exact HC1.out); rintro e w12 ⟨v154, rfl, ho0, hb⟩; refine ⟨_, rfl, ?_⟩; have HO155 := xy (Kd.R_lower ho0 (below_size xb)); replace HB := xy (below_step xb hb); (try clear hb); (try clear hb2); (try clear hk); (try clear hi); (try clear ho0)))
  go_ret
  exact ⟨xe, xb⟩
def job_one.f (l0 : List (S50)) : Option (Bool × Bool) := (check_Stack.f l0 ([] : List Bool)).bind fun bt157 => (if bt157.2.2 = 0 then (if (bt157.1.length : Int) = 1 then (if 0 < (bt157.1.length : Int) then (some (rdOf false bt157.1 0, true)) else (none)) else (some (false, false))) else (some (false, false)))
set_option maxHeartbeats 8000000 in
set_option maxRecDepth 100000 in
theorem job_one.calls (A0 : Option Addr) (c0 : Nat) (l0 : List (S50)) (r1 : Bool) (r2 : Bool) (w : World) (hT : Tabs w) (hr0 : Kd.C k50 w A0 l0.length l0) (hc0 : l0.length ≤ c0) (h : job_one.f l0 = some (r1, r2)) :
  Calls Tryz.prog 38 #[.slice A0 l0.length c0] w fun e w' => e = .returned (.tuple #[.bool r1, .bool r2]) ∧ Below w.heap.size w w' := by
 have HR0 := xy hr0
 have HC0 := xy hc0
 clear hr0 hc0
 have HB := xy (Below.refl w.heap.size w)
 unfold job_one.f at h
 have H := h
 clear h
 replace H := xj H
 obtain ⟨⟨t157, t158, t159⟩, A20, H⟩ := H
 try dsimp only at H
 have A2 := xy A20
 clear A20
 by_cases c3 : t159 = 0
 ·rw [if_pos c3] at H
  have c3b0 : (t159 == 0) = true := beq_iff_eq.mpr c3
  have c3b1 : (t159 != 0) = false := bne_eq_false_iff_eq.mpr c3
  clear c3
  by_cases c4 : (t157.length : Int) = 1
  ·rw [if_pos c4] at H
   have c4b0 : ((t157.length : Int) == 1) = true := beq_iff_eq.mpr c4
   have c4b1 : ((t157.length : Int) != 1) = false := bne_eq_false_iff_eq.mpr c4
   clear c4
   by_cases c5 : 0 < (t157.length : Int)
   ·rw [if_pos c5] at H
    have c5b0 : decide (0 < (t157.length : Int)) = true := decide_eq_true c5
    have c5b1 : decide (0 < t157.length) = true := decide_eq_true (by omega)
    clear c5
    simp only [Option.some.injEq, Prod.mk.injEq] at H
    obtain ⟨rfl, rfl⟩ := H
    go_enter Tryz.func38, Tryz.ntmps38
    go_wp2_with (first | ((with_reducible refine gate_callee (f := 40) rfl ?_); refine goesL_ (some 9) rfl rfl Tryz.func40 (by kernel_rfl) rfl #[.slice A0 l0.length c0, .slice none 0 0] rfl xr ?_; (refine (check_Stack.calls _ _ l0 _ _ ([] : List Bool) t157 t158 t159 _ (Tabs.below hT xf) ?side1 ?side2 ?side3 ?side4 A2.out).mono ?_); (case side1 => repeat (first | exact HR0.out | (with_reducible refine Kd.C_alloc ?_ _) | (with_reducible refine Kd.C_drewN ?_ _) | (with_reducible refine Kd.C_drew ?_))); (case side2 => exact HC0.out); (case side3 => exact Kd.C_nil _ _); (case side4 => exact Nat.le_refl _); rintro e w6 ⟨v160, rfl, ho0, hb⟩; refine ⟨_, rfl, ?_⟩; have HO161 := xy (Kd.R_lower ho0 (below_size xb)); replace HB := xy (below_step xb hb); (try clear hb); (try clear hb2); (try clear hk); (try clear hi); (try clear ho0); obtain ⟨Ao7, co7, eo7⟩ := Kd.R_slice HO161.out; subst eo7; have p162 : 0 ≤ (0 : Int) := (by omega); have q162 : 0 < (t157.length : Int) := xi; obtain ⟨ad162, e162, hx162_0⟩ := Kd.at_bool (Kd.R_reads' HO161.out).2.2 0 p162 q162; cases e162; have qi162 : (0 < t157.length) = True := eq_true (by omega); (try rw [show ((0 : Int)).toNat = 0 from rfl] at hx162_0); (try rw [Addr.add_zero'] at hx162_0); replace p162 := eq_true p162; replace q162 := eq_true q162))
    go_ret2
    exact ⟨xe, xb⟩
   ·rw [if_neg c5] at H
    exact absurd H (by simp)
  ·rw [if_neg c4] at H
   have c4b0 : ((t157.length : Int) == 1) = false := beq_eq_false_iff_ne.mpr c4
   have c4b1 : ((t157.length : Int) != 1) = true := bne_iff_ne.mpr c4
   simp only [Option.some.injEq, Prod.mk.injEq] at H
   obtain ⟨rfl, rfl⟩ := H
   go_enter Tryz.func38, Tryz.ntmps38
   go_wp2_with (first | ((with_reducible refine gate_callee (f := 40) rfl ?_); refine goesL_ (some 9) rfl rfl Tryz.func40 (by kernel_rfl) rfl #[.slice A0 l0.length c0, .slice none 0 0] rfl xr ?_; (refine (check_Stack.calls _ _ l0 _ _ ([] : List Bool) t157 t158 t159 _ (Tabs.below hT xf) ?side1 ?side2 ?side3 ?side4 A2.out).mono ?_); (case side1 => repeat (first | exact HR0.out | (with_reducible refine Kd.C_alloc ?_ _) | (with_reducible refine Kd.C_drewN ?_ _) | (with_reducible refine Kd.C_drew ?_))); (case side2 => exact HC0.out); (case side3 => exact Kd.C_nil _ _); (case side4 => exact Nat.le_refl _); rintro e w8 ⟨v160, rfl, ho0, hb⟩; refine ⟨_, rfl, ?_⟩; have HO161 := xy (Kd.R_lower ho0 (below_size xb)); replace HB := xy (below_step xb hb); (try clear hb); (try clear hb2); (try clear hk); (try clear hi); (try clear ho0); obtain ⟨Ao9, co9, eo9⟩ := Kd.R_slice HO161.out; subst eo9))
   go_ret2
   exact ⟨xe, xb⟩
 ·rw [if_neg c3] at H
  have c3b0 : (t159 == 0) = false := beq_eq_false_iff_ne.mpr c3
  have c3b1 : (t159 != 0) = true := bne_iff_ne.mpr c3
  simp only [Option.some.injEq, Prod.mk.injEq] at H
  obtain ⟨rfl, rfl⟩ := H
  go_enter Tryz.func38, Tryz.ntmps38
  go_wp2_with (first | ((with_reducible refine gate_callee (f := 40) rfl ?_); refine goesL_ (some 9) rfl rfl Tryz.func40 (by kernel_rfl) rfl #[.slice A0 l0.length c0, .slice none 0 0] rfl xr ?_; (refine (check_Stack.calls _ _ l0 _ _ ([] : List Bool) t157 t158 t159 _ (Tabs.below hT xf) ?side1 ?side2 ?side3 ?side4 A2.out).mono ?_); (case side1 => repeat (first | exact HR0.out | (with_reducible refine Kd.C_alloc ?_ _) | (with_reducible refine Kd.C_drewN ?_ _) | (with_reducible refine Kd.C_drew ?_))); (case side2 => exact HC0.out); (case side3 => exact Kd.C_nil _ _); (case side4 => exact Nat.le_refl _); rintro e w10 ⟨v160, rfl, ho0, hb⟩; refine ⟨_, rfl, ?_⟩; have HO161 := xy (Kd.R_lower ho0 (below_size xb)); replace HB := xy (below_step xb hb); (try clear hb); (try clear hb2); (try clear hk); (try clear hi); (try clear ho0)))
  go_ret2
  exact ⟨xe, xb⟩
/- Walked functions, by this session's program over the kit's print. -/
mutual
def job_Job_goes.j0 : Nat → Bool → Bool → List (S50) → List (S50) → List (S50) → Int → List (S50) → Bool → Int → ByteArray → Bool → Int → Bool → Bool → Int → Option (Bool)
 | 0, _, _, _, _, _, _, _, _, _, _, _, _, _, _, _ => none
 | k + 1, x15, x164000, x164001, x164002, x164003, x164004, x164005, x164006, x164007, x164008, x164009, x164010, x164011, x164012, x164013 => if x15 = true then (some false) else ((job_one.f x164003).bind fun bt168 => (if bt168.2 = true then ((check_Check.f k x164002 ([] : List Bool) (([true] : List Bool))).bind fun t173 => (job_Job_goes.j1 k bt168.1 (t173 != 0) x164000 x164001 x164002 x164003 x164004 x164005 x164006 x164007 x164008 x164009 x164010 x164011 x164012 x164013)) else (job_Job_goes.j1 k bt168.1 true x164000 x164001 x164002 x164003 x164004 x164005 x164006 x164007 x164008 x164009 x164010 x164011 x164012 x164013)))
def job_Job_goes.j1 : Nat → Bool → Bool → Bool → List (S50) → List (S50) → List (S50) → Int → List (S50) → Bool → Int → ByteArray → Bool → Int → Bool → Bool → Int → Option (Bool)
 | 0, _, _, _, _, _, _, _, _, _, _, _, _, _, _, _, _ => none
 | k + 1, x3, x30, x164000, x164001, x164002, x164003, x164004, x164005, x164006, x164007, x164008, x164009, x164010, x164011, x164012, x164013 => if x30 = true then (some false) else (if x164004 = 0 then (job_Job_goes.j2 k x3 x164004 (x164004 == 0) x164000 x164001 x164002 x164003 x164004 x164005 x164006 x164007 x164008 x164009 x164010 x164011 x164012 x164013) else (if x164004 = 1 then (job_Job_goes.j2 k x3 x164004 (x164004 == 1) x164000 x164001 x164002 x164003 x164004 x164005 x164006 x164007 x164008 x164009 x164010 x164011 x164012 x164013) else (job_Job_goes.j2 k x3 x164004 (x164004 == 2) x164000 x164001 x164002 x164003 x164004 x164005 x164006 x164007 x164008 x164009 x164010 x164011 x164012 x164013)))
def job_Job_goes.j2 : Nat → Bool → Int → Bool → Bool → List (S50) → List (S50) → List (S50) → Int → List (S50) → Bool → Int → ByteArray → Bool → Int → Bool → Bool → Int → Option (Bool)
 | 0, _, _, _, _, _, _, _, _, _, _, _, _, _, _, _, _, _ => none
 | k + 1, x3, x32, x33, x164000, x164001, x164002, x164003, x164004, x164005, x164006, x164007, x164008, x164009, x164010, x164011, x164012, x164013 => if x33 = true then (some (!x3)) else (if x32 = 6 then (some x3) else (if x32 = 7 then ((check_Check.f k x164005 (([x164006, x3] : List Bool)) (([x164006] : List Bool))).bind fun t180 => (some (t180 == 0))) else (some true)))
end
def job_Job_goes.f (k : Nat) (a0_0 : Bool) (l0_1 : List (S50)) (l0_2 : List (S50)) (l0_3 : List (S50)) (a0_4 : Int) (l0_5 : List (S50)) (a0_6 : Bool) (a0_7 : Int) (a0_8 : ByteArray) (a0_9 : Bool) (a0_10 : Int) (a0_11 : Bool) (a0_12 : Bool) (a0_13 : Int) : Option (Bool) := if (l0_1.length : Int) > 0 then ((check_Check.f k l0_1 ([] : List Bool) (([false] : List Bool))).bind fun t167 => (job_Job_goes.j0 k (t167 != 0) a0_0 l0_1 l0_2 l0_3 a0_4 l0_5 a0_6 a0_7 a0_8 a0_9 a0_10 a0_11 a0_12 a0_13)) else (job_Job_goes.j0 k false a0_0 l0_1 l0_2 l0_3 a0_4 l0_5 a0_6 a0_7 a0_8 a0_9 a0_10 a0_11 a0_12 a0_13)
theorem job_Job_goes.mono_l : ∀ k, (∀ y0 y1 y2 y3 y4 y5 y6 y7 y8 y9 y10 y11 y12 y13 y14, LeO (job_Job_goes.j0 k y0 y1 y2 y3 y4 y5 y6 y7 y8 y9 y10 y11 y12 y13 y14) (job_Job_goes.j0 (k + 1) y0 y1 y2 y3 y4 y5 y6 y7 y8 y9 y10 y11 y12 y13 y14)) ∧ (∀ y0 y1 y2 y3 y4 y5 y6 y7 y8 y9 y10 y11 y12 y13 y14 y15, LeO (job_Job_goes.j1 k y0 y1 y2 y3 y4 y5 y6 y7 y8 y9 y10 y11 y12 y13 y14 y15) (job_Job_goes.j1 (k + 1) y0 y1 y2 y3 y4 y5 y6 y7 y8 y9 y10 y11 y12 y13 y14 y15)) ∧ (∀ y0 y1 y2 y3 y4 y5 y6 y7 y8 y9 y10 y11 y12 y13 y14 y15 y16, LeO (job_Job_goes.j2 k y0 y1 y2 y3 y4 y5 y6 y7 y8 y9 y10 y11 y12 y13 y14 y15 y16) (job_Job_goes.j2 (k + 1) y0 y1 y2 y3 y4 y5 y6 y7 y8 y9 y10 y11 y12 y13 y14 y15 y16))
 | 0 => ⟨fun _ _ _ _ _ _ _ _ _ _ _ _ _ _ _ r h => by simp [job_Job_goes.j0] at h, fun _ _ _ _ _ _ _ _ _ _ _ _ _ _ _ _ r h => by simp [job_Job_goes.j1] at h, fun _ _ _ _ _ _ _ _ _ _ _ _ _ _ _ _ _ r h => by simp [job_Job_goes.j2] at h⟩
 | k + 1 => by
  obtain ⟨ih0, ih1, ih2⟩ := job_Job_goes.mono_l k
  refine ⟨?_, ?_, ?_⟩
  ·intro y0 y1 y2 y3 y4 y5 y6 y7 y8 y9 y10 y11 y12 y13 y14
   unfold job_Job_goes.j0
   repeat' (with_reducible first | exact ih0 _ _ _ _ _ _ _ _ _ _ _ _ _ _ _ | exact ih1 _ _ _ _ _ _ _ _ _ _ _ _ _ _ _ _ | exact ih2 _ _ _ _ _ _ _ _ _ _ _ _ _ _ _ _ _ | exact check_Check.mono _ _ _ _ | exact LeO.refl _ | exact LeO.none _ | refine LeO.ite ?_ ?_ | refine LeO.bind ?_ (fun _ => ?_))
  ·intro y0 y1 y2 y3 y4 y5 y6 y7 y8 y9 y10 y11 y12 y13 y14 y15
   unfold job_Job_goes.j1
   repeat' (with_reducible first | exact ih0 _ _ _ _ _ _ _ _ _ _ _ _ _ _ _ | exact ih1 _ _ _ _ _ _ _ _ _ _ _ _ _ _ _ _ | exact ih2 _ _ _ _ _ _ _ _ _ _ _ _ _ _ _ _ _ | exact check_Check.mono _ _ _ _ | exact LeO.refl _ | exact LeO.none _ | refine LeO.ite ?_ ?_ | refine LeO.bind ?_ (fun _ => ?_))
  ·intro y0 y1 y2 y3 y4 y5 y6 y7 y8 y9 y10 y11 y12 y13 y14 y15 y16
   unfold job_Job_goes.j2
   repeat' (with_reducible first | exact ih0 _ _ _ _ _ _ _ _ _ _ _ _ _ _ _ | exact ih1 _ _ _ _ _ _ _ _ _ _ _ _ _ _ _ _ | exact ih2 _ _ _ _ _ _ _ _ _ _ _ _ _ _ _ _ _ | exact check_Check.mono _ _ _ _ | exact LeO.refl _ | exact LeO.none _ | refine LeO.ite ?_ ?_ | refine LeO.bind ?_ (fun _ => ?_))
theorem job_Job_goes.mono : ∀ a0 a1 a2 a3 a4 a5 a6 a7 a8 a9 a10 a11 a12 a13 k, LeO (job_Job_goes.f k a0 a1 a2 a3 a4 a5 a6 a7 a8 a9 a10 a11 a12 a13) (job_Job_goes.f (k + 1) a0 a1 a2 a3 a4 a5 a6 a7 a8 a9 a10 a11 a12 a13) := by
 intro a0 a1 a2 a3 a4 a5 a6 a7 a8 a9 a10 a11 a12 a13 k
 obtain ⟨ih0, ih1, ih2⟩ := job_Job_goes.mono_l k
 unfold job_Job_goes.f
 repeat' (with_reducible first | exact ih0 _ _ _ _ _ _ _ _ _ _ _ _ _ _ _ | exact ih1 _ _ _ _ _ _ _ _ _ _ _ _ _ _ _ _ | exact ih2 _ _ _ _ _ _ _ _ _ _ _ _ _ _ _ _ _ | exact check_Check.mono _ _ _ _ | exact LeO.refl _ | exact LeO.none _ | refine LeO.ite ?_ ?_ | refine LeO.bind ?_ (fun _ => ?_))
set_option maxHeartbeats 8000000 in
set_option maxRecDepth 100000 in
theorem job_Job_goes.calls (k : Nat) (a0_0 : Bool) (A0_1 : Option Addr) (c0_1 : Nat) (l0_1 : List (S50)) (A0_2 : Option Addr) (c0_2 : Nat) (l0_2 : List (S50)) (A0_3 : Option Addr) (c0_3 : Nat) (l0_3 : List (S50)) (a0_4 : Int) (A0_5 : Option Addr) (c0_5 : Nat) (l0_5 : List (S50)) (a0_6 : Bool) (a0_7 : Int) (a0_8 : ByteArray) (a0_9 : Bool) (a0_10 : Int) (a0_11 : Bool) (a0_12 : Bool) (a0_13 : Int) (r : Bool) (w : World) (hT : Tabs w) (hr0_1 : Kd.C k50 w A0_1 l0_1.length l0_1) (hc0_1 : l0_1.length ≤ c0_1) (hr0_2 : Kd.C k50 w A0_2 l0_2.length l0_2) (hc0_2 : l0_2.length ≤ c0_2) (hr0_3 : Kd.C k50 w A0_3 l0_3.length l0_3) (hc0_3 : l0_3.length ≤ c0_3) (hr0_5 : Kd.C k50 w A0_5 l0_5.length l0_5) (hc0_5 : l0_5.length ≤ c0_5) (h : job_Job_goes.f k a0_0 l0_1 l0_2 l0_3 a0_4 l0_5 a0_6 a0_7 a0_8 a0_9 a0_10 a0_11 a0_12 a0_13 = some r) :
  Calls Tryz.prog 32 #[.agg #[.bool a0_0, .slice A0_1 l0_1.length c0_1, .slice A0_2 l0_2.length c0_2, .slice A0_3 l0_3.length c0_3, .int .i64 a0_4, .slice A0_5 l0_5.length c0_5, .bool a0_6, .int .i64 a0_7, .string a0_8, .bool a0_9, .int .i64 a0_10, .bool a0_11, .bool a0_12, .int .i64 a0_13]] w fun e w' => e = .returned (.bool r) ∧ Below w.heap.size w w' := by
 have hu26 := Tryz.underlying26
 have HR0_1 := xy hr0_1
 have HC0_1 := xy hc0_1
 clear hr0_1 hc0_1
 have HR0_2 := xy hr0_2
 have HC0_2 := xy hc0_2
 clear hr0_2 hc0_2
 have HR0_3 := xy hr0_3
 have HC0_3 := xy hc0_3
 clear hr0_3 hc0_3
 have HR0_5 := xy hr0_5
 have HC0_5 := xy hc0_5
 clear hr0_5 hc0_5
 have HB := xy (Below.refl w.heap.size w)
 unfold job_Job_goes.f at h
 have H := h
 clear h
 have HC2 := xy H
 clear H
 go_enter Tryz.func32, Tryz.ntmps32
 go_upto_region 1 with (first | ((with_reducible refine gate_dst (N := 1) rfl ?_); (try (refine gate_guard (by rfl) ?_; dsimp only)); refine xq (N := 1) (cs := #[.bool a0_0, .slice A0_1 l0_1.length c0_1, .slice A0_2 l0_2.length c0_2, .slice A0_3 l0_3.length c0_3, .int .i64 a0_4, .slice A0_5 l0_5.length c0_5, .bool a0_6, .int .i64 a0_7, .string a0_8, .bool a0_9, .int .i64 a0_10, .bool a0_11, .bool a0_12, .int .i64 a0_13]) (t := 26) ?_; intro gb163 hg w3 hbox hb; have BK163 := xy (hbox); have GW163 := xs w hg; have GE163 := xs w hg; replace HB := xy (below_step xb hb); clear hb hbox hg))
 (try simp only [Act.put, List.setIfInBounds_toArray, List.set_cons_zero, List.set_cons_succ])
 go_cut [15] (fun v15 wc => ∃ (kq : Nat) (x15_1 : Bool), v15 = .bool x15_1 ∧ Aside0 (job_Job_goes.j0 kq x15_1 a0_0 l0_1 l0_2 l0_3 a0_4 l0_5 a0_6 a0_7 a0_8 a0_9 a0_10 a0_11 a0_12 a0_13 = some r) ∧ Aside0 (kq ≤ k) ∧ Aside0 (wc.heap[gb163]? = some (.cells #[.bool a0_0, (.slice A0_1 l0_1.length c0_1), (.slice A0_2 l0_2.length c0_2), (.slice A0_3 l0_3.length c0_3), .int .i64 a0_4, (.slice A0_5 l0_5.length c0_5), .bool a0_6, .int .i64 a0_7, .string a0_8, .bool a0_9, .int .i64 a0_10, .bool a0_11, .bool a0_12, .int .i64 a0_13] 26 (0, 0))) ∧ Aside0 (Below w.heap.size w wc))
 case first =>
  have H := HC2.out
  clear HC2
  by_cases c4 : (l0_1.length : Int) > 0
  ·rw [if_pos c4] at H
   have c4b0 : decide (0 < (l0_1.length : Int)) = true := decide_eq_true c4
   have c4b1 : decide (0 < l0_1.length) = true := decide_eq_true (by omega)
   clear c4
   (first | rw [c4b0] | (simp only [i64_w, i32_w]; rw [c4b0]) | skip)
   obtain ⟨y164, hy164⟩ : ∃ y_ : List Bool, y_ = (([false] : List Bool)) := ⟨_, rfl⟩
   replace H : ((check_Check.f k l0_1 ([] : List Bool) y164).bind fun t167 => (job_Job_goes.j0 k (t167 != 0) a0_0 l0_1 l0_2 l0_3 a0_4 l0_5 a0_6 a0_7 a0_8 a0_9 a0_10 a0_11 a0_12 a0_13)) = some r := by first | (rw [hy164]; with_reducible exact H) | (have H2_ := (Option.bind_some _ _).symm.trans H; rw [hy164]; with_reducible exact H2_) | (have H2_ := (Option.bind_some _ _).symm.trans H; with_reducible exact H2_) | with_reducible exact H | (rw [hy164]; exact H) | exact H
   have Ny164 := xy hy164
   clear hy164
   replace H := xj H
   obtain ⟨t167, A50, H⟩ := H
   try dsimp only at H
   have A5 := xy A50
   clear A50
   have H' := xy H
   clear H
   obtain ⟨hcz6_0, hcz6_1, hcz6_2, hcz6_3, hcz6_4, hcz6_5, hcz6_6, hcz6_7, hcz6_8, hcz6_9, hcz6_10, hcz6_11, hcz6_12, hcz6_13⟩ := kt14 BK163.out
   go_wp2_with (first | ((with_reducible refine gate_dst (N := 12) rfl ?_); (try (refine gate_guard (by rfl) ?_; dsimp only)); refine Kd.R_lit Kd.bool _ 4 ?hg (N := 12) ?hd (xs := ([false] : List Bool)) (inner := [.bool false]) (ok := fun _ => True) (okp := fun _ => True) ?hr ?hp (fun _ hk => hk) trivial (Below.refl _ _) (Nat.le_refl _) (by simp) ?_; (case hd => rfl); (case hg => rfl); (case hr => exact xh); (case hp => exact (Reps.one (show Kd.M Kd.bool _ _ _ false [.bool false] from rfl) (Reps.none _ _))); intro v165 w7 ho8 hb hg_ hnew_; clear hg_ hnew_; (first | rw [← Ny164.out] at ho8 | (simp only [Int.reduceToNat] at ho8; rw [← Ny164.out] at ho8)); have HO166 := xy (Kd.R_lower ho8 (below_size xb)); replace BK163 := xd BK163.out hb; replace HB := xy (below_step xb hb); clear hb ho8; obtain ⟨Ao9, co9, eo9⟩ := Kd.R_slice HO166.out; subst eo9) | (go_at_call 37; (refine (check_Check.calls k _ _ l0_1 _ _ ([] : List Bool) _ _ y164 t167 _ (Tabs.below hT xf) ?side1 ?side2 ?side3 ?side4 ?side5 ?side6 A5.out).mono ?_); (case side1 => exact Kd.C_below HR0_1.out xb); (case side2 => exact HC0_1.out); (case side3 => exact Kd.C_nil _ _); (case side4 => exact Nat.le_refl _); (case side5 => repeat (first | exact (Kd.R_reads' HO166.out).2.2 | (with_reducible refine Kd.C_alloc ?_ _) | (with_reducible refine Kd.C_drewN ?_ _) | (with_reducible refine Kd.C_drew ?_))); (case side6 => exact (Kd.R_reads' HO166.out).2.1); rintro e w10 ⟨rfl, hb⟩; replace HO166 := xy (Kd.R_below (xo HO166.out) hb); replace BK163 := xd BK163.out hb; replace HB := xy (below_step xb hb); (try clear hb); (try clear hb2); (try clear hk); (try clear hi)))
   go_meet
   case rel => exact ⟨_, ((t167 != 0)), xg, H', ⟨by first | omega | exact Nat.le_refl _⟩, ⟨by (with_reducible repeat (first | refine blk_drewN ?_ _ | refine blk_drew ?_ | refine blk_alloc ?_ _)); exact BK163.out⟩, ⟨xb⟩⟩
  ·rw [if_neg c4] at H
   have c4b0 : decide (0 < (l0_1.length : Int)) = false := decide_eq_false c4
   have c4b1 : decide (0 < l0_1.length) = false := decide_eq_false (by omega)
   clear c4
   (first | rw [c4b0] | (simp only [i64_w, i32_w]; rw [c4b0]) | skip)
   have H' := xy H
   clear H
   obtain ⟨hcz11_0, hcz11_1, hcz11_2, hcz11_3, hcz11_4, hcz11_5, hcz11_6, hcz11_7, hcz11_8, hcz11_9, hcz11_10, hcz11_11, hcz11_12, hcz11_13⟩ := kt14 BK163.out
   go_wp2
   go_meet
   case rel => exact ⟨_, (false), xg, H', ⟨by first | omega | exact Nat.le_refl _⟩, ⟨by (with_reducible repeat (first | refine blk_drewN ?_ _ | refine blk_drew ?_ | refine blk_alloc ?_ _)); exact BK163.out⟩, ⟨xb⟩⟩
 case rest =>
  clear HC2
  try clear p2
  try clear c3
  try clear c4
  try clear c4b0
  try clear c4b1
  try clear hcz11_0 hcz11_1 hcz11_10 hcz11_11 hcz11_12 hcz11_13 hcz11_2 hcz11_3 hcz11_4 hcz11_5 hcz11_6 hcz11_7 hcz11_8 hcz11_9
  try clear hcz6_0 hcz6_1 hcz6_10 hcz6_11 hcz6_12 hcz6_13 hcz6_2 hcz6_3 hcz6_4 hcz6_5 hcz6_6 hcz6_7 hcz6_8 hcz6_9
  obtain ⟨kq, x15_1, rfl, HA, HJ1, BK163, HB⟩ := hcut
  cases kq with
  | zero => exact absurd HA.out (by simp [job_Job_goes.j0])
  | succ kj1 =>
   have H := HA.out
   clear HA
   simp only [job_Job_goes.j0] at H
   by_cases c12 : x15_1 = true
   ·subst c12
    rw [if_pos rfl] at H
    obtain rfl := Option.some.inj H
    go_wp2
    go_ret
    exact ⟨xe, xb⟩
   ·replace c12 := Bool.eq_false_iff.mpr c12
    subst c12
    rw [if_neg (show ¬ (false = true) by decide)] at H
    replace H := xj H
    obtain ⟨⟨t168, t169⟩, A130, H⟩ := H
    try dsimp only at H
    have A13 := xy A130
    clear A130
    have HC14 := xy H
    clear H
    obtain ⟨hcz15_0, hcz15_1, hcz15_2, hcz15_3, hcz15_4, hcz15_5, hcz15_6, hcz15_7, hcz15_8, hcz15_9, hcz15_10, hcz15_11, hcz15_12, hcz15_13⟩ := kt14 BK163.out
    go_upto_region 4 with (first | ((with_reducible refine gate_callee (f := 38) rfl ?_); refine goesL_ (some 19) rfl rfl Tryz.func38 (by kernel_rfl) rfl #[.slice A0_3 l0_3.length c0_3] rfl xr ?_; (with_reducible refine (job_one.calls _ _ l0_3 t168 t169 _ (Tabs.below hT xf) ?side1 ?side2 A13.out).mono ?_); (case side1 => exact Kd.C_below HR0_3.out xb); (case side2 => exact HC0_3.out); rintro e w16 ⟨rfl, hb⟩; refine ⟨_, rfl, ?_⟩; replace BK163 := xd BK163.out hb; replace HB := xy (below_step xb hb); (try clear hb); (try clear hb2); (try clear hk); (try clear hi)))
    (try simp only [Act.put, List.setIfInBounds_toArray, List.set_cons_zero, List.set_cons_succ])
    go_cut [30] (fun v30 wc => ∃ (kq : Nat) (x30_13 : Bool), v30 = .bool x30_13 ∧ Aside0 (job_Job_goes.j1 kq t168 x30_13 a0_0 l0_1 l0_2 l0_3 a0_4 l0_5 a0_6 a0_7 a0_8 a0_9 a0_10 a0_11 a0_12 a0_13 = some r) ∧ Aside0 (kq ≤ kj1) ∧ Aside0 (wc.heap[gb163]? = some (.cells #[.bool a0_0, (.slice A0_1 l0_1.length c0_1), (.slice A0_2 l0_2.length c0_2), (.slice A0_3 l0_3.length c0_3), .int .i64 a0_4, (.slice A0_5 l0_5.length c0_5), .bool a0_6, .int .i64 a0_7, .string a0_8, .bool a0_9, .int .i64 a0_10, .bool a0_11, .bool a0_12, .int .i64 a0_13] 26 (0, 0))) ∧ Aside0 (Below w.heap.size w wc))
    case first =>
     have H := HC14.out
     clear HC14
     by_cases c17 : t169 = true
     ·subst c17
      rw [if_pos rfl] at H
      obtain ⟨y170, hy170⟩ : ∃ y_ : List Bool, y_ = (([true] : List Bool)) := ⟨_, rfl⟩
      replace H : ((check_Check.f kj1 l0_2 ([] : List Bool) y170).bind fun t173 => (job_Job_goes.j1 kj1 t168 (t173 != 0) a0_0 l0_1 l0_2 l0_3 a0_4 l0_5 a0_6 a0_7 a0_8 a0_9 a0_10 a0_11 a0_12 a0_13)) = some r := by first | (rw [hy170]; with_reducible exact H) | (have H2_ := (Option.bind_some _ _).symm.trans H; rw [hy170]; with_reducible exact H2_) | (have H2_ := (Option.bind_some _ _).symm.trans H; with_reducible exact H2_) | with_reducible exact H | (rw [hy170]; exact H) | exact H
      have Ny170 := xy hy170
      clear hy170
      replace H := xj H
      obtain ⟨t173, A180, H⟩ := H
      try dsimp only at H
      have A18 := xy A180
      clear A180
      have H' := xy H
      clear H
      obtain ⟨hcz19_0, hcz19_1, hcz19_2, hcz19_3, hcz19_4, hcz19_5, hcz19_6, hcz19_7, hcz19_8, hcz19_9, hcz19_10, hcz19_11, hcz19_12, hcz19_13⟩ := kt14 BK163.out
      go_wp2_with (first | ((with_reducible refine gate_dst (N := 27) rfl ?_); (try (refine gate_guard (by rfl) ?_; dsimp only)); refine Kd.R_lit Kd.bool _ 4 ?hg (N := 27) ?hd (xs := ([true] : List Bool)) (inner := [.bool true]) (ok := fun _ => True) (okp := fun _ => True) ?hr ?hp (fun _ hk => hk) trivial (Below.refl _ _) (Nat.le_refl _) (by simp) ?_; (case hd => rfl); (case hg => rfl); (case hr => exact xh); (case hp => exact (Reps.one (show Kd.M Kd.bool _ _ _ true [.bool true] from rfl) (Reps.none _ _))); intro v171 w20 ho21 hb hg_ hnew_; clear hg_ hnew_; (first | rw [← Ny170.out] at ho21 | (simp only [Int.reduceToNat] at ho21; rw [← Ny170.out] at ho21)); have HO172 := xy (Kd.R_lower ho21 (below_size xb)); replace BK163 := xd BK163.out hb; replace HB := xy (below_step xb hb); clear hb ho21; obtain ⟨Ao22, co22, eo22⟩ := Kd.R_slice HO172.out; subst eo22) | (go_at_call 37; (refine (check_Check.calls kj1 _ _ l0_2 _ _ ([] : List Bool) _ _ y170 t173 _ (Tabs.below hT xf) ?side1 ?side2 ?side3 ?side4 ?side5 ?side6 A18.out).mono ?_); (case side1 => exact Kd.C_below HR0_2.out xb); (case side2 => exact HC0_2.out); (case side3 => exact Kd.C_nil _ _); (case side4 => exact Nat.le_refl _); (case side5 => repeat (first | exact (Kd.R_reads' HO172.out).2.2 | (with_reducible refine Kd.C_alloc ?_ _) | (with_reducible refine Kd.C_drewN ?_ _) | (with_reducible refine Kd.C_drew ?_))); (case side6 => exact (Kd.R_reads' HO172.out).2.1); rintro e w23 ⟨rfl, hb⟩; replace HO172 := xy (Kd.R_below (xo HO172.out) hb); replace BK163 := xd BK163.out hb; replace HB := xy (below_step xb hb); (try clear hb); (try clear hb2); (try clear hk); (try clear hi)))
      go_meet
      case rel => exact ⟨_, ((t173 != 0)), xg, H', ⟨by have := HJ1.out; first | omega | exact Nat.le_refl _⟩, ⟨by (with_reducible repeat (first | refine blk_drewN ?_ _ | refine blk_drew ?_ | refine blk_alloc ?_ _)); exact BK163.out⟩, ⟨xb⟩⟩
     ·replace c17 := Bool.eq_false_iff.mpr c17
      subst c17
      rw [if_neg (show ¬ (false = true) by decide)] at H
      have H' := xy H
      clear H
      go_wp2
      go_meet
      case rel => exact ⟨_, (true), xg, H', ⟨by have := HJ1.out; first | omega | exact Nat.le_refl _⟩, ⟨by (with_reducible repeat (first | refine blk_drewN ?_ _ | refine blk_drew ?_ | refine blk_alloc ?_ _)); exact BK163.out⟩, ⟨xb⟩⟩
    case rest =>
     clear HC14
     try clear c1
     try clear p2
     try clear c3
     try clear c4
     try clear c4b0
     try clear c4b1
     try clear c12
     try clear c17
     try clear hcz11_0 hcz11_1 hcz11_10 hcz11_11 hcz11_12 hcz11_13 hcz11_2 hcz11_3 hcz11_4 hcz11_5 hcz11_6 hcz11_7 hcz11_8 hcz11_9
     try clear hcz15_0 hcz15_1 hcz15_10 hcz15_11 hcz15_12 hcz15_13 hcz15_2 hcz15_3 hcz15_4 hcz15_5 hcz15_6 hcz15_7 hcz15_8 hcz15_9
     try clear hcz19_0 hcz19_1 hcz19_10 hcz19_11 hcz19_12 hcz19_13 hcz19_2 hcz19_3 hcz19_4 hcz19_5 hcz19_6 hcz19_7 hcz19_8 hcz19_9
     try clear hcz6_0 hcz6_1 hcz6_10 hcz6_11 hcz6_12 hcz6_13 hcz6_2 hcz6_3 hcz6_4 hcz6_5 hcz6_6 hcz6_7 hcz6_8 hcz6_9
     try clear p2
     obtain ⟨kq, x30_13, rfl, HA, HJ13, BK163, HB⟩ := hcut
     cases kq with
     | zero => exact absurd HA.out (by simp [job_Job_goes.j1])
     | succ kj13 =>
      have H := HA.out
      clear HA
      simp only [job_Job_goes.j1] at H
      by_cases c24 : x30_13 = true
      ·subst c24
       rw [if_pos rfl] at H
       obtain rfl := Option.some.inj H
       go_wp2
       go_ret
       exact ⟨xe, xb⟩
      ·replace c24 := Bool.eq_false_iff.mpr c24
       subst c24
       rw [if_neg (show ¬ (false = true) by decide)] at H
       have HC25 := xy H
       clear H
       obtain ⟨hcz26_0, hcz26_1, hcz26_2, hcz26_3, hcz26_4, hcz26_5, hcz26_6, hcz26_7, hcz26_8, hcz26_9, hcz26_10, hcz26_11, hcz26_12, hcz26_13⟩ := kt14 BK163.out
       go_upto_if 33 with (fail)
       go_cut [33] (fun v33 wc => ∃ (kq : Nat) (x33_24 : Bool), v33 = .bool x33_24 ∧ Aside0 (job_Job_goes.j2 kq t168 a0_4 x33_24 a0_0 l0_1 l0_2 l0_3 a0_4 l0_5 a0_6 a0_7 a0_8 a0_9 a0_10 a0_11 a0_12 a0_13 = some r) ∧ Aside0 (kq ≤ kj13) ∧ Aside0 (wc.heap[gb163]? = some (.cells #[.bool a0_0, (.slice A0_1 l0_1.length c0_1), (.slice A0_2 l0_2.length c0_2), (.slice A0_3 l0_3.length c0_3), .int .i64 a0_4, (.slice A0_5 l0_5.length c0_5), .bool a0_6, .int .i64 a0_7, .string a0_8, .bool a0_9, .int .i64 a0_10, .bool a0_11, .bool a0_12, .int .i64 a0_13] 26 (0, 0))) ∧ Aside0 (Below w.heap.size w wc))
       case first =>
        have H := HC25.out
        clear HC25
        by_cases c27 : a0_4 = 0
        ·rw [if_pos c27] at H
         have c27b0 : (a0_4 == 0) = true := beq_iff_eq.mpr c27
         have c27b1 : (a0_4 != 0) = false := bne_eq_false_iff_eq.mpr c27
         clear c27
         (first | rw [c27b0] | (simp only [i64_w, i32_w]; rw [c27b0]) | skip)
         have H' := xy H
         clear H
         go_wp2
         go_meet
         case rel => exact ⟨_, ((a0_4 == 0)), xg, H', ⟨by have := HJ1.out; have := HJ13.out; first | omega | exact Nat.le_refl _⟩, ⟨by (with_reducible repeat (first | refine blk_drewN ?_ _ | refine blk_drew ?_ | refine blk_alloc ?_ _)); exact BK163.out⟩, ⟨xb⟩⟩
        ·rw [if_neg c27] at H
         have c27b0 : (a0_4 == 0) = false := beq_eq_false_iff_ne.mpr c27
         have c27b1 : (a0_4 != 0) = true := bne_iff_ne.mpr c27
         (first | rw [c27b0] | (simp only [i64_w, i32_w]; rw [c27b0]) | skip)
         by_cases c28 : a0_4 = 1
         ·rw [if_pos c28] at H
          have c28b0 : (a0_4 == 1) = true := beq_iff_eq.mpr c28
          have c28b1 : (a0_4 != 1) = false := bne_eq_false_iff_eq.mpr c28
          clear c28
          have H' := xy H
          clear H
          go_wp2
          go_meet
          case rel => exact ⟨_, ((a0_4 == 1)), xg, H', ⟨by have := HJ1.out; have := HJ13.out; first | omega | exact Nat.le_refl _⟩, ⟨by (with_reducible repeat (first | refine blk_drewN ?_ _ | refine blk_drew ?_ | refine blk_alloc ?_ _)); exact BK163.out⟩, ⟨xb⟩⟩
         ·rw [if_neg c28] at H
          have c28b0 : (a0_4 == 1) = false := beq_eq_false_iff_ne.mpr c28
          have c28b1 : (a0_4 != 1) = true := bne_iff_ne.mpr c28
          have H' := xy H
          clear H
          go_wp2
          go_meet
          case rel => exact ⟨_, ((a0_4 == 2)), xg, H', ⟨by have := HJ1.out; have := HJ13.out; first | omega | exact Nat.le_refl _⟩, ⟨by (with_reducible repeat (first | refine blk_drewN ?_ _ | refine blk_drew ?_ | refine blk_alloc ?_ _)); exact BK163.out⟩, ⟨xb⟩⟩
       case rest =>
        clear HC25
        try clear c1
        try clear c2
        try clear p2
        try clear c3
        try clear c4
        try clear c4b0
        try clear c4b1
        try clear c12
        try clear c17
        try clear c24
        try clear c27
        try clear c27b0
        try clear c27b1
        try clear c28
        try clear c28b0
        try clear c28b1
        try clear hcz11_0 hcz11_1 hcz11_10 hcz11_11 hcz11_12 hcz11_13 hcz11_2 hcz11_3 hcz11_4 hcz11_5 hcz11_6 hcz11_7 hcz11_8 hcz11_9
        try clear hcz15_0 hcz15_1 hcz15_10 hcz15_11 hcz15_12 hcz15_13 hcz15_2 hcz15_3 hcz15_4 hcz15_5 hcz15_6 hcz15_7 hcz15_8 hcz15_9
        try clear hcz19_0 hcz19_1 hcz19_10 hcz19_11 hcz19_12 hcz19_13 hcz19_2 hcz19_3 hcz19_4 hcz19_5 hcz19_6 hcz19_7 hcz19_8 hcz19_9
        try clear hcz26_0 hcz26_1 hcz26_10 hcz26_11 hcz26_12 hcz26_13 hcz26_2 hcz26_3 hcz26_4 hcz26_5 hcz26_6 hcz26_7 hcz26_8 hcz26_9
        try clear hcz6_0 hcz6_1 hcz6_10 hcz6_11 hcz6_12 hcz6_13 hcz6_2 hcz6_3 hcz6_4 hcz6_5 hcz6_6 hcz6_7 hcz6_8 hcz6_9
        try clear p2
        obtain ⟨kq, x33_24, rfl, HA, HJ24, BK163, HB⟩ := hcut
        cases kq with
        | zero => exact absurd HA.out (by simp [job_Job_goes.j2])
        | succ kj24 =>
         have H := HA.out
         clear HA
         simp only [job_Job_goes.j2] at H
         by_cases c29 : x33_24 = true
         ·subst c29
          rw [if_pos rfl] at H
          obtain rfl := Option.some.inj H
          go_wp2
          go_ret
          exact ⟨xe, xb⟩
         ·replace c29 := Bool.eq_false_iff.mpr c29
          subst c29
          rw [if_neg (show ¬ (false = true) by decide)] at H
          by_cases c30 : a0_4 = 6
          ·rw [if_pos c30] at H
           have c30b0 : (a0_4 == 6) = true := beq_iff_eq.mpr c30
           have c30b1 : (a0_4 != 6) = false := bne_eq_false_iff_eq.mpr c30
           clear c30
           obtain rfl := Option.some.inj H
           go_wp2
           go_ret
           exact ⟨xe, xb⟩
          ·rw [if_neg c30] at H
           have c30b0 : (a0_4 == 6) = false := beq_eq_false_iff_ne.mpr c30
           have c30b1 : (a0_4 != 6) = true := bne_iff_ne.mpr c30
           by_cases c31 : a0_4 = 7
           ·rw [if_pos c31] at H
            have c31b0 : (a0_4 == 7) = true := beq_iff_eq.mpr c31
            have c31b1 : (a0_4 != 7) = false := bne_eq_false_iff_eq.mpr c31
            clear c31
            obtain ⟨y174, hy174⟩ : ∃ y_ : List Bool, y_ = (([a0_6, t168] : List Bool)) := ⟨_, rfl⟩
            replace H : ((check_Check.f kj24 l0_5 y174 (([a0_6] : List Bool))).bind fun t180 => (some (t180 == 0))) = some r := by first | (rw [hy174]; with_reducible exact H) | (have H2_ := (Option.bind_some _ _).symm.trans H; rw [hy174]; with_reducible exact H2_) | (have H2_ := (Option.bind_some _ _).symm.trans H; with_reducible exact H2_) | with_reducible exact H | (rw [hy174]; exact H) | exact H
            have Ny174 := xy hy174
            clear hy174
            obtain ⟨y177, hy177⟩ : ∃ y_ : List Bool, y_ = (([a0_6] : List Bool)) := ⟨_, rfl⟩
            replace H : ((check_Check.f kj24 l0_5 y174 y177).bind fun t180 => (some (t180 == 0))) = some r := by first | (rw [hy177]; with_reducible exact H) | (have H2_ := (Option.bind_some _ _).symm.trans H; rw [hy177]; with_reducible exact H2_) | (have H2_ := (Option.bind_some _ _).symm.trans H; with_reducible exact H2_) | with_reducible exact H | (rw [hy177]; exact H) | exact H
            have Ny177 := xy hy177
            clear hy177
            replace H := xj H
            obtain ⟨t180, A320, H⟩ := H
            try dsimp only at H
            have A32 := xy A320
            clear A320
            obtain rfl := Option.some.inj H
            obtain ⟨hcz33_0, hcz33_1, hcz33_2, hcz33_3, hcz33_4, hcz33_5, hcz33_6, hcz33_7, hcz33_8, hcz33_9, hcz33_10, hcz33_11, hcz33_12, hcz33_13⟩ := kt14 BK163.out
            go_wp2_with (first | ((with_reducible refine gate_dst (N := 50) rfl ?_); (try (refine gate_guard (by rfl) ?_; dsimp only)); refine Kd.R_lit Kd.bool _ 4 ?hg (N := 50) ?hd (xs := ([a0_6, t168] : List Bool)) (inner := [.bool a0_6, .bool t168]) (ok := fun _ => True) (okp := fun _ => True) ?hr ?hp (fun _ hk => hk) trivial (Below.refl _ _) (Nat.le_refl _) (by simp) ?_; (case hd => rfl); (case hg => rfl); (case hr => exact xh); (case hp => exact (Reps.one (show Kd.M Kd.bool _ _ _ a0_6 [.bool a0_6] from rfl) (Reps.one (show Kd.M Kd.bool _ _ _ t168 [.bool t168] from rfl) (Reps.none _ _)))); intro v175 w34 ho35 hb hg_ hnew_; clear hg_ hnew_; (first | rw [← Ny174.out] at ho35 | (simp only [Int.reduceToNat] at ho35; rw [← Ny174.out] at ho35)); have HO176 := xy (Kd.R_lower ho35 (below_size xb)); replace BK163 := xd BK163.out hb; replace HB := xy (below_step xb hb); clear hb ho35; obtain ⟨hcz36_0, hcz36_1, hcz36_2, hcz36_3, hcz36_4, hcz36_5, hcz36_6, hcz36_7, hcz36_8, hcz36_9, hcz36_10, hcz36_11, hcz36_12, hcz36_13⟩ := kt14 BK163.out) | ((with_reducible refine gate_dst (N := 54) rfl ?_); (try (refine gate_guard (by rfl) ?_; dsimp only)); refine Kd.R_lit Kd.bool _ 4 ?hg (N := 54) ?hd (xs := ([a0_6] : List Bool)) (inner := [.bool a0_6]) (ok := fun _ => True) (okp := fun _ => True) ?hr ?hp (fun _ hk => hk) trivial (Below.refl _ _) (Nat.le_refl _) (by simp) ?_; (case hd => rfl); (case hg => rfl); (case hr => exact xh); (case hp => exact (Reps.one (show Kd.M Kd.bool _ _ _ a0_6 [.bool a0_6] from rfl) (Reps.none _ _))); intro v178 w37 ho38 hb hg_ hnew_; clear hg_ hnew_; (first | rw [← Ny177.out] at ho38 | (simp only [Int.reduceToNat] at ho38; rw [← Ny177.out] at ho38)); have HO179 := xy (Kd.R_lower (Kd.R_new' ho38 (Kd.R_lt (xo HO176.out))) (below_size xb)); replace HO176 := xy (Kd.R_elder' (xo HO176.out) (Kd.R_base ho38) hb); replace BK163 := xd BK163.out hb; replace HB := xy (below_step xb hb); clear hb ho38; obtain ⟨Ao39, co39, eo39⟩ := Kd.R_slice HO176.out; subst eo39; obtain ⟨Ao40, co40, eo40⟩ := Kd.R_slice HO179.out; subst eo40) | ((with_reducible refine gate_callee (f := 37) rfl ?_); refine goesL_ (some 55) rfl rfl Tryz.func37 (by kernel_rfl) rfl #[.slice A0_5 l0_5.length c0_5, .slice Ao39 y174.length co39, .slice Ao40 y177.length co40] rfl xr ?_; (with_reducible refine (check_Check.calls kj24 _ _ l0_5 _ _ y174 _ _ y177 t180 _ (Tabs.below hT xf) ?side1 ?side2 ?side3 ?side4 ?side5 ?side6 A32.out).mono ?_); (case side1 => exact Kd.C_below HR0_5.out xb); (case side2 => exact HC0_5.out); (case side3 => repeat (first | exact (Kd.R_reads' HO176.out).2.2 | (with_reducible refine Kd.C_alloc ?_ _) | (with_reducible refine Kd.C_drewN ?_ _) | (with_reducible refine Kd.C_drew ?_))); (case side4 => exact (Kd.R_reads' HO176.out).2.1); (case side5 => repeat (first | exact (Kd.R_reads' HO179.out).2.2 | (with_reducible refine Kd.C_alloc ?_ _) | (with_reducible refine Kd.C_drewN ?_ _) | (with_reducible refine Kd.C_drew ?_))); (case side6 => exact (Kd.R_reads' HO179.out).2.1); rintro e w41 ⟨rfl, hb⟩; refine ⟨_, rfl, ?_⟩; replace HO176 := xy (Kd.R_below (xo HO176.out) hb); replace HO179 := xy (Kd.R_below (xo HO179.out) hb); replace BK163 := xd BK163.out hb; replace HB := xy (below_step xb hb); (try clear hb); (try clear hb2); (try clear hk); (try clear hi)))
            go_ret
            exact ⟨xe, xb⟩
           ·rw [if_neg c31] at H
            have c31b0 : (a0_4 == 7) = false := beq_eq_false_iff_ne.mpr c31
            have c31b1 : (a0_4 != 7) = true := bne_iff_ne.mpr c31
            obtain rfl := Option.some.inj H
            go_wp2
            go_ret
            exact ⟨xe, xb⟩
section
/- Walked functions, by this session's program over the kit's print. -/
attribute [local go_sem high] eqA24
def value_Text.f (a0 : ByteArray) : Option (Bool × Int × ByteArray) := if 0 ≤ (mn (a0.size : Int) 1000) then (if (mn (a0.size : Int) 1000) ≤ (a0.size : Int) then (some (true, 0, a0.extract 0 ((mn (a0.size : Int) 1000) : Int).toNat)) else (none)) else (none)
set_option maxHeartbeats 8000000 in
set_option maxRecDepth 100000 in
theorem value_Text.calls (a0 : ByteArray) (r1 : Bool) (r2 : Int) (r3 : ByteArray) (w : World) (hT : Tabs w) (h : value_Text.f a0 = some (r1, r2, r3)) :
  Calls Tryz.prog 39 #[.string a0] w fun e w' => e = .returned (.agg #[.bool r1, .int .i64 r2, .string r3]) ∧ Below w.heap.size w w' := by
 have hu24 := Tryz.underlying24
 have HB := xy (Below.refl w.heap.size w)
 unfold value_Text.f at h
 have H := h
 clear h
 obtain ⟨ji2, hji2⟩ : ∃ j_ : Int, (mn (a0.size : Int) 1000) = j_ := ⟨_, rfl⟩
 replace H : (if 0 ≤ (ji2) then (if (ji2) ≤ (a0.size : Int) then (some (true, 0, a0.extract 0 ((ji2) : Int).toNat)) else (none)) else (none)) = some (r1, r2, r3) := by first | (rw [hji2] at H; exact H) | (simp only [hji2] at H ⊢; exact H)
 (try (have hji2h : ji2 ≤ 1000 := by (rw [← hji2]; unfold mn; (repeat' split) <;> omega)))
 (try (have hji2g : ji2 ≤ 64 := by omega))
 (try (have hji2l : 0 ≤ ji2 := by (rw [← hji2]; unfold mn; (repeat' split) <;> omega)))
 (try (have hji2m : 0 ≤ ji2 := by omega))
 have hji2_ : (if 1000 < (a0.size : Int) then 1000 else (a0.size : Int)) = ji2 := hji2
 by_cases c3 : 0 ≤ (ji2)
 ·rw [if_pos c3] at H
  have c3b0 := eq_true c3
  have c3b1 : decide (0 ≤ (ji2)) = true := decide_eq_true c3
  clear c3
  by_cases c4 : (ji2) ≤ (a0.size : Int)
  ·rw [if_pos c4] at H
   have c4b0 := eq_true c4
   have c4b1 : decide ((ji2) ≤ (a0.size : Int)) = true := decide_eq_true c4
   clear c4
   simp only [Option.some.injEq, Prod.mk.injEq] at H
   obtain ⟨rfl, rfl, rfl⟩ := H
   go_enter Tryz.func39, Tryz.ntmps39
   go_wp2_with (((with_reducible refine gate_dst (N := 2) rfl ?_); refine xq (N := 2) (cs := #[.bool false, .int .i64 0, .string (⟨#[]⟩ : ByteArray)]) (t := 24) ?_; intro gb181 hg w5 hbox hb; have BK181 := xy (hbox); have GW181 := xs w hg; have GE181 := xs w hg; replace HB := xy (below_step xb hb); clear hb hbox hg; obtain ⟨hcz6_0, hcz6_1, hcz6_2⟩ := kt3 BK181.out; obtain ⟨hfz6_0, hfz6_1, hfz6_2⟩ := kz3 BK181.out))
   refine bodyPost_ret (results_cell_row rfl _ _ gb181 24 #[.bool true, .int .i64 0, .string (a0.extract 0 ((ji2) : Int).toNat)] (0, 0) _ rfl (kp BK181.out) Tryz.underlying24 rfl (by kernel_rfl)) rfl ?_
   exact ⟨by first | rfl | (simp [errW_none, errW_some] <;> rfl) | (simp only [← hji2]; first | rfl | (simp [errW_none, errW_some] <;> rfl)) | (simp [*, errW_none, errW_some] <;> rfl), xb⟩
  ·rw [if_neg c4] at H
   exact absurd H (by simp)
 ·rw [if_neg c3] at H
  exact absurd H (by simp)
def job_isVal.f (a0_0 : Bool) (a0_1 : Int) (a0_2 : ByteArray) : Option (Bool) := (value_Text.f a0_2).bind fun bt183 => (if (a0_0 == bt183.1 && (a0_1 == bt183.2.1 && (a0_2.toList == bt183.2.2.toList))) = true then (some true) else ((value_Num.f a0_1).bind fun bt186 => (some (a0_0 == bt186.1 && (a0_1 == bt186.2.1 && (a0_2.toList == bt186.2.2.toList))))))
def job_isVal.T1 : Bool × List (List Nat × List Nat) := (true, [([], []), ([], []), ([1], [1]), ([2], [2]), ([0, 3], [0, 3]), ([4, 3], [4]), ([5], [5]), ([5], [5]), ([7, 5], [5, 7]), ([8, 5, 5], [5, 8]), ([6, 9, 5], [5, 6, 9]), ([5, 10], [5, 10]), ([11, 9, 0, 1, 2, 3, 4, 5, 6, 7, 8, 9, 10, 11], [11])])
def job_isVal.B1 : List Nat := [0, 0, 2, 6, 15, 31, 63, 63, 191, 447, 1023, 2047, 4095]
theorem job_isVal.tab1 : rtab .any (opsOf Tryz.f33 1) = job_isVal.T1 := by kernel_rfl
theorem job_isVal.bits1 : waitsOk job_isVal.T1.2 job_isVal.B1 = true := by kernel_rfl
set_option maxHeartbeats 8000000 in
set_option maxRecDepth 100000 in
theorem job_isVal.calls (a0_0 : Bool) (a0_1 : Int) (a0_2 : ByteArray) (r : Bool) (w : World) (hT : Tabs w) (h : job_isVal.f a0_0 a0_1 a0_2 = some r) :
  Calls Tryz.prog 33 #[.agg #[.bool a0_0, .int .i64 a0_1, .string a0_2]] w fun e w' => e = .returned (.bool r) ∧ Below w.heap.size w w' := by
 have hu24 := Tryz.underlying24
 have HB := xy (Below.refl w.heap.size w)
 unfold job_isVal.f at h
 have H := h
 clear h
 replace H := xj H
 obtain ⟨⟨t183, t184, t185⟩, A20, H⟩ := H
 try dsimp only at H
 have A2 := xy A20
 clear A20
 by_cases c3 : (a0_0 == t183 && (a0_1 == t184 && (a0_2.toList == t185.toList))) = true
 ·rw [if_pos c3] at H
  have c3b0 : (a0_0 == t183 && (a0_1 == t184 && (a0_2.toList == t185.toList))) = true := c3
  (try (have c3b1 : decide (a0_0 = t183 && (a0_1 == t184 && (a0_2.toList == t185.toList))) = true := by simpa using c3))
  (try (have c3b2 : (a0_0 == t183 && (a0_1 == t184 && (a0_2.toList == t185.toList))) = true := by simpa using c3))
  clear c3
  obtain rfl := Option.some.inj H
  go_enter Tryz.func33, Tryz.ntmps33
  try go_wp2_with (first | ((with_reducible refine gate_dst (N := 1) rfl ?_); refine xq (N := 1) (cs := #[.bool a0_0, .int .i64 a0_1, .string a0_2]) (t := 24) ?_; intro gb182 hg w4 hbox hb; have BK182 := xy (hbox); have GW182 := xs w hg; have GE182 := xs w hg; replace HB := xy (below_step xb hb); clear hb hbox hg))
  replace BK182 := xy (blk_drew BK182.out)
  replace HB := xy (below_drew1 HB.out)
  refine start_ (n := 13) (S := fun w' => w'.cell? ⟨gb182, 0, none⟩ = some (.bool a0_0) ∧ w'.cell? ⟨gb182, 1, none⟩ = some (.int .i64 a0_1) ∧ w'.cell? ⟨gb182, 2, none⟩ = some (.string a0_2)) (ds := []) #[false, false, false, false, false, false, false, false, false, false, false, false, false] (by kernel_rfl) rfl rfl ⟨(kc BK182.out 0).trans rfl, (kc BK182.out 1).trans rfl, (kc BK182.out 2).trans rfl⟩ (fun hHeld => ?_); refine with_tabW job_isVal.tab1 job_isVal.bits1 (fun HT_ HW_ => ?_)
  generalize w4.drew = w5 at BK182 HB hHeld ⊢
  refine yz 1 (some 4) (bs 13 2) HT_.out (h := ?_)
  refine yt 0 (some 3) (bs 13 3) HT_.out HW_.out hHeld (h := ?_)
  refine yt 2 (some 5) (bs 13 7) HT_.out HW_.out hHeld (h := ?_)
  refine one_ (i := 3) (N := some 6) #[true, true, true, true, false, false, false, false, false, false, false, false, false] rfl rfl (one_of HT_.out (by kernel_rfl)) (by decide) (fun K hK => ?_)
  refine goes_ Tryz.func39 (by kernel_rfl) rfl #[.string a0_2] (by rfl) rfl rfl xr ?_
  with_reducible refine (value_Text.calls a0_2 t183 t184 t185 _ (Tabs.below hT xf) A2.out).mono ?_
  rintro e w6 ⟨rfl, hb⟩
  refine ⟨_, rfl, ?_⟩
  replace BK182 := xd BK182.out hb
  replace HB := xy (below_step xb hb)
  (try clear hb)
  (try clear hb2)
  (try clear hk)
  (try clear hi)
  refine hK.out _ _ ⟨(kc BK182.out 0).trans rfl, (kc BK182.out 1).trans rfl, (kc BK182.out 2).trans rfl⟩ (fun hHeld => ?_)
  clear hK K
  refine norm_ (a' := ?_) ?_ ?_
  rotate_left
  ·show Act.put _ (some 6) _ = _
   simp only [Act.put, List.setIfInBounds_toArray, List.set_cons_zero, List.set_cons_succ, i64_w, i32_w]
   rfl
  refine yz 4 (some 7) (bs 13 31) HT_.out (h := ?_)
  refine yz 5 (some 8) (bs 13 63) HT_.out (h := ?_)
  refine yu 6 (some 9) (bs 13 127) HT_.out (h := ?_)
  refine yu 7 (some 10) (bs 13 255) HT_.out (h := ?_)
  refine yu 8 (some 11) (bs 13 511) HT_.out (h := ?_)
  refine yu 9 (some 12) (bs 13 1023) HT_.out (h := ?_)
  refine yu 10 (some 13) (bs 13 2047) HT_.out (h := ?_)
  refine yz 11 (some 14) (bs 13 4095) HT_.out (h := ?_)
  refine yz 12 (some 2) (bs 13 8191) HT_.out (h := ?_)
  refine done_ (done_of HT_.out (by kernel_rfl)) ?_
  try go_wp2
  go_ret
  exact ⟨xe, xb⟩
 ·rw [if_neg c3] at H
  have c3b0 : (a0_0 == t183 && (a0_1 == t184 && (a0_2.toList == t185.toList))) = false := by simpa using c3
  (try (have c3b1 : decide (a0_0 = t183 && (a0_1 == t184 && (a0_2.toList == t185.toList))) = false := by simpa using c3))
  (try (have c3b2 : (a0_0 == t183 && (a0_1 == t184 && (a0_2.toList == t185.toList))) = false := by simpa using c3))
  (try (have c3b3 : ¬ (a0_0 = t183 && (a0_1 == t184 && (a0_2.toList == t185.toList))) := by simpa using c3))
  clear c3
  replace H := xj H
  obtain ⟨⟨t186, t187, t188⟩, A70, H⟩ := H
  try dsimp only at H
  have A7 := xy A70
  clear A70
  obtain rfl := Option.some.inj H
  go_enter Tryz.func33, Tryz.ntmps33
  try go_wp2_with (first | ((with_reducible refine gate_dst (N := 1) rfl ?_); refine xq (N := 1) (cs := #[.bool a0_0, .int .i64 a0_1, .string a0_2]) (t := 24) ?_; intro gb182 hg w8 hbox hb; have BK182 := xy (hbox); have GW182 := xs w hg; have GE182 := xs w hg; replace HB := xy (below_step xb hb); clear hb hbox hg))
  replace BK182 := xy (blk_drew BK182.out)
  replace HB := xy (below_drew1 HB.out)
  refine start_ (n := 13) (S := fun w' => w'.cell? ⟨gb182, 0, none⟩ = some (.bool a0_0) ∧ w'.cell? ⟨gb182, 1, none⟩ = some (.int .i64 a0_1) ∧ w'.cell? ⟨gb182, 2, none⟩ = some (.string a0_2)) (ds := []) #[false, false, false, false, false, false, false, false, false, false, false, false, false] (by kernel_rfl) rfl rfl ⟨(kc BK182.out 0).trans rfl, (kc BK182.out 1).trans rfl, (kc BK182.out 2).trans rfl⟩ (fun hHeld => ?_); refine with_tabW job_isVal.tab1 job_isVal.bits1 (fun HT_ HW_ => ?_)
  generalize w8.drew = w9 at BK182 HB hHeld ⊢
  refine yz 1 (some 4) (bs 13 2) HT_.out (h := ?_)
  refine yt 0 (some 3) (bs 13 3) HT_.out HW_.out hHeld (h := ?_)
  refine yt 2 (some 5) (bs 13 7) HT_.out HW_.out hHeld (h := ?_)
  refine one_ (i := 3) (N := some 6) #[true, true, true, true, false, false, false, false, false, false, false, false, false] rfl rfl (one_of HT_.out (by kernel_rfl)) (by decide) (fun K hK => ?_)
  refine goes_ Tryz.func39 (by kernel_rfl) rfl #[.string a0_2] (by rfl) rfl rfl xr ?_
  with_reducible refine (value_Text.calls a0_2 t183 t184 t185 _ (Tabs.below hT xf) A2.out).mono ?_
  rintro e w10 ⟨rfl, hb⟩
  refine ⟨_, rfl, ?_⟩
  replace BK182 := xd BK182.out hb
  replace HB := xy (below_step xb hb)
  (try clear hb)
  (try clear hb2)
  (try clear hk)
  (try clear hi)
  refine hK.out _ _ ⟨(kc BK182.out 0).trans rfl, (kc BK182.out 1).trans rfl, (kc BK182.out 2).trans rfl⟩ (fun hHeld => ?_)
  clear hK K
  refine norm_ (a' := ?_) ?_ ?_
  rotate_left
  ·show Act.put _ (some 6) _ = _
   simp only [Act.put, List.setIfInBounds_toArray, List.set_cons_zero, List.set_cons_succ, i64_w, i32_w]
   rfl
  refine yz 4 (some 7) (bs 13 31) HT_.out (h := ?_)
  refine yz 5 (some 8) (bs 13 63) HT_.out (h := ?_)
  refine yz 7 (some 10) (bs 13 191) HT_.out (h := ?_)
  refine yt 6 (some 9) (bs 13 255) HT_.out HW_.out hHeld (h := ?_)
  refine yt 8 (some 11) (bs 13 511) HT_.out HW_.out hHeld (h := ?_)
  refine one_ (i := 9) (N := some 12) #[true, true, true, true, true, true, true, true, true, true, false, false, false] rfl rfl (one_of HT_.out (by kernel_rfl)) (by decide) (fun K hK => ?_)
  refine goes_ Tryz.func31 (by kernel_rfl) rfl #[.int .i64 a0_1] (by rfl) rfl rfl xr ?_
  with_reducible refine (value_Num.calls a0_1 t186 t187 t188 _ (Tabs.below hT xf) A7.out).mono ?_
  rintro e w11 ⟨rfl, hb⟩
  refine ⟨_, rfl, ?_⟩
  replace BK182 := xd BK182.out hb
  replace HB := xy (below_step xb hb)
  (try clear hb)
  (try clear hb2)
  (try clear hk)
  (try clear hi)
  refine hK.out _ _ ⟨(kc BK182.out 0).trans rfl, (kc BK182.out 1).trans rfl, (kc BK182.out 2).trans rfl⟩ (fun hHeld => ?_)
  clear hK K
  refine norm_ (a' := ?_) ?_ ?_
  rotate_left
  ·show Act.put _ (some 12) _ = _
   simp only [Act.put, List.setIfInBounds_toArray, List.set_cons_zero, List.set_cons_succ, i64_w, i32_w]
   rfl
  refine yz 10 (some 13) (bs 13 2047) HT_.out (h := ?_)
  refine yz 11 (some 14) (bs 13 4095) HT_.out (h := ?_)
  refine yz 12 (some 2) (bs 13 8191) HT_.out (h := ?_)
  refine done_ (done_of HT_.out (by kernel_rfl)) ?_
  try go_wp2
  go_ret
  exact ⟨xe, xb⟩
end
end Go.Proofs.YtialoecplmnjfaaGreatDoor.PX
