/- Walked functions, by this session's program over the kit's print. -/
import Derived.Test.YtnodgcakmolleaaGreatDoorXEvalRef
import Derived.Test.YtnodgcakmolleaaGreatDoorXEvalFns
import Derived.Test.YtnodgcakmolleaaGreatDoorPXx0
import Derived.Test.YtnodgcakmolleaaGreatDoorPXx11
import Derived.Test.YtnodgcakmolleaaGreatDoorPXx20
namespace Go.Proofs.YtnodgcakmolleaaGreatDoor.PX
open Go.RowKit Go.Proofs.YtnodgcakmolleaaGreatDoorW.PrintWords Go.Proofs.YtnodgcakmolleaaGreatDoorW.PrintLast Go.Proofs.YtnodgcakmolleaaGreatDoorW.PrintMore
attribute [local go_sem] xm_gtr max2_int min2_int max_two min_two max_three min_three max_four min_four
set_option linter.unusedVariables false
set_option linter.unusedSimpArgs false
/- Walked functions, by this session's program over the kit's print. -/
def r16_run.TX (x : ByteArray) : Option XEval.Sv := (r13_Text.f x).map fun p => ⟨p.1, p.2.1, p.2.2⟩
def r16_run.DO (k : Nat) (o : Int) (l : List XEval.Sv) : Option (XEval.Sv × Int) := (r13_Do.f k o l).map fun p => (⟨p.1, p.2.1, p.2.2.1⟩, p.2.2.2)
theorem r16_run.DO_mono (k : Nat) : ∀ o l y, r16_run.DO k o l = some y → r16_run.DO (k + 1) o l = some y := fun o l y h => by
 obtain ⟨p, h1, h2⟩ := Option.map_eq_some_iff.1 h
 exact Option.map_eq_some_iff.2 ⟨p, r13_Do.mono _ _ _ _ h1, h2⟩
def r16_run.ops (k : Nat) (o : Int) : Prop := r13_Arity.f k o = some (XOps.arityF o)
theorem r16_run.env (k : Nat) : XEval.EnvR Tabs r16_run.TX (r16_run.DO k) (r16_run.ops k) where
 tb := fun w w' h hb => h.below hb
 ar := fun o w hT h => by
  refine (r13_Arity.calls k o _ w hT h).mono fun e w' he => ⟨he.1, ?_⟩
  first | exact he.2 | exact he.2.below
 num := fun n w hT => r13_Num.calls n _ _ _ w hT rfl
 text := fun x y w hT h => by
  obtain ⟨⟨p1, p2, p3⟩, h1, rfl⟩ := Option.map_eq_some_iff.1 h
  exact r13_Text.calls x _ _ _ w hT h1
 do_ := fun o l y er A c w hT hr hc h => by
  obtain ⟨⟨p1, p2, p3, p4⟩, h1, h2⟩ := Option.map_eq_some_iff.1 h
  simp only [Prod.mk.injEq] at h2
  obtain ⟨rfl, rfl⟩ := h2
  exact r13_Do.calls k o A c l _ _ _ _ w hT hr hc h1
def r16_run.good (k : Nat) (x : XCheck.Ins) : Bool := decide (x.f0 ≤ 23) && (r13_Arity.f k x.f0 == some (XOps.arityF x.f0))
def r16_run.f (k : Nat) (l0 : List (S44)) (l1 : List ByteArray) (l2 : List (S32)) (a3 : Int) : Option ((List (S32)) × Int × Bool) :=
 if l0.all (r16_run.good k) = true ∧ l0.length ≤ 10000 ∧ a3 ≤ 9223372036854775807 then (XEval.runE r16_run.TX (r16_run.DO k) l1 l2 l0 [] a3).map fun q => if q.2.2 = 0 then (q.1, q.2.1, true) else ([], 0, false) else none
theorem r16_run.mono : ∀ a0 a1 a2 a3 k, LeO (r16_run.f k a0 a1 a2 a3) (r16_run.f (k + 1) a0 a1 a2 a3) := by
 intro a0 a1 a2 a3 k r h
 unfold r16_run.f at h ⊢
 by_cases c : a0.all (r16_run.good k) = true ∧ a0.length ≤ 10000 ∧ a3 ≤ 9223372036854775807
 ·have c' : a0.all (r16_run.good (k + 1)) = true ∧ a0.length ≤ 10000 ∧ a3 ≤ 9223372036854775807 := by
   refine ⟨List.all_eq_true.2 fun x hx => ?_, c.2⟩
   have := List.all_eq_true.1 c.1 x hx
   unfold r16_run.good at this ⊢
   simp only [Bool.and_eq_true, beq_iff_eq] at this ⊢
   exact ⟨this.1, r13_Arity.mono _ _ _ this.2⟩
  rw [if_pos c] at h
  rw [if_pos c']
  obtain ⟨q, hq, h⟩ := Option.map_eq_some_iff.1 h
  exact Option.map_eq_some_iff.2 ⟨q, XEval.runE_mono (r16_run.DO_mono k) _ _ _ hq, h⟩
 ·rw [if_neg c] at h; cases h
theorem r16_run.calls (k : Nat) (A0 : Option Addr) (c0 : Nat) (l0 : List (S44)) (A1 : Option Addr) (c1 : Nat) (l1 : List ByteArray) (A2 : Option Addr) (c2 : Nat) (l2 : List (S32)) (a3 : Int) (r1 : List (S32)) (r2 : Int) (r3 : Bool) (w : World) (hT : Tabs w) (hr0 : Kd.C k44 w A0 l0.length l0) (hc0 : l0.length ≤ c0) (hr1 : Kd.C Kd.string w A1 l1.length l1) (hc1 : l1.length ≤ c1) (hr2 : Kd.C k32 w A2 l2.length l2) (hc2 : l2.length ≤ c2) (h : r16_run.f k l0 l1 l2 a3 = some (r1, r2, r3)) :
  Calls Tryz.prog 20 #[.slice A0 l0.length c0, .slice A1 l1.length c1, .slice A2 l2.length c2, .int .i64 a3] w fun e w' => ∃ v0_ : Value, e = .returned (.tuple #[v0_, .int .i64 r2, .bool r3]) ∧ Kd.R k32 32 w' w.heap.size (fun _ => True) v0_ r1 ∧ Below w.heap.size w w' := by
 unfold r16_run.f at h
 by_cases c : l0.all (r16_run.good k) = true ∧ l0.length ≤ 10000 ∧ a3 ≤ 9223372036854775807
 ·rw [if_pos c] at h
  obtain ⟨⟨s', u', er⟩, hq, h⟩ := Option.map_eq_some_iff.1 h
  have hops : ∀ x ∈ l0, r16_run.ops k x.f0 ∧ x.f0 ≤ 23 := fun x hx => by
   have := List.all_eq_true.1 c.1 x hx
   unfold r16_run.good at this
   simp only [Bool.and_eq_true, beq_iff_eq, decide_eq_true_eq] at this
   exact ⟨this.2, this.1⟩
  have := XEval.rrun_calls (r16_run.env k) (rc := c1) (cf := c2) hr1 hr2 hT A0 c0 l0 hr0 hops c.2.1 c.2.2 hq
  dsimp only at h
  by_cases c3 : er = 0
  ·rw [if_pos c3] at h
   have e1 : (er == 0) = true := by simp [c3]
   rw [if_pos c3, if_pos c3, e1] at this
   simp only [Prod.mk.injEq] at h
   obtain ⟨rfl, rfl, rfl⟩ := h
   exact this
  ·rw [if_neg c3] at h
   have e1 : (er == 0) = false := by simp [c3]
   rw [if_neg c3, if_neg c3, e1] at this
   simp only [Prod.mk.injEq] at h
   obtain ⟨rfl, rfl, rfl⟩ := h
   exact this
 ·rw [if_neg c] at h; cases h
def r14_May.f (a0_0 : Int) (a0_1 : Int) (a0_2 : ByteArray) : Option (Bool) := if a0_0 < 0 then (some false) else (if a0_0 > 23 then (some false) else (if a0_0 = 1 then (if (a0_2.size : Int) > 1000 then (some false) else (if a0_0 = 0 then (some true) else (if a0_0 = 2 then (if a0_1 ≥ 0 then (if a0_1 ≤ 49 then (some true) else (some false)) else (some false)) else (some (a0_1 == 0))))) else (if a0_2.toList = ([] : List UInt8) then (if (a0_2.size : Int) > 1000 then (some false) else (if a0_0 = 0 then (some true) else (if a0_0 = 2 then (if a0_1 ≥ 0 then (if a0_1 ≤ 49 then (some true) else (some false)) else (some false)) else (some (a0_1 == 0))))) else (some false))))
set_option maxHeartbeats 8000000 in
set_option maxRecDepth 100000 in
theorem r14_May.calls (a0_0 : Int) (a0_1 : Int) (a0_2 : ByteArray) (r : Bool) (w : World) (hT : Tabs w) (h : r14_May.f a0_0 a0_1 a0_2 = some r) :
  Calls Tryz.prog 47 #[.agg #[.int .i64 a0_0, .int .i64 a0_1, .string a0_2]] w fun e w' => e = .returned (.bool r) ∧ Below w.heap.size w w' := by
 have hu44 := Tryz.underlying44
 have HB := xy (Below.refl w.heap.size w)
 unfold r14_May.f at h
 have H := h
 clear h
 by_cases c2 : a0_0 < 0
 ·rw [if_pos c2] at H
  have c2b0 : decide (a0_0 < 0) = true := decide_eq_true c2
  clear c2
  obtain rfl := Option.some.inj H
  go_enter Tryz.func47, Tryz.ntmps47
  go_wp2_with (((with_reducible refine gate_dst (N := 1) rfl ?_); (try (refine gate_guard (by rfl) ?_; dsimp only)); refine xq (N := 1) (cs := #[.int .i64 a0_0, .int .i64 a0_1, .string a0_2]) (t := 44) ?_; intro gb446 hg w3 hbox hb; have BK446 := xy (hbox); have GW446 := xs w hg; have GE446 := xs w hg; replace HB := xy (below_step xb hb); clear hb hbox hg; have hcz4_0 : w3.cell? ⟨gb446, 0, none⟩ = some (.int .i64 a0_0) := (kc BK446.out 0).trans rfl; have hcz4_1 : w3.cell? ⟨gb446, 1, none⟩ = some (.int .i64 a0_1) := (kc BK446.out 1).trans rfl; have hcz4_2 : w3.cell? ⟨gb446, 2, none⟩ = some (.string a0_2) := (kc BK446.out 2).trans rfl; have hfz4_0 := kf BK446.out 0; have hfz4_1 := kf BK446.out 1; have hfz4_2 := kf BK446.out 2))
  go_ret
  exact ⟨xe, xb⟩
 ·rw [if_neg c2] at H
  have c2b0 : decide (a0_0 < 0) = false := decide_eq_false c2
  clear c2
  by_cases c5 : a0_0 > 23
  ·rw [if_pos c5] at H
   have c5b0 : decide (23 < a0_0) = true := decide_eq_true c5
   clear c5
   obtain rfl := Option.some.inj H
   go_enter Tryz.func47, Tryz.ntmps47
   go_wp2_with (((with_reducible refine gate_dst (N := 1) rfl ?_); (try (refine gate_guard (by rfl) ?_; dsimp only)); refine xq (N := 1) (cs := #[.int .i64 a0_0, .int .i64 a0_1, .string a0_2]) (t := 44) ?_; intro gb446 hg w6 hbox hb; have BK446 := xy (hbox); have GW446 := xs w hg; have GE446 := xs w hg; replace HB := xy (below_step xb hb); clear hb hbox hg; have hcz7_0 : w6.cell? ⟨gb446, 0, none⟩ = some (.int .i64 a0_0) := (kc BK446.out 0).trans rfl; have hcz7_1 : w6.cell? ⟨gb446, 1, none⟩ = some (.int .i64 a0_1) := (kc BK446.out 1).trans rfl; have hcz7_2 : w6.cell? ⟨gb446, 2, none⟩ = some (.string a0_2) := (kc BK446.out 2).trans rfl; have hfz7_0 := kf BK446.out 0; have hfz7_1 := kf BK446.out 1; have hfz7_2 := kf BK446.out 2))
   go_ret
   exact ⟨xe, xb⟩
  ·rw [if_neg c5] at H
   have c5b0 : decide (23 < a0_0) = false := decide_eq_false c5
   clear c5
   by_cases c8 : a0_0 = 1
   ·rw [if_pos c8] at H
    have c8b0 : (a0_0 == 1) = true := beq_iff_eq.mpr c8
    have c8b1 : (a0_0 != 1) = false := bne_eq_false_iff_eq.mpr c8
    clear c8
    by_cases c9 : (a0_2.size : Int) > 1000
    ·rw [if_pos c9] at H
     have c9b0 : decide (1000 < (a0_2.size : Int)) = true := decide_eq_true c9
     have c9b1 : decide (1000 < a0_2.size) = true := decide_eq_true (by omega)
     clear c9
     obtain rfl := Option.some.inj H
     go_enter Tryz.func47, Tryz.ntmps47
     go_wp2_with (((with_reducible refine gate_dst (N := 1) rfl ?_); (try (refine gate_guard (by rfl) ?_; dsimp only)); refine xq (N := 1) (cs := #[.int .i64 a0_0, .int .i64 a0_1, .string a0_2]) (t := 44) ?_; intro gb446 hg w10 hbox hb; have BK446 := xy (hbox); have GW446 := xs w hg; have GE446 := xs w hg; replace HB := xy (below_step xb hb); clear hb hbox hg; have hcz11_0 : w10.cell? ⟨gb446, 0, none⟩ = some (.int .i64 a0_0) := (kc BK446.out 0).trans rfl; have hcz11_1 : w10.cell? ⟨gb446, 1, none⟩ = some (.int .i64 a0_1) := (kc BK446.out 1).trans rfl; have hcz11_2 : w10.cell? ⟨gb446, 2, none⟩ = some (.string a0_2) := (kc BK446.out 2).trans rfl; have hfz11_0 := kf BK446.out 0; have hfz11_1 := kf BK446.out 1; have hfz11_2 := kf BK446.out 2))
     go_ret
     exact ⟨xe, xb⟩
    ·rw [if_neg c9] at H
     have c9b0 : decide (1000 < (a0_2.size : Int)) = false := decide_eq_false c9
     have c9b1 : decide (1000 < a0_2.size) = false := decide_eq_false (by omega)
     clear c9
     by_cases c12 : a0_0 = 0
     ·rw [if_pos c12] at H
      have c12b0 : (a0_0 == 0) = true := beq_iff_eq.mpr c12
      have c12b1 : (a0_0 != 0) = false := bne_eq_false_iff_eq.mpr c12
      clear c12
      obtain rfl := Option.some.inj H
      go_enter Tryz.func47, Tryz.ntmps47
      go_wp2_with (((with_reducible refine gate_dst (N := 1) rfl ?_); (try (refine gate_guard (by rfl) ?_; dsimp only)); refine xq (N := 1) (cs := #[.int .i64 a0_0, .int .i64 a0_1, .string a0_2]) (t := 44) ?_; intro gb446 hg w13 hbox hb; have BK446 := xy (hbox); have GW446 := xs w hg; have GE446 := xs w hg; replace HB := xy (below_step xb hb); clear hb hbox hg; have hcz14_0 : w13.cell? ⟨gb446, 0, none⟩ = some (.int .i64 a0_0) := (kc BK446.out 0).trans rfl; have hcz14_1 : w13.cell? ⟨gb446, 1, none⟩ = some (.int .i64 a0_1) := (kc BK446.out 1).trans rfl; have hcz14_2 : w13.cell? ⟨gb446, 2, none⟩ = some (.string a0_2) := (kc BK446.out 2).trans rfl; have hfz14_0 := kf BK446.out 0; have hfz14_1 := kf BK446.out 1; have hfz14_2 := kf BK446.out 2))
      go_ret
      exact ⟨xe, xb⟩
     ·rw [if_neg c12] at H
      have c12b0 : (a0_0 == 0) = false := beq_eq_false_iff_ne.mpr c12
      have c12b1 : (a0_0 != 0) = true := bne_iff_ne.mpr c12
      by_cases c15 : a0_0 = 2
      ·rw [if_pos c15] at H
       have c15b0 : (a0_0 == 2) = true := beq_iff_eq.mpr c15
       have c15b1 : (a0_0 != 2) = false := bne_eq_false_iff_eq.mpr c15
       clear c15
       by_cases c16 : a0_1 ≥ 0
       ·rw [if_pos c16] at H
        have c16b0 : decide (0 ≤ a0_1) = true := decide_eq_true c16
        clear c16
        by_cases c17 : a0_1 ≤ 49
        ·rw [if_pos c17] at H
         have c17b0 : decide (a0_1 ≤ 49) = true := decide_eq_true c17
         clear c17
         obtain rfl := Option.some.inj H
         go_enter Tryz.func47, Tryz.ntmps47
         go_wp2_with (((with_reducible refine gate_dst (N := 1) rfl ?_); (try (refine gate_guard (by rfl) ?_; dsimp only)); refine xq (N := 1) (cs := #[.int .i64 a0_0, .int .i64 a0_1, .string a0_2]) (t := 44) ?_; intro gb446 hg w18 hbox hb; have BK446 := xy (hbox); have GW446 := xs w hg; have GE446 := xs w hg; replace HB := xy (below_step xb hb); clear hb hbox hg; have hcz19_0 : w18.cell? ⟨gb446, 0, none⟩ = some (.int .i64 a0_0) := (kc BK446.out 0).trans rfl; have hcz19_1 : w18.cell? ⟨gb446, 1, none⟩ = some (.int .i64 a0_1) := (kc BK446.out 1).trans rfl; have hcz19_2 : w18.cell? ⟨gb446, 2, none⟩ = some (.string a0_2) := (kc BK446.out 2).trans rfl; have hfz19_0 := kf BK446.out 0; have hfz19_1 := kf BK446.out 1; have hfz19_2 := kf BK446.out 2))
         go_ret
         exact ⟨xe, xb⟩
        ·rw [if_neg c17] at H
         have c17b0 : decide (a0_1 ≤ 49) = false := decide_eq_false c17
         clear c17
         obtain rfl := Option.some.inj H
         go_enter Tryz.func47, Tryz.ntmps47
         go_wp2_with (((with_reducible refine gate_dst (N := 1) rfl ?_); (try (refine gate_guard (by rfl) ?_; dsimp only)); refine xq (N := 1) (cs := #[.int .i64 a0_0, .int .i64 a0_1, .string a0_2]) (t := 44) ?_; intro gb446 hg w20 hbox hb; have BK446 := xy (hbox); have GW446 := xs w hg; have GE446 := xs w hg; replace HB := xy (below_step xb hb); clear hb hbox hg; have hcz21_0 : w20.cell? ⟨gb446, 0, none⟩ = some (.int .i64 a0_0) := (kc BK446.out 0).trans rfl; have hcz21_1 : w20.cell? ⟨gb446, 1, none⟩ = some (.int .i64 a0_1) := (kc BK446.out 1).trans rfl; have hcz21_2 : w20.cell? ⟨gb446, 2, none⟩ = some (.string a0_2) := (kc BK446.out 2).trans rfl; have hfz21_0 := kf BK446.out 0; have hfz21_1 := kf BK446.out 1; have hfz21_2 := kf BK446.out 2))
         go_ret
         exact ⟨xe, xb⟩
       ·rw [if_neg c16] at H
        have c16b0 : decide (0 ≤ a0_1) = false := decide_eq_false c16
        clear c16
        obtain rfl := Option.some.inj H
        go_enter Tryz.func47, Tryz.ntmps47
        go_wp2_with (((with_reducible refine gate_dst (N := 1) rfl ?_); (try (refine gate_guard (by rfl) ?_; dsimp only)); refine xq (N := 1) (cs := #[.int .i64 a0_0, .int .i64 a0_1, .string a0_2]) (t := 44) ?_; intro gb446 hg w22 hbox hb; have BK446 := xy (hbox); have GW446 := xs w hg; have GE446 := xs w hg; replace HB := xy (below_step xb hb); clear hb hbox hg; have hcz23_0 : w22.cell? ⟨gb446, 0, none⟩ = some (.int .i64 a0_0) := (kc BK446.out 0).trans rfl; have hcz23_1 : w22.cell? ⟨gb446, 1, none⟩ = some (.int .i64 a0_1) := (kc BK446.out 1).trans rfl; have hcz23_2 : w22.cell? ⟨gb446, 2, none⟩ = some (.string a0_2) := (kc BK446.out 2).trans rfl; have hfz23_0 := kf BK446.out 0; have hfz23_1 := kf BK446.out 1; have hfz23_2 := kf BK446.out 2))
        go_ret
        exact ⟨xe, xb⟩
      ·rw [if_neg c15] at H
       have c15b0 : (a0_0 == 2) = false := beq_eq_false_iff_ne.mpr c15
       have c15b1 : (a0_0 != 2) = true := bne_iff_ne.mpr c15
       obtain rfl := Option.some.inj H
       go_enter Tryz.func47, Tryz.ntmps47
       go_wp2_with (((with_reducible refine gate_dst (N := 1) rfl ?_); (try (refine gate_guard (by rfl) ?_; dsimp only)); refine xq (N := 1) (cs := #[.int .i64 a0_0, .int .i64 a0_1, .string a0_2]) (t := 44) ?_; intro gb446 hg w24 hbox hb; have BK446 := xy (hbox); have GW446 := xs w hg; have GE446 := xs w hg; replace HB := xy (below_step xb hb); clear hb hbox hg; have hcz25_0 : w24.cell? ⟨gb446, 0, none⟩ = some (.int .i64 a0_0) := (kc BK446.out 0).trans rfl; have hcz25_1 : w24.cell? ⟨gb446, 1, none⟩ = some (.int .i64 a0_1) := (kc BK446.out 1).trans rfl; have hcz25_2 : w24.cell? ⟨gb446, 2, none⟩ = some (.string a0_2) := (kc BK446.out 2).trans rfl; have hfz25_0 := kf BK446.out 0; have hfz25_1 := kf BK446.out 1; have hfz25_2 := kf BK446.out 2))
       go_ret
       exact ⟨xe, xb⟩
   ·rw [if_neg c8] at H
    have c8b0 : (a0_0 == 1) = false := beq_eq_false_iff_ne.mpr c8
    have c8b1 : (a0_0 != 1) = true := bne_iff_ne.mpr c8
    by_cases c26 : a0_2.toList = ([] : List UInt8)
    ·rw [if_pos c26] at H
     have c26b0 : (a0_2.toList == ([] : List UInt8)) = true := beq_iff_eq.mpr c26
     have c26b1 : (a0_2.toList != ([] : List UInt8)) = false := bne_eq_false_iff_eq.mpr c26
     clear c26
     by_cases c27 : (a0_2.size : Int) > 1000
     ·rw [if_pos c27] at H
      have c27b0 : decide (1000 < (a0_2.size : Int)) = true := decide_eq_true c27
      have c27b1 : decide (1000 < a0_2.size) = true := decide_eq_true (by omega)
      clear c27
      obtain rfl := Option.some.inj H
      go_enter Tryz.func47, Tryz.ntmps47
      go_wp2_with (((with_reducible refine gate_dst (N := 1) rfl ?_); (try (refine gate_guard (by rfl) ?_; dsimp only)); refine xq (N := 1) (cs := #[.int .i64 a0_0, .int .i64 a0_1, .string a0_2]) (t := 44) ?_; intro gb446 hg w28 hbox hb; have BK446 := xy (hbox); have GW446 := xs w hg; have GE446 := xs w hg; replace HB := xy (below_step xb hb); clear hb hbox hg; have hcz29_0 : w28.cell? ⟨gb446, 0, none⟩ = some (.int .i64 a0_0) := (kc BK446.out 0).trans rfl; have hcz29_1 : w28.cell? ⟨gb446, 1, none⟩ = some (.int .i64 a0_1) := (kc BK446.out 1).trans rfl; have hcz29_2 : w28.cell? ⟨gb446, 2, none⟩ = some (.string a0_2) := (kc BK446.out 2).trans rfl; have hfz29_0 := kf BK446.out 0; have hfz29_1 := kf BK446.out 1; have hfz29_2 := kf BK446.out 2))
      go_ret
      exact ⟨xe, xb⟩
     ·rw [if_neg c27] at H
      have c27b0 : decide (1000 < (a0_2.size : Int)) = false := decide_eq_false c27
      have c27b1 : decide (1000 < a0_2.size) = false := decide_eq_false (by omega)
      clear c27
      by_cases c30 : a0_0 = 0
      ·rw [if_pos c30] at H
       have c30b0 : (a0_0 == 0) = true := beq_iff_eq.mpr c30
       have c30b1 : (a0_0 != 0) = false := bne_eq_false_iff_eq.mpr c30
       clear c30
       obtain rfl := Option.some.inj H
       go_enter Tryz.func47, Tryz.ntmps47
       go_wp2_with (((with_reducible refine gate_dst (N := 1) rfl ?_); (try (refine gate_guard (by rfl) ?_; dsimp only)); refine xq (N := 1) (cs := #[.int .i64 a0_0, .int .i64 a0_1, .string a0_2]) (t := 44) ?_; intro gb446 hg w31 hbox hb; have BK446 := xy (hbox); have GW446 := xs w hg; have GE446 := xs w hg; replace HB := xy (below_step xb hb); clear hb hbox hg; have hcz32_0 : w31.cell? ⟨gb446, 0, none⟩ = some (.int .i64 a0_0) := (kc BK446.out 0).trans rfl; have hcz32_1 : w31.cell? ⟨gb446, 1, none⟩ = some (.int .i64 a0_1) := (kc BK446.out 1).trans rfl; have hcz32_2 : w31.cell? ⟨gb446, 2, none⟩ = some (.string a0_2) := (kc BK446.out 2).trans rfl; have hfz32_0 := kf BK446.out 0; have hfz32_1 := kf BK446.out 1; have hfz32_2 := kf BK446.out 2))
       go_ret
       exact ⟨xe, xb⟩
      ·rw [if_neg c30] at H
       have c30b0 : (a0_0 == 0) = false := beq_eq_false_iff_ne.mpr c30
       have c30b1 : (a0_0 != 0) = true := bne_iff_ne.mpr c30
       by_cases c33 : a0_0 = 2
       ·rw [if_pos c33] at H
        have c33b0 : (a0_0 == 2) = true := beq_iff_eq.mpr c33
        have c33b1 : (a0_0 != 2) = false := bne_eq_false_iff_eq.mpr c33
        clear c33
        by_cases c34 : a0_1 ≥ 0
        ·rw [if_pos c34] at H
         have c34b0 : decide (0 ≤ a0_1) = true := decide_eq_true c34
         clear c34
         by_cases c35 : a0_1 ≤ 49
         ·rw [if_pos c35] at H
          have c35b0 : decide (a0_1 ≤ 49) = true := decide_eq_true c35
          clear c35
          obtain rfl := Option.some.inj H
          go_enter Tryz.func47, Tryz.ntmps47
          go_wp2_with (((with_reducible refine gate_dst (N := 1) rfl ?_); (try (refine gate_guard (by rfl) ?_; dsimp only)); refine xq (N := 1) (cs := #[.int .i64 a0_0, .int .i64 a0_1, .string a0_2]) (t := 44) ?_; intro gb446 hg w36 hbox hb; have BK446 := xy (hbox); have GW446 := xs w hg; have GE446 := xs w hg; replace HB := xy (below_step xb hb); clear hb hbox hg; have hcz37_0 : w36.cell? ⟨gb446, 0, none⟩ = some (.int .i64 a0_0) := (kc BK446.out 0).trans rfl; have hcz37_1 : w36.cell? ⟨gb446, 1, none⟩ = some (.int .i64 a0_1) := (kc BK446.out 1).trans rfl; have hcz37_2 : w36.cell? ⟨gb446, 2, none⟩ = some (.string a0_2) := (kc BK446.out 2).trans rfl; have hfz37_0 := kf BK446.out 0; have hfz37_1 := kf BK446.out 1; have hfz37_2 := kf BK446.out 2))
          go_ret
          exact ⟨xe, xb⟩
         ·rw [if_neg c35] at H
          have c35b0 : decide (a0_1 ≤ 49) = false := decide_eq_false c35
          clear c35
          obtain rfl := Option.some.inj H
          go_enter Tryz.func47, Tryz.ntmps47
          go_wp2_with (((with_reducible refine gate_dst (N := 1) rfl ?_); (try (refine gate_guard (by rfl) ?_; dsimp only)); refine xq (N := 1) (cs := #[.int .i64 a0_0, .int .i64 a0_1, .string a0_2]) (t := 44) ?_; intro gb446 hg w38 hbox hb; have BK446 := xy (hbox); have GW446 := xs w hg; have GE446 := xs w hg; replace HB := xy (below_step xb hb); clear hb hbox hg; have hcz39_0 : w38.cell? ⟨gb446, 0, none⟩ = some (.int .i64 a0_0) := (kc BK446.out 0).trans rfl; have hcz39_1 : w38.cell? ⟨gb446, 1, none⟩ = some (.int .i64 a0_1) := (kc BK446.out 1).trans rfl; have hcz39_2 : w38.cell? ⟨gb446, 2, none⟩ = some (.string a0_2) := (kc BK446.out 2).trans rfl; have hfz39_0 := kf BK446.out 0; have hfz39_1 := kf BK446.out 1; have hfz39_2 := kf BK446.out 2))
          go_ret
          exact ⟨xe, xb⟩
        ·rw [if_neg c34] at H
         have c34b0 : decide (0 ≤ a0_1) = false := decide_eq_false c34
         clear c34
         obtain rfl := Option.some.inj H
         go_enter Tryz.func47, Tryz.ntmps47
         go_wp2_with (((with_reducible refine gate_dst (N := 1) rfl ?_); (try (refine gate_guard (by rfl) ?_; dsimp only)); refine xq (N := 1) (cs := #[.int .i64 a0_0, .int .i64 a0_1, .string a0_2]) (t := 44) ?_; intro gb446 hg w40 hbox hb; have BK446 := xy (hbox); have GW446 := xs w hg; have GE446 := xs w hg; replace HB := xy (below_step xb hb); clear hb hbox hg; have hcz41_0 : w40.cell? ⟨gb446, 0, none⟩ = some (.int .i64 a0_0) := (kc BK446.out 0).trans rfl; have hcz41_1 : w40.cell? ⟨gb446, 1, none⟩ = some (.int .i64 a0_1) := (kc BK446.out 1).trans rfl; have hcz41_2 : w40.cell? ⟨gb446, 2, none⟩ = some (.string a0_2) := (kc BK446.out 2).trans rfl; have hfz41_0 := kf BK446.out 0; have hfz41_1 := kf BK446.out 1; have hfz41_2 := kf BK446.out 2))
         go_ret
         exact ⟨xe, xb⟩
       ·rw [if_neg c33] at H
        have c33b0 : (a0_0 == 2) = false := beq_eq_false_iff_ne.mpr c33
        have c33b1 : (a0_0 != 2) = true := bne_iff_ne.mpr c33
        obtain rfl := Option.some.inj H
        go_enter Tryz.func47, Tryz.ntmps47
        go_wp2_with (((with_reducible refine gate_dst (N := 1) rfl ?_); (try (refine gate_guard (by rfl) ?_; dsimp only)); refine xq (N := 1) (cs := #[.int .i64 a0_0, .int .i64 a0_1, .string a0_2]) (t := 44) ?_; intro gb446 hg w42 hbox hb; have BK446 := xy (hbox); have GW446 := xs w hg; have GE446 := xs w hg; replace HB := xy (below_step xb hb); clear hb hbox hg; have hcz43_0 : w42.cell? ⟨gb446, 0, none⟩ = some (.int .i64 a0_0) := (kc BK446.out 0).trans rfl; have hcz43_1 : w42.cell? ⟨gb446, 1, none⟩ = some (.int .i64 a0_1) := (kc BK446.out 1).trans rfl; have hcz43_2 : w42.cell? ⟨gb446, 2, none⟩ = some (.string a0_2) := (kc BK446.out 2).trans rfl; have hfz43_0 := kf BK446.out 0; have hfz43_1 := kf BK446.out 1; have hfz43_2 := kf BK446.out 2))
        go_ret
        exact ⟨xe, xb⟩
    ·rw [if_neg c26] at H
     have c26b0 : (a0_2.toList == ([] : List UInt8)) = false := beq_eq_false_iff_ne.mpr c26
     have c26b1 : (a0_2.toList != ([] : List UInt8)) = true := bne_iff_ne.mpr c26
     obtain rfl := Option.some.inj H
     go_enter Tryz.func47, Tryz.ntmps47
     go_wp2_with (((with_reducible refine gate_dst (N := 1) rfl ?_); (try (refine gate_guard (by rfl) ?_; dsimp only)); refine xq (N := 1) (cs := #[.int .i64 a0_0, .int .i64 a0_1, .string a0_2]) (t := 44) ?_; intro gb446 hg w44 hbox hb; have BK446 := xy (hbox); have GW446 := xs w hg; have GE446 := xs w hg; replace HB := xy (below_step xb hb); clear hb hbox hg; have hcz45_0 : w44.cell? ⟨gb446, 0, none⟩ = some (.int .i64 a0_0) := (kc BK446.out 0).trans rfl; have hcz45_1 : w44.cell? ⟨gb446, 1, none⟩ = some (.int .i64 a0_1) := (kc BK446.out 1).trans rfl; have hcz45_2 : w44.cell? ⟨gb446, 2, none⟩ = some (.string a0_2) := (kc BK446.out 2).trans rfl; have hfz45_0 := kf BK446.out 0; have hfz45_1 := kf BK446.out 1; have hfz45_2 := kf BK446.out 2))
     go_ret
     exact ⟨xe, xb⟩
/- Walked functions, by this session's program over the kit's print. -/
mutual
def r15_step.j0 : Nat → List Bool → List Bool → Bool → Int → Int → ByteArray → Option (List Bool × Int)
 | 0, _, _, _, _, _, _ => none
 | k + 1, x0, x2, x25, x448000, x448001, x448002 => if x25 = true then (some (([] : List Bool), 1)) else ((r13_Arity.f k x448000).bind fun t449 => (if t449 > (x0.length : Int) then (some (([] : List Bool), 13)) else (if x448000 = 1 then (r15_step.j1 k x0 x2 t449 true x448000 x448001 x448002) else (r15_step.j1 k x0 x2 t449 (x448000 == 2) x448000 x448001 x448002))))
def r15_step.j1 : Nat → List Bool → List Bool → Int → Bool → Int → Int → ByteArray → Option (List Bool × Int)
 | 0, _, _, _, _, _, _, _ => none
 | k + 1, x0, x2, x8, x9, x448000, x448001, x448002 => if x448000 ≥ 22 then (if 0 ≤ (wrap64 (x448000 - 22)) then (if (wrap64 (x448000 - 22)) < (x2.length : Int) then (r15_step.j2 k x0 x8 (rdOf false x2 (wrap64 (x448000 - 22))) x448000 x448001 x448002) else (none)) else (none)) else (r15_step.j2 k x0 x8 x9 x448000 x448001 x448002)
def r15_step.j2 : Nat → List Bool → Int → Bool → Int → Int → ByteArray → Option (List Bool × Int)
 | 0, _, _, _, _, _, _ => none
 | k + 1, x0, x8, x9, x448000, x448001, x448002 => if x8 > 0 then (if 0 ≤ (wrap64 ((x0.length : Int) - x8)) then (if (wrap64 ((x0.length : Int) - x8)) ≤ (x0.length : Int) then ((r13_Result.f k x448000 (x0.drop ((wrap64 ((x0.length : Int) - x8)) : Int).toNat)).bind fun bt452 => (if bt452.2 = 0 then ((some (([] : List Bool) : List Bool)).bind fun y454 => (if y454.length + (x0.take ((wrap64 ((x0.length : Int) - x8)) : Int).toNat).length < 140737488355328 then ((some (y454 ++ (x0.take ((wrap64 ((x0.length : Int) - x8)) : Int).toNat) : List Bool)).bind fun y458 => (if y458.length < 140737488355328 then ((some (y458 ++ [bt452.1] : List Bool)).bind fun y461 => (if (y461.length : Int) > 30 then (some (([] : List Bool), 13)) else (some (y461, 0)))) else (none))) else (none))) else (some (([] : List Bool), bt452.2)))) else (none)) else (none)) else ((some (([] : List Bool) : List Bool)).bind fun y464 => (if 0 ≤ (wrap64 ((x0.length : Int) - x8)) then (if (wrap64 ((x0.length : Int) - x8)) ≤ (x0.length : Int) then (if y464.length + (x0.take ((wrap64 ((x0.length : Int) - x8)) : Int).toNat).length < 140737488355328 then ((some (y464 ++ (x0.take ((wrap64 ((x0.length : Int) - x8)) : Int).toNat) : List Bool)).bind fun y468 => (if y468.length < 140737488355328 then ((some (y468 ++ [x9] : List Bool)).bind fun y471 => (if (y471.length : Int) > 30 then (some (([] : List Bool), 13)) else (some (y471, 0)))) else (none))) else (none)) else (none)) else (none)))
end
def r15_step.f (k : Nat) (l0 : List Bool) (a1_0 : Int) (a1_1 : Int) (a1_2 : ByteArray) (l2 : List Bool) : Option (List Bool × Int) := (r14_May.f a1_0 a1_1 a1_2).bind fun t448 => (if t448 = true then (if a1_0 ≥ 22 then (r15_step.j0 k l0 l2 ((l2.length : Int) == 0) a1_0 a1_1 a1_2) else (r15_step.j0 k l0 l2 false a1_0 a1_1 a1_2)) else (r15_step.j0 k l0 l2 true a1_0 a1_1 a1_2))
theorem r15_step.mono_l : ∀ k, (∀ y0 y1 y2 y3 y4 y5, LeO (r15_step.j0 k y0 y1 y2 y3 y4 y5) (r15_step.j0 (k + 1) y0 y1 y2 y3 y4 y5)) ∧ (∀ y0 y1 y2 y3 y4 y5 y6, LeO (r15_step.j1 k y0 y1 y2 y3 y4 y5 y6) (r15_step.j1 (k + 1) y0 y1 y2 y3 y4 y5 y6)) ∧ (∀ y0 y1 y2 y3 y4 y5, LeO (r15_step.j2 k y0 y1 y2 y3 y4 y5) (r15_step.j2 (k + 1) y0 y1 y2 y3 y4 y5))
 | 0 => ⟨fun _ _ _ _ _ _ r h => by simp [r15_step.j0] at h, fun _ _ _ _ _ _ _ r h => by simp [r15_step.j1] at h, fun _ _ _ _ _ _ r h => by simp [r15_step.j2] at h⟩
 | k + 1 => by
  obtain ⟨ih0, ih1, ih2⟩ := r15_step.mono_l k
  refine ⟨?_, ?_, ?_⟩
  ·intro y0 y1 y2 y3 y4 y5
   unfold r15_step.j0
   repeat' (with_reducible first | exact ih0 _ _ _ _ _ _ | exact ih1 _ _ _ _ _ _ _ | exact ih2 _ _ _ _ _ _ | exact r13_Arity.mono _ _ | exact r13_Result.mono _ _ _ | exact LeO.refl _ | exact LeO.none _ | refine LeO.ite ?_ ?_ | refine LeO.bind ?_ (fun _ => ?_))
  ·intro y0 y1 y2 y3 y4 y5 y6
   unfold r15_step.j1
   repeat' (with_reducible first | exact ih0 _ _ _ _ _ _ | exact ih1 _ _ _ _ _ _ _ | exact ih2 _ _ _ _ _ _ | exact r13_Arity.mono _ _ | exact r13_Result.mono _ _ _ | exact LeO.refl _ | exact LeO.none _ | refine LeO.ite ?_ ?_ | refine LeO.bind ?_ (fun _ => ?_))
  ·intro y0 y1 y2 y3 y4 y5
   unfold r15_step.j2
   repeat' (with_reducible first | exact ih0 _ _ _ _ _ _ | exact ih1 _ _ _ _ _ _ _ | exact ih2 _ _ _ _ _ _ | exact r13_Arity.mono _ _ | exact r13_Result.mono _ _ _ | exact LeO.refl _ | exact LeO.none _ | refine LeO.ite ?_ ?_ | refine LeO.bind ?_ (fun _ => ?_))
theorem r15_step.mono : ∀ a0 a1 a2 a3 a4 k, LeO (r15_step.f k a0 a1 a2 a3 a4) (r15_step.f (k + 1) a0 a1 a2 a3 a4) := by
 intro a0 a1 a2 a3 a4 k
 obtain ⟨ih0, ih1, ih2⟩ := r15_step.mono_l k
 unfold r15_step.f
 repeat' (with_reducible first | exact ih0 _ _ _ _ _ _ | exact ih1 _ _ _ _ _ _ _ | exact ih2 _ _ _ _ _ _ | exact r13_Arity.mono _ _ | exact r13_Result.mono _ _ _ | exact LeO.refl _ | exact LeO.none _ | refine LeO.ite ?_ ?_ | refine LeO.bind ?_ (fun _ => ?_))
set_option maxHeartbeats 8000000 in
set_option maxRecDepth 100000 in
theorem r15_step.calls (k : Nat) (A0 : Option Addr) (c0 : Nat) (l0 : List Bool) (a1_0 : Int) (a1_1 : Int) (a1_2 : ByteArray) (A2 : Option Addr) (c2 : Nat) (l2 : List Bool) (r1 : List Bool) (r2 : Int) (w : World) (hT : Tabs w) (hr0 : Kd.C Kd.bool w A0 l0.length l0) (hc0 : l0.length ≤ c0) (hr2 : Kd.C Kd.bool w A2 l2.length l2) (hc2 : l2.length ≤ c2) (h : r15_step.f k l0 a1_0 a1_1 a1_2 l2 = some (r1, r2)) :
  Calls Tryz.prog 29 #[.slice A0 l0.length c0, .agg #[.int .i64 a1_0, .int .i64 a1_1, .string a1_2], .slice A2 l2.length c2] w fun e w' => ∃ v0_ : Value, e = .returned (.tuple #[v0_, .int .i64 r2]) ∧ Kd.R Kd.bool 4 w' w.heap.size (fun _ => True) v0_ r1 ∧ Below w.heap.size w w' := by
 have hu44 := Tryz.underlying44
 have HR0 := xy hr0
 have HC0 := xy hc0
 clear hr0 hc0
 have HR2 := xy hr2
 have HC2 := xy hc2
 clear hr2 hc2
 have HB := xy (Below.refl w.heap.size w)
 unfold r15_step.f at h
 have H := h
 clear h
 have HC4 := xy H
 clear H
 go_enter Tryz.func29, Tryz.ntmps29
 go_upto_region 1 with (((with_reducible refine gate_dst (N := 4) rfl ?_); (try (refine gate_guard (by rfl) ?_; dsimp only)); refine xq (N := 4) (cs := #[.int .i64 a1_0, .int .i64 a1_1, .string a1_2]) (t := 44) ?_; intro gb447 hg w5 hbox hb; have BK447 := xy (hbox); have GW447 := xs w hg; have GE447 := xs w hg; replace HB := xy (below_step xb hb); clear hb hbox hg))
 repeat (go_quiet (fail); go_upto_region 1 with (fail))
 (try simp only [Act.put, List.setIfInBounds_toArray, List.set_cons_zero, List.set_cons_succ])
 go_cut [25] (fun v25 wc => ∃ (kq : Nat) (x25_3 : Bool), v25 = .bool x25_3 ∧ Aside0 (r15_step.j0 kq l0 l2 x25_3 a1_0 a1_1 a1_2 = some (r1, r2)) ∧ Aside0 (kq ≤ k) ∧ Aside0 (wc.heap[gb447]? = some (.cells #[.int .i64 a1_0, .int .i64 a1_1, .string a1_2] 44 (0, 0))) ∧ Aside0 (Below w.heap.size w wc))
 case first =>
  have H := HC4.out
  clear HC4
  replace H := xj H
  obtain ⟨t448, A60, H⟩ := H
  try dsimp only at H
  have A6 := xy A60
  clear A60
  by_cases c7 : t448 = true
  ·subst c7
   rw [if_pos rfl] at H
   by_cases c8 : a1_0 ≥ 22
   ·rw [if_pos c8] at H
    have c8b0 : decide (22 ≤ a1_0) = true := decide_eq_true c8
    clear c8
    (first | rw [c8b0] | (simp only [i64_w, i32_w]; rw [c8b0]) | skip)
    have H' := xy H
    clear H
    have hcz9_0 : w5.cell? ⟨gb447, 0, none⟩ = some (.int .i64 a1_0) := (kc BK447.out 0).trans rfl
    have hcz9_1 : w5.cell? ⟨gb447, 1, none⟩ = some (.int .i64 a1_1) := (kc BK447.out 1).trans rfl
    have hcz9_2 : w5.cell? ⟨gb447, 2, none⟩ = some (.string a1_2) := (kc BK447.out 2).trans rfl
    have hfz9_0 := kf BK447.out 0
    have hfz9_1 := kf BK447.out 1
    have hfz9_2 := kf BK447.out 2
    go_wp2_with ((go_at_call 47; (with_reducible refine (r14_May.calls a1_0 a1_1 a1_2 true _ (Tabs.below hT xf) A6.out).mono ?_); rintro e w10 ⟨rfl, hb⟩; replace BK447 := xd BK447.out hb; replace HB := xy (below_step xb hb); (try clear hb); (try clear hb2); (try clear hk); (try clear hi); have hcz11_0 : w10.cell? ⟨gb447, 0, none⟩ = some (.int .i64 a1_0) := (kc BK447.out 0).trans rfl; have hcz11_1 : w10.cell? ⟨gb447, 1, none⟩ = some (.int .i64 a1_1) := (kc BK447.out 1).trans rfl; have hcz11_2 : w10.cell? ⟨gb447, 2, none⟩ = some (.string a1_2) := (kc BK447.out 2).trans rfl; have hfz11_0 := kf BK447.out 0; have hfz11_1 := kf BK447.out 1; have hfz11_2 := kf BK447.out 2))
    repeat (go_quiet (fail); try go_wp2_with (fail))
    go_meet
    case rel => exact ⟨_, (((l2.length : Int) == 0)), xg, H', ⟨by first | omega | exact Nat.le_refl _⟩, ⟨by (with_reducible repeat (first | refine blk_drewN ?_ _ | refine blk_drew ?_ | refine blk_alloc ?_ _)); exact BK447.out⟩, ⟨xb⟩⟩
   ·rw [if_neg c8] at H
    have c8b0 : decide (22 ≤ a1_0) = false := decide_eq_false c8
    clear c8
    (first | rw [c8b0] | (simp only [i64_w, i32_w]; rw [c8b0]) | skip)
    have H' := xy H
    clear H
    have hcz12_0 : w5.cell? ⟨gb447, 0, none⟩ = some (.int .i64 a1_0) := (kc BK447.out 0).trans rfl
    have hcz12_1 : w5.cell? ⟨gb447, 1, none⟩ = some (.int .i64 a1_1) := (kc BK447.out 1).trans rfl
    have hcz12_2 : w5.cell? ⟨gb447, 2, none⟩ = some (.string a1_2) := (kc BK447.out 2).trans rfl
    have hfz12_0 := kf BK447.out 0
    have hfz12_1 := kf BK447.out 1
    have hfz12_2 := kf BK447.out 2
    go_wp2_with ((go_at_call 47; (with_reducible refine (r14_May.calls a1_0 a1_1 a1_2 true _ (Tabs.below hT xf) A6.out).mono ?_); rintro e w13 ⟨rfl, hb⟩; replace BK447 := xd BK447.out hb; replace HB := xy (below_step xb hb); (try clear hb); (try clear hb2); (try clear hk); (try clear hi); have hcz14_0 : w13.cell? ⟨gb447, 0, none⟩ = some (.int .i64 a1_0) := (kc BK447.out 0).trans rfl; have hcz14_1 : w13.cell? ⟨gb447, 1, none⟩ = some (.int .i64 a1_1) := (kc BK447.out 1).trans rfl; have hcz14_2 : w13.cell? ⟨gb447, 2, none⟩ = some (.string a1_2) := (kc BK447.out 2).trans rfl; have hfz14_0 := kf BK447.out 0; have hfz14_1 := kf BK447.out 1; have hfz14_2 := kf BK447.out 2))
    repeat (go_quiet (fail); try go_wp2_with (fail))
    go_meet
    case rel => exact ⟨_, (false), xg, H', ⟨by first | omega | exact Nat.le_refl _⟩, ⟨by (with_reducible repeat (first | refine blk_drewN ?_ _ | refine blk_drew ?_ | refine blk_alloc ?_ _)); exact BK447.out⟩, ⟨xb⟩⟩
  ·replace c7 := Bool.eq_false_iff.mpr c7
   subst c7
   rw [if_neg (show ¬ (false = true) by decide)] at H
   have H' := xy H
   clear H
   have hcz15_0 : w5.cell? ⟨gb447, 0, none⟩ = some (.int .i64 a1_0) := (kc BK447.out 0).trans rfl
   have hcz15_1 : w5.cell? ⟨gb447, 1, none⟩ = some (.int .i64 a1_1) := (kc BK447.out 1).trans rfl
   have hcz15_2 : w5.cell? ⟨gb447, 2, none⟩ = some (.string a1_2) := (kc BK447.out 2).trans rfl
   have hfz15_0 := kf BK447.out 0
   have hfz15_1 := kf BK447.out 1
   have hfz15_2 := kf BK447.out 2
   go_wp2_with ((go_at_call 47; (with_reducible refine (r14_May.calls a1_0 a1_1 a1_2 false _ (Tabs.below hT xf) A6.out).mono ?_); rintro e w16 ⟨rfl, hb⟩; replace BK447 := xd BK447.out hb; replace HB := xy (below_step xb hb); (try clear hb); (try clear hb2); (try clear hk); (try clear hi)))
   repeat (go_quiet (fail); try go_wp2_with (fail))
   go_meet
   case rel => exact ⟨_, (true), xg, H', ⟨by first | omega | exact Nat.le_refl _⟩, ⟨by (with_reducible repeat (first | refine blk_drewN ?_ _ | refine blk_drew ?_ | refine blk_alloc ?_ _)); exact BK447.out⟩, ⟨xb⟩⟩
 case rest =>
  clear HC4
  try clear c2
  try clear p2
  try clear c7
  try clear c8
  try clear c8b0
  try clear hcz11_0
  try clear hcz11_1
  try clear hcz11_2
  try clear hcz12_0
  try clear hcz12_1
  try clear hcz12_2
  try clear hcz14_0
  try clear hcz14_1
  try clear hcz14_2
  try clear hcz15_0
  try clear hcz15_1
  try clear hcz15_2
  try clear hcz9_0
  try clear hcz9_1
  try clear hcz9_2
  try clear hfz11_0
  try clear hfz11_1
  try clear hfz11_2
  try clear hfz12_0
  try clear hfz12_1
  try clear hfz12_2
  try clear hfz14_0
  try clear hfz14_1
  try clear hfz14_2
  try clear hfz15_0
  try clear hfz15_1
  try clear hfz15_2
  try clear hfz9_0
  try clear hfz9_1
  try clear hfz9_2
  obtain ⟨kq, x25_3, rfl, HA, HJ3, BK447, HB⟩ := hcut
  cases kq with
  | zero => exact absurd HA.out (by simp [r15_step.j0])
  | succ kj3 =>
   have H := HA.out
   clear HA
   simp only [r15_step.j0] at H
   by_cases c17 : x25_3 = true
   ·subst c17
    rw [if_pos rfl] at H
    simp only [Option.some.injEq, Prod.mk.injEq] at H
    obtain ⟨rfl, rfl⟩ := H
    go_wp2
    repeat (go_quiet (fail); try go_wp2)
    go_ret2
    exact ⟨_, by first | rfl | (simp [errW_none, errW_some] <;> rfl) | (simp [*, errW_none, errW_some] <;> rfl), by first | exact Kd.R_nil _ _ _ _ _ | exact Kd.N_nil _ _ _ _ _ | exact Kd.V_nil _ _ _ _ _ | exact Kd.Q_nil _ _ _ _ _ | exact Kd.S_nil _ _ _ _ _, xb⟩
   ·replace c17 := Bool.eq_false_iff.mpr c17
    subst c17
    rw [if_neg (show ¬ (false = true) by decide)] at H
    replace H := xj H
    obtain ⟨t449, A180, H⟩ := H
    try dsimp only at H
    have A18 := xy A180
    clear A180
    by_cases c19 : t449 > (l0.length : Int)
    ·rw [if_pos c19] at H
     have c19b0 : decide ((l0.length : Int) < t449) = true := decide_eq_true c19
     clear c19
     simp only [Option.some.injEq, Prod.mk.injEq] at H
     obtain ⟨rfl, rfl⟩ := H
     have hcz20_0 : wc.cell? ⟨gb447, 0, none⟩ = some (.int .i64 a1_0) := (kc BK447.out 0).trans rfl
     have hcz20_1 : wc.cell? ⟨gb447, 1, none⟩ = some (.int .i64 a1_1) := (kc BK447.out 1).trans rfl
     have hcz20_2 : wc.cell? ⟨gb447, 2, none⟩ = some (.string a1_2) := (kc BK447.out 2).trans rfl
     have hfz20_0 := kf BK447.out 0
     have hfz20_1 := kf BK447.out 1
     have hfz20_2 := kf BK447.out 2
     go_wp2_with ((go_at_call 30; (with_reducible refine (r13_Arity.calls kj3 a1_0 t449 _ (Tabs.below hT xf) A18.out).mono ?_); rintro e w' ⟨rfl, ⟨nd, rfl⟩⟩; (try first | exact ⟨rfl, _, World.drewN_drewN _ _ _⟩ | exact ⟨rfl, _, Eq.trans (World.drewN_drewN _ _ _) (congrArg (World.drewN _) (Nat.add_assoc _ _ _))⟩)))
     repeat (go_quiet (fail); try go_wp2_with (fail))
     go_ret2
     exact ⟨_, by first | rfl | (simp [errW_none, errW_some] <;> rfl) | (simp [*, errW_none, errW_some] <;> rfl), by first | exact Kd.R_nil _ _ _ _ _ | exact Kd.N_nil _ _ _ _ _ | exact Kd.V_nil _ _ _ _ _ | exact Kd.Q_nil _ _ _ _ _ | exact Kd.S_nil _ _ _ _ _, xb⟩
    ·rw [if_neg c19] at H
     have c19b0 : decide ((l0.length : Int) < t449) = false := decide_eq_false c19
     clear c19
     have HC21 := xy H
     clear H
     have hcz22_0 : wc.cell? ⟨gb447, 0, none⟩ = some (.int .i64 a1_0) := (kc BK447.out 0).trans rfl
     have hcz22_1 : wc.cell? ⟨gb447, 1, none⟩ = some (.int .i64 a1_1) := (kc BK447.out 1).trans rfl
     have hcz22_2 : wc.cell? ⟨gb447, 2, none⟩ = some (.string a1_2) := (kc BK447.out 2).trans rfl
     have hfz22_0 := kf BK447.out 0
     have hfz22_1 := kf BK447.out 1
     have hfz22_2 := kf BK447.out 2
     go_upto_region 6 with ((go_at_call 30; (with_reducible refine (r13_Arity.calls kj3 a1_0 t449 _ (Tabs.below hT xf) A18.out).mono ?_); rintro e w' ⟨rfl, ⟨nd, rfl⟩⟩; (try first | exact ⟨rfl, _, World.drewN_drewN _ _ _⟩ | exact ⟨rfl, _, Eq.trans (World.drewN_drewN _ _ _) (congrArg (World.drewN _) (Nat.add_assoc _ _ _))⟩)))
     repeat (go_quiet (fail); go_upto_region 6 with (fail))
     (try simp only [Act.put, List.setIfInBounds_toArray, List.set_cons_zero, List.set_cons_succ])
     go_cut [9] (fun v9 wc => ∃ (kq : Nat) (x9_20 : Bool), v9 = .bool x9_20 ∧ Aside0 (r15_step.j1 kq l0 l2 t449 x9_20 a1_0 a1_1 a1_2 = some (r1, r2)) ∧ Aside0 (kq ≤ kj3) ∧ Aside0 (wc.heap[gb447]? = some (.cells #[.int .i64 a1_0, .int .i64 a1_1, .string a1_2] 44 (0, 0))) ∧ Aside0 (Below w.heap.size w wc))
     case first =>
      have H := HC21.out
      clear HC21
      by_cases c23 : a1_0 = 1
      ·rw [if_pos c23] at H
       have c23b0 : (a1_0 == 1) = true := beq_iff_eq.mpr c23
       have c23b1 : (a1_0 != 1) = false := bne_eq_false_iff_eq.mpr c23
       clear c23
       (first | rw [c23b0] | (simp only [i64_w, i32_w]; rw [c23b0]) | skip)
       have H' := xy H
       clear H
       have hcz24_0 : wc.cell? ⟨gb447, 0, none⟩ = some (.int .i64 a1_0) := (kc BK447.out 0).trans rfl
       have hcz24_1 : wc.cell? ⟨gb447, 1, none⟩ = some (.int .i64 a1_1) := (kc BK447.out 1).trans rfl
       have hcz24_2 : wc.cell? ⟨gb447, 2, none⟩ = some (.string a1_2) := (kc BK447.out 2).trans rfl
       have hfz24_0 := kf BK447.out 0
       have hfz24_1 := kf BK447.out 1
       have hfz24_2 := kf BK447.out 2
       go_wp2
       repeat (go_quiet (fail); try go_wp2)
       go_meet
       case rel => exact ⟨_, (true), xg, H', ⟨by have := HJ3.out; first | omega | exact Nat.le_refl _⟩, ⟨by (with_reducible repeat (first | refine blk_drewN ?_ _ | refine blk_drew ?_ | refine blk_alloc ?_ _)); exact BK447.out⟩, ⟨xb⟩⟩
      ·rw [if_neg c23] at H
       have c23b0 : (a1_0 == 1) = false := beq_eq_false_iff_ne.mpr c23
       have c23b1 : (a1_0 != 1) = true := bne_iff_ne.mpr c23
       (first | rw [c23b0] | (simp only [i64_w, i32_w]; rw [c23b0]) | skip)
       have H' := xy H
       clear H
       have hcz25_0 : wc.cell? ⟨gb447, 0, none⟩ = some (.int .i64 a1_0) := (kc BK447.out 0).trans rfl
       have hcz25_1 : wc.cell? ⟨gb447, 1, none⟩ = some (.int .i64 a1_1) := (kc BK447.out 1).trans rfl
       have hcz25_2 : wc.cell? ⟨gb447, 2, none⟩ = some (.string a1_2) := (kc BK447.out 2).trans rfl
       have hfz25_0 := kf BK447.out 0
       have hfz25_1 := kf BK447.out 1
       have hfz25_2 := kf BK447.out 2
       go_wp2
       repeat (go_quiet (fail); try go_wp2)
       go_meet
       case rel => exact ⟨_, ((a1_0 == 2)), xg, H', ⟨by have := HJ3.out; first | omega | exact Nat.le_refl _⟩, ⟨by (with_reducible repeat (first | refine blk_drewN ?_ _ | refine blk_drew ?_ | refine blk_alloc ?_ _)); exact BK447.out⟩, ⟨xb⟩⟩
     case rest =>
      clear HC21
      try clear c1
      try clear c2
      try clear p2
      try clear c7
      try clear c8
      try clear c8b0
      try clear c17
      try clear c19
      try clear c19b0
      try clear c23
      try clear c23b0
      try clear c23b1
      try clear hcz11_0
      try clear hcz11_1
      try clear hcz11_2
      try clear hcz12_0
      try clear hcz12_1
      try clear hcz12_2
      try clear hcz14_0
      try clear hcz14_1
      try clear hcz14_2
      try clear hcz15_0
      try clear hcz15_1
      try clear hcz15_2
      try clear hcz20_0
      try clear hcz20_1
      try clear hcz20_2
      try clear hcz22_0
      try clear hcz22_1
      try clear hcz22_2
      try clear hcz24_0
      try clear hcz24_1
      try clear hcz24_2
      try clear hcz25_0
      try clear hcz25_1
      try clear hcz25_2
      try clear hcz9_0
      try clear hcz9_1
      try clear hcz9_2
      try clear hfz11_0
      try clear hfz11_1
      try clear hfz11_2
      try clear hfz12_0
      try clear hfz12_1
      try clear hfz12_2
      try clear hfz14_0
      try clear hfz14_1
      try clear hfz14_2
      try clear hfz15_0
      try clear hfz15_1
      try clear hfz15_2
      try clear hfz20_0
      try clear hfz20_1
      try clear hfz20_2
      try clear hfz22_0
      try clear hfz22_1
      try clear hfz22_2
      try clear hfz24_0
      try clear hfz24_1
      try clear hfz24_2
      try clear hfz25_0
      try clear hfz25_1
      try clear hfz25_2
      try clear hfz9_0
      try clear hfz9_1
      try clear hfz9_2
      try clear p2
      obtain ⟨kq, x9_20, rfl, HA, HJ20, BK447, HB⟩ := hcut
      cases kq with
      | zero => exact absurd HA.out (by simp [r15_step.j1])
      | succ kj20 =>
       have H := HA.out
       clear HA
       simp only [r15_step.j1] at H
       have HC26 := xy H
       clear H
       have hcz27_0 : wc.cell? ⟨gb447, 0, none⟩ = some (.int .i64 a1_0) := (kc BK447.out 0).trans rfl
       have hcz27_1 : wc.cell? ⟨gb447, 1, none⟩ = some (.int .i64 a1_1) := (kc BK447.out 1).trans rfl
       have hcz27_2 : wc.cell? ⟨gb447, 2, none⟩ = some (.string a1_2) := (kc BK447.out 2).trans rfl
       have hfz27_0 := kf BK447.out 0
       have hfz27_1 := kf BK447.out 1
       have hfz27_2 := kf BK447.out 2
       go_upto_if 43 with (fail)
       repeat (go_quiet (fail); go_upto_if 43 with (fail))
       go_cut [9] (fun v9 wc => ∃ (kq : Nat) (x9_25 : Bool), v9 = .bool x9_25 ∧ Aside0 (r15_step.j2 kq l0 t449 x9_25 a1_0 a1_1 a1_2 = some (r1, r2)) ∧ Aside0 (kq ≤ kj20) ∧ Aside0 (wc.heap[gb447]? = some (.cells #[.int .i64 a1_0, .int .i64 a1_1, .string a1_2] 44 (0, 0))) ∧ Aside0 (Below w.heap.size w wc))
       case first =>
        have H := HC26.out
        clear HC26
        by_cases c28 : a1_0 ≥ 22
        ·rw [if_pos c28] at H
         have c28b0 : decide (22 ≤ a1_0) = true := decide_eq_true c28
         clear c28
         (first | rw [c28b0] | (simp only [i64_w, i32_w]; rw [c28b0]) | skip)
         obtain ⟨ji29, hji29⟩ : ∃ j_ : Int, (wrap64 (a1_0 - 22)) = j_ := ⟨_, rfl⟩
         replace H : (if 0 ≤ (ji29) then (if (ji29) < (l2.length : Int) then (r15_step.j2 kj20 l0 t449 (rdOf false l2 (ji29)) a1_0 a1_1 a1_2) else (none)) else (none)) = some (r1, r2) := by first | (rw [hji29] at H; exact H) | (simp only [hji29] at H ⊢; exact H)
         have hji29w : (IntKind.i64.wrap (a1_0 - 22)) = ji29 := (i64_w _).trans hji29
         by_cases c30 : 0 ≤ (ji29)
         ·rw [if_pos c30] at H
          have c30b0 : decide (0 ≤ (ji29)) = true := decide_eq_true c30
          clear c30
          by_cases c31 : (ji29) < (l2.length : Int)
          ·rw [if_pos c31] at H
           have c31b0 : decide ((ji29) < (l2.length : Int)) = true := decide_eq_true c31
           clear c31
           have H' := xy H
           clear H
           have hcz32_0 : wc.cell? ⟨gb447, 0, none⟩ = some (.int .i64 a1_0) := (kc BK447.out 0).trans rfl
           have hcz32_1 : wc.cell? ⟨gb447, 1, none⟩ = some (.int .i64 a1_1) := (kc BK447.out 1).trans rfl
           have hcz32_2 : wc.cell? ⟨gb447, 2, none⟩ = some (.string a1_2) := (kc BK447.out 2).trans rfl
           have hfz32_0 := kf BK447.out 0
           have hfz32_1 := kf BK447.out 1
           have hfz32_2 := kf BK447.out 2
           have p450 : 0 ≤ ((ji29) : Int) := xi
           have q450 : (ji29) < (l2.length : Int) := xi
           obtain ⟨ad450, e450, hx450_0⟩ := Kd.at_bool HR2.out (ji29) p450 q450
           cases e450
           replace hx450_0 := (HB.out.cell (World.block_lt_of_cell? w _ hx450_0)).trans hx450_0
           replace p450 := eq_true p450
           replace q450 := eq_true q450
           go_wp2
           repeat (go_quiet (fail); try go_wp2)
           go_meet
           case rel => exact ⟨_, (rdOf false l2 (ji29)), (by first | rfl | (simp; done) | (simp only [← hji29] <;> (first | rfl | simp)) | (simp [*]; done)), H', ⟨by have := HJ3.out; have := HJ20.out; first | omega | exact Nat.le_refl _⟩, ⟨by (with_reducible repeat (first | refine blk_drewN ?_ _ | refine blk_drew ?_ | refine blk_alloc ?_ _)); exact BK447.out⟩, ⟨xb⟩⟩
          ·rw [if_neg c31] at H
           exact absurd H (by simp)
         ·rw [if_neg c30] at H
          exact absurd H (by simp)
        ·rw [if_neg c28] at H
         have c28b0 : decide (22 ≤ a1_0) = false := decide_eq_false c28
         clear c28
         (first | rw [c28b0] | (simp only [i64_w, i32_w]; rw [c28b0]) | skip)
         have H' := xy H
         clear H
         go_wp2
         repeat (go_quiet (fail); try go_wp2)
         go_meet
         case rel => exact ⟨_, (x9_20), xg, H', ⟨by have := HJ3.out; have := HJ20.out; first | omega | exact Nat.le_refl _⟩, ⟨by (with_reducible repeat (first | refine blk_drewN ?_ _ | refine blk_drew ?_ | refine blk_alloc ?_ _)); exact BK447.out⟩, ⟨xb⟩⟩
       case rest =>
        clear HC26
        try clear c1
        try clear c2
        try clear p2
        try clear c3
        try clear p4
        try clear q4
        try clear hx4
        try clear p6
        try clear c7
        try clear c8
        try clear c8b0
        try clear c17
        try clear c19
        try clear c19b0
        try clear c23
        try clear c23b0
        try clear c23b1
        try clear c28
        try clear c28b0
        try clear c29
        try clear c30
        try clear c30b0
        try clear c31
        try clear c31b0
        try clear hcz11_0
        try clear hcz11_1
        try clear hcz11_2
        try clear hcz12_0
        try clear hcz12_1
        try clear hcz12_2
        try clear hcz14_0
        try clear hcz14_1
        try clear hcz14_2
        try clear hcz15_0
        try clear hcz15_1
        try clear hcz15_2
        try clear hcz20_0
        try clear hcz20_1
        try clear hcz20_2
        try clear hcz22_0
        try clear hcz22_1
        try clear hcz22_2
        try clear hcz24_0
        try clear hcz24_1
        try clear hcz24_2
        try clear hcz25_0
        try clear hcz25_1
        try clear hcz25_2
        try clear hcz27_0
        try clear hcz27_1
        try clear hcz27_2
        try clear hcz32_0
        try clear hcz32_1
        try clear hcz32_2
        try clear hcz9_0
        try clear hcz9_1
        try clear hcz9_2
        try clear hfz11_0
        try clear hfz11_1
        try clear hfz11_2
        try clear hfz12_0
        try clear hfz12_1
        try clear hfz12_2
        try clear hfz14_0
        try clear hfz14_1
        try clear hfz14_2
        try clear hfz15_0
        try clear hfz15_1
        try clear hfz15_2
        try clear hfz20_0
        try clear hfz20_1
        try clear hfz20_2
        try clear hfz22_0
        try clear hfz22_1
        try clear hfz22_2
        try clear hfz24_0
        try clear hfz24_1
        try clear hfz24_2
        try clear hfz25_0
        try clear hfz25_1
        try clear hfz25_2
        try clear hfz27_0
        try clear hfz27_1
        try clear hfz27_2
        try clear hfz32_0
        try clear hfz32_1
        try clear hfz32_2
        try clear hfz9_0
        try clear hfz9_1
        try clear hfz9_2
        try clear hx450_0
        try clear p2
        try clear p450
        try clear q450
        obtain ⟨kq, x9_25, rfl, HA, HJ25, BK447, HB⟩ := hcut
        cases kq with
        | zero => exact absurd HA.out (by simp [r15_step.j2])
        | succ kj25 =>
         have H := HA.out
         clear HA
         simp only [r15_step.j2] at H
         by_cases c33 : t449 > 0
         ·rw [if_pos c33] at H
          have c33b0 : decide (0 < t449) = true := decide_eq_true c33
          clear c33
          obtain ⟨ji34, hji34⟩ : ∃ j_ : Int, (wrap64 ((l0.length : Int) - t449)) = j_ := ⟨_, rfl⟩
          replace H : (if 0 ≤ (ji34) then (if (ji34) ≤ (l0.length : Int) then ((r13_Result.f kj25 a1_0 (l0.drop ((ji34) : Int).toNat)).bind fun bt452 => (if bt452.2 = 0 then ((some (([] : List Bool) : List Bool)).bind fun y454 => (if y454.length + (l0.take ((ji34) : Int).toNat).length < 140737488355328 then ((some (y454 ++ (l0.take ((ji34) : Int).toNat) : List Bool)).bind fun y458 => (if y458.length < 140737488355328 then ((some (y458 ++ [bt452.1] : List Bool)).bind fun y461 => (if (y461.length : Int) > 30 then (some (([] : List Bool), 13)) else (some (y461, 0)))) else (none))) else (none))) else (some (([] : List Bool), bt452.2)))) else (none)) else (none)) = some (r1, r2) := by first | (rw [hji34] at H; exact H) | (simp only [hji34] at H ⊢; exact H)
          have hji34w : (IntKind.i64.wrap ((l0.length : Int) - t449)) = ji34 := (i64_w _).trans hji34
          by_cases c35 : 0 ≤ (ji34)
          ·rw [if_pos c35] at H
           have c35b0 := eq_true c35
           have c35b1 : decide (0 ≤ (ji34)) = true := decide_eq_true c35
           clear c35
           by_cases c36 : (ji34) ≤ (l0.length : Int)
           ·rw [if_pos c36] at H
            have c36b0 := eq_true c36
            have c36b1 : decide ((ji34) ≤ (l0.length : Int)) = true := decide_eq_true c36
            clear c36
            replace H := xj H
            obtain ⟨⟨t452, t453⟩, A370, H⟩ := H
            try dsimp only at H
            have A37 := xy A370
            clear A370
            by_cases c38 : t453 = 0
            ·rw [if_pos c38] at H
             have c38b0 : (t453 == 0) = true := beq_iff_eq.mpr c38
             have c38b1 : (t453 != 0) = false := bne_eq_false_iff_eq.mpr c38
             clear c38
             obtain ⟨y454, hy454⟩ : ∃ y_ : List Bool, y_ = (([] : List Bool)) := ⟨_, rfl⟩
             replace H : (if y454.length + (l0.take ((ji34) : Int).toNat).length < 140737488355328 then ((some (y454 ++ (l0.take ((ji34) : Int).toNat) : List Bool)).bind fun y458 => (if y458.length < 140737488355328 then ((some (y458 ++ [t452] : List Bool)).bind fun y461 => (if (y461.length : Int) > 30 then (some (([] : List Bool), 13)) else (some (y461, 0)))) else (none))) else (none)) = some (r1, r2) := by first | (rw [hy454]; with_reducible exact H) | (have H2_ := (Option.bind_some _ _).symm.trans H; rw [hy454]; with_reducible exact H2_) | (have H2_ := (Option.bind_some _ _).symm.trans H; with_reducible exact H2_) | with_reducible exact H | (rw [hy454]; exact H) | exact H
             have Ny454 := xy hy454
             clear hy454
             have c39b0 := eq_true (xi : 0 ≤ (ji34))
             have c40b0 := eq_true (xi : (ji34) ≤ (l0.length : Int))
             by_cases c41 : y454.length + (l0.take ((ji34) : Int).toNat).length < 140737488355328
             ·rw [if_pos c41] at H
              have LMc41 := xy c41
              clear c41
              obtain ⟨y458, hy458⟩ : ∃ y_ : List Bool, y_ = (y454 ++ (l0.take ((ji34) : Int).toNat)) := ⟨_, rfl⟩
              replace H : (if y458.length < 140737488355328 then ((some (y458 ++ [t452] : List Bool)).bind fun y461 => (if (y461.length : Int) > 30 then (some (([] : List Bool), 13)) else (some (y461, 0)))) else (none)) = some (r1, r2) := by first | (rw [hy458]; with_reducible exact H) | (have H2_ := (Option.bind_some _ _).symm.trans H; rw [hy458]; with_reducible exact H2_) | (have H2_ := (Option.bind_some _ _).symm.trans H; with_reducible exact H2_) | with_reducible exact H | (rw [hy458]; exact H) | exact H
              have Ny458 := xy hy458
              clear hy458
              by_cases c42 : y458.length < 140737488355328
              ·rw [if_pos c42] at H
               have LMc42 := xy c42
               clear c42
               obtain ⟨y461, hy461⟩ : ∃ y_ : List Bool, y_ = (y458 ++ [t452]) := ⟨_, rfl⟩
               replace H : (if (y461.length : Int) > 30 then (some (([] : List Bool), 13)) else (some (y461, 0))) = some (r1, r2) := by first | (rw [hy461]; with_reducible exact H) | (have H2_ := (Option.bind_some _ _).symm.trans H; rw [hy461]; with_reducible exact H2_) | (have H2_ := (Option.bind_some _ _).symm.trans H; with_reducible exact H2_) | with_reducible exact H | (rw [hy461]; exact H) | exact H
               have Ny461 := xy hy461
               clear hy461
               by_cases c43 : (y461.length : Int) > 30
               ·rw [if_pos c43] at H
                have c43b0 : decide (30 < (y461.length : Int)) = true := decide_eq_true c43
                have c43b1 : decide (30 < y461.length) = true := decide_eq_true (by omega)
                clear c43
                simp only [Option.some.injEq, Prod.mk.injEq] at H
                obtain ⟨rfl, rfl⟩ := H
                have hcz44_0 : wc.cell? ⟨gb447, 0, none⟩ = some (.int .i64 a1_0) := (kc BK447.out 0).trans rfl
                have hcz44_1 : wc.cell? ⟨gb447, 1, none⟩ = some (.int .i64 a1_1) := (kc BK447.out 1).trans rfl
                have hcz44_2 : wc.cell? ⟨gb447, 2, none⟩ = some (.string a1_2) := (kc BK447.out 2).trans rfl
                have hfz44_0 := kf BK447.out 0
                have hfz44_1 := kf BK447.out 1
                have hfz44_2 := kf BK447.out 2
                obtain ⟨i045, hi045, _, hsz45, _⟩ := info_parts info4
                obtain ⟨A45, hcut45, hA45, hC45⟩ := print_drop_of (P := Tryz.prog) Value.bool false 47 4 .i64 Tryz.underlying47 hi045 hsz45 A0 c0 l0 (ji34) xi xi HC0.out
                have HR451 := xy (Kd.C_of_reads (h1 := fun _ => rfl) (hA45 _ (Kd.reads_of_C HR0.out)))
                have HC451 := xy hC45
                clear hA45 hC45 hi045 hsz45
                go_wp2_with (fail)
                repeat (go_quiet ((go_at_call 48; (try rw [← List.length_drop]); (with_reducible refine (r13_Result.calls kj25 a1_0 _ _ (l0.drop ((ji34) : Int).toNat) t452 t453 _ (Tabs.below hT xf) ?side1 ?side2 A37.out).mono ?_); (case side1 => exact Kd.C_below HR451.out xb); (case side2 => exact HC451.out); rintro e w' ⟨rfl, ⟨nd, rfl⟩⟩; (try first | exact ⟨rfl, _, World.drewN_drewN _ _ _⟩ | exact ⟨rfl, _, Eq.trans (World.drewN_drewN _ _ _) (congrArg (World.drewN _) (Nat.add_assoc _ _ _))⟩))); try go_wp2_with (first | ((with_reducible refine gate_dst (N := 68) rfl ?_); (try (refine gate_guard (by rfl) ?_; dsimp only)); refine Kd.R_lit Kd.bool _ 4 ?hg (N := 68) ?hd (xs := ([] : List Bool)) (inner := []) (ok := fun _ => True) (okp := fun _ => True) ?hr ?hp (fun _ hk => hk) trivial (Below.refl _ _) (Nat.le_refl _) (by simp) ?_; (case hd => rfl); (case hg => rfl); (case hr => exact xh); (case hp => exact (Reps.none _ _)); intro v455 w46 ho47 hb hg_ hnew_; clear hg_ hnew_; (first | rw [← Ny454.out] at ho47 | (simp only [Int.reduceToNat] at ho47; rw [← Ny454.out] at ho47)); have HO456 := xy (Kd.R_lower ho47 (below_size xb)); replace BK447 := xd BK447.out hb; replace HB := xy (below_step xb hb); clear hb ho47; obtain ⟨i048, hi048, _, hsz48, _⟩ := info_parts info4; obtain ⟨hcut48, hA48, hC48⟩ := print_take_of (P := Tryz.prog) Value.bool false 47 4 .i64 Tryz.underlying47 hi048 hsz48 A0 c0 l0 (ji34) xi xi HC0.out; have HR457 := xy (Kd.C_of_reads (h1 := fun _ => rfl) (hA48 _ (Kd.reads_of_C HR0.out))); have HC457 := xy hC48; clear hA48 hC48 hi048 hsz48) | ((with_reducible refine gate_builtin (b := .append) (xs := #[.tmp 68, .tmp 74]) rfl ?_); (try (refine gate_guard (by rfl) ?_; dsimp only)); at_builtin; refine Kd.R_append_rows Kd.bool (w0 := w) w.heap.size rfl (.tmp 68) (.tmp 74) 47 4 (.bool false) 1 rfl Tryz.underlying47 info4 rfl (by decide) (by omega) v455 y454 (l0.take ((ji34) : Int).toNat) _ _ _ (fun _ => True) (fun _ => False) rfl rfl ?aO ?aR (fun _ _ h => h) (fun _ h => h.elim) ?aF ?aB ?aS ?aL ?_; (case aR => first | (refine Eq.mp (congrArg (fun z_ => ReadsRow _ _ _ _ z_ _) (show (l0.take ((ji34) : Int).toNat).length = (ji34).toNat from (by rw [List.length_take]; have h_ : ((ji34) : Int) ≤ (l0.length : Int) := xi; omega))) ?_; exact Kd.C_below HR457.out xb) | (exact Kd.C_below HR457.out xb)); (case aB => exact xb); (case aF => exact (fun _ _ => trivial)); (case aO => exact (xo HO456.out)); (case aS => exact (below_size xb)); (case aL => have := LMc41.out; have hlx_ := (show (l0.take ((ji34) : Int).toNat).length = (ji34).toNat from (by rw [List.length_take]; have h_ : ((ji34) : Int) ≤ (l0.length : Int) := xi; omega)); omega); intro v459 w49 ho hb hg hat; rw [← Ny458.out] at ho; replace BK447 := xy (blk_grown (g := gb447) (o := .cells #[.int .i64 a1_0, .int .i64 a1_1, .string a1_2] 44 (0, 0)) (xk BK447.out) hg (Kd.R_ne HO456.out BK447.out (by decide))); replace HB := xy (hb); have HO460 := xy (ho); clear HO456; clear ho hb hg hat) | ((with_reducible refine gate_builtin (b := .append) (xs := #[.tmp 76, .tmp 78]) rfl ?_); (try (refine gate_guard (by rfl) ?_; dsimp only)); at_builtin; refine Kd.R_append Kd.bool (w0 := w) w.heap.size rfl (.tmp 76) (.tmp 78) 47 4 (.bool false) 1 rfl Tryz.underlying47 info4 rfl (by decide) (by omega) v459 y458 t452 [.bool t452] (fun _ => True) (fun _ => False) rfl rfl ?aP (fun _ hk => hk.elim) ?aF ?aO ?aB ?aS ?aL ?_; (case aP => exact rfl); (case aB => exact xb); (case aF => exact (fun _ _ => trivial)); (case aO => exact (xo HO460.out)); (case aS => exact (below_size xb)); (case aL => have := LMc42.out; omega); intro v462 w50 ho hb hg hat; rw [← Ny461.out] at ho; replace BK447 := xy (blk_grown (g := gb447) (o := .cells #[.int .i64 a1_0, .int .i64 a1_1, .string a1_2] 44 (0, 0)) (xk BK447.out) hg (Kd.R_ne HO460.out BK447.out (by decide))); replace HB := xy (hb); have HO463 := xy (ho); clear HO460; clear ho hb hg hat; obtain ⟨Ao51, co51, eo51⟩ := Kd.R_slice HO463.out; subst eo51)))
                go_ret2
                exact ⟨_, by first | rfl | (simp [errW_none, errW_some] <;> rfl) | (simp only [← hji34]; first | rfl | (simp [errW_none, errW_some] <;> rfl)) | (simp [*, errW_none, errW_some] <;> rfl), by first | exact Kd.R_nil _ _ _ _ _ | exact Kd.N_nil _ _ _ _ _ | exact Kd.V_nil _ _ _ _ _ | exact Kd.Q_nil _ _ _ _ _ | exact Kd.S_nil _ _ _ _ _, xb⟩
               ·rw [if_neg c43] at H
                have c43b0 : decide (30 < (y461.length : Int)) = false := decide_eq_false c43
                have c43b1 : decide (30 < y461.length) = false := decide_eq_false (by omega)
                clear c43
                simp only [Option.some.injEq, Prod.mk.injEq] at H
                obtain ⟨rfl, rfl⟩ := H
                have hcz52_0 : wc.cell? ⟨gb447, 0, none⟩ = some (.int .i64 a1_0) := (kc BK447.out 0).trans rfl
                have hcz52_1 : wc.cell? ⟨gb447, 1, none⟩ = some (.int .i64 a1_1) := (kc BK447.out 1).trans rfl
                have hcz52_2 : wc.cell? ⟨gb447, 2, none⟩ = some (.string a1_2) := (kc BK447.out 2).trans rfl
                have hfz52_0 := kf BK447.out 0
                have hfz52_1 := kf BK447.out 1
                have hfz52_2 := kf BK447.out 2
                obtain ⟨i053, hi053, _, hsz53, _⟩ := info_parts info4
                obtain ⟨A53, hcut53, hA53, hC53⟩ := print_drop_of (P := Tryz.prog) Value.bool false 47 4 .i64 Tryz.underlying47 hi053 hsz53 A0 c0 l0 (ji34) xi xi HC0.out
                have HR451 := xy (Kd.C_of_reads (h1 := fun _ => rfl) (hA53 _ (Kd.reads_of_C HR0.out)))
                have HC451 := xy hC53
                clear hA53 hC53 hi053 hsz53
                go_wp2_with (fail)
                repeat (go_quiet ((go_at_call 48; (try rw [← List.length_drop]); (with_reducible refine (r13_Result.calls kj25 a1_0 _ _ (l0.drop ((ji34) : Int).toNat) t452 t453 _ (Tabs.below hT xf) ?side1 ?side2 A37.out).mono ?_); (case side1 => exact Kd.C_below HR451.out xb); (case side2 => exact HC451.out); rintro e w' ⟨rfl, ⟨nd, rfl⟩⟩; (try first | exact ⟨rfl, _, World.drewN_drewN _ _ _⟩ | exact ⟨rfl, _, Eq.trans (World.drewN_drewN _ _ _) (congrArg (World.drewN _) (Nat.add_assoc _ _ _))⟩))); try go_wp2_with (first | ((with_reducible refine gate_dst (N := 68) rfl ?_); (try (refine gate_guard (by rfl) ?_; dsimp only)); refine Kd.R_lit Kd.bool _ 4 ?hg (N := 68) ?hd (xs := ([] : List Bool)) (inner := []) (ok := fun _ => True) (okp := fun _ => True) ?hr ?hp (fun _ hk => hk) trivial (Below.refl _ _) (Nat.le_refl _) (by simp) ?_; (case hd => rfl); (case hg => rfl); (case hr => exact xh); (case hp => exact (Reps.none _ _)); intro v455 w54 ho55 hb hg_ hnew_; clear hg_ hnew_; (first | rw [← Ny454.out] at ho55 | (simp only [Int.reduceToNat] at ho55; rw [← Ny454.out] at ho55)); have HO456 := xy (Kd.R_lower ho55 (below_size xb)); replace BK447 := xd BK447.out hb; replace HB := xy (below_step xb hb); clear hb ho55; obtain ⟨i056, hi056, _, hsz56, _⟩ := info_parts info4; obtain ⟨hcut56, hA56, hC56⟩ := print_take_of (P := Tryz.prog) Value.bool false 47 4 .i64 Tryz.underlying47 hi056 hsz56 A0 c0 l0 (ji34) xi xi HC0.out; have HR457 := xy (Kd.C_of_reads (h1 := fun _ => rfl) (hA56 _ (Kd.reads_of_C HR0.out))); have HC457 := xy hC56; clear hA56 hC56 hi056 hsz56) | ((with_reducible refine gate_builtin (b := .append) (xs := #[.tmp 68, .tmp 74]) rfl ?_); (try (refine gate_guard (by rfl) ?_; dsimp only)); at_builtin; refine Kd.R_append_rows Kd.bool (w0 := w) w.heap.size rfl (.tmp 68) (.tmp 74) 47 4 (.bool false) 1 rfl Tryz.underlying47 info4 rfl (by decide) (by omega) v455 y454 (l0.take ((ji34) : Int).toNat) _ _ _ (fun _ => True) (fun _ => False) rfl rfl ?aO ?aR (fun _ _ h => h) (fun _ h => h.elim) ?aF ?aB ?aS ?aL ?_; (case aR => first | (refine Eq.mp (congrArg (fun z_ => ReadsRow _ _ _ _ z_ _) (show (l0.take ((ji34) : Int).toNat).length = (ji34).toNat from (by rw [List.length_take]; have h_ : ((ji34) : Int) ≤ (l0.length : Int) := xi; omega))) ?_; exact Kd.C_below HR457.out xb) | (exact Kd.C_below HR457.out xb)); (case aB => exact xb); (case aF => exact (fun _ _ => trivial)); (case aO => exact (xo HO456.out)); (case aS => exact (below_size xb)); (case aL => have := LMc41.out; have hlx_ := (show (l0.take ((ji34) : Int).toNat).length = (ji34).toNat from (by rw [List.length_take]; have h_ : ((ji34) : Int) ≤ (l0.length : Int) := xi; omega)); omega); intro v459 w57 ho hb hg hat; rw [← Ny458.out] at ho; replace BK447 := xy (blk_grown (g := gb447) (o := .cells #[.int .i64 a1_0, .int .i64 a1_1, .string a1_2] 44 (0, 0)) (xk BK447.out) hg (Kd.R_ne HO456.out BK447.out (by decide))); replace HB := xy (hb); have HO460 := xy (ho); clear HO456; clear ho hb hg hat) | ((with_reducible refine gate_builtin (b := .append) (xs := #[.tmp 76, .tmp 78]) rfl ?_); (try (refine gate_guard (by rfl) ?_; dsimp only)); at_builtin; refine Kd.R_append Kd.bool (w0 := w) w.heap.size rfl (.tmp 76) (.tmp 78) 47 4 (.bool false) 1 rfl Tryz.underlying47 info4 rfl (by decide) (by omega) v459 y458 t452 [.bool t452] (fun _ => True) (fun _ => False) rfl rfl ?aP (fun _ hk => hk.elim) ?aF ?aO ?aB ?aS ?aL ?_; (case aP => exact rfl); (case aB => exact xb); (case aF => exact (fun _ _ => trivial)); (case aO => exact (xo HO460.out)); (case aS => exact (below_size xb)); (case aL => have := LMc42.out; omega); intro v462 w58 ho hb hg hat; rw [← Ny461.out] at ho; replace BK447 := xy (blk_grown (g := gb447) (o := .cells #[.int .i64 a1_0, .int .i64 a1_1, .string a1_2] 44 (0, 0)) (xk BK447.out) hg (Kd.R_ne HO460.out BK447.out (by decide))); replace HB := xy (hb); have HO463 := xy (ho); clear HO460; clear ho hb hg hat; obtain ⟨Ao59, co59, eo59⟩ := Kd.R_slice HO463.out; subst eo59)))
                go_ret2
                exact ⟨_, by first | rfl | (simp [errW_none, errW_some] <;> rfl) | (simp only [← hji34]; first | rfl | (simp [errW_none, errW_some] <;> rfl)) | (simp [*, errW_none, errW_some] <;> rfl), by (with_reducible repeat (first | apply Kd.R_alloc | apply Kd.R_drewN | apply Kd.R_drew)); exact HO463.out, xb⟩
              ·rw [if_neg c42] at H
               exact absurd H (by simp)
             ·rw [if_neg c41] at H
              exact absurd H (by simp)
            ·rw [if_neg c38] at H
             have c38b0 : (t453 == 0) = false := beq_eq_false_iff_ne.mpr c38
             have c38b1 : (t453 != 0) = true := bne_iff_ne.mpr c38
             simp only [Option.some.injEq, Prod.mk.injEq] at H
             obtain ⟨rfl, rfl⟩ := H
             have hcz60_0 : wc.cell? ⟨gb447, 0, none⟩ = some (.int .i64 a1_0) := (kc BK447.out 0).trans rfl
             have hcz60_1 : wc.cell? ⟨gb447, 1, none⟩ = some (.int .i64 a1_1) := (kc BK447.out 1).trans rfl
             have hcz60_2 : wc.cell? ⟨gb447, 2, none⟩ = some (.string a1_2) := (kc BK447.out 2).trans rfl
             have hfz60_0 := kf BK447.out 0
             have hfz60_1 := kf BK447.out 1
             have hfz60_2 := kf BK447.out 2
             obtain ⟨i061, hi061, _, hsz61, _⟩ := info_parts info4
             obtain ⟨A61, hcut61, hA61, hC61⟩ := print_drop_of (P := Tryz.prog) Value.bool false 47 4 .i64 Tryz.underlying47 hi061 hsz61 A0 c0 l0 (ji34) xi xi HC0.out
             have HR451 := xy (Kd.C_of_reads (h1 := fun _ => rfl) (hA61 _ (Kd.reads_of_C HR0.out)))
             have HC451 := xy hC61
             clear hA61 hC61 hi061 hsz61
             go_wp2_with (fail)
             repeat (go_quiet ((go_at_call 48; (try rw [← List.length_drop]); (with_reducible refine (r13_Result.calls kj25 a1_0 _ _ (l0.drop ((ji34) : Int).toNat) t452 t453 _ (Tabs.below hT xf) ?side1 ?side2 A37.out).mono ?_); (case side1 => exact Kd.C_below HR451.out xb); (case side2 => exact HC451.out); rintro e w' ⟨rfl, ⟨nd, rfl⟩⟩; (try first | exact ⟨rfl, _, World.drewN_drewN _ _ _⟩ | exact ⟨rfl, _, Eq.trans (World.drewN_drewN _ _ _) (congrArg (World.drewN _) (Nat.add_assoc _ _ _))⟩))); try go_wp2_with (fail))
             go_ret2
             exact ⟨_, by first | rfl | (simp [errW_none, errW_some] <;> rfl) | (simp only [← hji34]; first | rfl | (simp [errW_none, errW_some] <;> rfl)) | (simp [*, errW_none, errW_some] <;> rfl), by first | exact Kd.R_nil _ _ _ _ _ | exact Kd.N_nil _ _ _ _ _ | exact Kd.V_nil _ _ _ _ _ | exact Kd.Q_nil _ _ _ _ _ | exact Kd.S_nil _ _ _ _ _, xb⟩
           ·rw [if_neg c36] at H
            exact absurd H (by simp)
          ·rw [if_neg c35] at H
           exact absurd H (by simp)
         ·rw [if_neg c33] at H
          have c33b0 : decide (0 < t449) = false := decide_eq_false c33
          clear c33
          obtain ⟨y464, hy464⟩ : ∃ y_ : List Bool, y_ = (([] : List Bool)) := ⟨_, rfl⟩
          replace H : (if 0 ≤ (wrap64 ((l0.length : Int) - t449)) then (if (wrap64 ((l0.length : Int) - t449)) ≤ (l0.length : Int) then (if y464.length + (l0.take ((wrap64 ((l0.length : Int) - t449)) : Int).toNat).length < 140737488355328 then ((some (y464 ++ (l0.take ((wrap64 ((l0.length : Int) - t449)) : Int).toNat) : List Bool)).bind fun y468 => (if y468.length < 140737488355328 then ((some (y468 ++ [x9_25] : List Bool)).bind fun y471 => (if (y471.length : Int) > 30 then (some (([] : List Bool), 13)) else (some (y471, 0)))) else (none))) else (none)) else (none)) else (none)) = some (r1, r2) := by first | (rw [hy464]; with_reducible exact H) | (have H2_ := (Option.bind_some _ _).symm.trans H; rw [hy464]; with_reducible exact H2_) | (have H2_ := (Option.bind_some _ _).symm.trans H; with_reducible exact H2_) | with_reducible exact H | (rw [hy464]; exact H) | exact H
          have Ny464 := xy hy464
          clear hy464
          obtain ⟨ji62, hji62⟩ : ∃ j_ : Int, (wrap64 ((l0.length : Int) - t449)) = j_ := ⟨_, rfl⟩
          replace H : (if 0 ≤ (ji62) then (if (ji62) ≤ (l0.length : Int) then (if y464.length + (l0.take ((ji62) : Int).toNat).length < 140737488355328 then ((some (y464 ++ (l0.take ((ji62) : Int).toNat) : List Bool)).bind fun y468 => (if y468.length < 140737488355328 then ((some (y468 ++ [x9_25] : List Bool)).bind fun y471 => (if (y471.length : Int) > 30 then (some (([] : List Bool), 13)) else (some (y471, 0)))) else (none))) else (none)) else (none)) else (none)) = some (r1, r2) := by first | (rw [hji62] at H; exact H) | (simp only [hji62] at H ⊢; exact H)
          have hji62w : (IntKind.i64.wrap ((l0.length : Int) - t449)) = ji62 := (i64_w _).trans hji62
          by_cases c63 : 0 ≤ (ji62)
          ·rw [if_pos c63] at H
           have c63b0 := eq_true c63
           have c63b1 : decide (0 ≤ (ji62)) = true := decide_eq_true c63
           clear c63
           by_cases c64 : (ji62) ≤ (l0.length : Int)
           ·rw [if_pos c64] at H
            have c64b0 := eq_true c64
            have c64b1 : decide ((ji62) ≤ (l0.length : Int)) = true := decide_eq_true c64
            clear c64
            by_cases c65 : y464.length + (l0.take ((ji62) : Int).toNat).length < 140737488355328
            ·rw [if_pos c65] at H
             have LMc65 := xy c65
             clear c65
             obtain ⟨y468, hy468⟩ : ∃ y_ : List Bool, y_ = (y464 ++ (l0.take ((ji62) : Int).toNat)) := ⟨_, rfl⟩
             replace H : (if y468.length < 140737488355328 then ((some (y468 ++ [x9_25] : List Bool)).bind fun y471 => (if (y471.length : Int) > 30 then (some (([] : List Bool), 13)) else (some (y471, 0)))) else (none)) = some (r1, r2) := by first | (rw [hy468]; with_reducible exact H) | (have H2_ := (Option.bind_some _ _).symm.trans H; rw [hy468]; with_reducible exact H2_) | (have H2_ := (Option.bind_some _ _).symm.trans H; with_reducible exact H2_) | with_reducible exact H | (rw [hy468]; exact H) | exact H
             have Ny468 := xy hy468
             clear hy468
             by_cases c66 : y468.length < 140737488355328
             ·rw [if_pos c66] at H
              have LMc66 := xy c66
              clear c66
              obtain ⟨y471, hy471⟩ : ∃ y_ : List Bool, y_ = (y468 ++ [x9_25]) := ⟨_, rfl⟩
              replace H : (if (y471.length : Int) > 30 then (some (([] : List Bool), 13)) else (some (y471, 0))) = some (r1, r2) := by first | (rw [hy471]; with_reducible exact H) | (have H2_ := (Option.bind_some _ _).symm.trans H; rw [hy471]; with_reducible exact H2_) | (have H2_ := (Option.bind_some _ _).symm.trans H; with_reducible exact H2_) | with_reducible exact H | (rw [hy471]; exact H) | exact H
              have Ny471 := xy hy471
              clear hy471
              by_cases c67 : (y471.length : Int) > 30
              ·rw [if_pos c67] at H
               have c67b0 : decide (30 < (y471.length : Int)) = true := decide_eq_true c67
               have c67b1 : decide (30 < y471.length) = true := decide_eq_true (by omega)
               clear c67
               simp only [Option.some.injEq, Prod.mk.injEq] at H
               obtain ⟨rfl, rfl⟩ := H
               go_wp2_with (first | ((with_reducible refine gate_dst (N := 68) rfl ?_); (try (refine gate_guard (by rfl) ?_; dsimp only)); refine Kd.R_lit Kd.bool _ 4 ?hg (N := 68) ?hd (xs := ([] : List Bool)) (inner := []) (ok := fun _ => True) (okp := fun _ => True) ?hr ?hp (fun _ hk => hk) trivial (Below.refl _ _) (Nat.le_refl _) (by simp) ?_; (case hd => rfl); (case hg => rfl); (case hr => exact xh); (case hp => exact (Reps.none _ _)); intro v465 w68 ho69 hb hg_ hnew_; clear hg_ hnew_; (first | rw [← Ny464.out] at ho69 | (simp only [Int.reduceToNat] at ho69; rw [← Ny464.out] at ho69)); have HO466 := xy (Kd.R_lower ho69 (below_size xb)); replace BK447 := xd BK447.out hb; replace HB := xy (below_step xb hb); clear hb ho69; obtain ⟨i070, hi070, _, hsz70, _⟩ := info_parts info4; obtain ⟨hcut70, hA70, hC70⟩ := print_take_of (P := Tryz.prog) Value.bool false 47 4 .i64 Tryz.underlying47 hi070 hsz70 A0 c0 l0 (ji62) xi xi HC0.out; have HR467 := xy (Kd.C_of_reads (h1 := fun _ => rfl) (hA70 _ (Kd.reads_of_C HR0.out))); have HC467 := xy hC70; clear hA70 hC70 hi070 hsz70) | ((with_reducible refine gate_builtin (b := .append) (xs := #[.tmp 68, .tmp 74]) rfl ?_); (try (refine gate_guard (by rfl) ?_; dsimp only)); at_builtin; refine Kd.R_append_rows Kd.bool (w0 := w) w.heap.size rfl (.tmp 68) (.tmp 74) 47 4 (.bool false) 1 rfl Tryz.underlying47 info4 rfl (by decide) (by omega) v465 y464 (l0.take ((ji62) : Int).toNat) _ _ _ (fun _ => True) (fun _ => False) rfl rfl ?aO ?aR (fun _ _ h => h) (fun _ h => h.elim) ?aF ?aB ?aS ?aL ?_; (case aR => first | (refine Eq.mp (congrArg (fun z_ => ReadsRow _ _ _ _ z_ _) (show (l0.take ((ji62) : Int).toNat).length = (ji62).toNat from (by rw [List.length_take]; have h_ : ((ji62) : Int) ≤ (l0.length : Int) := xi; omega))) ?_; exact Kd.C_below HR467.out xb) | (exact Kd.C_below HR467.out xb)); (case aB => exact xb); (case aF => exact (fun _ _ => trivial)); (case aO => exact (xo HO466.out)); (case aS => exact (below_size xb)); (case aL => have := LMc65.out; have hlx_ := (show (l0.take ((ji62) : Int).toNat).length = (ji62).toNat from (by rw [List.length_take]; have h_ : ((ji62) : Int) ≤ (l0.length : Int) := xi; omega)); omega); intro v469 w71 ho hb hg hat; rw [← Ny468.out] at ho; replace BK447 := xy (blk_grown (g := gb447) (o := .cells #[.int .i64 a1_0, .int .i64 a1_1, .string a1_2] 44 (0, 0)) (xk BK447.out) hg (Kd.R_ne HO466.out BK447.out (by decide))); replace HB := xy (hb); have HO470 := xy (ho); clear HO466; clear ho hb hg hat) | ((with_reducible refine gate_builtin (b := .append) (xs := #[.tmp 76, .tmp 78]) rfl ?_); (try (refine gate_guard (by rfl) ?_; dsimp only)); at_builtin; refine Kd.R_append Kd.bool (w0 := w) w.heap.size rfl (.tmp 76) (.tmp 78) 47 4 (.bool false) 1 rfl Tryz.underlying47 info4 rfl (by decide) (by omega) v469 y468 x9_25 [.bool x9_25] (fun _ => True) (fun _ => False) rfl rfl ?aP (fun _ hk => hk.elim) ?aF ?aO ?aB ?aS ?aL ?_; (case aP => exact rfl); (case aB => exact xb); (case aF => exact (fun _ _ => trivial)); (case aO => exact (xo HO470.out)); (case aS => exact (below_size xb)); (case aL => have := LMc66.out; omega); intro v472 w72 ho hb hg hat; rw [← Ny471.out] at ho; replace BK447 := xy (blk_grown (g := gb447) (o := .cells #[.int .i64 a1_0, .int .i64 a1_1, .string a1_2] 44 (0, 0)) (xk BK447.out) hg (Kd.R_ne HO470.out BK447.out (by decide))); replace HB := xy (hb); have HO473 := xy (ho); clear HO470; clear ho hb hg hat; obtain ⟨Ao73, co73, eo73⟩ := Kd.R_slice HO473.out; subst eo73))
               repeat (go_quiet (fail); try go_wp2_with (fail))
               go_ret2
               exact ⟨_, by first | rfl | (simp [errW_none, errW_some] <;> rfl) | (simp only [← hji62]; first | rfl | (simp [errW_none, errW_some] <;> rfl)) | (simp [*, errW_none, errW_some] <;> rfl), by first | exact Kd.R_nil _ _ _ _ _ | exact Kd.N_nil _ _ _ _ _ | exact Kd.V_nil _ _ _ _ _ | exact Kd.Q_nil _ _ _ _ _ | exact Kd.S_nil _ _ _ _ _, xb⟩
              ·rw [if_neg c67] at H
               have c67b0 : decide (30 < (y471.length : Int)) = false := decide_eq_false c67
               have c67b1 : decide (30 < y471.length) = false := decide_eq_false (by omega)
               clear c67
               simp only [Option.some.injEq, Prod.mk.injEq] at H
               obtain ⟨rfl, rfl⟩ := H
               go_wp2_with (first | ((with_reducible refine gate_dst (N := 68) rfl ?_); (try (refine gate_guard (by rfl) ?_; dsimp only)); refine Kd.R_lit Kd.bool _ 4 ?hg (N := 68) ?hd (xs := ([] : List Bool)) (inner := []) (ok := fun _ => True) (okp := fun _ => True) ?hr ?hp (fun _ hk => hk) trivial (Below.refl _ _) (Nat.le_refl _) (by simp) ?_; (case hd => rfl); (case hg => rfl); (case hr => exact xh); (case hp => exact (Reps.none _ _)); intro v465 w74 ho75 hb hg_ hnew_; clear hg_ hnew_; (first | rw [← Ny464.out] at ho75 | (simp only [Int.reduceToNat] at ho75; rw [← Ny464.out] at ho75)); have HO466 := xy (Kd.R_lower ho75 (below_size xb)); replace BK447 := xd BK447.out hb; replace HB := xy (below_step xb hb); clear hb ho75; obtain ⟨i076, hi076, _, hsz76, _⟩ := info_parts info4; obtain ⟨hcut76, hA76, hC76⟩ := print_take_of (P := Tryz.prog) Value.bool false 47 4 .i64 Tryz.underlying47 hi076 hsz76 A0 c0 l0 (ji62) xi xi HC0.out; have HR467 := xy (Kd.C_of_reads (h1 := fun _ => rfl) (hA76 _ (Kd.reads_of_C HR0.out))); have HC467 := xy hC76; clear hA76 hC76 hi076 hsz76) | ((with_reducible refine gate_builtin (b := .append) (xs := #[.tmp 68, .tmp 74]) rfl ?_); (try (refine gate_guard (by rfl) ?_; dsimp only)); at_builtin; refine Kd.R_append_rows Kd.bool (w0 := w) w.heap.size rfl (.tmp 68) (.tmp 74) 47 4 (.bool false) 1 rfl Tryz.underlying47 info4 rfl (by decide) (by omega) v465 y464 (l0.take ((ji62) : Int).toNat) _ _ _ (fun _ => True) (fun _ => False) rfl rfl ?aO ?aR (fun _ _ h => h) (fun _ h => h.elim) ?aF ?aB ?aS ?aL ?_; (case aR => first | (refine Eq.mp (congrArg (fun z_ => ReadsRow _ _ _ _ z_ _) (show (l0.take ((ji62) : Int).toNat).length = (ji62).toNat from (by rw [List.length_take]; have h_ : ((ji62) : Int) ≤ (l0.length : Int) := xi; omega))) ?_; exact Kd.C_below HR467.out xb) | (exact Kd.C_below HR467.out xb)); (case aB => exact xb); (case aF => exact (fun _ _ => trivial)); (case aO => exact (xo HO466.out)); (case aS => exact (below_size xb)); (case aL => have := LMc65.out; have hlx_ := (show (l0.take ((ji62) : Int).toNat).length = (ji62).toNat from (by rw [List.length_take]; have h_ : ((ji62) : Int) ≤ (l0.length : Int) := xi; omega)); omega); intro v469 w77 ho hb hg hat; rw [← Ny468.out] at ho; replace BK447 := xy (blk_grown (g := gb447) (o := .cells #[.int .i64 a1_0, .int .i64 a1_1, .string a1_2] 44 (0, 0)) (xk BK447.out) hg (Kd.R_ne HO466.out BK447.out (by decide))); replace HB := xy (hb); have HO470 := xy (ho); clear HO466; clear ho hb hg hat) | ((with_reducible refine gate_builtin (b := .append) (xs := #[.tmp 76, .tmp 78]) rfl ?_); (try (refine gate_guard (by rfl) ?_; dsimp only)); at_builtin; refine Kd.R_append Kd.bool (w0 := w) w.heap.size rfl (.tmp 76) (.tmp 78) 47 4 (.bool false) 1 rfl Tryz.underlying47 info4 rfl (by decide) (by omega) v469 y468 x9_25 [.bool x9_25] (fun _ => True) (fun _ => False) rfl rfl ?aP (fun _ hk => hk.elim) ?aF ?aO ?aB ?aS ?aL ?_; (case aP => exact rfl); (case aB => exact xb); (case aF => exact (fun _ _ => trivial)); (case aO => exact (xo HO470.out)); (case aS => exact (below_size xb)); (case aL => have := LMc66.out; omega); intro v472 w78 ho hb hg hat; rw [← Ny471.out] at ho; replace BK447 := xy (blk_grown (g := gb447) (o := .cells #[.int .i64 a1_0, .int .i64 a1_1, .string a1_2] 44 (0, 0)) (xk BK447.out) hg (Kd.R_ne HO470.out BK447.out (by decide))); replace HB := xy (hb); have HO473 := xy (ho); clear HO470; clear ho hb hg hat; obtain ⟨Ao79, co79, eo79⟩ := Kd.R_slice HO473.out; subst eo79))
               repeat (go_quiet (fail); try go_wp2_with (fail))
               go_ret2
               exact ⟨_, by first | rfl | (simp [errW_none, errW_some] <;> rfl) | (simp only [← hji62]; first | rfl | (simp [errW_none, errW_some] <;> rfl)) | (simp [*, errW_none, errW_some] <;> rfl), by (with_reducible repeat (first | apply Kd.R_alloc | apply Kd.R_drewN | apply Kd.R_drew)); exact HO473.out, xb⟩
             ·rw [if_neg c66] at H
              exact absurd H (by simp)
            ·rw [if_neg c65] at H
             exact absurd H (by simp)
           ·rw [if_neg c64] at H
            exact absurd H (by simp)
          ·rw [if_neg c63] at H
           exact absurd H (by simp)
end Go.Proofs.YtnodgcakmolleaaGreatDoor.PX
