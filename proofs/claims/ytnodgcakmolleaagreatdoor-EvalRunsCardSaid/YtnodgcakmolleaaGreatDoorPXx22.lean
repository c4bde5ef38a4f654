/- Walked functions, by this session's program over the kit's print. -/
import Derived.Test.YtnodgcakmolleaaGreatDoorXEvalRef
import Derived.Test.YtnodgcakmolleaaGreatDoorXEvalFns
import Derived.Test.YtnodgcakmolleaaGreatDoorPXx0
import Derived.Test.YtnodgcakmolleaaGreatDoorPXx3
import Derived.Test.YtnodgcakmolleaaGreatDoorPXx11
import Derived.Test.YtnodgcakmolleaaGreatDoorPXx15
import Derived.Test.YtnodgcakmolleaaGreatDoorPXx21
import Derived.Test.YtnodgcakmolleaaGreatDoorPXx1
import Derived.Test.YtnodgcakmolleaaGreatDoorPXx9
namespace Go.Proofs.YtnodgcakmolleaaGreatDoor.PX
open Go.RowKit Go.Proofs.YtnodgcakmolleaaGreatDoorW.PrintWords Go.Proofs.YtnodgcakmolleaaGreatDoorW.PrintLast Go.Proofs.YtnodgcakmolleaaGreatDoorW.PrintMore
attribute [local go_sem] xm_gtr max2_int min2_int max_two min_two max_three min_three max_four min_four
set_option linter.unusedVariables false
set_option linter.unusedSimpArgs false
/- Walked functions, by this session's program over the kit's print. -/
def r16_run.TX (x : ByteArray) : Option XEval.Sv := (r13_Text.f x).map fun p => ⟨p.1, p.2.1, p.2.2⟩
def r16_run.DO (k : Nat) (o : Int) (l : List XEval.Sv) : Option (XEval.Sv × Int) := (r13_Do.f k o l).map fun p => (⟨p.1, p.2.1, p.2.2.1⟩, p.2.2.2)
theorem r16_run.DO_mono (k : Nat) : ∀ o l y, r16_run.DO k o l = some y → r16_run.DO (k + 1) o l = some y := fun o l y h => by
 obtain ⟨p, h1, h2⟩ := Option.map_eq_some_iff.1 h
 exact Option.map_eq_some_iff.2 ⟨p, r13_Do.mono _ _ _ _ h1, h2⟩
def r16_run.ops (k : Nat) (o : Int) : Prop := r13_Arity.f k o = some (XOps.arityF o)
theorem r16_run.env (k : Nat) : XEval.EnvR Tabs r16_run.TX (r16_run.DO k) (r16_run.ops k) where
 tb := fun w w' h hb => h.below hb
 ar := fun o w hT h => by
  refine (r13_Arity.calls k o _ w hT h).mono fun e w' he => ⟨he.1, ?_⟩
  first | exact he.2 | exact he.2.below
 num := fun n w hT => r13_Num.calls n _ _ _ w hT rfl
 text := fun x y w hT h => by
  obtain ⟨⟨p1, p2, p3⟩, h1, rfl⟩ := Option.map_eq_some_iff.1 h
  exact r13_Text.calls x _ _ _ w hT h1
 do_ := fun o l y er A c w hT hr hc h => by
  obtain ⟨⟨p1, p2, p3, p4⟩, h1, h2⟩ := Option.map_eq_some_iff.1 h
  simp only [Prod.mk.injEq] at h2
  obtain ⟨rfl, rfl⟩ := h2
  exact r13_Do.calls k o A c l _ _ _ _ w hT hr hc h1
def r16_run.good (k : Nat) (x : XCheck.Ins) : Bool := decide (x.f0 ≤ 23) && (r13_Arity.f k x.f0 == some (XOps.arityF x.f0))
def r16_run.f (k : Nat) (l0 : List (S44)) (l1 : List ByteArray) (l2 : List (S32)) (a3 : Int) : Option ((List (S32)) × Int × Bool) :=
 if l0.all (r16_run.good k) = true ∧ l0.length ≤ 10000 ∧ a3 ≤ 9223372036854775807 then (XEval.runE r16_run.TX (r16_run.DO k) l1 l2 l0 [] a3).map fun q => if q.2.2 = 0 then (q.1, q.2.1, true) else ([], 0, false) else none
theorem r16_run.mono : ∀ a0 a1 a2 a3 k, LeO (r16_run.f k a0 a1 a2 a3) (r16_run.f (k + 1) a0 a1 a2 a3) := by
 intro a0 a1 a2 a3 k r h
 unfold r16_run.f at h ⊢
 by_cases c : a0.all (r16_run.good k) = true ∧ a0.length ≤ 10000 ∧ a3 ≤ 9223372036854775807
 ·have c' : a0.all (r16_run.good (k + 1)) = true ∧ a0.length ≤ 10000 ∧ a3 ≤ 9223372036854775807 := by
   refine ⟨List.all_eq_true.2 fun x hx => ?_, c.2⟩
   have := List.all_eq_true.1 c.1 x hx
   unfold r16_run.good at this ⊢
   simp only [Bool.and_eq_true, beq_iff_eq] at this ⊢
   exact ⟨this.1, r13_Arity.mono _ _ _ this.2⟩
  rw [if_pos c] at h
  rw [if_pos c']
  obtain ⟨q, hq, h⟩ := Option.map_eq_some_iff.1 h
  exact Option.map_eq_some_iff.2 ⟨q, XEval.runE_mono (r16_run.DO_mono k) _ _ _ hq, h⟩
 ·rw [if_neg c] at h; cases h
theorem r16_run.calls (k : Nat) (A0 : Option Addr) (c0 : Nat) (l0 : List (S44)) (A1 : Option Addr) (c1 : Nat) (l1 : List ByteArray) (A2 : Option Addr) (c2 : Nat) (l2 : List (S32)) (a3 : Int) (r1 : List (S32)) (r2 : Int) (r3 : Bool) (w : World) (hT : Tabs w) (hr0 : Kd.C k44 w A0 l0.length l0) (hc0 : l0.length ≤ c0) (hr1 : Kd.C Kd.string w A1 l1.length l1) (hc1 : l1.length ≤ c1) (hr2 : Kd.C k32 w A2 l2.length l2) (hc2 : l2.length ≤ c2) (h : r16_run.f k l0 l1 l2 a3 = some (r1, r2, r3)) :
  Calls Tryz.prog 20 #[.slice A0 l0.length c0, .slice A1 l1.length c1, .slice A2 l2.length c2, .int .i64 a3] w fun e w' => ∃ v0_ : Value, e = .returned (.tuple #[v0_, .int .i64 r2, .bool r3]) ∧ Kd.R k32 32 w' w.heap.size (fun _ => True) v0_ r1 ∧ Below w.heap.size w w' := by
 unfold r16_run.f at h
 by_cases c : l0.all (r16_run.good k) = true ∧ l0.length ≤ 10000 ∧ a3 ≤ 9223372036854775807
 ·rw [if_pos c] at h
  obtain ⟨⟨s', u', er⟩, hq, h⟩ := Option.map_eq_some_iff.1 h
  have hops : ∀ x ∈ l0, r16_run.ops k x.f0 ∧ x.f0 ≤ 23 := fun x hx => by
   have := List.all_eq_true.1 c.1 x hx
   unfold r16_run.good at this
   simp only [Bool.and_eq_true, beq_iff_eq, decide_eq_true_eq] at this
   exact ⟨this.2, this.1⟩
  have := XEval.rrun_calls (r16_run.env k) (rc := c1) (cf := c2) hr1 hr2 hT A0 c0 l0 hr0 hops c.2.1 c.2.2 hq
  dsimp only at h
  by_cases c3 : er = 0
  ·rw [if_pos c3] at h
   have e1 : (er == 0) = true := by simp [c3]
   rw [if_pos c3, if_pos c3, e1] at this
   simp only [Prod.mk.injEq] at h
   obtain ⟨rfl, rfl, rfl⟩ := h
   exact this
  ·rw [if_neg c3] at h
   have e1 : (er == 0) = false := by simp [c3]
   rw [if_neg c3, if_neg c3, e1] at this
   simp only [Prod.mk.injEq] at h
   obtain ⟨rfl, rfl, rfl⟩ := h
   exact this
 ·rw [if_neg c] at h; cases h
def r16_Run.f (k : Nat) (l0 : List (S44)) (l1 : List ByteArray) (a2 : Int) : Option ((List (S32)) × Int × Int) := (r15_Stack.f k l0 ([] : List Bool)).bind fun bt467 => (if bt467.2.2 = 0 then ((r16_run.f k l0 l1 ([] : List (S32)) a2).bind fun bt472 => (if bt472.2.2 = true then (some (bt472.1, bt472.2.1, 0)) else (some (([] : List (S32)), 0, 12)))) else (some (([] : List (S32)), a2, bt467.2.2)))
theorem r16_Run.mono : ∀ a0 a1 a2 k, LeO (r16_Run.f k a0 a1 a2) (r16_Run.f (k + 1) a0 a1 a2) := by
 intro a0 a1 a2 k
 unfold r16_Run.f
 repeat' (with_reducible first | exact r15_Stack.mono _ _ _ | exact r16_run.mono _ _ _ _ _ | exact LeO.refl _ | exact LeO.none _ | refine LeO.ite ?_ ?_ | refine LeO.bind ?_ (fun _ => ?_))
set_option maxHeartbeats 8000000 in
set_option maxRecDepth 100000 in
theorem r16_Run.calls (k : Nat) (A0 : Option Addr) (c0 : Nat) (l0 : List (S44)) (A1 : Option Addr) (c1 : Nat) (l1 : List ByteArray) (a2 : Int) (r1 : List (S32)) (r2 : Int) (r3 : Int) (w : World) (hT : Tabs w) (hr0 : Kd.C k44 w A0 l0.length l0) (hc0 : l0.length ≤ c0) (hr1 : Kd.C Kd.string w A1 l1.length l1) (hc1 : l1.length ≤ c1) (h : r16_Run.f k l0 l1 a2 = some (r1, r2, r3)) :
  Calls Tryz.prog 8 #[.slice A0 l0.length c0, .slice A1 l1.length c1, .int .i64 a2] w fun e w' => ∃ v0_ : Value, e = .returned (.tuple #[v0_, .int .i64 r2, .int .i64 r3]) ∧ Kd.R k32 32 w' w.heap.size (fun _ => True) v0_ r1 ∧ Below w.heap.size w w' := by
 have HR0 := xy hr0
 have HC0 := xy hc0
 clear hr0 hc0
 have HR1 := xy hr1
 have HC1 := xy hc1
 clear hr1 hc1
 have HB := xy (Below.refl w.heap.size w)
 unfold r16_Run.f at h
 have H := h
 clear h
 replace H := xj H
 obtain ⟨⟨t467, t468, t469⟩, A40, H⟩ := H
 replace H : (if t469 = 0 then ((r16_run.f k l0 l1 ([] : List (S32)) a2).bind fun bt472 => (if bt472.2.2 = true then (some (bt472.1, bt472.2.1, 0)) else (some (([] : List (S32)), 0, 12)))) else (some (([] : List (S32)), a2, t469))) = some (r1, r2, r3) := H
 have A4 := xy A40
 clear A40
 by_cases c5 : t469 = 0
 ·rw [if_pos c5] at H
  have c5b0 : (t469 == 0) = true := beq_iff_eq.mpr c5
  have c5b1 : (t469 != 0) = false := bne_eq_false_iff_eq.mpr c5
  clear c5
  replace H := xj H
  obtain ⟨⟨t472, t473, t474⟩, A60, H⟩ := H
  replace H : (if t474 = true then (some (t472, t473, 0)) else (some (([] : List (S32)), 0, 12))) = some (r1, r2, r3) := H
  have A6 := xy A60
  clear A60
  by_cases c7 : t474 = true
  ·subst c7
   rw [if_pos rfl] at H
   simp only [Option.some.injEq, Prod.mk.injEq] at H
   obtain ⟨rfl, rfl, rfl⟩ := H
   go_enter Tryz.func8, Tryz.ntmps8
   go_wp2_with (first | ((with_reducible refine gate_callee (f := 19) rfl ?_); refine goesL_ (some 17) rfl rfl Tryz.func19 (by kernel_rfl) rfl #[.slice A0 l0.length c0, .slice none 0 0] rfl xr ?_; (refine (r15_Stack.calls k _ _ l0 _ _ ([] : List Bool) t467 t468 t469 _ (Tabs.below hT xf) ?side1 ?side2 ?side3 ?side4 A4.out).mono ?_); (case side1 => repeat (first | exact HR0.out | (with_reducible refine Kd.C_alloc ?_ _) | (with_reducible refine Kd.C_drewN ?_ _) | (with_reducible refine Kd.C_drew ?_))); (case side2 => exact HC0.out); (case side3 => exact Kd.C_nil _ _); (case side4 => exact Nat.le_refl _); rintro e w8 ⟨v470, rfl, ho0, hb⟩; refine ⟨_, rfl, ?_⟩; have HO471 := xy (Kd.R_lower ho0 (below_size xb)); replace HB := xy (below_step xb hb); (try clear hb); (try clear hb2); (try clear hk); (try clear hi); (try clear ho0)) | ((with_reducible refine gate_callee (f := 20) rfl ?_); refine goesL_ (some 29) rfl rfl Tryz.func20 (by kernel_rfl) rfl #[.slice A0 l0.length c0, .slice A1 l1.length c1, .slice none 0 0, .int .i64 a2] rfl xr ?_; (refine (r16_run.calls k _ _ l0 _ _ l1 _ _ ([] : List (S32)) a2 t472 t473 true _ (Tabs.below hT xf) ?side1 ?side2 ?side3 ?side4 ?side5 ?side6 A6.out).mono ?_); (case side1 => exact Kd.C_below HR0.out xb); (case side2 => exact HC0.out); (case side3 => exact Kd.C_below HR1.out xb); (case side4 => exact HC1.out); (case side5 => exact Kd.C_nil _ _); (case side6 => exact Nat.le_refl _); rintro e w9 ⟨v475, rfl, ho0, hb⟩; refine ⟨_, rfl, ?_⟩; replace HO471 := xy (Kd.R_below (xo HO471.out) hb); have HO476 := xy (Kd.R_lower ho0 (below_size xb)); replace HB := xy (below_step xb hb); (try clear hb); (try clear hb2); (try clear hk); (try clear hi); (try clear ho0)))
   go_ret3
   exact ⟨_, by first | rfl | (simp [errW_none, errW_some] <;> rfl) | (simp [*, errW_none, errW_some] <;> rfl), by (with_reducible repeat (first | apply Kd.R_alloc | apply Kd.R_drewN | apply Kd.R_drew)); exact HO476.out, xb⟩
  ·replace c7 := Bool.eq_false_iff.mpr c7
   subst c7
   rw [if_neg (show ¬ (false = true) by decide)] at H
   simp only [Option.some.injEq, Prod.mk.injEq] at H
   obtain ⟨rfl, rfl, rfl⟩ := H
   go_enter Tryz.func8, Tryz.ntmps8
   go_wp2_with (first | ((with_reducible refine gate_callee (f := 19) rfl ?_); refine goesL_ (some 17) rfl rfl Tryz.func19 (by kernel_rfl) rfl #[.slice A0 l0.length c0, .slice none 0 0] rfl xr ?_; (refine (r15_Stack.calls k _ _ l0 _ _ ([] : List Bool) t467 t468 t469 _ (Tabs.below hT xf) ?side1 ?side2 ?side3 ?side4 A4.out).mono ?_); (case side1 => repeat (first | exact HR0.out | (with_reducible refine Kd.C_alloc ?_ _) | (with_reducible refine Kd.C_drewN ?_ _) | (with_reducible refine Kd.C_drew ?_))); (case side2 => exact HC0.out); (case side3 => exact Kd.C_nil _ _); (case side4 => exact Nat.le_refl _); rintro e w10 ⟨v470, rfl, ho0, hb⟩; refine ⟨_, rfl, ?_⟩; have HO471 := xy (Kd.R_lower ho0 (below_size xb)); replace HB := xy (below_step xb hb); (try clear hb); (try clear hb2); (try clear hk); (try clear hi); (try clear ho0)) | ((with_reducible refine gate_callee (f := 20) rfl ?_); refine goesL_ (some 29) rfl rfl Tryz.func20 (by kernel_rfl) rfl #[.slice A0 l0.length c0, .slice A1 l1.length c1, .slice none 0 0, .int .i64 a2] rfl xr ?_; (refine (r16_run.calls k _ _ l0 _ _ l1 _ _ ([] : List (S32)) a2 t472 t473 false _ (Tabs.below hT xf) ?side1 ?side2 ?side3 ?side4 ?side5 ?side6 A6.out).mono ?_); (case side1 => exact Kd.C_below HR0.out xb); (case side2 => exact HC0.out); (case side3 => exact Kd.C_below HR1.out xb); (case side4 => exact HC1.out); (case side5 => exact Kd.C_nil _ _); (case side6 => exact Nat.le_refl _); rintro e w11 ⟨v475, rfl, ho0, hb⟩; refine ⟨_, rfl, ?_⟩; replace HO471 := xy (Kd.R_below (xo HO471.out) hb); have HO476 := xy (Kd.R_lower ho0 (below_size xb)); replace HB := xy (below_step xb hb); (try clear hb); (try clear hb2); (try clear hk); (try clear hi); (try clear ho0)))
   go_ret3
   exact ⟨_, by first | rfl | (simp [errW_none, errW_some] <;> rfl) | (simp [*, errW_none, errW_some] <;> rfl), by first | exact Kd.R_nil _ _ _ _ _ | exact Kd.N_nil _ _ _ _ _ | exact Kd.V_nil _ _ _ _ _ | exact Kd.Q_nil _ _ _ _ _ | exact Kd.S_nil _ _ _ _ _, xb⟩
 ·rw [if_neg c5] at H
  have c5b0 : (t469 == 0) = false := beq_eq_false_iff_ne.mpr c5
  have c5b1 : (t469 != 0) = true := bne_iff_ne.mpr c5
  simp only [Option.some.injEq, Prod.mk.injEq] at H
  obtain ⟨rfl, rfl, rfl⟩ := H
  go_enter Tryz.func8, Tryz.ntmps8
  go_wp2_with (((with_reducible refine gate_callee (f := 19) rfl ?_); refine goesL_ (some 17) rfl rfl Tryz.func19 (by kernel_rfl) rfl #[.slice A0 l0.length c0, .slice none 0 0] rfl xr ?_; (refine (r15_Stack.calls k _ _ l0 _ _ ([] : List Bool) t467 t468 t469 _ (Tabs.below hT xf) ?side1 ?side2 ?side3 ?side4 A4.out).mono ?_); (case side1 => repeat (first | exact HR0.out | (with_reducible refine Kd.C_alloc ?_ _) | (with_reducible refine Kd.C_drewN ?_ _) | (with_reducible refine Kd.C_drew ?_))); (case side2 => exact HC0.out); (case side3 => exact Kd.C_nil _ _); (case side4 => exact Nat.le_refl _); rintro e w12 ⟨v470, rfl, ho0, hb⟩; refine ⟨_, rfl, ?_⟩; have HO471 := xy (Kd.R_lower ho0 (below_size xb)); replace HB := xy (below_step xb hb); (try clear hb); (try clear hb2); (try clear hk); (try clear hi); (try clear ho0)))
  go_ret3
  exact ⟨_, by first | rfl | (simp [errW_none, errW_some] <;> rfl) | (simp [*, errW_none, errW_some] <;> rfl), by first | exact Kd.R_nil _ _ _ _ _ | exact Kd.N_nil _ _ _ _ _ | exact Kd.V_nil _ _ _ _ _ | exact Kd.Q_nil _ _ _ _ _ | exact Kd.S_nil _ _ _ _ _, xb⟩
def r16_One.f (k : Nat) (l0 : List (S44)) (l1 : List ByteArray) (a2 : Int) : Option (Bool × Int × ByteArray × Int × Int) := (r15_Stack.f k l0 ([] : List Bool)).bind fun bt478 => (if bt478.2.2 = 0 then (if (bt478.1.length : Int) = 1 then ((r16_run.f k l0 l1 ([] : List (S32)) a2).bind fun bt483 => (if bt483.2.2 = true then (if 0 < (bt483.1.length : Int) then (some ((rd_T32 bt483.1 0).f0, (rd_T32 bt483.1 0).f1, (rd_T32 bt483.1 0).f2, bt483.2.1, 0)) else (none)) else (some (false, 0, (⟨#[]⟩ : ByteArray), 0, 12)))) else (some (false, 0, (⟨#[]⟩ : ByteArray), a2, 11))) else (some (false, 0, (⟨#[]⟩ : ByteArray), a2, bt478.2.2)))
theorem r16_One.mono : ∀ a0 a1 a2 k, LeO (r16_One.f k a0 a1 a2) (r16_One.f (k + 1) a0 a1 a2) := by
 intro a0 a1 a2 k
 unfold r16_One.f
 repeat' (with_reducible first | exact r15_Stack.mono _ _ _ | exact r16_run.mono _ _ _ _ _ | exact LeO.refl _ | exact LeO.none _ | refine LeO.ite ?_ ?_ | refine LeO.bind ?_ (fun _ => ?_))
set_option maxHeartbeats 8000000 in
set_option maxRecDepth 100000 in
theorem r16_One.calls (k : Nat) (A0 : Option Addr) (c0 : Nat) (l0 : List (S44)) (A1 : Option Addr) (c1 : Nat) (l1 : List ByteArray) (a2 : Int) (r1 : Bool) (r2 : Int) (r3 : ByteArray) (r4 : Int) (r5 : Int) (w : World) (hT : Tabs w) (hr0 : Kd.C k44 w A0 l0.length l0) (hc0 : l0.length ≤ c0) (hr1 : Kd.C Kd.string w A1 l1.length l1) (hc1 : l1.length ≤ c1) (h : r16_One.f k l0 l1 a2 = some (r1, r2, r3, r4, r5)) :
  Calls Tryz.prog 10 #[.slice A0 l0.length c0, .slice A1 l1.length c1, .int .i64 a2] w fun e w' => e = .returned (.tuple #[.agg #[.bool r1, .int .i64 r2, .string r3], .int .i64 r4, .int .i64 r5]) ∧ Below w.heap.size w w' := by
 have hu32 := Tryz.underlying32
 have HR0 := xy hr0
 have HC0 := xy hc0
 clear hr0 hc0
 have HR1 := xy hr1
 have HC1 := xy hc1
 clear hr1 hc1
 have HB := xy (Below.refl w.heap.size w)
 unfold r16_One.f at h
 have H := h
 clear h
 replace H := xj H
 obtain ⟨⟨t478, t479, t480⟩, A40, H⟩ := H
 replace H : (if t480 = 0 then (if (t478.length : Int) = 1 then ((r16_run.f k l0 l1 ([] : List (S32)) a2).bind fun bt483 => (if bt483.2.2 = true then (if 0 < (bt483.1.length : Int) then (some ((rd_T32 bt483.1 0).f0, (rd_T32 bt483.1 0).f1, (rd_T32 bt483.1 0).f2, bt483.2.1, 0)) else (none)) else (some (false, 0, (⟨#[]⟩ : ByteArray), 0, 12)))) else (some (false, 0, (⟨#[]⟩ : ByteArray), a2, 11))) else (some (false, 0, (⟨#[]⟩ : ByteArray), a2, t480))) = some (r1, r2, r3, r4, r5) := H
 have A4 := xy A40
 clear A40
 by_cases c5 : t480 = 0
 ·rw [if_pos c5] at H
  have c5b0 : (t480 == 0) = true := beq_iff_eq.mpr c5
  have c5b1 : (t480 != 0) = false := bne_eq_false_iff_eq.mpr c5
  clear c5
  by_cases c6 : (t478.length : Int) = 1
  ·rw [if_pos c6] at H
   have c6b0 : ((t478.length : Int) == 1) = true := beq_iff_eq.mpr c6
   have c6b1 : ((t478.length : Int) != 1) = false := bne_eq_false_iff_eq.mpr c6
   clear c6
   replace H := xj H
   obtain ⟨⟨t483, t484, t485⟩, A70, H⟩ := H
   replace H : (if t485 = true then (if 0 < (t483.length : Int) then (some ((rd_T32 t483 0).f0, (rd_T32 t483 0).f1, (rd_T32 t483 0).f2, t484, 0)) else (none)) else (some (false, 0, (⟨#[]⟩ : ByteArray), 0, 12))) = some (r1, r2, r3, r4, r5) := H
   have A7 := xy A70
   clear A70
   by_cases c8 : t485 = true
   ·subst c8
    rw [if_pos rfl] at H
    by_cases c9 : 0 < (t483.length : Int)
    ·rw [if_pos c9] at H
     have c9b0 : decide (0 < (t483.length : Int)) = true := decide_eq_true c9
     have c9b1 : decide (0 < t483.length) = true := decide_eq_true (by omega)
     clear c9
     simp only [Option.some.injEq, Prod.mk.injEq] at H
     obtain ⟨rfl, rfl, rfl, rfl, rfl⟩ := H
     go_enter Tryz.func10, Tryz.ntmps10
     go_wp2_with (first | ((with_reducible refine gate_dst (N := 6) rfl ?_); refine xq (N := 6) (cs := #[.bool false, .int .i64 0, .string (⟨#[]⟩ : ByteArray)]) (t := 32) ?_; intro gb477 hg w10 hbox hb; have BK477 := xy (hbox); have GW477 := xs w hg; have GE477 := xs w hg; replace HB := xy (below_step xb hb); clear hb hbox hg) | ((with_reducible refine gate_callee (f := 19) rfl ?_); refine goesL_ (some 17) rfl rfl Tryz.func19 (by kernel_rfl) rfl #[.slice A0 l0.length c0, .slice none 0 0] rfl xr ?_; (refine (r15_Stack.calls k _ _ l0 _ _ ([] : List Bool) t478 t479 t480 _ (Tabs.below hT xf) ?side1 ?side2 ?side3 ?side4 A4.out).mono ?_); (case side1 => exact Kd.C_below HR0.out xb); (case side2 => exact HC0.out); (case side3 => exact Kd.C_nil _ _); (case side4 => exact Nat.le_refl _); rintro e w11 ⟨v481, rfl, ho0, hb⟩; refine ⟨_, rfl, ?_⟩; have HO482 := xy (Kd.R_lower ho0 (below_size xb)); replace BK477 := xd BK477.out hb; replace HB := xy (below_step xb hb); (try clear hb); (try clear hb2); (try clear hk); (try clear hi); (try clear ho0); obtain ⟨Ao12, co12, eo12⟩ := Kd.R_slice HO482.out; subst eo12) | ((with_reducible refine gate_callee (f := 20) rfl ?_); refine goesL_ (some 35) rfl rfl Tryz.func20 (by kernel_rfl) rfl #[.slice A0 l0.length c0, .slice A1 l1.length c1, .slice none 0 0, .int .i64 a2] rfl xr ?_; (refine (r16_run.calls k _ _ l0 _ _ l1 _ _ ([] : List (S32)) a2 t483 t484 true _ (Tabs.below hT xf) ?side1 ?side2 ?side3 ?side4 ?side5 ?side6 A7.out).mono ?_); (case side1 => exact Kd.C_below HR0.out xb); (case side2 => exact HC0.out); (case side3 => exact Kd.C_below HR1.out xb); (case side4 => exact HC1.out); (case side5 => exact Kd.C_nil _ _); (case side6 => exact Nat.le_refl _); rintro e w13 ⟨v486, rfl, ho0, hb⟩; refine ⟨_, rfl, ?_⟩; replace HO482 := xy (Kd.R_below (xo HO482.out) hb); have HO487 := xy (Kd.R_lower (Kd.R_newB ho0 (g := gb477) (o := .cells #[.bool false, .int .i64 0, .string (⟨#[]⟩ : ByteArray)] 32 (0, 0)) (xk BK477.out)) (below_size xb)); replace BK477 := xd BK477.out hb; replace HB := xy (below_step xb hb); (try clear hb); (try clear hb2); (try clear hk); (try clear hi); (try clear ho0); obtain ⟨Ao14, co14, eo14⟩ := Kd.R_slice HO487.out; subst eo14; have p488 : 0 ≤ (0 : Int) := (by omega); have q488 : 0 < (t483.length : Int) := xi; obtain ⟨ad488, e488, hx488_0, hx488_1, hx488_2⟩ := at_T32 (Kd.R_reads' HO487.out).2.2 0 p488 q488; cases e488; have qi488 : (0 < t483.length) = True := eq_true (by omega); (try rw [show ((0 : Int)).toNat = 0 from rfl] at hx488_0); (try rw [show 0 * 3 = 0 from rfl] at hx488_0); (try rw [Addr.add_zero'] at hx488_0); (try rw [show ((0 : Int)).toNat = 0 from rfl] at hx488_1); (try rw [show 0 * 3 = 0 from rfl] at hx488_1); (try rw [Addr.add_zero'] at hx488_1); (try rw [show ((0 : Int)).toNat = 0 from rfl] at hx488_2); (try rw [show 0 * 3 = 0 from rfl] at hx488_2); (try rw [Addr.add_zero'] at hx488_2); replace p488 := eq_true p488; replace q488 := eq_true q488; have hcz15_0 : w13.cell? ⟨gb477, 0, none⟩ = some (.bool false) := (kc BK477.out 0).trans rfl; have hcz15_1 : w13.cell? ⟨gb477, 1, none⟩ = some (.int .i64 0) := (kc BK477.out 1).trans rfl; have hcz15_2 : w13.cell? ⟨gb477, 2, none⟩ = some (.string (⟨#[]⟩ : ByteArray)) := (kc BK477.out 2).trans rfl; have hfz15_0 := kf BK477.out 0; have hfz15_1 := kf BK477.out 1; have hfz15_2 := kf BK477.out 2))
     refine bodyPost_ret (results_ctt rfl _ _ gb477 32 #[.bool ((rd_T32 t483 0).f0), .int .i64 ((rd_T32 t483 0).f1), .string ((rd_T32 t483 0).f2)] (0, 0) _ rfl (kp BK477.out) Tryz.underlying32 rfl (by kernel_rfl)) rfl ?_
     exact ⟨xe, xb⟩
    ·rw [if_neg c9] at H
     exact absurd H (by simp)
   ·replace c8 := Bool.eq_false_iff.mpr c8
    subst c8
    rw [if_neg (show ¬ (false = true) by decide)] at H
    simp only [Option.some.injEq, Prod.mk.injEq] at H
    obtain ⟨rfl, rfl, rfl, rfl, rfl⟩ := H
    go_enter Tryz.func10, Tryz.ntmps10
    go_wp2_with (first | ((with_reducible refine gate_dst (N := 6) rfl ?_); refine xq (N := 6) (cs := #[.bool false, .int .i64 0, .string (⟨#[]⟩ : ByteArray)]) (t := 32) ?_; intro gb477 hg w16 hbox hb; have BK477 := xy (hbox); have GW477 := xs w hg; have GE477 := xs w hg; replace HB := xy (below_step xb hb); clear hb hbox hg) | ((with_reducible refine gate_callee (f := 19) rfl ?_); refine goesL_ (some 17) rfl rfl Tryz.func19 (by kernel_rfl) rfl #[.slice A0 l0.length c0, .slice none 0 0] rfl xr ?_; (refine (r15_Stack.calls k _ _ l0 _ _ ([] : List Bool) t478 t479 t480 _ (Tabs.below hT xf) ?side1 ?side2 ?side3 ?side4 A4.out).mono ?_); (case side1 => exact Kd.C_below HR0.out xb); (case side2 => exact HC0.out); (case side3 => exact Kd.C_nil _ _); (case side4 => exact Nat.le_refl _); rintro e w17 ⟨v481, rfl, ho0, hb⟩; refine ⟨_, rfl, ?_⟩; have HO482 := xy (Kd.R_lower ho0 (below_size xb)); replace BK477 := xd BK477.out hb; replace HB := xy (below_step xb hb); (try clear hb); (try clear hb2); (try clear hk); (try clear hi); (try clear ho0); obtain ⟨Ao18, co18, eo18⟩ := Kd.R_slice HO482.out; subst eo18) | ((with_reducible refine gate_callee (f := 20) rfl ?_); refine goesL_ (some 35) rfl rfl Tryz.func20 (by kernel_rfl) rfl #[.slice A0 l0.length c0, .slice A1 l1.length c1, .slice none 0 0, .int .i64 a2] rfl xr ?_; (refine (r16_run.calls k _ _ l0 _ _ l1 _ _ ([] : List (S32)) a2 t483 t484 false _ (Tabs.below hT xf) ?side1 ?side2 ?side3 ?side4 ?side5 ?side6 A7.out).mono ?_); (case side1 => exact Kd.C_below HR0.out xb); (case side2 => exact HC0.out); (case side3 => exact Kd.C_below HR1.out xb); (case side4 => exact HC1.out); (case side5 => exact Kd.C_nil _ _); (case side6 => exact Nat.le_refl _); rintro e w19 ⟨v486, rfl, ho0, hb⟩; refine ⟨_, rfl, ?_⟩; replace HO482 := xy (Kd.R_below (xo HO482.out) hb); have HO487 := xy (Kd.R_lower (Kd.R_newB ho0 (g := gb477) (o := .cells #[.bool false, .int .i64 0, .string (⟨#[]⟩ : ByteArray)] 32 (0, 0)) (xk BK477.out)) (below_size xb)); replace BK477 := xd BK477.out hb; replace HB := xy (below_step xb hb); (try clear hb); (try clear hb2); (try clear hk); (try clear hi); (try clear ho0); have hcz20_0 : w19.cell? ⟨gb477, 0, none⟩ = some (.bool false) := (kc BK477.out 0).trans rfl; have hcz20_1 : w19.cell? ⟨gb477, 1, none⟩ = some (.int .i64 0) := (kc BK477.out 1).trans rfl; have hcz20_2 : w19.cell? ⟨gb477, 2, none⟩ = some (.string (⟨#[]⟩ : ByteArray)) := (kc BK477.out 2).trans rfl; have hfz20_0 := kf BK477.out 0; have hfz20_1 := kf BK477.out 1; have hfz20_2 := kf BK477.out 2))
    refine bodyPost_ret (results_ctt rfl _ _ gb477 32 #[.bool false, .int .i64 0, .string (⟨#[]⟩ : ByteArray)] (0, 0) _ rfl (kp BK477.out) Tryz.underlying32 rfl (by kernel_rfl)) rfl ?_
    exact ⟨xe, xb⟩
  ·rw [if_neg c6] at H
   have c6b0 : ((t478.length : Int) == 1) = false := beq_eq_false_iff_ne.mpr c6
   have c6b1 : ((t478.length : Int) != 1) = true := bne_iff_ne.mpr c6
   simp only [Option.some.injEq, Prod.mk.injEq] at H
   obtain ⟨rfl, rfl, rfl, rfl, rfl⟩ := H
   go_enter Tryz.func10, Tryz.ntmps10
   go_wp2_with (first | ((with_reducible refine gate_dst (N := 6) rfl ?_); refine xq (N := 6) (cs := #[.bool false, .int .i64 0, .string (⟨#[]⟩ : ByteArray)]) (t := 32) ?_; intro gb477 hg w21 hbox hb; have BK477 := xy (hbox); have GW477 := xs w hg; have GE477 := xs w hg; replace HB := xy (below_step xb hb); clear hb hbox hg) | ((with_reducible refine gate_callee (f := 19) rfl ?_); refine goesL_ (some 17) rfl rfl Tryz.func19 (by kernel_rfl) rfl #[.slice A0 l0.length c0, .slice none 0 0] rfl xr ?_; (refine (r15_Stack.calls k _ _ l0 _ _ ([] : List Bool) t478 t479 t480 _ (Tabs.below hT xf) ?side1 ?side2 ?side3 ?side4 A4.out).mono ?_); (case side1 => exact Kd.C_below HR0.out xb); (case side2 => exact HC0.out); (case side3 => exact Kd.C_nil _ _); (case side4 => exact Nat.le_refl _); rintro e w22 ⟨v481, rfl, ho0, hb⟩; refine ⟨_, rfl, ?_⟩; have HO482 := xy (Kd.R_lower ho0 (below_size xb)); replace BK477 := xd BK477.out hb; replace HB := xy (below_step xb hb); (try clear hb); (try clear hb2); (try clear hk); (try clear hi); (try clear ho0); obtain ⟨Ao23, co23, eo23⟩ := Kd.R_slice HO482.out; subst eo23; have hcz24_0 : w22.cell? ⟨gb477, 0, none⟩ = some (.bool false) := (kc BK477.out 0).trans rfl; have hcz24_1 : w22.cell? ⟨gb477, 1, none⟩ = some (.int .i64 0) := (kc BK477.out 1).trans rfl; have hcz24_2 : w22.cell? ⟨gb477, 2, none⟩ = some (.string (⟨#[]⟩ : ByteArray)) := (kc BK477.out 2).trans rfl; have hfz24_0 := kf BK477.out 0; have hfz24_1 := kf BK477.out 1; have hfz24_2 := kf BK477.out 2))
   refine bodyPost_ret (results_ctt rfl _ _ gb477 32 #[.bool false, .int .i64 0, .string (⟨#[]⟩ : ByteArray)] (0, 0) _ rfl (kp BK477.out) Tryz.underlying32 rfl (by kernel_rfl)) rfl ?_
   exact ⟨xe, xb⟩
 ·rw [if_neg c5] at H
  have c5b0 : (t480 == 0) = false := beq_eq_false_iff_ne.mpr c5
  have c5b1 : (t480 != 0) = true := bne_iff_ne.mpr c5
  simp only [Option.some.injEq, Prod.mk.injEq] at H
  obtain ⟨rfl, rfl, rfl, rfl, rfl⟩ := H
  go_enter Tryz.func10, Tryz.ntmps10
  go_wp2_with (first | ((with_reducible refine gate_dst (N := 6) rfl ?_); refine xq (N := 6) (cs := #[.bool false, .int .i64 0, .string (⟨#[]⟩ : ByteArray)]) (t := 32) ?_; intro gb477 hg w25 hbox hb; have BK477 := xy (hbox); have GW477 := xs w hg; have GE477 := xs w hg; replace HB := xy (below_step xb hb); clear hb hbox hg) | ((with_reducible refine gate_callee (f := 19) rfl ?_); refine goesL_ (some 17) rfl rfl Tryz.func19 (by kernel_rfl) rfl #[.slice A0 l0.length c0, .slice none 0 0] rfl xr ?_; (refine (r15_Stack.calls k _ _ l0 _ _ ([] : List Bool) t478 t479 t480 _ (Tabs.below hT xf) ?side1 ?side2 ?side3 ?side4 A4.out).mono ?_); (case side1 => exact Kd.C_below HR0.out xb); (case side2 => exact HC0.out); (case side3 => exact Kd.C_nil _ _); (case side4 => exact Nat.le_refl _); rintro e w26 ⟨v481, rfl, ho0, hb⟩; refine ⟨_, rfl, ?_⟩; have HO482 := xy (Kd.R_lower ho0 (below_size xb)); replace BK477 := xd BK477.out hb; replace HB := xy (below_step xb hb); (try clear hb); (try clear hb2); (try clear hk); (try clear hi); (try clear ho0); have hcz27_0 : w26.cell? ⟨gb477, 0, none⟩ = some (.bool false) := (kc BK477.out 0).trans rfl; have hcz27_1 : w26.cell? ⟨gb477, 1, none⟩ = some (.int .i64 0) := (kc BK477.out 1).trans rfl; have hcz27_2 : w26.cell? ⟨gb477, 2, none⟩ = some (.string (⟨#[]⟩ : ByteArray)) := (kc BK477.out 2).trans rfl; have hfz27_0 := kf BK477.out 0; have hfz27_1 := kf BK477.out 1; have hfz27_2 := kf BK477.out 2))
  refine bodyPost_ret (results_ctt rfl _ _ gb477 32 #[.bool false, .int .i64 0, .string (⟨#[]⟩ : ByteArray)] (0, 0) _ rfl (kp BK477.out) Tryz.underlying32 rfl (by kernel_rfl)) rfl ?_
  exact ⟨xe, xb⟩
def slices_Equal_bool_bool.l0 : Nat → List Bool → List Bool → Int → Int → Option (Bool)
 | 0, _, _, _, _ => none
 | k + 1, x0, x1, x12, x13 => if x13 < x12 then (if 0 ≤ x13 then (if x13 < (x0.length : Int) then (if x13 < (x1.length : Int) then (if ((rdOf false x0 x13) != (rdOf false x1 x13)) = true then (some false) else (slices_Equal_bool_bool.l0 k x0 x1 x12 (wrap64 (x13 + 1)))) else (none)) else (none)) else (none)) else (some true)
def slices_Equal_bool_bool.f (k : Nat) (l0 : List Bool) (l1 : List Bool) : Option (Bool) := if (l0.length : Int) = (l1.length : Int) then (slices_Equal_bool_bool.l0 k l0 l1 (l0.length : Int) 0) else (some false)
theorem slices_Equal_bool_bool.mono_l : ∀ k, (∀ y0 y1 y2 y3, LeO (slices_Equal_bool_bool.l0 k y0 y1 y2 y3) (slices_Equal_bool_bool.l0 (k + 1) y0 y1 y2 y3))
 | 0 => fun _ _ _ _ r h => by simp [slices_Equal_bool_bool.l0] at h
 | k + 1 => by
  have ih0 := slices_Equal_bool_bool.mono_l k
  ·intro y0 y1 y2 y3
   unfold slices_Equal_bool_bool.l0
   repeat' (with_reducible first | exact ih0 _ _ _ _ | exact LeO.refl _ | exact LeO.none _ | refine LeO.ite ?_ ?_ | refine LeO.bind ?_ (fun _ => ?_))
theorem slices_Equal_bool_bool.mono : ∀ a0 a1 k, LeO (slices_Equal_bool_bool.f k a0 a1) (slices_Equal_bool_bool.f (k + 1) a0 a1) := by
 intro a0 a1 k
 have ih0 := slices_Equal_bool_bool.mono_l k
 unfold slices_Equal_bool_bool.f
 repeat' (with_reducible first | exact ih0 _ _ _ _ | exact LeO.refl _ | exact LeO.none _ | refine LeO.ite ?_ ?_ | refine LeO.bind ?_ (fun _ => ?_))
set_option maxHeartbeats 8000000 in
set_option maxRecDepth 100000 in
theorem slices_Equal_bool_bool.calls (k : Nat) (A0 : Option Addr) (c0 : Nat) (l0 : List Bool) (A1 : Option Addr) (c1 : Nat) (l1 : List Bool) (r : Bool) (w : World) (hT : Tabs w) (hr0 : Kd.C Kd.bool w A0 l0.length l0) (hc0 : l0.length ≤ c0) (hr1 : Kd.C Kd.bool w A1 l1.length l1) (hc1 : l1.length ≤ c1) (h : slices_Equal_bool_bool.f k l0 l1 = some r) :
  Calls Tryz.prog 34 #[.slice A0 l0.length c0, .slice A1 l1.length c1] w fun e w' => e = .returned (.bool r) ∧ Drawn0 w w' := by
 have HR0 := xy hr0
 have HC0 := xy hc0
 clear hr0 hc0
 have HR1 := xy hr1
 have HC1 := xy hc1
 clear hr1 hc1
 unfold slices_Equal_bool_bool.f at h
 have H := h
 clear h
 by_cases c3 : (l0.length : Int) = (l1.length : Int)
 ·rw [if_pos c3] at H
  have c3b0 : ((l0.length : Int) == (l1.length : Int)) = true := beq_iff_eq.mpr c3
  have c3b1 : ((l0.length : Int) != (l1.length : Int)) = false := bne_eq_false_iff_eq.mpr c3
  have c3b2 : (l0.length == l1.length) = true := by first | simpa using c3 | (simp at c3 ⊢; omega)
  clear c3
  have H' := xy H
  clear H
  go_enter Tryz.func34, Tryz.ntmps34
  go_wp2
  repeat (go_quiet (fail); try go_wp2)
  go_loopg [13] k (fun kq v13 w' => ∃ (x13_1 : Int), v13 = .int .i64 x13_1 ∧ Aside0 (slices_Equal_bool_bool.l0 kq l0 l1 (l0.length : Int) x13_1 = some r) ∧ Aside0 (kq ≤ k) ∧ Drawn0 w w')
  case atStart => exact ⟨(0), xg, H', ⟨Nat.le_refl _⟩, by repeat (first | exact Drawn0.refl _ | apply Drawn0.step)⟩
  case round =>
   clear H'
   try clear c1
   try clear p2
   try clear c3
   try clear c3b0
   try clear c3b1
   try clear c3b2
   obtain ⟨x13_1, rfl, HA, HK1, ⟨m1, rfl⟩⟩ := hrel
   cases gk with
   | zero => exact absurd HA.out (by simp [slices_Equal_bool_bool.l0])
   | succ k1 =>
    have H := HA.out
    clear HA
    simp only [slices_Equal_bool_bool.l0] at H
    by_cases c4 : x13_1 < (l0.length : Int)
    ·rw [if_pos c4] at H
     have c4b0 : decide (x13_1 < (l0.length : Int)) = true := decide_eq_true c4
     clear c4
     by_cases c5 : 0 ≤ x13_1
     ·rw [if_pos c5] at H
      have c5b0 : decide (0 ≤ x13_1) = true := decide_eq_true c5
      clear c5
      by_cases c6 : x13_1 < (l0.length : Int)
      ·rw [if_pos c6] at H
       have c6b0 : decide (x13_1 < (l0.length : Int)) = true := decide_eq_true c6
       clear c6
       by_cases c7 : x13_1 < (l1.length : Int)
       ·rw [if_pos c7] at H
        have c7b0 : decide (x13_1 < (l1.length : Int)) = true := decide_eq_true c7
        clear c7
        by_cases c8 : ((rdOf false l0 x13_1) != (rdOf false l1 x13_1)) = true
        ·rw [if_pos c8] at H
         have c8b0 : ((rdOf false l0 x13_1) != (rdOf false l1 x13_1)) = true := c8
         (try (have c8b1 : decide ((rdOf false l0 x13_1) = (rdOf false l1 x13_1)) = false := by simpa using c8))
         (try (have c8b2 : ((rdOf false l0 x13_1) == (rdOf false l1 x13_1)) = false := by simpa using c8))
         (try (have c8b3 : ¬ ((rdOf false l0 x13_1) = (rdOf false l1 x13_1)) := by simpa using c8))
         clear c8
         obtain rfl := Option.some.inj H
         have p489 : 0 ≤ (x13_1 : Int) := xi
         have q489 : x13_1 < (l0.length : Int) := xi
         obtain ⟨ad489, e489, hx489_0⟩ := Kd.at_bool HR0.out x13_1 p489 q489
         cases e489
         replace p489 := eq_true p489
         replace q489 := eq_true q489
         have p490 : 0 ≤ (x13_1 : Int) := xi
         have q490 : x13_1 < (l1.length : Int) := xi
         obtain ⟨ad490, e490, hx490_0⟩ := Kd.at_bool HR1.out x13_1 p490 q490
         cases e490
         replace p490 := eq_true p490
         replace q490 := eq_true q490
         go_wp2
         repeat (go_quiet (fail); try go_wp2)
         go_ret
         exact ⟨xg, xz⟩
        ·rw [if_neg c8] at H
         have c8b0 : ((rdOf false l0 x13_1) != (rdOf false l1 x13_1)) = false := by simpa using c8
         (try (have c8b1 : decide ((rdOf false l0 x13_1) = (rdOf false l1 x13_1)) = true := by simpa using c8))
         (try (have c8b2 : ((rdOf false l0 x13_1) == (rdOf false l1 x13_1)) = true := by simpa using c8))
         clear c8
         have H' := xy H
         clear H
         have p489 : 0 ≤ (x13_1 : Int) := xi
         have q489 : x13_1 < (l0.length : Int) := xi
         obtain ⟨ad489, e489, hx489_0⟩ := Kd.at_bool HR0.out x13_1 p489 q489
         cases e489
         replace p489 := eq_true p489
         replace q489 := eq_true q489
         have p490 : 0 ≤ (x13_1 : Int) := xi
         have q490 : x13_1 < (l1.length : Int) := xi
         obtain ⟨ad490, e490, hx490_0⟩ := Kd.at_bool HR1.out x13_1 p490 q490
         cases e490
         replace p490 := eq_true p490
         replace q490 := eq_true q490
         go_wp2
         repeat (go_quiet (fail); try go_wp2)
         go_roundg k1
         case measure => have := HK1.out; omega
         case rel => exact ⟨(wrap64 (x13_1 + 1)), xg, H', ⟨by have := HK1.out; omega⟩, by repeat (first | exact Drawn0.refl _ | apply Drawn0.step)⟩
       ·rw [if_neg c7] at H
        exact absurd H (by simp)
      ·rw [if_neg c6] at H
       exact absurd H (by simp)
     ·rw [if_neg c5] at H
      exact absurd H (by simp)
    ·rw [if_neg c4] at H
     have c4b0 : decide (x13_1 < (l0.length : Int)) = false := decide_eq_false c4
     clear c4
     obtain rfl := Option.some.inj H
     go_wp2
     repeat (go_quiet (fail); try go_wp2)
     go_ret
     exact ⟨xg, xz⟩
 ·rw [if_neg c3] at H
  have c3b0 : ((l0.length : Int) == (l1.length : Int)) = false := beq_eq_false_iff_ne.mpr c3
  have c3b1 : ((l0.length : Int) != (l1.length : Int)) = true := bne_iff_ne.mpr c3
  have c3b2 : (l0.length == l1.length) = false := by first | simpa using c3 | (simp at c3 ⊢; omega)
  obtain rfl := Option.some.inj H
  go_enter Tryz.func34, Tryz.ntmps34
  go_wp2
  repeat (go_quiet (fail); try go_wp2)
  go_ret
  exact ⟨xg, xz⟩
def check_Check.f (k : Nat) (l0 : List (S44)) (l1 : List Bool) (l2 : List Bool) : Option (Int) := (check_Stack.f l0 l1).bind fun bt491 => (if bt491.2.2 = 0 then ((slices_Equal_bool_bool.f k bt491.1 l2).bind fun t496 => (if t496 = true then (some bt491.2.2) else (some 11))) else (some bt491.2.2))
theorem check_Check.mono : ∀ a0 a1 a2 k, LeO (check_Check.f k a0 a1 a2) (check_Check.f (k + 1) a0 a1 a2) := by
 intro a0 a1 a2 k
 unfold check_Check.f
 repeat' (with_reducible first | exact slices_Equal_bool_bool.mono _ _ _ | exact LeO.refl _ | exact LeO.none _ | refine LeO.ite ?_ ?_ | refine LeO.bind ?_ (fun _ => ?_))
set_option maxHeartbeats 8000000 in
set_option maxRecDepth 100000 in
theorem check_Check.calls (k : Nat) (A0 : Option Addr) (c0 : Nat) (l0 : List (S44)) (A1 : Option Addr) (c1 : Nat) (l1 : List Bool) (A2 : Option Addr) (c2 : Nat) (l2 : List Bool) (r : Int) (w : World) (hT : Tabs w) (hr0 : Kd.C k44 w A0 l0.length l0) (hc0 : l0.length ≤ c0) (hr1 : Kd.C Kd.bool w A1 l1.length l1) (hc1 : l1.length ≤ c1) (hr2 : Kd.C Kd.bool w A2 l2.length l2) (hc2 : l2.length ≤ c2) (h : check_Check.f k l0 l1 l2 = some r) :
  Calls Tryz.prog 21 #[.slice A0 l0.length c0, .slice A1 l1.length c1, .slice A2 l2.length c2] w fun e w' => e = .returned (.int .i64 r) ∧ Below w.heap.size w w' := by
 have HR0 := xy hr0
 have HC0 := xy hc0
 clear hr0 hc0
 have HR1 := xy hr1
 have HC1 := xy hc1
 clear hr1 hc1
 have HR2 := xy hr2
 have HC2 := xy hc2
 clear hr2 hc2
 have HB := xy (Below.refl w.heap.size w)
 unfold check_Check.f at h
 have H := h
 clear h
 replace H := xj H
 obtain ⟨⟨t491, t492, t493⟩, A40, H⟩ := H
 replace H : (if t493 = 0 then ((slices_Equal_bool_bool.f k t491 l2).bind fun t496 => (if t496 = true then (some t493) else (some 11))) else (some t493)) = some r := H
 have A4 := xy A40
 clear A40
 by_cases c5 : t493 = 0
 ·rw [if_pos c5] at H
  have c5b0 : (t493 == 0) = true := beq_iff_eq.mpr c5
  have c5b1 : (t493 != 0) = false := bne_eq_false_iff_eq.mpr c5
  clear c5
  replace H := xj H
  obtain ⟨t496, A60, H⟩ := H
  replace H : (if t496 = true then (some t493) else (some 11)) = some r := H
  have A6 := xy A60
  clear A60
  by_cases c7 : t496 = true
  ·subst c7
   rw [if_pos rfl] at H
   obtain rfl := Option.some.inj H
   go_enter Tryz.func21, Tryz.ntmps21
   go_wp2_with (first | ((with_reducible refine gate_callee (f := 17) rfl ?_); refine goesL_ (some 13) rfl rfl Tryz.func17 (by kernel_rfl) rfl #[.slice A0 l0.length c0, .slice A1 l1.length c1] rfl xr ?_; (with_reducible refine (check_Stack.calls _ _ l0 _ _ l1 t491 t492 t493 _ (Tabs.below hT xf) ?side1 ?side2 ?side3 ?side4 A4.out).mono ?_); (case side1 => repeat (first | exact HR0.out | (with_reducible refine Kd.C_alloc ?_ _) | (with_reducible refine Kd.C_drewN ?_ _) | (with_reducible refine Kd.C_drew ?_))); (case side2 => exact HC0.out); (case side3 => repeat (first | exact HR1.out | (with_reducible refine Kd.C_alloc ?_ _) | (with_reducible refine Kd.C_drewN ?_ _) | (with_reducible refine Kd.C_drew ?_))); (case side4 => exact HC1.out); rintro e w8 ⟨v494, rfl, ho0, hb⟩; refine ⟨_, rfl, ?_⟩; have HO495 := xy (Kd.R_lower ho0 (below_size xb)); replace HB := xy (below_step xb hb); (try clear hb); (try clear hb2); (try clear hk); (try clear hi); (try clear ho0); obtain ⟨Ao9, co9, eo9⟩ := Kd.R_slice HO495.out; subst eo9) | (go_at_call 34; (with_reducible refine (slices_Equal_bool_bool.calls k _ _ t491 _ _ l2 true _ (Tabs.below hT xf) ?side1 ?side2 ?side3 ?side4 A6.out).mono ?_); (case side1 => repeat (first | exact (Kd.R_reads' HO495.out).2.2 | (with_reducible refine Kd.C_alloc ?_ _) | (with_reducible refine Kd.C_drewN ?_ _) | (with_reducible refine Kd.C_drew ?_))); (case side2 => exact (Kd.R_reads' HO495.out).2.1); (case side3 => exact Kd.C_below HR2.out xb); (case side4 => exact HC2.out); rintro e w' ⟨rfl, ⟨nd, rfl⟩⟩))
   go_ret
   exact ⟨xe, xb⟩
  ·replace c7 := Bool.eq_false_iff.mpr c7
   subst c7
   rw [if_neg (show ¬ (false = true) by decide)] at H
   obtain rfl := Option.some.inj H
   go_enter Tryz.func21, Tryz.ntmps21
   go_wp2_with (first | ((with_reducible refine gate_callee (f := 17) rfl ?_); refine goesL_ (some 13) rfl rfl Tryz.func17 (by kernel_rfl) rfl #[.slice A0 l0.length c0, .slice A1 l1.length c1] rfl xr ?_; (with_reducible refine (check_Stack.calls _ _ l0 _ _ l1 t491 t492 t493 _ (Tabs.below hT xf) ?side1 ?side2 ?side3 ?side4 A4.out).mono ?_); (case side1 => repeat (first | exact HR0.out | (with_reducible refine Kd.C_alloc ?_ _) | (with_reducible refine Kd.C_drewN ?_ _) | (with_reducible refine Kd.C_drew ?_))); (case side2 => exact HC0.out); (case side3 => repeat (first | exact HR1.out | (with_reducible refine Kd.C_alloc ?_ _) | (with_reducible refine Kd.C_drewN ?_ _) | (with_reducible refine Kd.C_drew ?_))); (case side4 => exact HC1.out); rintro e w10 ⟨v494, rfl, ho0, hb⟩; refine ⟨_, rfl, ?_⟩; have HO495 := xy (Kd.R_lower ho0 (below_size xb)); replace HB := xy (below_step xb hb); (try clear hb); (try clear hb2); (try clear hk); (try clear hi); (try clear ho0); obtain ⟨Ao11, co11, eo11⟩ := Kd.R_slice HO495.out; subst eo11) | (go_at_call 34; (with_reducible refine (slices_Equal_bool_bool.calls k _ _ t491 _ _ l2 false _ (Tabs.below hT xf) ?side1 ?side2 ?side3 ?side4 A6.out).mono ?_); (case side1 => repeat (first | exact (Kd.R_reads' HO495.out).2.2 | (with_reducible refine Kd.C_alloc ?_ _) | (with_reducible refine Kd.C_drewN ?_ _) | (with_reducible refine Kd.C_drew ?_))); (case side2 => exact (Kd.R_reads' HO495.out).2.1); (case side3 => exact Kd.C_below HR2.out xb); (case side4 => exact HC2.out); rintro e w' ⟨rfl, ⟨nd, rfl⟩⟩))
   go_ret
   exact ⟨xe, xb⟩
 ·rw [if_neg c5] at H
  have c5b0 : (t493 == 0) = false := beq_eq_false_iff_ne.mpr c5
  have c5b1 : (t493 != 0) = true := bne_iff_ne.mpr c5
  obtain rfl := Option.some.inj H
  go_enter Tryz.func21, Tryz.ntmps21
  go_wp2_with (((with_reducible refine gate_callee (f := 17) rfl ?_); refine goesL_ (some 13) rfl rfl Tryz.func17 (by kernel_rfl) rfl #[.slice A0 l0.length c0, .slice A1 l1.length c1] rfl xr ?_; (with_reducible refine (check_Stack.calls _ _ l0 _ _ l1 t491 t492 t493 _ (Tabs.below hT xf) ?side1 ?side2 ?side3 ?side4 A4.out).mono ?_); (case side1 => repeat (first | exact HR0.out | (with_reducible refine Kd.C_alloc ?_ _) | (with_reducible refine Kd.C_drewN ?_ _) | (with_reducible refine Kd.C_drew ?_))); (case side2 => exact HC0.out); (case side3 => repeat (first | exact HR1.out | (with_reducible refine Kd.C_alloc ?_ _) | (with_reducible refine Kd.C_drewN ?_ _) | (with_reducible refine Kd.C_drew ?_))); (case side4 => exact HC1.out); rintro e w12 ⟨v494, rfl, ho0, hb⟩; refine ⟨_, rfl, ?_⟩; have HO495 := xy (Kd.R_lower ho0 (below_size xb)); replace HB := xy (below_step xb hb); (try clear hb); (try clear hb2); (try clear hk); (try clear hi); (try clear ho0)))
  go_ret
  exact ⟨xe, xb⟩
section
/- Walked functions, by this session's program over the kit's print. -/
attribute [local go_sem high] eqA32
def eval_Yes.f (k : Nat) (l0 : List (S44)) (l1 : List ByteArray) (a2 : Int) : Option (Bool × Int × Int) := if (l0.length : Int) = 0 then (some (true, a2, 0)) else ((check_Check.f k l0 ([] : List Bool) (([false] : List Bool))).bind fun t500 => (if t500 = 0 then ((eval_One.f k l0 l1 a2).bind fun bt501 => (some ((bt501.2.1 != 0), bt501.2.2.2.1, bt501.2.2.2.2))) else (some (false, a2, t500))))
theorem eval_Yes.mono : ∀ a0 a1 a2 k, LeO (eval_Yes.f k a0 a1 a2) (eval_Yes.f (k + 1) a0 a1 a2) := by
 intro a0 a1 a2 k
 unfold eval_Yes.f
 repeat' (with_reducible first | exact check_Check.mono _ _ _ _ | exact eval_One.mono _ _ _ _ | exact LeO.refl _ | exact LeO.none _ | refine LeO.ite ?_ ?_ | refine LeO.bind ?_ (fun _ => ?_))
set_option maxHeartbeats 8000000 in
set_option maxRecDepth 100000 in
theorem eval_Yes.calls (k : Nat) (A0 : Option Addr) (c0 : Nat) (l0 : List (S44)) (A1 : Option Addr) (c1 : Nat) (l1 : List ByteArray) (a2 : Int) (r1 : Bool) (r2 : Int) (r3 : Int) (w : World) (hT : Tabs w) (hr0 : Kd.C k44 w A0 l0.length l0) (hc0 : l0.length ≤ c0) (hr1 : Kd.C Kd.string w A1 l1.length l1) (hc1 : l1.length ≤ c1) (h : eval_Yes.f k l0 l1 a2 = some (r1, r2, r3)) :
  Calls Tryz.prog 11 #[.slice A0 l0.length c0, .slice A1 l1.length c1, .int .i64 a2] w fun e w' => e = .returned (.tuple #[.bool r1, .int .i64 r2, .int .i64 r3]) ∧ Below w.heap.size w w' := by
 have hu32 := Tryz.underlying32
 have HR0 := xy hr0
 have HC0 := xy hc0
 clear hr0 hc0
 have HR1 := xy hr1
 have HC1 := xy hc1
 clear hr1 hc1
 have HB := xy (Below.refl w.heap.size w)
 unfold eval_Yes.f at h
 have H := h
 clear h
 by_cases c4 : (l0.length : Int) = 0
 ·rw [if_pos c4] at H
  have c4b0 : ((l0.length : Int) == 0) = true := beq_iff_eq.mpr c4
  have c4b1 : ((l0.length : Int) != 0) = false := bne_eq_false_iff_eq.mpr c4
  clear c4
  simp only [Option.some.injEq, Prod.mk.injEq] at H
  obtain ⟨rfl, rfl, rfl⟩ := H
  go_enter Tryz.func11, Tryz.ntmps11
  go_wp2
  go_ret3
  exact ⟨xe, xb⟩
 ·rw [if_neg c4] at H
  have c4b0 : ((l0.length : Int) == 0) = false := beq_eq_false_iff_ne.mpr c4
  have c4b1 : ((l0.length : Int) != 0) = true := bne_iff_ne.mpr c4
  have c4b2 : ¬ (l0 = []) := fun h_ => c4 (by rw [h_]; rfl)
  obtain ⟨y497, hy497⟩ : ∃ y_ : List Bool, y_ = (([false] : List Bool)) := ⟨_, rfl⟩
  replace H : ((check_Check.f k l0 ([] : List Bool) y497).bind fun t500 => (if t500 = 0 then ((eval_One.f k l0 l1 a2).bind fun bt501 => (some ((bt501.2.1 != 0), bt501.2.2.2.1, bt501.2.2.2.2))) else (some (false, a2, t500)))) = some (r1, r2, r3) := by first | (rw [hy497]; with_reducible exact H) | (have H2_ := (Option.bind_some _ _).symm.trans H; rw [hy497]; with_reducible exact H2_) | (have H2_ := (Option.bind_some _ _).symm.trans H; with_reducible exact H2_) | with_reducible exact H | (rw [hy497]; exact H) | exact H
  have Ny497 := xy hy497
  clear hy497
  replace H := xj H
  obtain ⟨t500, A50, H⟩ := H
  replace H : (if t500 = 0 then ((eval_One.f k l0 l1 a2).bind fun bt501 => (some ((bt501.2.1 != 0), bt501.2.2.2.1, bt501.2.2.2.2))) else (some (false, a2, t500))) = some (r1, r2, r3) := H
  have A5 := xy A50
  clear A50
  by_cases c6 : t500 = 0
  ·rw [if_pos c6] at H
   have c6b0 : (t500 == 0) = true := beq_iff_eq.mpr c6
   have c6b1 : (t500 != 0) = false := bne_eq_false_iff_eq.mpr c6
   clear c6
   replace H := xj H
   obtain ⟨⟨t501, t502, t503, t504, t505⟩, A70, H⟩ := H
   replace H : (some ((t502 != 0), t504, t505)) = some (r1, r2, r3) := H
   have A7 := xy A70
   clear A70
   simp only [Option.some.injEq, Prod.mk.injEq] at H
   obtain ⟨rfl, rfl, rfl⟩ := H
   go_enter Tryz.func11, Tryz.ntmps11
   go_wp2_with (first | ((with_reducible refine gate_dst (N := 18) rfl ?_); refine Kd.R_lit Kd.bool _ 4 ?hg (N := 18) ?hd (xs := ([false] : List Bool)) (inner := [.bool false]) (ok := fun _ => True) (okp := fun _ => True) ?hr ?hp (fun _ hk => hk) trivial (Below.refl _ _) (Nat.le_refl _) (by simp) ?_; (case hd => rfl); (case hg => rfl); (case hr => exact xh); (case hp => exact (Reps.one (show Kd.M Kd.bool _ _ _ false [.bool false] from rfl) (Reps.none _ _))); intro v498 w8 ho9 hb hg_ hnew_; clear hg_ hnew_; (first | rw [← Ny497.out] at ho9 | (simp only [Int.reduceToNat] at ho9; rw [← Ny497.out] at ho9)); have HO499 := xy (Kd.R_lower ho9 (below_size xb)); replace HB := xy (below_step xb hb); clear hb ho9; obtain ⟨Ao10, co10, eo10⟩ := Kd.R_slice HO499.out; subst eo10) | ((with_reducible refine gate_callee (f := 21) rfl ?_); refine goesL_ (some 19) rfl rfl Tryz.func21 (by kernel_rfl) rfl #[.slice A0 l0.length c0, .slice none 0 0, .slice Ao10 y497.length co10] rfl xr ?_; (refine (check_Check.calls k _ _ l0 _ _ ([] : List Bool) _ _ y497 t500 _ (Tabs.below hT xf) ?side1 ?side2 ?side3 ?side4 ?side5 ?side6 A5.out).mono ?_); (case side1 => exact Kd.C_below HR0.out xb); (case side2 => exact HC0.out); (case side3 => exact Kd.C_nil _ _); (case side4 => exact Nat.le_refl _); (case side5 => repeat (first | exact (Kd.R_reads' HO499.out).2.2 | (with_reducible refine Kd.C_alloc ?_ _) | (with_reducible refine Kd.C_drewN ?_ _) | (with_reducible refine Kd.C_drew ?_))); (case side6 => exact (Kd.R_reads' HO499.out).2.1); rintro e w11 ⟨rfl, hb⟩; refine ⟨_, rfl, ?_⟩; replace HO499 := xy (Kd.R_below (xo HO499.out) hb); replace HB := xy (below_step xb hb); (try clear hb); (try clear hb2); (try clear hk); (try clear hi)) | ((with_reducible refine gate_callee (f := 9) rfl ?_); refine goesL_ (some 28) rfl rfl Tryz.func9 (by kernel_rfl) rfl #[.slice A0 l0.length c0, .slice A1 l1.length c1, .int .i64 a2] rfl xr ?_; (with_reducible refine (eval_One.calls k _ _ l0 _ _ l1 a2 t501 t502 t503 t504 t505 _ (Tabs.below hT xf) ?side1 ?side2 ?side3 ?side4 A7.out).mono ?_); (case side1 => exact Kd.C_below HR0.out xb); (case side2 => exact HC0.out); (case side3 => exact Kd.C_below HR1.out xb); (case side4 => exact HC1.out); rintro e w12 ⟨rfl, hb⟩; refine ⟨_, rfl, ?_⟩; replace HO499 := xy (Kd.R_below (xo HO499.out) hb); replace HB := xy (below_step xb hb); (try clear hb); (try clear hb2); (try clear hk); (try clear hi)) | ((with_reducible refine gate_dst (N := 10) rfl ?_); refine xq (N := 10) (cs := #[.bool false, .int .i64 0, .string (⟨#[]⟩ : ByteArray)]) (t := 32) ?_; intro gb506 hg w13 hbox hb; replace HO499 := xy (Kd.R_below (xo HO499.out) hb); have BK506 := xy (hbox); have GW506 := xs w hg; have GE506 := xs w hg; replace HB := xy (below_step xb hb); clear hb hbox hg; have hcz14_0 : w13.cell? ⟨gb506, 0, none⟩ = some (.bool false) := (kc BK506.out 0).trans rfl; have hcz14_1 : w13.cell? ⟨gb506, 1, none⟩ = some (.int .i64 0) := (kc BK506.out 1).trans rfl; have hcz14_2 : w13.cell? ⟨gb506, 2, none⟩ = some (.string (⟨#[]⟩ : ByteArray)) := (kc BK506.out 2).trans rfl; have hfz14_0 := kf BK506.out 0; have hfz14_1 := kf BK506.out 1; have hfz14_2 := kf BK506.out 2))
   go_ret3
   exact ⟨xe, xb⟩
  ·rw [if_neg c6] at H
   have c6b0 : (t500 == 0) = false := beq_eq_false_iff_ne.mpr c6
   have c6b1 : (t500 != 0) = true := bne_iff_ne.mpr c6
   simp only [Option.some.injEq, Prod.mk.injEq] at H
   obtain ⟨rfl, rfl, rfl⟩ := H
   go_enter Tryz.func11, Tryz.ntmps11
   go_wp2_with (first | ((with_reducible refine gate_dst (N := 18) rfl ?_); refine Kd.R_lit Kd.bool _ 4 ?hg (N := 18) ?hd (xs := ([false] : List Bool)) (inner := [.bool false]) (ok := fun _ => True) (okp := fun _ => True) ?hr ?hp (fun _ hk => hk) trivial (Below.refl _ _) (Nat.le_refl _) (by simp) ?_; (case hd => rfl); (case hg => rfl); (case hr => exact xh); (case hp => exact (Reps.one (show Kd.M Kd.bool _ _ _ false [.bool false] from rfl) (Reps.none _ _))); intro v498 w15 ho16 hb hg_ hnew_; clear hg_ hnew_; (first | rw [← Ny497.out] at ho16 | (simp only [Int.reduceToNat] at ho16; rw [← Ny497.out] at ho16)); have HO499 := xy (Kd.R_lower ho16 (below_size xb)); replace HB := xy (below_step xb hb); clear hb ho16; obtain ⟨Ao17, co17, eo17⟩ := Kd.R_slice HO499.out; subst eo17) | ((with_reducible refine gate_callee (f := 21) rfl ?_); refine goesL_ (some 19) rfl rfl Tryz.func21 (by kernel_rfl) rfl #[.slice A0 l0.length c0, .slice none 0 0, .slice Ao17 y497.length co17] rfl xr ?_; (refine (check_Check.calls k _ _ l0 _ _ ([] : List Bool) _ _ y497 t500 _ (Tabs.below hT xf) ?side1 ?side2 ?side3 ?side4 ?side5 ?side6 A5.out).mono ?_); (case side1 => exact Kd.C_below HR0.out xb); (case side2 => exact HC0.out); (case side3 => exact Kd.C_nil _ _); (case side4 => exact Nat.le_refl _); (case side5 => repeat (first | exact (Kd.R_reads' HO499.out).2.2 | (with_reducible refine Kd.C_alloc ?_ _) | (with_reducible refine Kd.C_drewN ?_ _) | (with_reducible refine Kd.C_drew ?_))); (case side6 => exact (Kd.R_reads' HO499.out).2.1); rintro e w18 ⟨rfl, hb⟩; refine ⟨_, rfl, ?_⟩; replace HO499 := xy (Kd.R_below (xo HO499.out) hb); replace HB := xy (below_step xb hb); (try clear hb); (try clear hb2); (try clear hk); (try clear hi)))
   go_ret3
   exact ⟨xe, xb⟩
def r16_Yes.f (k : Nat) (l0 : List (S44)) (l1 : List ByteArray) (a2 : Int) : Option (Bool × Int × Int) := if (l0.length : Int) = 0 then (some (true, a2, 0)) else ((r15_Stack.f k l0 ([] : List Bool)).bind fun bt507 => (if bt507.2.2 = 0 then (if (bt507.1.length : Int) = 1 then (if 0 < (bt507.1.length : Int) then (if rdOf false bt507.1 0 = true then (some (false, a2, 11)) else ((r16_One.f k l0 l1 a2).bind fun bt513 => (some ((bt513.2.1 != 0), bt513.2.2.2.1, bt513.2.2.2.2)))) else (none)) else (some (false, a2, 11))) else (some (false, a2, bt507.2.2))))
theorem r16_Yes.mono : ∀ a0 a1 a2 k, LeO (r16_Yes.f k a0 a1 a2) (r16_Yes.f (k + 1) a0 a1 a2) := by
 intro a0 a1 a2 k
 unfold r16_Yes.f
 repeat' (with_reducible first | exact r15_Stack.mono _ _ _ | exact r16_One.mono _ _ _ _ | exact LeO.refl _ | exact LeO.none _ | refine LeO.ite ?_ ?_ | refine LeO.bind ?_ (fun _ => ?_))
set_option maxHeartbeats 8000000 in
set_option maxRecDepth 100000 in
theorem r16_Yes.calls (k : Nat) (A0 : Option Addr) (c0 : Nat) (l0 : List (S44)) (A1 : Option Addr) (c1 : Nat) (l1 : List ByteArray) (a2 : Int) (r1 : Bool) (r2 : Int) (r3 : Int) (w : World) (hT : Tabs w) (hr0 : Kd.C k44 w A0 l0.length l0) (hc0 : l0.length ≤ c0) (hr1 : Kd.C Kd.string w A1 l1.length l1) (hc1 : l1.length ≤ c1) (h : r16_Yes.f k l0 l1 a2 = some (r1, r2, r3)) :
  Calls Tryz.prog 12 #[.slice A0 l0.length c0, .slice A1 l1.length c1, .int .i64 a2] w fun e w' => e = .returned (.tuple #[.bool r1, .int .i64 r2, .int .i64 r3]) ∧ Below w.heap.size w w' := by
 have hu32 := Tryz.underlying32
 have HR0 := xy hr0
 have HC0 := xy hc0
 clear hr0 hc0
 have HR1 := xy hr1
 have HC1 := xy hc1
 clear hr1 hc1
 have HB := xy (Below.refl w.heap.size w)
 unfold r16_Yes.f at h
 have H := h
 clear h
 by_cases c4 : (l0.length : Int) = 0
 ·rw [if_pos c4] at H
  have c4b0 : ((l0.length : Int) == 0) = true := beq_iff_eq.mpr c4
  have c4b1 : ((l0.length : Int) != 0) = false := bne_eq_false_iff_eq.mpr c4
  clear c4
  simp only [Option.some.injEq, Prod.mk.injEq] at H
  obtain ⟨rfl, rfl, rfl⟩ := H
  go_enter Tryz.func12, Tryz.ntmps12
  go_wp2
  go_ret3
  exact ⟨xe, xb⟩
 ·rw [if_neg c4] at H
  have c4b0 : ((l0.length : Int) == 0) = false := beq_eq_false_iff_ne.mpr c4
  have c4b1 : ((l0.length : Int) != 0) = true := bne_iff_ne.mpr c4
  have c4b2 : ¬ (l0 = []) := fun h_ => c4 (by rw [h_]; rfl)
  replace H := xj H
  obtain ⟨⟨t507, t508, t509⟩, A50, H⟩ := H
  replace H : (if t509 = 0 then (if (t507.length : Int) = 1 then (if 0 < (t507.length : Int) then (if rdOf false t507 0 = true then (some (false, a2, 11)) else ((r16_One.f k l0 l1 a2).bind fun bt513 => (some ((bt513.2.1 != 0), bt513.2.2.2.1, bt513.2.2.2.2)))) else (none)) else (some (false, a2, 11))) else (some (false, a2, t509))) = some (r1, r2, r3) := H
  have A5 := xy A50
  clear A50
  by_cases c6 : t509 = 0
  ·rw [if_pos c6] at H
   have c6b0 : (t509 == 0) = true := beq_iff_eq.mpr c6
   have c6b1 : (t509 != 0) = false := bne_eq_false_iff_eq.mpr c6
   clear c6
   by_cases c7 : (t507.length : Int) = 1
   ·rw [if_pos c7] at H
    have c7b0 : ((t507.length : Int) == 1) = true := beq_iff_eq.mpr c7
    have c7b1 : ((t507.length : Int) != 1) = false := bne_eq_false_iff_eq.mpr c7
    clear c7
    by_cases c8 : 0 < (t507.length : Int)
    ·rw [if_pos c8] at H
     have c8b0 : decide (0 < (t507.length : Int)) = true := decide_eq_true c8
     have c8b1 : decide (0 < t507.length) = true := decide_eq_true (by omega)
     clear c8
     obtain ⟨bq9, hbq9⟩ : ∃ b_ : Bool, b_ = (rdOf false t507 0) := ⟨_, rfl⟩
     replace H : (if bq9 = true then (some (false, a2, 11)) else ((r16_One.f k l0 l1 a2).bind fun bt513 => (some ((bt513.2.1 != 0), bt513.2.2.2.1, bt513.2.2.2.2)))) = some (r1, r2, r3) := by rw [← hbq9] at H; exact H
     have Nbq9 := xy hbq9
     clear hbq9
     by_cases c10 : bq9 = true
     ·subst c10
      rw [if_pos rfl] at H
      simp only [Option.some.injEq, Prod.mk.injEq] at H
      obtain ⟨rfl, rfl, rfl⟩ := H
      go_enter Tryz.func12, Tryz.ntmps12
      go_wp2_with (((with_reducible refine gate_callee (f := 19) rfl ?_); refine goesL_ (some 21) rfl rfl Tryz.func19 (by kernel_rfl) rfl #[.slice A0 l0.length c0, .slice none 0 0] rfl xr ?_; (refine (r15_Stack.calls k _ _ l0 _ _ ([] : List Bool) t507 t508 t509 _ (Tabs.below hT xf) ?side1 ?side2 ?side3 ?side4 A5.out).mono ?_); (case side1 => repeat (first | exact HR0.out | (with_reducible refine Kd.C_alloc ?_ _) | (with_reducible refine Kd.C_drewN ?_ _) | (with_reducible refine Kd.C_drew ?_))); (case side2 => exact HC0.out); (case side3 => exact Kd.C_nil _ _); (case side4 => exact Nat.le_refl _); rintro e w11 ⟨v510, rfl, ho0, hb⟩; refine ⟨_, rfl, ?_⟩; have HO511 := xy (Kd.R_lower ho0 (below_size xb)); replace HB := xy (below_step xb hb); (try clear hb); (try clear hb2); (try clear hk); (try clear hi); (try clear ho0); obtain ⟨Ao12, co12, eo12⟩ := Kd.R_slice HO511.out; subst eo12; have p512 : 0 ≤ (0 : Int) := (by omega); have q512 : 0 < (t507.length : Int) := xi; obtain ⟨ad512, e512, hx512_0⟩ := Kd.at_bool (Kd.R_reads' HO511.out).2.2 0 p512 q512; (try rw [← Nbq9.out] at hx512_0); cases e512; have qi512 : (0 < t507.length) = True := eq_true (by omega); (try rw [show ((0 : Int)).toNat = 0 from rfl] at hx512_0); (try rw [Addr.add_zero'] at hx512_0); replace p512 := eq_true p512; replace q512 := eq_true q512))
      go_ret3
      exact ⟨xe, xb⟩
     ·replace c10 := Bool.eq_false_iff.mpr c10
      subst c10
      rw [if_neg (show ¬ (false = true) by decide)] at H
      replace H := xj H
      obtain ⟨⟨t513, t514, t515, t516, t517⟩, A130, H⟩ := H
      replace H : (some ((t514 != 0), t516, t517)) = some (r1, r2, r3) := H
      have A13 := xy A130
      clear A130
      simp only [Option.some.injEq, Prod.mk.injEq] at H
      obtain ⟨rfl, rfl, rfl⟩ := H
      go_enter Tryz.func12, Tryz.ntmps12
      go_wp2_with (first | ((with_reducible refine gate_callee (f := 19) rfl ?_); refine goesL_ (some 21) rfl rfl Tryz.func19 (by kernel_rfl) rfl #[.slice A0 l0.length c0, .slice none 0 0] rfl xr ?_; (refine (r15_Stack.calls k _ _ l0 _ _ ([] : List Bool) t507 t508 t509 _ (Tabs.below hT xf) ?side1 ?side2 ?side3 ?side4 A5.out).mono ?_); (case side1 => repeat (first | exact HR0.out | (with_reducible refine Kd.C_alloc ?_ _) | (with_reducible refine Kd.C_drewN ?_ _) | (with_reducible refine Kd.C_drew ?_))); (case side2 => exact HC0.out); (case side3 => exact Kd.C_nil _ _); (case side4 => exact Nat.le_refl _); rintro e w14 ⟨v510, rfl, ho0, hb⟩; refine ⟨_, rfl, ?_⟩; have HO511 := xy (Kd.R_lower ho0 (below_size xb)); replace HB := xy (below_step xb hb); (try clear hb); (try clear hb2); (try clear hk); (try clear hi); (try clear ho0); obtain ⟨Ao15, co15, eo15⟩ := Kd.R_slice HO511.out; subst eo15; have p512 : 0 ≤ (0 : Int) := (by omega); have q512 : 0 < (t507.length : Int) := xi; obtain ⟨ad512, e512, hx512_0⟩ := Kd.at_bool (Kd.R_reads' HO511.out).2.2 0 p512 q512; (try rw [← Nbq9.out] at hx512_0); cases e512; have qi512 : (0 < t507.length) = True := eq_true (by omega); (try rw [show ((0 : Int)).toNat = 0 from rfl] at hx512_0); (try rw [Addr.add_zero'] at hx512_0); replace p512 := eq_true p512; replace q512 := eq_true q512) | ((with_reducible refine gate_callee (f := 10) rfl ?_); refine goesL_ (some 42) rfl rfl Tryz.func10 (by kernel_rfl) rfl #[.slice A0 l0.length c0, .slice A1 l1.length c1, .int .i64 a2] rfl xr ?_; (with_reducible refine (r16_One.calls k _ _ l0 _ _ l1 a2 t513 t514 t515 t516 t517 _ (Tabs.below hT xf) ?side1 ?side2 ?side3 ?side4 A13.out).mono ?_); (case side1 => exact Kd.C_below HR0.out xb); (case side2 => exact HC0.out); (case side3 => exact Kd.C_below HR1.out xb); (case side4 => exact HC1.out); rintro e w16 ⟨rfl, hb⟩; refine ⟨_, rfl, ?_⟩; replace HO511 := xy (Kd.R_below (xo HO511.out) hb); replace HB := xy (below_step xb hb); (try clear hb); (try clear hb2); (try clear hk); (try clear hi)) | ((with_reducible refine gate_dst (N := 12) rfl ?_); refine xq (N := 12) (cs := #[.bool false, .int .i64 0, .string (⟨#[]⟩ : ByteArray)]) (t := 32) ?_; intro gb518 hg w17 hbox hb; replace HO511 := xy (Kd.R_below (xo HO511.out) hb); have BK518 := xy (hbox); have GW518 := xs w hg; have GE518 := xs w hg; replace HB := xy (below_step xb hb); clear hb hbox hg; have hcz18_0 : w17.cell? ⟨gb518, 0, none⟩ = some (.bool false) := (kc BK518.out 0).trans rfl; have hcz18_1 : w17.cell? ⟨gb518, 1, none⟩ = some (.int .i64 0) := (kc BK518.out 1).trans rfl; have hcz18_2 : w17.cell? ⟨gb518, 2, none⟩ = some (.string (⟨#[]⟩ : ByteArray)) := (kc BK518.out 2).trans rfl; have hfz18_0 := kf BK518.out 0; have hfz18_1 := kf BK518.out 1; have hfz18_2 := kf BK518.out 2))
      go_ret3
      exact ⟨xe, xb⟩
    ·rw [if_neg c8] at H
     exact absurd H (by simp)
   ·rw [if_neg c7] at H
    have c7b0 : ((t507.length : Int) == 1) = false := beq_eq_false_iff_ne.mpr c7
    have c7b1 : ((t507.length : Int) != 1) = true := bne_iff_ne.mpr c7
    simp only [Option.some.injEq, Prod.mk.injEq] at H
    obtain ⟨rfl, rfl, rfl⟩ := H
    go_enter Tryz.func12, Tryz.ntmps12
    go_wp2_with (((with_reducible refine gate_callee (f := 19) rfl ?_); refine goesL_ (some 21) rfl rfl Tryz.func19 (by kernel_rfl) rfl #[.slice A0 l0.length c0, .slice none 0 0] rfl xr ?_; (refine (r15_Stack.calls k _ _ l0 _ _ ([] : List Bool) t507 t508 t509 _ (Tabs.below hT xf) ?side1 ?side2 ?side3 ?side4 A5.out).mono ?_); (case side1 => repeat (first | exact HR0.out | (with_reducible refine Kd.C_alloc ?_ _) | (with_reducible refine Kd.C_drewN ?_ _) | (with_reducible refine Kd.C_drew ?_))); (case side2 => exact HC0.out); (case side3 => exact Kd.C_nil _ _); (case side4 => exact Nat.le_refl _); rintro e w19 ⟨v510, rfl, ho0, hb⟩; refine ⟨_, rfl, ?_⟩; have HO511 := xy (Kd.R_lower ho0 (below_size xb)); replace HB := xy (below_step xb hb); (try clear hb); (try clear hb2); (try clear hk); (try clear hi); (try clear ho0); obtain ⟨Ao20, co20, eo20⟩ := Kd.R_slice HO511.out; subst eo20))
    go_ret3
    exact ⟨xe, xb⟩
  ·rw [if_neg c6] at H
   have c6b0 : (t509 == 0) = false := beq_eq_false_iff_ne.mpr c6
   have c6b1 : (t509 != 0) = true := bne_iff_ne.mpr c6
   simp only [Option.some.injEq, Prod.mk.injEq] at H
   obtain ⟨rfl, rfl, rfl⟩ := H
   go_enter Tryz.func12, Tryz.ntmps12
   go_wp2_with (((with_reducible refine gate_callee (f := 19) rfl ?_); refine goesL_ (some 21) rfl rfl Tryz.func19 (by kernel_rfl) rfl #[.slice A0 l0.length c0, .slice none 0 0] rfl xr ?_; (refine (r15_Stack.calls k _ _ l0 _ _ ([] : List Bool) t507 t508 t509 _ (Tabs.below hT xf) ?side1 ?side2 ?side3 ?side4 A5.out).mono ?_); (case side1 => repeat (first | exact HR0.out | (with_reducible refine Kd.C_alloc ?_ _) | (with_reducible refine Kd.C_drewN ?_ _) | (with_reducible refine Kd.C_drew ?_))); (case side2 => exact HC0.out); (case side3 => exact Kd.C_nil _ _); (case side4 => exact Nat.le_refl _); rintro e w21 ⟨v510, rfl, ho0, hb⟩; refine ⟨_, rfl, ?_⟩; have HO511 := xy (Kd.R_lower ho0 (below_size xb)); replace HB := xy (below_step xb hb); (try clear hb); (try clear hb2); (try clear hk); (try clear hi); (try clear ho0)))
   go_ret3
   exact ⟨xe, xb⟩
def r16_Same.l0 : Nat → List (S32) → List (S32) → Int → Option (Bool)
 | 0, _, _, _ => none
 | k + 1, x0, x1, x5 => if x5 < (x0.length : Int) then (if 0 ≤ x5 then (if x5 < (x1.length : Int) then (if (!(((rd_T32 x0 x5).f0) == ((rd_T32 x1 x5).f0)) || (!(((rd_T32 x0 x5).f1) == ((rd_T32 x1 x5).f1)) || (!((((rd_T32 x0 x5).f2).toList) == (((rd_T32 x1 x5).f2).toList))))) = true then (some false) else (r16_Same.l0 k x0 x1 (wrap64 (x5 + 1)))) else (none)) else (none)) else (some true)
def r16_Same.f (k : Nat) (l0 : List (S32)) (l1 : List (S32)) : Option (Bool) := if (l0.length : Int) = (l1.length : Int) then (r16_Same.l0 k l0 l1 0) else (some false)
theorem r16_Same.mono_l : ∀ k, (∀ y0 y1 y2, LeO (r16_Same.l0 k y0 y1 y2) (r16_Same.l0 (k + 1) y0 y1 y2))
 | 0 => fun _ _ _ r h => by simp [r16_Same.l0] at h
 | k + 1 => by
  have ih0 := r16_Same.mono_l k
  ·intro y0 y1 y2
   unfold r16_Same.l0
   repeat' (with_reducible first | exact ih0 _ _ _ | exact LeO.refl _ | exact LeO.none _ | refine LeO.ite ?_ ?_ | refine LeO.bind ?_ (fun _ => ?_))
theorem r16_Same.mono : ∀ a0 a1 k, LeO (r16_Same.f k a0 a1) (r16_Same.f (k + 1) a0 a1) := by
 intro a0 a1 k
 have ih0 := r16_Same.mono_l k
 unfold r16_Same.f
 repeat' (with_reducible first | exact ih0 _ _ _ | exact LeO.refl _ | exact LeO.none _ | refine LeO.ite ?_ ?_ | refine LeO.bind ?_ (fun _ => ?_))
set_option maxHeartbeats 8000000 in
set_option maxRecDepth 100000 in
theorem r16_Same.calls (k : Nat) (A0 : Option Addr) (c0 : Nat) (l0 : List (S32)) (A1 : Option Addr) (c1 : Nat) (l1 : List (S32)) (r : Bool) (w : World) (hT : Tabs w) (hr0 : Kd.C k32 w A0 l0.length l0) (hc0 : l0.length ≤ c0) (hr1 : Kd.C k32 w A1 l1.length l1) (hc1 : l1.length ≤ c1) (h : r16_Same.f k l0 l1 = some r) :
  Calls Tryz.prog 13 #[.slice A0 l0.length c0, .slice A1 l1.length c1] w fun e w' => e = .returned (.bool r) ∧ Drawn0 w w' := by
 have hu32 := Tryz.underlying32
 have HR0 := xy hr0
 have HC0 := xy hc0
 clear hr0 hc0
 have HR1 := xy hr1
 have HC1 := xy hc1
 clear hr1 hc1
 unfold r16_Same.f at h
 have H := h
 clear h
 by_cases c3 : (l0.length : Int) = (l1.length : Int)
 ·rw [if_pos c3] at H
  have c3b0 : ((l0.length : Int) == (l1.length : Int)) = true := beq_iff_eq.mpr c3
  have c3b1 : ((l0.length : Int) != (l1.length : Int)) = false := bne_eq_false_iff_eq.mpr c3
  have c3b2 : (l0.length == l1.length) = true := by first | simpa using c3 | (simp at c3 ⊢; omega)
  clear c3
  have H' := xy H
  clear H
  go_enter Tryz.func13, Tryz.ntmps13
  go_wp2
  repeat (go_quiet (fail); try go_wp2)
  go_loopg [5] k (fun kq v5 w' => ∃ (x5_1 : Int), v5 = .int .i64 x5_1 ∧ Aside0 (r16_Same.l0 kq l0 l1 x5_1 = some r) ∧ Aside0 (kq ≤ k) ∧ Drawn0 w w')
  case atStart => exact ⟨(0), xg, H', ⟨Nat.le_refl _⟩, by repeat (first | exact Drawn0.refl _ | apply Drawn0.step)⟩
  case round =>
   clear H'
   try clear c1
   try clear p2
   try clear c3
   try clear c3b0
   try clear c3b1
   try clear c3b2
   obtain ⟨x5_1, rfl, HA, HK1, ⟨m1, rfl⟩⟩ := hrel
   cases gk with
   | zero => exact absurd HA.out (by simp [r16_Same.l0])
   | succ k1 =>
    have H := HA.out
    clear HA
    simp only [r16_Same.l0] at H
    by_cases c4 : x5_1 < (l0.length : Int)
    ·rw [if_pos c4] at H
     have c4b0 : decide (x5_1 < (l0.length : Int)) = true := decide_eq_true c4
     clear c4
     by_cases c5 : 0 ≤ x5_1
     ·rw [if_pos c5] at H
      have c5b0 : decide (0 ≤ x5_1) = true := decide_eq_true c5
      clear c5
      by_cases c6 : x5_1 < (l1.length : Int)
      ·rw [if_pos c6] at H
       have c6b0 : decide (x5_1 < (l1.length : Int)) = true := decide_eq_true c6
       clear c6
       by_cases c7 : (!(((rd_T32 l0 x5_1).f0) == ((rd_T32 l1 x5_1).f0)) || (!(((rd_T32 l0 x5_1).f1) == ((rd_T32 l1 x5_1).f1)) || (!((((rd_T32 l0 x5_1).f2).toList) == (((rd_T32 l1 x5_1).f2).toList))))) = true
       ·rw [if_pos c7] at H
        have c7b0 : (!(((rd_T32 l0 x5_1).f0) == ((rd_T32 l1 x5_1).f0)) || (!(((rd_T32 l0 x5_1).f1) == ((rd_T32 l1 x5_1).f1)) || (!((((rd_T32 l0 x5_1).f2).toList) == (((rd_T32 l1 x5_1).f2).toList))))) = true := c7
        clear c7
        obtain rfl := Option.some.inj H
        have p519 : 0 ≤ (x5_1 : Int) := xi
        have q519 : x5_1 < (l0.length : Int) := xi
        obtain ⟨ad519, e519, hx519_0, hx519_1, hx519_2⟩ := at_T32 HR0.out x5_1 p519 q519
        cases e519
        replace p519 := eq_true p519
        replace q519 := eq_true q519
        have p520 : 0 ≤ (x5_1 : Int) := xi
        have q520 : x5_1 < (l1.length : Int) := xi
        obtain ⟨ad520, e520, hx520_0, hx520_1, hx520_2⟩ := at_T32 HR1.out x5_1 p520 q520
        cases e520
        replace p520 := eq_true p520
        replace q520 := eq_true q520
        go_wp2
        repeat (go_quiet (fail); try go_wp2)
        go_ret
        exact ⟨xg, xz⟩
       ·rw [if_neg c7] at H
        have c7b0 : (!(((rd_T32 l0 x5_1).f0) == ((rd_T32 l1 x5_1).f0)) || (!(((rd_T32 l0 x5_1).f1) == ((rd_T32 l1 x5_1).f1)) || (!((((rd_T32 l0 x5_1).f2).toList) == (((rd_T32 l1 x5_1).f2).toList))))) = false := by simpa using c7
        clear c7
        have H' := xy H
        clear H
        have p519 : 0 ≤ (x5_1 : Int) := xi
        have q519 : x5_1 < (l0.length : Int) := xi
        obtain ⟨ad519, e519, hx519_0, hx519_1, hx519_2⟩ := at_T32 HR0.out x5_1 p519 q519
        cases e519
        replace p519 := eq_true p519
        replace q519 := eq_true q519
        have p520 : 0 ≤ (x5_1 : Int) := xi
        have q520 : x5_1 < (l1.length : Int) := xi
        obtain ⟨ad520, e520, hx520_0, hx520_1, hx520_2⟩ := at_T32 HR1.out x5_1 p520 q520
        cases e520
        replace p520 := eq_true p520
        replace q520 := eq_true q520
        go_wp2
        repeat (go_quiet (fail); try go_wp2)
        go_roundg k1
        case measure => have := HK1.out; omega
        case rel => exact ⟨(wrap64 (x5_1 + 1)), xg, H', ⟨by have := HK1.out; omega⟩, by repeat (first | exact Drawn0.refl _ | apply Drawn0.step)⟩
      ·rw [if_neg c6] at H
       exact absurd H (by simp)
     ·rw [if_neg c5] at H
      exact absurd H (by simp)
    ·rw [if_neg c4] at H
     have c4b0 : decide (x5_1 < (l0.length : Int)) = false := decide_eq_false c4
     clear c4
     obtain rfl := Option.some.inj H
     go_wp2
     repeat (go_quiet (fail); try go_wp2)
     go_ret
     exact ⟨xg, xz⟩
 ·rw [if_neg c3] at H
  have c3b0 : ((l0.length : Int) == (l1.length : Int)) = false := beq_eq_false_iff_ne.mpr c3
  have c3b1 : ((l0.length : Int) != (l1.length : Int)) = true := bne_iff_ne.mpr c3
  have c3b2 : (l0.length == l1.length) = false := by first | simpa using c3 | (simp at c3 ⊢; omega)
  obtain rfl := Option.some.inj H
  go_enter Tryz.func13, Tryz.ntmps13
  go_wp2
  repeat (go_quiet (fail); try go_wp2)
  go_ret
  exact ⟨xg, xz⟩
end
end Go.Proofs.YtnodgcakmolleaaGreatDoor.PX
