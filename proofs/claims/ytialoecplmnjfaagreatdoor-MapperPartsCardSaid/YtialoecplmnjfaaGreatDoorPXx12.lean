/- Walked functions, by this session's program over the kit's print. -/
import Derived.Test.YtialoecplmnjfaaGreatDoorXD
import Derived.Test.YtialoecplmnjfaaGreatDoorPXx0
import Derived.Test.YtialoecplmnjfaaGreatDoorPXx5
import Derived.Test.YtialoecplmnjfaaGreatDoorPXx7
import Derived.Test.YtialoecplmnjfaaGreatDoorPXx9
namespace Go.Proofs.YtialoecplmnjfaaGreatDoor.PX
open Go.RowKit Go.Proofs.YtialoecplmnjfaaGreatDoorW.PrintWords Go.Proofs.YtialoecplmnjfaaGreatDoorW.PrintLast Go.Proofs.YtialoecplmnjfaaGreatDoorW.PrintMore
attribute [local go_sem] xm_gtr max2_int min2_int max_two min_two max_three min_three max_four min_four
set_option linter.unusedVariables false
set_option linter.unusedSimpArgs false
/- Walked functions, by this session's program over the kit's print. -/
def eval_Run.TX (x : ByteArray) : Option XEval.Sv := (value_Text.f x).map fun p => ⟨p.1, p.2.1, p.2.2⟩
def eval_Run.DO (k : Nat) (o : Int) (l : List XEval.Sv) : Option (XEval.Sv × Int) := none
theorem eval_Run.DO_mono (k : Nat) : ∀ o l y, eval_Run.DO k o l = some y → eval_Run.DO (k + 1) o l = some y := fun o l y h => by cases h
theorem eval_Run.env (k : Nat) : XEval.Env Tabs eval_Run.TX (eval_Run.DO k) where
 tb := fun w w' h hb => h.below hb
 num := fun n w hT => value_Num.calls n _ _ _ w hT rfl
 text := fun x y w hT h => by
  obtain ⟨⟨p1, p2, p3⟩, h1, rfl⟩ := Option.map_eq_some_iff.1 h
  exact value_Text.calls x _ _ _ w hT h1
 do_ := fun o l y er A c w hT hr hc h => by cases h
def eval_Run.f (k : Nat) (l0 : List (S50)) (l1 : List ByteArray) (a2 : Int) : Option ((List (S24)) × Int × Int) := (check_Stack.f l0 []).bind fun st =>
 if st.2.2 = 0 then (if l0.length ≤ 10000 ∧ a2 ≤ 9223372036854775807 then (XEval.runE eval_Run.TX (eval_Run.DO k) l1 [] l0 [] a2).map fun q => if q.2.2 = 0 then (q.1, q.2.1, q.2.2) else ([], 0, q.2.2) else none) else some ([], a2, st.2.2)
theorem eval_Run.mono : ∀ a0 a1 a2 k, LeO (eval_Run.f k a0 a1 a2) (eval_Run.f (k + 1) a0 a1 a2) := by
 intro a0 a1 a2 k r h
 unfold eval_Run.f at h ⊢
 obtain ⟨st, hst, h⟩ := Option.bind_eq_some_iff.1 h
 refine Option.bind_eq_some_iff.2 ⟨st, hst, ?_⟩
 by_cases c : st.2.2 = 0
 ·rw [if_pos c] at h ⊢
  by_cases c2 : a0.length ≤ 10000 ∧ a2 ≤ 9223372036854775807
  ·rw [if_pos c2] at h ⊢
   obtain ⟨q, hq, h⟩ := Option.map_eq_some_iff.1 h
   exact Option.map_eq_some_iff.2 ⟨q, XEval.runE_mono (eval_Run.DO_mono k) _ _ _ hq, h⟩
  ·rw [if_neg c2] at h; cases h
 ·rw [if_neg c] at h ⊢; exact h
theorem eval_Run.calls (k : Nat) (A0 : Option Addr) (c0 : Nat) (l0 : List (S50)) (A1 : Option Addr) (c1 : Nat) (l1 : List ByteArray) (a2 : Int) (r1 : List (S24)) (r2 : Int) (r3 : Int) (w : World) (hT : Tabs w) (hr0 : Kd.C k50 w A0 l0.length l0) (hc0 : l0.length ≤ c0) (hr1 : Kd.C Kd.string w A1 l1.length l1) (hc1 : l1.length ≤ c1) (h : eval_Run.f k l0 l1 a2 = some (r1, r2, r3)) :
  Calls Tryz.prog 41 #[.slice A0 l0.length c0, .slice A1 l1.length c1, .int .i64 a2] w fun e w' => ∃ v0_ : Value, e = .returned (.tuple #[v0_, .int .i64 r2, .int .i64 r3]) ∧ Kd.R k24 24 w' w.heap.size (fun _ => True) v0_ r1 ∧ Below w.heap.size w w' := by
 unfold eval_Run.f at h
 obtain ⟨⟨ks, ne, es⟩, hst, h⟩ := Option.bind_eq_some_iff.1 h
 have hS := (check_Stack.calls A0 c0 l0 none 0 [] ks ne es w hT hr0 hc0 (XEval.C_nilB w) (Nat.le_refl _) hst).mono fun e w' he => (⟨he.choose, he.choose_spec.1, he.choose_spec.2.2⟩ : ∃ v, e = Ending.returned (.tuple #[v, .int .i64 ne, .int .i64 es]) ∧ Below w.heap.size w w')
 dsimp only at h
 by_cases c : es = 0
 ·rw [if_pos c] at h
  subst c
  by_cases c2 : l0.length ≤ 10000 ∧ a2 ≤ 9223372036854775807
  ·rw [if_pos c2] at h
   obtain ⟨⟨s', u', er⟩, hq, h⟩ := Option.map_eq_some_iff.1 h
   have := XEval.Run_ok (eval_Run.env k) (rc := c1) hr1 hT A0 c0 l0 hr0 c2.1 c2.2 hS hq
   dsimp only at h
   by_cases c3 : er = 0
   ·rw [if_pos c3] at h
    rw [if_pos c3, if_pos c3] at this
    simp only [Prod.mk.injEq] at h
    obtain ⟨rfl, rfl, rfl⟩ := h
    exact this
   ·rw [if_neg c3] at h
    rw [if_neg c3, if_neg c3] at this
    simp only [Prod.mk.injEq] at h
    obtain ⟨rfl, rfl, rfl⟩ := h
    exact this
  ·rw [if_neg c2] at h; cases h
 ·rw [if_neg c] at h
  have h := Option.some.inj h
  simp only [Prod.mk.injEq] at h
  obtain ⟨rfl, rfl, rfl⟩ := h
  exact XEval.Run_err A0 c0 l0.length (.slice A1 l1.length c1) a2 c hS
def eval_One.f (k : Nat) (l0 : List (S50)) (l1 : List ByteArray) (a2 : Int) : Option (Bool × Int × ByteArray × Int × Int) := (check_Stack.f l0 ([] : List Bool)).bind fun bt199 => (if bt199.2.2 = 0 then (if (bt199.1.length : Int) = 1 then ((eval_Run.f k l0 l1 a2).bind fun bt204 => (if bt204.2.2 = 0 then (if 0 < (bt204.1.length : Int) then (some ((rd_T24 bt204.1 0).f0, (rd_T24 bt204.1 0).f1, (rd_T24 bt204.1 0).f2, bt204.2.1, 0)) else (none)) else (some (false, 0, (⟨#[]⟩ : ByteArray), bt204.2.1, bt204.2.2)))) else (some (false, 0, (⟨#[]⟩ : ByteArray), a2, 11))) else (some (false, 0, (⟨#[]⟩ : ByteArray), a2, bt199.2.2)))
theorem eval_One.mono : ∀ a0 a1 a2 k, LeO (eval_One.f k a0 a1 a2) (eval_One.f (k + 1) a0 a1 a2) := by
 intro a0 a1 a2 k
 unfold eval_One.f
 repeat' (with_reducible first | exact eval_Run.mono _ _ _ _ | exact LeO.refl _ | exact LeO.none _ | refine LeO.ite ?_ ?_ | refine LeO.bind ?_ (fun _ => ?_))
set_option maxHeartbeats 8000000 in
set_option maxRecDepth 100000 in
theorem eval_One.calls (k : Nat) (A0 : Option Addr) (c0 : Nat) (l0 : List (S50)) (A1 : Option Addr) (c1 : Nat) (l1 : List ByteArray) (a2 : Int) (r1 : Bool) (r2 : Int) (r3 : ByteArray) (r4 : Int) (r5 : Int) (w : World) (hT : Tabs w) (hr0 : Kd.C k50 w A0 l0.length l0) (hc0 : l0.length ≤ c0) (hr1 : Kd.C Kd.string w A1 l1.length l1) (hc1 : l1.length ≤ c1) (h : eval_One.f k l0 l1 a2 = some (r1, r2, r3, r4, r5)) :
  Calls Tryz.prog 35 #[.slice A0 l0.length c0, .slice A1 l1.length c1, .int .i64 a2] w fun e w' => e = .returned (.tuple #[.agg #[.bool r1, .int .i64 r2, .string r3], .int .i64 r4, .int .i64 r5]) ∧ Below w.heap.size w w' := by
 have hu24 := Tryz.underlying24
 have HR0 := xy hr0
 have HC0 := xy hc0
 clear hr0 hc0
 have HR1 := xy hr1
 have HC1 := xy hc1
 clear hr1 hc1
 have HB := xy (Below.refl w.heap.size w)
 unfold eval_One.f at h
 have H := h
 clear h
 replace H := xj H
 obtain ⟨⟨t199, t200, t201⟩, A40, H⟩ := H
 try dsimp only at H
 have A4 := xy A40
 clear A40
 by_cases c5 : t201 = 0
 ·rw [if_pos c5] at H
  have c5b0 : (t201 == 0) = true := beq_iff_eq.mpr c5
  have c5b1 : (t201 != 0) = false := bne_eq_false_iff_eq.mpr c5
  clear c5
  by_cases c6 : (t199.length : Int) = 1
  ·rw [if_pos c6] at H
   have c6b0 : ((t199.length : Int) == 1) = true := beq_iff_eq.mpr c6
   have c6b1 : ((t199.length : Int) != 1) = false := bne_eq_false_iff_eq.mpr c6
   clear c6
   replace H := xj H
   obtain ⟨⟨t204, t205, t206⟩, A70, H⟩ := H
   try dsimp only at H
   have A7 := xy A70
   clear A70
   by_cases c8 : t206 = 0
   ·rw [if_pos c8] at H
    have c8b0 : (t206 == 0) = true := beq_iff_eq.mpr c8
    have c8b1 : (t206 != 0) = false := bne_eq_false_iff_eq.mpr c8
    clear c8
    by_cases c9 : 0 < (t204.length : Int)
    ·rw [if_pos c9] at H
     have c9b0 : decide (0 < (t204.length : Int)) = true := decide_eq_true c9
     have c9b1 : decide (0 < t204.length) = true := decide_eq_true (by omega)
     clear c9
     simp only [Option.some.injEq, Prod.mk.injEq] at H
     obtain ⟨rfl, rfl, rfl, rfl, rfl⟩ := H
     go_enter Tryz.func35, Tryz.ntmps35
     go_wp2_with (first | ((with_reducible refine gate_dst (N := 6) rfl ?_); refine xq (N := 6) (cs := #[.bool false, .int .i64 0, .string (⟨#[]⟩ : ByteArray)]) (t := 24) ?_; intro gb198 hg w10 hbox hb; have BK198 := xy (hbox); have GW198 := xs w hg; have GE198 := xs w hg; replace HB := xy (below_step xb hb); clear hb hbox hg) | ((with_reducible refine gate_callee (f := 40) rfl ?_); refine goesL_ (some 16) rfl rfl Tryz.func40 (by kernel_rfl) rfl #[.slice A0 l0.length c0, .slice none 0 0] rfl xr ?_; (refine (check_Stack.calls _ _ l0 _ _ ([] : List Bool) t199 t200 t201 _ (Tabs.below hT xf) ?side1 ?side2 ?side3 ?side4 A4.out).mono ?_); (case side1 => exact Kd.C_below HR0.out xb); (case side2 => exact HC0.out); (case side3 => exact Kd.C_nil _ _); (case side4 => exact Nat.le_refl _); rintro e w11 ⟨v202, rfl, ho0, hb⟩; refine ⟨_, rfl, ?_⟩; have HO203 := xy (Kd.R_lower ho0 (below_size xb)); replace BK198 := xd BK198.out hb; replace HB := xy (below_step xb hb); (try clear hb); (try clear hb2); (try clear hk); (try clear hi); (try clear ho0); obtain ⟨Ao12, co12, eo12⟩ := Kd.R_slice HO203.out; subst eo12) | ((with_reducible refine gate_callee (f := 41) rfl ?_); refine goesL_ (some 36) rfl rfl Tryz.func41 (by kernel_rfl) rfl #[.slice A0 l0.length c0, .slice A1 l1.length c1, .int .i64 a2] rfl xr ?_; (with_reducible refine (eval_Run.calls k _ _ l0 _ _ l1 a2 t204 t205 t206 _ (Tabs.below hT xf) ?side1 ?side2 ?side3 ?side4 A7.out).mono ?_); (case side1 => exact Kd.C_below HR0.out xb); (case side2 => exact HC0.out); (case side3 => exact Kd.C_below HR1.out xb); (case side4 => exact HC1.out); rintro e w13 ⟨v207, rfl, ho0, hb⟩; refine ⟨_, rfl, ?_⟩; replace HO203 := xy (Kd.R_below (xo HO203.out) hb); have HO208 := xy (Kd.R_lower (Kd.R_newB ho0 (g := gb198) (o := .cells #[.bool false, .int .i64 0, .string (⟨#[]⟩ : ByteArray)] 24 (0, 0)) (xk BK198.out)) (below_size xb)); replace BK198 := xd BK198.out hb; replace HB := xy (below_step xb hb); (try clear hb); (try clear hb2); (try clear hk); (try clear hi); (try clear ho0); obtain ⟨Ao14, co14, eo14⟩ := Kd.R_slice HO208.out; subst eo14; have p209 : 0 ≤ (0 : Int) := (by omega); have q209 : 0 < (t204.length : Int) := xi; obtain ⟨ad209, e209, hx209_0, hx209_1, hx209_2⟩ := at_T24 (Kd.R_reads' HO208.out).2.2 0 p209 q209; cases e209; have qi209 : (0 < t204.length) = True := eq_true (by omega); (try rw [show ((0 : Int)).toNat = 0 from rfl] at hx209_0); (try rw [show 0 * 3 = 0 from rfl] at hx209_0); (try rw [Addr.add_zero'] at hx209_0); (try rw [show ((0 : Int)).toNat = 0 from rfl] at hx209_1); (try rw [show 0 * 3 = 0 from rfl] at hx209_1); (try rw [Addr.add_zero'] at hx209_1); (try rw [show ((0 : Int)).toNat = 0 from rfl] at hx209_2); (try rw [show 0 * 3 = 0 from rfl] at hx209_2); (try rw [Addr.add_zero'] at hx209_2); replace p209 := eq_true p209; replace q209 := eq_true q209; have hcz15_0 : w13.cell? ⟨gb198, 0, none⟩ = some (.bool false) := (kc BK198.out 0).trans rfl; have hcz15_1 : w13.cell? ⟨gb198, 1, none⟩ = some (.int .i64 0) := (kc BK198.out 1).trans rfl; have hcz15_2 : w13.cell? ⟨gb198, 2, none⟩ = some (.string (⟨#[]⟩ : ByteArray)) := (kc BK198.out 2).trans rfl; have hfz15_0 := kf BK198.out 0; have hfz15_1 := kf BK198.out 1; have hfz15_2 := kf BK198.out 2))
     refine bodyPost_ret (results_ctt rfl _ _ gb198 24 #[.bool ((rd_T24 t204 0).f0), .int .i64 ((rd_T24 t204 0).f1), .string ((rd_T24 t204 0).f2)] (0, 0) _ rfl (kp BK198.out) Tryz.underlying24 rfl (by kernel_rfl)) rfl ?_
     exact ⟨xe, xb⟩
    ·rw [if_neg c9] at H
     exact absurd H (by simp)
   ·rw [if_neg c8] at H
    have c8b0 : (t206 == 0) = false := beq_eq_false_iff_ne.mpr c8
    have c8b1 : (t206 != 0) = true := bne_iff_ne.mpr c8
    simp only [Option.some.injEq, Prod.mk.injEq] at H
    obtain ⟨rfl, rfl, rfl, rfl, rfl⟩ := H
    go_enter Tryz.func35, Tryz.ntmps35
    go_wp2_with (first | ((with_reducible refine gate_dst (N := 6) rfl ?_); refine xq (N := 6) (cs := #[.bool false, .int .i64 0, .string (⟨#[]⟩ : ByteArray)]) (t := 24) ?_; intro gb198 hg w16 hbox hb; have BK198 := xy (hbox); have GW198 := xs w hg; have GE198 := xs w hg; replace HB := xy (below_step xb hb); clear hb hbox hg) | ((with_reducible refine gate_callee (f := 40) rfl ?_); refine goesL_ (some 16) rfl rfl Tryz.func40 (by kernel_rfl) rfl #[.slice A0 l0.length c0, .slice none 0 0] rfl xr ?_; (refine (check_Stack.calls _ _ l0 _ _ ([] : List Bool) t199 t200 t201 _ (Tabs.below hT xf) ?side1 ?side2 ?side3 ?side4 A4.out).mono ?_); (case side1 => exact Kd.C_below HR0.out xb); (case side2 => exact HC0.out); (case side3 => exact Kd.C_nil _ _); (case side4 => exact Nat.le_refl _); rintro e w17 ⟨v202, rfl, ho0, hb⟩; refine ⟨_, rfl, ?_⟩; have HO203 := xy (Kd.R_lower ho0 (below_size xb)); replace BK198 := xd BK198.out hb; replace HB := xy (below_step xb hb); (try clear hb); (try clear hb2); (try clear hk); (try clear hi); (try clear ho0); obtain ⟨Ao18, co18, eo18⟩ := Kd.R_slice HO203.out; subst eo18) | ((with_reducible refine gate_callee (f := 41) rfl ?_); refine goesL_ (some 36) rfl rfl Tryz.func41 (by kernel_rfl) rfl #[.slice A0 l0.length c0, .slice A1 l1.length c1, .int .i64 a2] rfl xr ?_; (with_reducible refine (eval_Run.calls k _ _ l0 _ _ l1 a2 t204 t205 t206 _ (Tabs.below hT xf) ?side1 ?side2 ?side3 ?side4 A7.out).mono ?_); (case side1 => exact Kd.C_below HR0.out xb); (case side2 => exact HC0.out); (case side3 => exact Kd.C_below HR1.out xb); (case side4 => exact HC1.out); rintro e w19 ⟨v207, rfl, ho0, hb⟩; refine ⟨_, rfl, ?_⟩; replace HO203 := xy (Kd.R_below (xo HO203.out) hb); have HO208 := xy (Kd.R_lower (Kd.R_newB ho0 (g := gb198) (o := .cells #[.bool false, .int .i64 0, .string (⟨#[]⟩ : ByteArray)] 24 (0, 0)) (xk BK198.out)) (below_size xb)); replace BK198 := xd BK198.out hb; replace HB := xy (below_step xb hb); (try clear hb); (try clear hb2); (try clear hk); (try clear hi); (try clear ho0); have hcz20_0 : w19.cell? ⟨gb198, 0, none⟩ = some (.bool false) := (kc BK198.out 0).trans rfl; have hcz20_1 : w19.cell? ⟨gb198, 1, none⟩ = some (.int .i64 0) := (kc BK198.out 1).trans rfl; have hcz20_2 : w19.cell? ⟨gb198, 2, none⟩ = some (.string (⟨#[]⟩ : ByteArray)) := (kc BK198.out 2).trans rfl; have hfz20_0 := kf BK198.out 0; have hfz20_1 := kf BK198.out 1; have hfz20_2 := kf BK198.out 2))
    refine bodyPost_ret (results_ctt rfl _ _ gb198 24 #[.bool false, .int .i64 0, .string (⟨#[]⟩ : ByteArray)] (0, 0) _ rfl (kp BK198.out) Tryz.underlying24 rfl (by kernel_rfl)) rfl ?_
    exact ⟨xe, xb⟩
  ·rw [if_neg c6] at H
   have c6b0 : ((t199.length : Int) == 1) = false := beq_eq_false_iff_ne.mpr c6
   have c6b1 : ((t199.length : Int) != 1) = true := bne_iff_ne.mpr c6
   simp only [Option.some.injEq, Prod.mk.injEq] at H
   obtain ⟨rfl, rfl, rfl, rfl, rfl⟩ := H
   go_enter Tryz.func35, Tryz.ntmps35
   go_wp2_with (first | ((with_reducible refine gate_dst (N := 6) rfl ?_); refine xq (N := 6) (cs := #[.bool false, .int .i64 0, .string (⟨#[]⟩ : ByteArray)]) (t := 24) ?_; intro gb198 hg w21 hbox hb; have BK198 := xy (hbox); have GW198 := xs w hg; have GE198 := xs w hg; replace HB := xy (below_step xb hb); clear hb hbox hg) | ((with_reducible refine gate_callee (f := 40) rfl ?_); refine goesL_ (some 16) rfl rfl Tryz.func40 (by kernel_rfl) rfl #[.slice A0 l0.length c0, .slice none 0 0] rfl xr ?_; (refine (check_Stack.calls _ _ l0 _ _ ([] : List Bool) t199 t200 t201 _ (Tabs.below hT xf) ?side1 ?side2 ?side3 ?side4 A4.out).mono ?_); (case side1 => exact Kd.C_below HR0.out xb); (case side2 => exact HC0.out); (case side3 => exact Kd.C_nil _ _); (case side4 => exact Nat.le_refl _); rintro e w22 ⟨v202, rfl, ho0, hb⟩; refine ⟨_, rfl, ?_⟩; have HO203 := xy (Kd.R_lower ho0 (below_size xb)); replace BK198 := xd BK198.out hb; replace HB := xy (below_step xb hb); (try clear hb); (try clear hb2); (try clear hk); (try clear hi); (try clear ho0); obtain ⟨Ao23, co23, eo23⟩ := Kd.R_slice HO203.out; subst eo23; have hcz24_0 : w22.cell? ⟨gb198, 0, none⟩ = some (.bool false) := (kc BK198.out 0).trans rfl; have hcz24_1 : w22.cell? ⟨gb198, 1, none⟩ = some (.int .i64 0) := (kc BK198.out 1).trans rfl; have hcz24_2 : w22.cell? ⟨gb198, 2, none⟩ = some (.string (⟨#[]⟩ : ByteArray)) := (kc BK198.out 2).trans rfl; have hfz24_0 := kf BK198.out 0; have hfz24_1 := kf BK198.out 1; have hfz24_2 := kf BK198.out 2))
   refine bodyPost_ret (results_ctt rfl _ _ gb198 24 #[.bool false, .int .i64 0, .string (⟨#[]⟩ : ByteArray)] (0, 0) _ rfl (kp BK198.out) Tryz.underlying24 rfl (by kernel_rfl)) rfl ?_
   exact ⟨xe, xb⟩
 ·rw [if_neg c5] at H
  have c5b0 : (t201 == 0) = false := beq_eq_false_iff_ne.mpr c5
  have c5b1 : (t201 != 0) = true := bne_iff_ne.mpr c5
  simp only [Option.some.injEq, Prod.mk.injEq] at H
  obtain ⟨rfl, rfl, rfl, rfl, rfl⟩ := H
  go_enter Tryz.func35, Tryz.ntmps35
  go_wp2_with (first | ((with_reducible refine gate_dst (N := 6) rfl ?_); refine xq (N := 6) (cs := #[.bool false, .int .i64 0, .string (⟨#[]⟩ : ByteArray)]) (t := 24) ?_; intro gb198 hg w25 hbox hb; have BK198 := xy (hbox); have GW198 := xs w hg; have GE198 := xs w hg; replace HB := xy (below_step xb hb); clear hb hbox hg) | ((with_reducible refine gate_callee (f := 40) rfl ?_); refine goesL_ (some 16) rfl rfl Tryz.func40 (by kernel_rfl) rfl #[.slice A0 l0.length c0, .slice none 0 0] rfl xr ?_; (refine (check_Stack.calls _ _ l0 _ _ ([] : List Bool) t199 t200 t201 _ (Tabs.below hT xf) ?side1 ?side2 ?side3 ?side4 A4.out).mono ?_); (case side1 => exact Kd.C_below HR0.out xb); (case side2 => exact HC0.out); (case side3 => exact Kd.C_nil _ _); (case side4 => exact Nat.le_refl _); rintro e w26 ⟨v202, rfl, ho0, hb⟩; refine ⟨_, rfl, ?_⟩; have HO203 := xy (Kd.R_lower ho0 (below_size xb)); replace BK198 := xd BK198.out hb; replace HB := xy (below_step xb hb); (try clear hb); (try clear hb2); (try clear hk); (try clear hi); (try clear ho0); have hcz27_0 : w26.cell? ⟨gb198, 0, none⟩ = some (.bool false) := (kc BK198.out 0).trans rfl; have hcz27_1 : w26.cell? ⟨gb198, 1, none⟩ = some (.int .i64 0) := (kc BK198.out 1).trans rfl; have hcz27_2 : w26.cell? ⟨gb198, 2, none⟩ = some (.string (⟨#[]⟩ : ByteArray)) := (kc BK198.out 2).trans rfl; have hfz27_0 := kf BK198.out 0; have hfz27_1 := kf BK198.out 1; have hfz27_2 := kf BK198.out 2))
  refine bodyPost_ret (results_ctt rfl _ _ gb198 24 #[.bool false, .int .i64 0, .string (⟨#[]⟩ : ByteArray)] (0, 0) _ rfl (kp BK198.out) Tryz.underlying24 rfl (by kernel_rfl)) rfl ?_
  exact ⟨xe, xb⟩
def eval_Yes.f (k : Nat) (l0 : List (S50)) (l1 : List ByteArray) (a2 : Int) : Option (Bool × Int × Int) := if (l0.length : Int) = 0 then (some (true, a2, 0)) else ((check_Check.f k l0 ([] : List Bool) (([false] : List Bool))).bind fun t213 => (if t213 = 0 then ((eval_One.f k l0 l1 a2).bind fun bt214 => (some ((bt214.2.1 != 0), bt214.2.2.2.1, bt214.2.2.2.2))) else (some (false, a2, t213))))
theorem eval_Yes.mono : ∀ a0 a1 a2 k, LeO (eval_Yes.f k a0 a1 a2) (eval_Yes.f (k + 1) a0 a1 a2) := by
 intro a0 a1 a2 k
 unfold eval_Yes.f
 repeat' (with_reducible first | exact check_Check.mono _ _ _ _ | exact eval_One.mono _ _ _ _ | exact LeO.refl _ | exact LeO.none _ | refine LeO.ite ?_ ?_ | refine LeO.bind ?_ (fun _ => ?_))
set_option maxHeartbeats 8000000 in
set_option maxRecDepth 100000 in
theorem eval_Yes.calls (k : Nat) (A0 : Option Addr) (c0 : Nat) (l0 : List (S50)) (A1 : Option Addr) (c1 : Nat) (l1 : List ByteArray) (a2 : Int) (r1 : Bool) (r2 : Int) (r3 : Int) (w : World) (hT : Tabs w) (hr0 : Kd.C k50 w A0 l0.length l0) (hc0 : l0.length ≤ c0) (hr1 : Kd.C Kd.string w A1 l1.length l1) (hc1 : l1.length ≤ c1) (h : eval_Yes.f k l0 l1 a2 = some (r1, r2, r3)) :
  Calls Tryz.prog 34 #[.slice A0 l0.length c0, .slice A1 l1.length c1, .int .i64 a2] w fun e w' => e = .returned (.tuple #[.bool r1, .int .i64 r2, .int .i64 r3]) ∧ Below w.heap.size w w' := by
 have hu24 := Tryz.underlying24
 have HR0 := xy hr0
 have HC0 := xy hc0
 clear hr0 hc0
 have HR1 := xy hr1
 have HC1 := xy hc1
 clear hr1 hc1
 have HB := xy (Below.refl w.heap.size w)
 unfold eval_Yes.f at h
 have H := h
 clear h
 by_cases c4 : (l0.length : Int) = 0
 ·rw [if_pos c4] at H
  have c4b0 : ((l0.length : Int) == 0) = true := beq_iff_eq.mpr c4
  have c4b1 : ((l0.length : Int) != 0) = false := bne_eq_false_iff_eq.mpr c4
  clear c4
  simp only [Option.some.injEq, Prod.mk.injEq] at H
  obtain ⟨rfl, rfl, rfl⟩ := H
  go_enter Tryz.func34, Tryz.ntmps34
  go_wp2
  go_ret3
  exact ⟨xe, xb⟩
 ·rw [if_neg c4] at H
  have c4b0 : ((l0.length : Int) == 0) = false := beq_eq_false_iff_ne.mpr c4
  have c4b1 : ((l0.length : Int) != 0) = true := bne_iff_ne.mpr c4
  have c4b2 : ¬ (l0 = []) := fun h_ => c4 (by rw [h_]; rfl)
  obtain ⟨y210, hy210⟩ : ∃ y_ : List Bool, y_ = (([false] : List Bool)) := ⟨_, rfl⟩
  replace H : ((check_Check.f k l0 ([] : List Bool) y210).bind fun t213 => (if t213 = 0 then ((eval_One.f k l0 l1 a2).bind fun bt214 => (some ((bt214.2.1 != 0), bt214.2.2.2.1, bt214.2.2.2.2))) else (some (false, a2, t213)))) = some (r1, r2, r3) := by first | (rw [hy210]; with_reducible exact H) | (have H2_ := (Option.bind_some _ _).symm.trans H; rw [hy210]; with_reducible exact H2_) | (have H2_ := (Option.bind_some _ _).symm.trans H; with_reducible exact H2_) | with_reducible exact H | (rw [hy210]; exact H) | exact H
  have Ny210 := xy hy210
  clear hy210
  replace H := xj H
  obtain ⟨t213, A50, H⟩ := H
  try dsimp only at H
  have A5 := xy A50
  clear A50
  by_cases c6 : t213 = 0
  ·rw [if_pos c6] at H
   have c6b0 : (t213 == 0) = true := beq_iff_eq.mpr c6
   have c6b1 : (t213 != 0) = false := bne_eq_false_iff_eq.mpr c6
   clear c6
   replace H := xj H
   obtain ⟨⟨t214, t215, t216, t217, t218⟩, A70, H⟩ := H
   try dsimp only at H
   have A7 := xy A70
   clear A70
   simp only [Option.some.injEq, Prod.mk.injEq] at H
   obtain ⟨rfl, rfl, rfl⟩ := H
   go_enter Tryz.func34, Tryz.ntmps34
   go_wp2_with (first | ((with_reducible refine gate_dst (N := 18) rfl ?_); refine Kd.R_lit Kd.bool _ 4 ?hg (N := 18) ?hd (xs := ([false] : List Bool)) (inner := [.bool false]) (ok := fun _ => True) (okp := fun _ => True) ?hr ?hp (fun _ hk => hk) trivial (Below.refl _ _) (Nat.le_refl _) (by simp) ?_; (case hd => rfl); (case hg => rfl); (case hr => exact xh); (case hp => exact (Reps.one (show Kd.M Kd.bool _ _ _ false [.bool false] from rfl) (Reps.none _ _))); intro v211 w8 ho9 hb hg_ hnew_; clear hg_ hnew_; (first | rw [← Ny210.out] at ho9 | (simp only [Int.reduceToNat] at ho9; rw [← Ny210.out] at ho9)); have HO212 := xy (Kd.R_lower ho9 (below_size xb)); replace HB := xy (below_step xb hb); clear hb ho9; obtain ⟨Ao10, co10, eo10⟩ := Kd.R_slice HO212.out; subst eo10) | ((with_reducible refine gate_callee (f := 37) rfl ?_); refine goesL_ (some 19) rfl rfl Tryz.func37 (by kernel_rfl) rfl #[.slice A0 l0.length c0, .slice none 0 0, .slice Ao10 y210.length co10] rfl xr ?_; (refine (check_Check.calls k _ _ l0 _ _ ([] : List Bool) _ _ y210 t213 _ (Tabs.below hT xf) ?side1 ?side2 ?side3 ?side4 ?side5 ?side6 A5.out).mono ?_); (case side1 => exact Kd.C_below HR0.out xb); (case side2 => exact HC0.out); (case side3 => exact Kd.C_nil _ _); (case side4 => exact Nat.le_refl _); (case side5 => repeat (first | exact (Kd.R_reads' HO212.out).2.2 | (with_reducible refine Kd.C_alloc ?_ _) | (with_reducible refine Kd.C_drewN ?_ _) | (with_reducible refine Kd.C_drew ?_))); (case side6 => exact (Kd.R_reads' HO212.out).2.1); rintro e w11 ⟨rfl, hb⟩; refine ⟨_, rfl, ?_⟩; replace HO212 := xy (Kd.R_below (xo HO212.out) hb); replace HB := xy (below_step xb hb); (try clear hb); (try clear hb2); (try clear hk); (try clear hi)) | ((with_reducible refine gate_callee (f := 35) rfl ?_); refine goesL_ (some 28) rfl rfl Tryz.func35 (by kernel_rfl) rfl #[.slice A0 l0.length c0, .slice A1 l1.length c1, .int .i64 a2] rfl xr ?_; (with_reducible refine (eval_One.calls k _ _ l0 _ _ l1 a2 t214 t215 t216 t217 t218 _ (Tabs.below hT xf) ?side1 ?side2 ?side3 ?side4 A7.out).mono ?_); (case side1 => exact Kd.C_below HR0.out xb); (case side2 => exact HC0.out); (case side3 => exact Kd.C_below HR1.out xb); (case side4 => exact HC1.out); rintro e w12 ⟨rfl, hb⟩; refine ⟨_, rfl, ?_⟩; replace HO212 := xy (Kd.R_below (xo HO212.out) hb); replace HB := xy (below_step xb hb); (try clear hb); (try clear hb2); (try clear hk); (try clear hi)) | ((with_reducible refine gate_dst (N := 10) rfl ?_); refine xq (N := 10) (cs := #[.bool false, .int .i64 0, .string (⟨#[]⟩ : ByteArray)]) (t := 24) ?_; intro gb219 hg w13 hbox hb; replace HO212 := xy (Kd.R_below (xo HO212.out) hb); have BK219 := xy (hbox); have GW219 := xs w hg; have GE219 := xs w hg; replace HB := xy (below_step xb hb); clear hb hbox hg; have hcz14_0 : w13.cell? ⟨gb219, 0, none⟩ = some (.bool false) := (kc BK219.out 0).trans rfl; have hcz14_1 : w13.cell? ⟨gb219, 1, none⟩ = some (.int .i64 0) := (kc BK219.out 1).trans rfl; have hcz14_2 : w13.cell? ⟨gb219, 2, none⟩ = some (.string (⟨#[]⟩ : ByteArray)) := (kc BK219.out 2).trans rfl; have hfz14_0 := kf BK219.out 0; have hfz14_1 := kf BK219.out 1; have hfz14_2 := kf BK219.out 2))
   go_ret3
   exact ⟨xe, xb⟩
  ·rw [if_neg c6] at H
   have c6b0 : (t213 == 0) = false := beq_eq_false_iff_ne.mpr c6
   have c6b1 : (t213 != 0) = true := bne_iff_ne.mpr c6
   simp only [Option.some.injEq, Prod.mk.injEq] at H
   obtain ⟨rfl, rfl, rfl⟩ := H
   go_enter Tryz.func34, Tryz.ntmps34
   go_wp2_with (first | ((with_reducible refine gate_dst (N := 18) rfl ?_); refine Kd.R_lit Kd.bool _ 4 ?hg (N := 18) ?hd (xs := ([false] : List Bool)) (inner := [.bool false]) (ok := fun _ => True) (okp := fun _ => True) ?hr ?hp (fun _ hk => hk) trivial (Below.refl _ _) (Nat.le_refl _) (by simp) ?_; (case hd => rfl); (case hg => rfl); (case hr => exact xh); (case hp => exact (Reps.one (show Kd.M Kd.bool _ _ _ false [.bool false] from rfl) (Reps.none _ _))); intro v211 w15 ho16 hb hg_ hnew_; clear hg_ hnew_; (first | rw [← Ny210.out] at ho16 | (simp only [Int.reduceToNat] at ho16; rw [← Ny210.out] at ho16)); have HO212 := xy (Kd.R_lower ho16 (below_size xb)); replace HB := xy (below_step xb hb); clear hb ho16; obtain ⟨Ao17, co17, eo17⟩ := Kd.R_slice HO212.out; subst eo17) | ((with_reducible refine gate_callee (f := 37) rfl ?_); refine goesL_ (some 19) rfl rfl Tryz.func37 (by kernel_rfl) rfl #[.slice A0 l0.length c0, .slice none 0 0, .slice Ao17 y210.length co17] rfl xr ?_; (refine (check_Check.calls k _ _ l0 _ _ ([] : List Bool) _ _ y210 t213 _ (Tabs.below hT xf) ?side1 ?side2 ?side3 ?side4 ?side5 ?side6 A5.out).mono ?_); (case side1 => exact Kd.C_below HR0.out xb); (case side2 => exact HC0.out); (case side3 => exact Kd.C_nil _ _); (case side4 => exact Nat.le_refl _); (case side5 => repeat (first | exact (Kd.R_reads' HO212.out).2.2 | (with_reducible refine Kd.C_alloc ?_ _) | (with_reducible refine Kd.C_drewN ?_ _) | (with_reducible refine Kd.C_drew ?_))); (case side6 => exact (Kd.R_reads' HO212.out).2.1); rintro e w18 ⟨rfl, hb⟩; refine ⟨_, rfl, ?_⟩; replace HO212 := xy (Kd.R_below (xo HO212.out) hb); replace HB := xy (below_step xb hb); (try clear hb); (try clear hb2); (try clear hk); (try clear hi)))
   go_ret3
   exact ⟨xe, xb⟩
def mapper_one.j0 : Nat → List ByteArray → Int → Bool → Bool → List (S50) → List (S50) → List (S50) → Int → List (S50) → Bool → Int → ByteArray → Bool → Int → Bool → Bool → Int → Option (ByteArray × Bool × Int × ByteArray × Bool × Int)
 | 0, _, _, _, _, _, _, _, _, _, _, _, _, _, _, _, _, _ => none
 | k + 1, x1, x9, x29, x221000, x221001, x221002, x221003, x221004, x221005, x221006, x221007, x221008, x221009, x221010, x221011, x221012, x221013 => if x29 = true then (some ((⟨#[]⟩ : ByteArray), false, 0, (⟨#[]⟩ : ByteArray), false, x9)) else ((eval_One.f k x221002 x1 x221013).bind fun bt225 => (if bt225.2.2.2.2 = 0 then ((eval_One.f k x221003 x1 x221013).bind fun bt231 => (some (bt225.2.2.1, bt231.1, bt231.2.1, bt231.2.2.1, true, bt231.2.2.2.2))) else (some ((⟨#[]⟩ : ByteArray), false, 0, (⟨#[]⟩ : ByteArray), false, bt225.2.2.2.2))))
def mapper_one.f (k : Nat) (a0_0 : Bool) (l0_1 : List (S50)) (l0_2 : List (S50)) (l0_3 : List (S50)) (a0_4 : Int) (l0_5 : List (S50)) (a0_6 : Bool) (a0_7 : Int) (a0_8 : ByteArray) (a0_9 : Bool) (a0_10 : Int) (a0_11 : Bool) (a0_12 : Bool) (a0_13 : Int) (l1 : List ByteArray) : Option (ByteArray × Bool × Int × ByteArray × Bool × Int) := (eval_Yes.f k l0_1 l1 a0_13).bind fun bt222 => (if bt222.2.2 = 0 then (mapper_one.j0 k l1 bt222.2.2 (!bt222.1) a0_0 l0_1 l0_2 l0_3 a0_4 l0_5 a0_6 a0_7 a0_8 a0_9 a0_10 a0_11 a0_12 a0_13) else (mapper_one.j0 k l1 bt222.2.2 true a0_0 l0_1 l0_2 l0_3 a0_4 l0_5 a0_6 a0_7 a0_8 a0_9 a0_10 a0_11 a0_12 a0_13))
theorem mapper_one.mono_l : ∀ k, (∀ y0 y1 y2 y3 y4 y5 y6 y7 y8 y9 y10 y11 y12 y13 y14 y15 y16, LeO (mapper_one.j0 k y0 y1 y2 y3 y4 y5 y6 y7 y8 y9 y10 y11 y12 y13 y14 y15 y16) (mapper_one.j0 (k + 1) y0 y1 y2 y3 y4 y5 y6 y7 y8 y9 y10 y11 y12 y13 y14 y15 y16))
 | 0 => fun _ _ _ _ _ _ _ _ _ _ _ _ _ _ _ _ _ r h => by simp [mapper_one.j0] at h
 | k + 1 => by
  have ih0 := mapper_one.mono_l k
  ·intro y0 y1 y2 y3 y4 y5 y6 y7 y8 y9 y10 y11 y12 y13 y14 y15 y16
   unfold mapper_one.j0
   repeat' (with_reducible first | exact ih0 _ _ _ _ _ _ _ _ _ _ _ _ _ _ _ _ _ | exact eval_One.mono _ _ _ _ | exact eval_Yes.mono _ _ _ _ | exact LeO.refl _ | exact LeO.none _ | refine LeO.ite ?_ ?_ | refine LeO.bind ?_ (fun _ => ?_))
theorem mapper_one.mono : ∀ a0 a1 a2 a3 a4 a5 a6 a7 a8 a9 a10 a11 a12 a13 a14 k, LeO (mapper_one.f k a0 a1 a2 a3 a4 a5 a6 a7 a8 a9 a10 a11 a12 a13 a14) (mapper_one.f (k + 1) a0 a1 a2 a3 a4 a5 a6 a7 a8 a9 a10 a11 a12 a13 a14) := by
 intro a0 a1 a2 a3 a4 a5 a6 a7 a8 a9 a10 a11 a12 a13 a14 k
 have ih0 := mapper_one.mono_l k
 unfold mapper_one.f
 repeat' (with_reducible first | exact ih0 _ _ _ _ _ _ _ _ _ _ _ _ _ _ _ _ _ | exact eval_One.mono _ _ _ _ | exact eval_Yes.mono _ _ _ _ | exact LeO.refl _ | exact LeO.none _ | refine LeO.ite ?_ ?_ | refine LeO.bind ?_ (fun _ => ?_))
set_option maxHeartbeats 8000000 in
set_option maxRecDepth 100000 in
theorem mapper_one.calls (k : Nat) (a0_0 : Bool) (A0_1 : Option Addr) (c0_1 : Nat) (l0_1 : List (S50)) (A0_2 : Option Addr) (c0_2 : Nat) (l0_2 : List (S50)) (A0_3 : Option Addr) (c0_3 : Nat) (l0_3 : List (S50)) (a0_4 : Int) (A0_5 : Option Addr) (c0_5 : Nat) (l0_5 : List (S50)) (a0_6 : Bool) (a0_7 : Int) (a0_8 : ByteArray) (a0_9 : Bool) (a0_10 : Int) (a0_11 : Bool) (a0_12 : Bool) (a0_13 : Int) (A1 : Option Addr) (c1 : Nat) (l1 : List ByteArray) (r1 : ByteArray) (r2 : Bool) (r3 : Int) (r4 : ByteArray) (r5 : Bool) (r6 : Int) (w : World) (hT : Tabs w) (hr0_1 : Kd.C k50 w A0_1 l0_1.length l0_1) (hc0_1 : l0_1.length ≤ c0_1) (hr0_2 : Kd.C k50 w A0_2 l0_2.length l0_2) (hc0_2 : l0_2.length ≤ c0_2) (hr0_3 : Kd.C k50 w A0_3 l0_3.length l0_3) (hc0_3 : l0_3.length ≤ c0_3) (hr0_5 : Kd.C k50 w A0_5 l0_5.length l0_5) (hc0_5 : l0_5.length ≤ c0_5) (hr1 : Kd.C Kd.string w A1 l1.length l1) (hc1 : l1.length ≤ c1) (h : mapper_one.f k a0_0 l0_1 l0_2 l0_3 a0_4 l0_5 a0_6 a0_7 a0_8 a0_9 a0_10 a0_11 a0_12 a0_13 l1 = some (r1, r2, r3, r4, r5, r6)) :
  Calls Tryz.prog 24 #[.agg #[.bool a0_0, .slice A0_1 l0_1.length c0_1, .slice A0_2 l0_2.length c0_2, .slice A0_3 l0_3.length c0_3, .int .i64 a0_4, .slice A0_5 l0_5.length c0_5, .bool a0_6, .int .i64 a0_7, .string a0_8, .bool a0_9, .int .i64 a0_10, .bool a0_11, .bool a0_12, .int .i64 a0_13], .slice A1 l1.length c1] w fun e w' => e = .returned (.tuple #[.agg #[.string r1, .bool r2, .int .i64 r3, .string r4], .bool r5, .int .i64 r6]) ∧ Below w.heap.size w w' := by
 have hu26 := Tryz.underlying26
 have hu55 := Tryz.underlying55
 have hu24 := Tryz.underlying24
 have HR0_1 := xy hr0_1
 have HC0_1 := xy hc0_1
 clear hr0_1 hc0_1
 have HR0_2 := xy hr0_2
 have HC0_2 := xy hc0_2
 clear hr0_2 hc0_2
 have HR0_3 := xy hr0_3
 have HC0_3 := xy hc0_3
 clear hr0_3 hc0_3
 have HR0_5 := xy hr0_5
 have HC0_5 := xy hc0_5
 clear hr0_5 hc0_5
 have HR1 := xy hr1
 have HC1 := xy hc1
 clear hr1 hc1
 have HB := xy (Below.refl w.heap.size w)
 unfold mapper_one.f at h
 have H := h
 clear h
 replace H := xj H
 obtain ⟨⟨t222, t223, t224⟩, A30, H⟩ := H
 try dsimp only at H
 have A3 := xy A30
 clear A30
 have HC4 := xy H
 clear H
 go_enter Tryz.func24, Tryz.ntmps24
 go_upto_region 2 with (first | ((with_reducible refine gate_dst (N := 2) rfl ?_); refine xq (N := 2) (cs := #[.bool a0_0, .slice A0_1 l0_1.length c0_1, .slice A0_2 l0_2.length c0_2, .slice A0_3 l0_3.length c0_3, .int .i64 a0_4, .slice A0_5 l0_5.length c0_5, .bool a0_6, .int .i64 a0_7, .string a0_8, .bool a0_9, .int .i64 a0_10, .bool a0_11, .bool a0_12, .int .i64 a0_13]) (t := 26) ?_; intro gb220 hg w5 hbox hb; have BK220 := xy (hbox); have GW220 := xs w hg; have GE220 := xs w hg; replace HB := xy (below_step xb hb); clear hb hbox hg) | ((with_reducible refine gate_dst (N := 4) rfl ?_); refine xq (N := 4) (cs := #[.string (⟨#[]⟩ : ByteArray), .bool false, .int .i64 0, .string (⟨#[]⟩ : ByteArray)]) (t := 55) ?_; intro gb221 hg w6 hbox hb; have BK221 := xy (hbox); have GW221 := xs w hg; have GE221 := xs w hg; replace HB := xy (below_step xb hb); have NB220_221 := xn hg BK220.out; have NB221_220 := xp hg BK220.out; replace BK220 := xd BK220.out hb; clear hb hbox hg; have hnb7 := NB220_221.out; have hnc7 := NB221_220.out; have hcz8_0 : w6.cell? ⟨gb220, 0, none⟩ = some (.bool a0_0) := (kc BK220.out 0).trans rfl; have hcz8_1 : w6.cell? ⟨gb220, 1, none⟩ = some (.slice A0_1 l0_1.length c0_1) := (kc BK220.out 1).trans rfl; have hcz8_2 : w6.cell? ⟨gb220, 2, none⟩ = some (.slice A0_2 l0_2.length c0_2) := (kc BK220.out 2).trans rfl; have hcz8_3 : w6.cell? ⟨gb220, 3, none⟩ = some (.slice A0_3 l0_3.length c0_3) := (kc BK220.out 3).trans rfl; have hcz8_4 : w6.cell? ⟨gb220, 4, none⟩ = some (.int .i64 a0_4) := (kc BK220.out 4).trans rfl; have hcz8_5 : w6.cell? ⟨gb220, 5, none⟩ = some (.slice A0_5 l0_5.length c0_5) := (kc BK220.out 5).trans rfl; have hcz8_6 : w6.cell? ⟨gb220, 6, none⟩ = some (.bool a0_6) := (kc BK220.out 6).trans rfl; have hcz8_7 : w6.cell? ⟨gb220, 7, none⟩ = some (.int .i64 a0_7) := (kc BK220.out 7).trans rfl; have hcz8_8 : w6.cell? ⟨gb220, 8, none⟩ = some (.string a0_8) := (kc BK220.out 8).trans rfl; have hcz8_9 : w6.cell? ⟨gb220, 9, none⟩ = some (.bool a0_9) := (kc BK220.out 9).trans rfl; have hcz8_10 : w6.cell? ⟨gb220, 10, none⟩ = some (.int .i64 a0_10) := (kc BK220.out 10).trans rfl; have hcz8_11 : w6.cell? ⟨gb220, 11, none⟩ = some (.bool a0_11) := (kc BK220.out 11).trans rfl; have hcz8_12 : w6.cell? ⟨gb220, 12, none⟩ = some (.bool a0_12) := (kc BK220.out 12).trans rfl; have hcz8_13 : w6.cell? ⟨gb220, 13, none⟩ = some (.int .i64 a0_13) := (kc BK220.out 13).trans rfl; have hfz8_0 := kf BK220.out 0; have hfz8_1 := kf BK220.out 1; have hfz8_2 := kf BK220.out 2; have hfz8_3 := kf BK220.out 3; have hfz8_4 := kf BK220.out 4; have hfz8_5 := kf BK220.out 5; have hfz8_6 := kf BK220.out 6; have hfz8_7 := kf BK220.out 7; have hfz8_8 := kf BK220.out 8; have hfz8_9 := kf BK220.out 9; have hfz8_10 := kf BK220.out 10; have hfz8_11 := kf BK220.out 11; have hfz8_12 := kf BK220.out 12; have hfz8_13 := kf BK220.out 13) | ((with_reducible refine gate_callee (f := 34) rfl ?_); refine goesL_ (some 20) rfl rfl Tryz.func34 (by kernel_rfl) rfl #[.slice A0_1 l0_1.length c0_1, .slice A1 l1.length c1, .int .i64 a0_13] rfl xr ?_; (with_reducible refine (eval_Yes.calls k _ _ l0_1 _ _ l1 a0_13 t222 t223 t224 _ (Tabs.below hT xf) ?side1 ?side2 ?side3 ?side4 A3.out).mono ?_); (case side1 => exact Kd.C_below HR0_1.out xb); (case side2 => exact HC0_1.out); (case side3 => exact Kd.C_below HR1.out xb); (case side4 => exact HC1.out); rintro e w9 ⟨rfl, hb⟩; refine ⟨_, rfl, ?_⟩; replace BK220 := xd BK220.out hb; replace BK221 := xd BK221.out hb; replace HB := xy (below_step xb hb); (try clear hb); (try clear hb2); (try clear hk); (try clear hi)))
 (try simp only [Act.put, List.setIfInBounds_toArray, List.set_cons_zero, List.set_cons_succ])
 go_cut [29] (fun v29 wc => ∃ (kq : Nat) (x29_3 : Bool), v29 = .bool x29_3 ∧ Aside0 (mapper_one.j0 kq l1 t224 x29_3 a0_0 l0_1 l0_2 l0_3 a0_4 l0_5 a0_6 a0_7 a0_8 a0_9 a0_10 a0_11 a0_12 a0_13 = some (r1, r2, r3, r4, r5, r6)) ∧ Aside0 (kq ≤ k) ∧ Aside0 (wc.heap[gb220]? = some (.cells #[.bool a0_0, (.slice A0_1 l0_1.length c0_1), (.slice A0_2 l0_2.length c0_2), (.slice A0_3 l0_3.length c0_3), .int .i64 a0_4, (.slice A0_5 l0_5.length c0_5), .bool a0_6, .int .i64 a0_7, .string a0_8, .bool a0_9, .int .i64 a0_10, .bool a0_11, .bool a0_12, .int .i64 a0_13] 26 (0, 0))) ∧ Aside0 (wc.heap[gb221]? = some (.cells #[.string (⟨#[]⟩ : ByteArray), .bool false, .int .i64 0, .string (⟨#[]⟩ : ByteArray)] 55 (0, 0))) ∧ Aside0 (Below w.heap.size w wc))
 case first =>
  have H := HC4.out
  clear HC4
  by_cases c10 : t224 = 0
  ·rw [if_pos c10] at H
   have c10b0 : (t224 == 0) = true := beq_iff_eq.mpr c10
   have c10b1 : (t224 != 0) = false := bne_eq_false_iff_eq.mpr c10
   clear c10
   (first | rw [c10b0] | (simp only [i64_w, i32_w]; rw [c10b0]) | skip)
   have H' := xy H
   clear H
   go_wp2
   go_meet
   case rel => exact ⟨_, (!t222), xg, H', ⟨by first | omega | exact Nat.le_refl _⟩, ⟨by (with_reducible repeat (first | refine blk_drewN ?_ _ | refine blk_drew ?_ | refine blk_alloc ?_ _)); exact BK220.out⟩, ⟨by (with_reducible repeat (first | refine blk_drewN ?_ _ | refine blk_drew ?_ | refine blk_alloc ?_ _)); exact BK221.out⟩, ⟨xb⟩⟩
  ·rw [if_neg c10] at H
   have c10b0 : (t224 == 0) = false := beq_eq_false_iff_ne.mpr c10
   have c10b1 : (t224 != 0) = true := bne_iff_ne.mpr c10
   (first | rw [c10b0] | (simp only [i64_w, i32_w]; rw [c10b0]) | skip)
   have H' := xy H
   clear H
   go_wp2
   go_meet
   case rel => exact ⟨_, (true), xg, H', ⟨by first | omega | exact Nat.le_refl _⟩, ⟨by (with_reducible repeat (first | refine blk_drewN ?_ _ | refine blk_drew ?_ | refine blk_alloc ?_ _)); exact BK220.out⟩, ⟨by (with_reducible repeat (first | refine blk_drewN ?_ _ | refine blk_drew ?_ | refine blk_alloc ?_ _)); exact BK221.out⟩, ⟨xb⟩⟩
 case rest =>
  clear HC4
  try clear c1
  try clear c2
  try clear p2
  try clear c3
  try clear c7
  try clear c10
  try clear c10b0
  try clear c10b1
  try clear hcz8_0
  try clear hcz8_1
  try clear hcz8_10
  try clear hcz8_11
  try clear hcz8_12
  try clear hcz8_13
  try clear hcz8_2
  try clear hcz8_3
  try clear hcz8_4
  try clear hcz8_5
  try clear hcz8_6
  try clear hcz8_7
  try clear hcz8_8
  try clear hcz8_9
  try clear hfz8_0
  try clear hfz8_1
  try clear hfz8_10
  try clear hfz8_11
  try clear hfz8_12
  try clear hfz8_13
  try clear hfz8_2
  try clear hfz8_3
  try clear hfz8_4
  try clear hfz8_5
  try clear hfz8_6
  try clear hfz8_7
  try clear hfz8_8
  try clear hfz8_9
  obtain ⟨kq, x29_3, rfl, HA, HJ3, BK220, BK221, HB⟩ := hcut
  cases kq with
  | zero => exact absurd HA.out (by simp [mapper_one.j0])
  | succ kj3 =>
   have H := HA.out
   clear HA
   simp only [mapper_one.j0] at H
   by_cases c11 : x29_3 = true
   ·subst c11
    rw [if_pos rfl] at H
    simp only [Option.some.injEq, Prod.mk.injEq] at H
    obtain ⟨rfl, rfl, rfl, rfl, rfl, rfl⟩ := H
    have hnb12 := NB221_220.out
    have hnc12 := NB220_221.out
    have hcz13_0 : wc.cell? ⟨gb221, 0, none⟩ = some (.string (⟨#[]⟩ : ByteArray)) := (kc BK221.out 0).trans rfl
    have hcz13_1 : wc.cell? ⟨gb221, 1, none⟩ = some (.bool false) := (kc BK221.out 1).trans rfl
    have hcz13_2 : wc.cell? ⟨gb221, 2, none⟩ = some (.int .i64 0) := (kc BK221.out 2).trans rfl
    have hcz13_3 : wc.cell? ⟨gb221, 3, none⟩ = some (.string (⟨#[]⟩ : ByteArray)) := (kc BK221.out 3).trans rfl
    have hfz13_0 := kf BK221.out 0
    have hfz13_1 := kf BK221.out 1
    have hfz13_2 := kf BK221.out 2
    have hfz13_3 := kf BK221.out 3
    go_wp2
    refine bodyPost_ret (results_ctt rfl _ _ gb221 55 #[.string (⟨#[]⟩ : ByteArray), .bool false, .int .i64 0, .string (⟨#[]⟩ : ByteArray)] (0, 0) _ rfl (by (with_reducible repeat (first | refine blk_drewN ?_ _ | refine blk_drew ?_ | refine blk_alloc ?_ _)); refine blk_put (cs := #[.string (⟨#[]⟩ : ByteArray), .bool false, .int .i64 0, .string (⟨#[]⟩ : ByteArray)]) ?_ 3 _ rfl; (with_reducible repeat (first | refine blk_drewN ?_ _ | refine blk_drew ?_ | refine blk_alloc ?_ _)); refine blk_put (cs := #[.string (⟨#[]⟩ : ByteArray), .bool false, .int .i64 0, .string (⟨#[]⟩ : ByteArray)]) ?_ 2 _ rfl; (with_reducible repeat (first | refine blk_drewN ?_ _ | refine blk_drew ?_ | refine blk_alloc ?_ _)); refine blk_put (cs := #[.string (⟨#[]⟩ : ByteArray), .bool false, .int .i64 0, .string (⟨#[]⟩ : ByteArray)]) ?_ 1 _ rfl; (with_reducible repeat (first | refine blk_drewN ?_ _ | refine blk_drew ?_ | refine blk_alloc ?_ _)); refine blk_put (cs := #[.string (⟨#[]⟩ : ByteArray), .bool false, .int .i64 0, .string (⟨#[]⟩ : ByteArray)]) ?_ 0 _ rfl; (with_reducible repeat (first | refine blk_drewN ?_ _ | refine blk_drew ?_ | refine blk_alloc ?_ _)); exact BK221.out) Tryz.underlying55 rfl (by kernel_rfl)) rfl ?_
    exact ⟨xe, xb⟩
   ·replace c11 := Bool.eq_false_iff.mpr c11
    subst c11
    rw [if_neg (show ¬ (false = true) by decide)] at H
    replace H := xj H
    obtain ⟨⟨t225, t226, t227, t228, t229⟩, A140, H⟩ := H
    try dsimp only at H
    have A14 := xy A140
    clear A140
    by_cases c15 : t229 = 0
    ·rw [if_pos c15] at H
     have c15b0 : (t229 == 0) = true := beq_iff_eq.mpr c15
     have c15b1 : (t229 != 0) = false := bne_eq_false_iff_eq.mpr c15
     clear c15
     replace H := xj H
     obtain ⟨⟨t231, t232, t233, t234, t235⟩, A160, H⟩ := H
     try dsimp only at H
     have A16 := xy A160
     clear A160
     simp only [Option.some.injEq, Prod.mk.injEq] at H
     obtain ⟨rfl, rfl, rfl, rfl, rfl, rfl⟩ := H
     have hnb17 := NB220_221.out
     have hnc17 := NB221_220.out
     have hcz18_0 : wc.cell? ⟨gb220, 0, none⟩ = some (.bool a0_0) := (kc BK220.out 0).trans rfl
     have hcz18_1 : wc.cell? ⟨gb220, 1, none⟩ = some (.slice A0_1 l0_1.length c0_1) := (kc BK220.out 1).trans rfl
     have hcz18_2 : wc.cell? ⟨gb220, 2, none⟩ = some (.slice A0_2 l0_2.length c0_2) := (kc BK220.out 2).trans rfl
     have hcz18_3 : wc.cell? ⟨gb220, 3, none⟩ = some (.slice A0_3 l0_3.length c0_3) := (kc BK220.out 3).trans rfl
     have hcz18_4 : wc.cell? ⟨gb220, 4, none⟩ = some (.int .i64 a0_4) := (kc BK220.out 4).trans rfl
     have hcz18_5 : wc.cell? ⟨gb220, 5, none⟩ = some (.slice A0_5 l0_5.length c0_5) := (kc BK220.out 5).trans rfl
     have hcz18_6 : wc.cell? ⟨gb220, 6, none⟩ = some (.bool a0_6) := (kc BK220.out 6).trans rfl
     have hcz18_7 : wc.cell? ⟨gb220, 7, none⟩ = some (.int .i64 a0_7) := (kc BK220.out 7).trans rfl
     have hcz18_8 : wc.cell? ⟨gb220, 8, none⟩ = some (.string a0_8) := (kc BK220.out 8).trans rfl
     have hcz18_9 : wc.cell? ⟨gb220, 9, none⟩ = some (.bool a0_9) := (kc BK220.out 9).trans rfl
     have hcz18_10 : wc.cell? ⟨gb220, 10, none⟩ = some (.int .i64 a0_10) := (kc BK220.out 10).trans rfl
     have hcz18_11 : wc.cell? ⟨gb220, 11, none⟩ = some (.bool a0_11) := (kc BK220.out 11).trans rfl
     have hcz18_12 : wc.cell? ⟨gb220, 12, none⟩ = some (.bool a0_12) := (kc BK220.out 12).trans rfl
     have hcz18_13 : wc.cell? ⟨gb220, 13, none⟩ = some (.int .i64 a0_13) := (kc BK220.out 13).trans rfl
     have hfz18_0 := kf BK220.out 0
     have hfz18_1 := kf BK220.out 1
     have hfz18_2 := kf BK220.out 2
     have hfz18_3 := kf BK220.out 3
     have hfz18_4 := kf BK220.out 4
     have hfz18_5 := kf BK220.out 5
     have hfz18_6 := kf BK220.out 6
     have hfz18_7 := kf BK220.out 7
     have hfz18_8 := kf BK220.out 8
     have hfz18_9 := kf BK220.out 9
     have hfz18_10 := kf BK220.out 10
     have hfz18_11 := kf BK220.out 11
     have hfz18_12 := kf BK220.out 12
     have hfz18_13 := kf BK220.out 13
     go_wp2_with (first | ((with_reducible refine gate_callee (f := 35) rfl ?_); refine goesL_ (some 38) rfl rfl Tryz.func35 (by kernel_rfl) rfl #[.slice A0_2 l0_2.length c0_2, .slice A1 l1.length c1, .int .i64 a0_13] rfl xr ?_; (with_reducible refine (eval_One.calls kj3 _ _ l0_2 _ _ l1 a0_13 t225 t226 t227 t228 t229 _ (Tabs.below hT xf) ?side1 ?side2 ?side3 ?side4 A14.out).mono ?_); (case side1 => exact Kd.C_below HR0_2.out xb); (case side2 => exact HC0_2.out); (case side3 => exact Kd.C_below HR1.out xb); (case side4 => exact HC1.out); rintro e w19 ⟨rfl, hb⟩; refine ⟨_, rfl, ?_⟩; replace BK220 := xd BK220.out hb; replace BK221 := xd BK221.out hb; replace HB := xy (below_step xb hb); (try clear hb); (try clear hb2); (try clear hk); (try clear hi)) | ((with_reducible refine gate_dst (N := 10) rfl ?_); refine xq (N := 10) (cs := #[.bool false, .int .i64 0, .string (⟨#[]⟩ : ByteArray)]) (t := 24) ?_; intro gb230 hg w20 hbox hb; have BK230 := xy (hbox); have GW230 := xs w hg; have GE230 := xs w hg; replace HB := xy (below_step xb hb); have NB220_230 := xn hg BK220.out; have NB230_220 := xp hg BK220.out; replace BK220 := xd BK220.out hb; have NB221_230 := xn hg BK221.out; have NB230_221 := xp hg BK221.out; replace BK221 := xd BK221.out hb; clear hb hbox hg; have hnb21 := NB230_220.out; have hnc21 := NB220_230.out; have hnb22 := NB230_221.out; have hnc22 := NB221_230.out; have hcz23_0 : w20.cell? ⟨gb230, 0, none⟩ = some (.bool false) := (kc BK230.out 0).trans rfl; have hcz23_1 : w20.cell? ⟨gb230, 1, none⟩ = some (.int .i64 0) := (kc BK230.out 1).trans rfl; have hcz23_2 : w20.cell? ⟨gb230, 2, none⟩ = some (.string (⟨#[]⟩ : ByteArray)) := (kc BK230.out 2).trans rfl; have hfz23_0 := kf BK230.out 0; have hfz23_1 := kf BK230.out 1; have hfz23_2 := kf BK230.out 2; have hcz24_0 : w20.cell? ⟨gb220, 0, none⟩ = some (.bool a0_0) := (kc BK220.out 0).trans rfl; have hcz24_1 : w20.cell? ⟨gb220, 1, none⟩ = some (.slice A0_1 l0_1.length c0_1) := (kc BK220.out 1).trans rfl; have hcz24_2 : w20.cell? ⟨gb220, 2, none⟩ = some (.slice A0_2 l0_2.length c0_2) := (kc BK220.out 2).trans rfl; have hcz24_3 : w20.cell? ⟨gb220, 3, none⟩ = some (.slice A0_3 l0_3.length c0_3) := (kc BK220.out 3).trans rfl; have hcz24_4 : w20.cell? ⟨gb220, 4, none⟩ = some (.int .i64 a0_4) := (kc BK220.out 4).trans rfl; have hcz24_5 : w20.cell? ⟨gb220, 5, none⟩ = some (.slice A0_5 l0_5.length c0_5) := (kc BK220.out 5).trans rfl; have hcz24_6 : w20.cell? ⟨gb220, 6, none⟩ = some (.bool a0_6) := (kc BK220.out 6).trans rfl; have hcz24_7 : w20.cell? ⟨gb220, 7, none⟩ = some (.int .i64 a0_7) := (kc BK220.out 7).trans rfl; have hcz24_8 : w20.cell? ⟨gb220, 8, none⟩ = some (.string a0_8) := (kc BK220.out 8).trans rfl; have hcz24_9 : w20.cell? ⟨gb220, 9, none⟩ = some (.bool a0_9) := (kc BK220.out 9).trans rfl; have hcz24_10 : w20.cell? ⟨gb220, 10, none⟩ = some (.int .i64 a0_10) := (kc BK220.out 10).trans rfl; have hcz24_11 : w20.cell? ⟨gb220, 11, none⟩ = some (.bool a0_11) := (kc BK220.out 11).trans rfl; have hcz24_12 : w20.cell? ⟨gb220, 12, none⟩ = some (.bool a0_12) := (kc BK220.out 12).trans rfl; have hcz24_13 : w20.cell? ⟨gb220, 13, none⟩ = some (.int .i64 a0_13) := (kc BK220.out 13).trans rfl; have hfz24_0 := kf BK220.out 0; have hfz24_1 := kf BK220.out 1; have hfz24_2 := kf BK220.out 2; have hfz24_3 := kf BK220.out 3; have hfz24_4 := kf BK220.out 4; have hfz24_5 := kf BK220.out 5; have hfz24_6 := kf BK220.out 6; have hfz24_7 := kf BK220.out 7; have hfz24_8 := kf BK220.out 8; have hfz24_9 := kf BK220.out 9; have hfz24_10 := kf BK220.out 10; have hfz24_11 := kf BK220.out 11; have hfz24_12 := kf BK220.out 12; have hfz24_13 := kf BK220.out 13) | ((with_reducible refine gate_callee (f := 35) rfl ?_); refine goesL_ (some 52) rfl rfl Tryz.func35 (by kernel_rfl) rfl #[.slice A0_3 l0_3.length c0_3, .slice A1 l1.length c1, .int .i64 a0_13] rfl xr ?_; (with_reducible refine (eval_One.calls kj3 _ _ l0_3 _ _ l1 a0_13 t231 t232 t233 t234 t235 _ (Tabs.below hT xf) ?side1 ?side2 ?side3 ?side4 A16.out).mono ?_); (case side1 => exact Kd.C_below HR0_3.out xb); (case side2 => exact HC0_3.out); (case side3 => exact Kd.C_below HR1.out xb); (case side4 => exact HC1.out); rintro e w25 ⟨rfl, hb⟩; refine ⟨_, rfl, ?_⟩; replace BK220 := xy (blk_below (g := gb220) (o := .cells #[.bool a0_0, .slice A0_1 l0_1.length c0_1, .slice A0_2 l0_2.length c0_2, .slice A0_3 l0_3.length c0_3, .int .i64 a0_4, .slice A0_5 l0_5.length c0_5, .bool a0_6, .int .i64 a0_7, .string a0_8, .bool a0_9, .int .i64 a0_10, .bool a0_11, .bool a0_12, .int .i64 a0_13] 26 (0, 0)) (by repeat (first | (with_reducible first | exact BK220.out | refine blk_drewN ?_ _ | refine blk_drew ?_ | refine blk_alloc ?_ _) | refine blk_far ?_ NB220_230.out _ | exact BK220.out)) hb); replace BK221 := xy (blk_below (g := gb221) (o := .cells #[.string (⟨#[]⟩ : ByteArray), .bool false, .int .i64 0, .string (⟨#[]⟩ : ByteArray)] 55 (0, 0)) (by repeat (first | (with_reducible first | exact BK221.out | refine blk_drewN ?_ _ | refine blk_drew ?_ | refine blk_alloc ?_ _) | refine blk_far ?_ NB221_230.out _ | exact BK221.out)) hb); replace BK230 := xy (blk_below (g := gb230) (o := .cells #[.bool t225, .int .i64 t226, .string t227] 24 (0, 0)) (kp BK230.out) hb); replace HB := xy (below_step xb hb); (try clear hb); (try clear hb2); (try clear hk); (try clear hi)) | ((with_reducible refine gate_dst (N := 12) rfl ?_); refine xq (N := 12) (cs := #[.bool false, .int .i64 0, .string (⟨#[]⟩ : ByteArray)]) (t := 24) ?_; intro gb236 hg w26 hbox hb; have BK236 := xy (hbox); have GW236 := xs w hg; have GE236 := xs w hg; replace HB := xy (below_step xb hb); have NB220_236 := xn hg BK220.out; have NB236_220 := xp hg BK220.out; replace BK220 := xd BK220.out hb; have NB221_236 := xn hg BK221.out; have NB236_221 := xp hg BK221.out; replace BK221 := xd BK221.out hb; have NB230_236 := xn hg BK230.out; have NB236_230 := xp hg BK230.out; replace BK230 := xd BK230.out hb; clear hb hbox hg; have hnb27 := NB236_220.out; have hnc27 := NB220_236.out; have hnb28 := NB236_221.out; have hnc28 := NB221_236.out; have hnb29 := NB236_230.out; have hnc29 := NB230_236.out; have hcz30_0 : w26.cell? ⟨gb236, 0, none⟩ = some (.bool false) := (kc BK236.out 0).trans rfl; have hcz30_1 : w26.cell? ⟨gb236, 1, none⟩ = some (.int .i64 0) := (kc BK236.out 1).trans rfl; have hcz30_2 : w26.cell? ⟨gb236, 2, none⟩ = some (.string (⟨#[]⟩ : ByteArray)) := (kc BK236.out 2).trans rfl; have hfz30_0 := kf BK236.out 0; have hfz30_1 := kf BK236.out 1; have hfz30_2 := kf BK236.out 2; have hcz31_0 : w26.cell? ⟨gb230, 0, none⟩ = some (.bool t225) := (kc BK230.out 0).trans rfl; have hcz31_1 : w26.cell? ⟨gb230, 1, none⟩ = some (.int .i64 t226) := (kc BK230.out 1).trans rfl; have hcz31_2 : w26.cell? ⟨gb230, 2, none⟩ = some (.string t227) := (kc BK230.out 2).trans rfl; have hfz31_0 := kf BK230.out 0; have hfz31_1 := kf BK230.out 1; have hfz31_2 := kf BK230.out 2; have hcz32_0 : w26.cell? ⟨gb221, 0, none⟩ = some (.string (⟨#[]⟩ : ByteArray)) := (kc BK221.out 0).trans rfl; have hcz32_1 : w26.cell? ⟨gb221, 1, none⟩ = some (.bool false) := (kc BK221.out 1).trans rfl; have hcz32_2 : w26.cell? ⟨gb221, 2, none⟩ = some (.int .i64 0) := (kc BK221.out 2).trans rfl; have hcz32_3 : w26.cell? ⟨gb221, 3, none⟩ = some (.string (⟨#[]⟩ : ByteArray)) := (kc BK221.out 3).trans rfl; have hfz32_0 := kf BK221.out 0; have hfz32_1 := kf BK221.out 1; have hfz32_2 := kf BK221.out 2; have hfz32_3 := kf BK221.out 3))
     refine bodyPost_ret (results_ctt rfl _ _ gb221 55 #[.string t227, .bool t231, .int .i64 t232, .string t233] (0, 0) _ rfl (by (with_reducible repeat (first | refine blk_drewN ?_ _ | refine blk_drew ?_ | refine blk_alloc ?_ _)); refine blk_put (cs := #[.string t227, .bool t231, .int .i64 t232, .string (⟨#[]⟩ : ByteArray)]) ?_ 3 _ rfl; (with_reducible repeat (first | refine blk_drewN ?_ _ | refine blk_drew ?_ | refine blk_alloc ?_ _)); refine blk_put (cs := #[.string t227, .bool t231, .int .i64 0, .string (⟨#[]⟩ : ByteArray)]) ?_ 2 _ rfl; (with_reducible repeat (first | refine blk_drewN ?_ _ | refine blk_drew ?_ | refine blk_alloc ?_ _)); refine blk_put (cs := #[.string t227, .bool false, .int .i64 0, .string (⟨#[]⟩ : ByteArray)]) ?_ 1 _ rfl; (with_reducible repeat (first | refine blk_drewN ?_ _ | refine blk_drew ?_ | refine blk_alloc ?_ _)); refine blk_put (cs := #[.string (⟨#[]⟩ : ByteArray), .bool false, .int .i64 0, .string (⟨#[]⟩ : ByteArray)]) ?_ 0 _ rfl; (with_reducible repeat (first | refine blk_drewN ?_ _ | refine blk_drew ?_ | refine blk_alloc ?_ _)); refine blk_far ?_ NB221_236.out _; (with_reducible repeat (first | refine blk_drewN ?_ _ | refine blk_drew ?_ | refine blk_alloc ?_ _)); refine blk_far ?_ NB221_236.out _; (with_reducible repeat (first | refine blk_drewN ?_ _ | refine blk_drew ?_ | refine blk_alloc ?_ _)); refine blk_far ?_ NB221_236.out _; (with_reducible repeat (first | refine blk_drewN ?_ _ | refine blk_drew ?_ | refine blk_alloc ?_ _)); exact BK221.out) Tryz.underlying55 rfl (by kernel_rfl)) rfl ?_
     exact ⟨xe, xb⟩
    ·rw [if_neg c15] at H
     have c15b0 : (t229 == 0) = false := beq_eq_false_iff_ne.mpr c15
     have c15b1 : (t229 != 0) = true := bne_iff_ne.mpr c15
     simp only [Option.some.injEq, Prod.mk.injEq] at H
     obtain ⟨rfl, rfl, rfl, rfl, rfl, rfl⟩ := H
     have hnb33 := NB220_221.out
     have hnc33 := NB221_220.out
     have hcz34_0 : wc.cell? ⟨gb220, 0, none⟩ = some (.bool a0_0) := (kc BK220.out 0).trans rfl
     have hcz34_1 : wc.cell? ⟨gb220, 1, none⟩ = some (.slice A0_1 l0_1.length c0_1) := (kc BK220.out 1).trans rfl
     have hcz34_2 : wc.cell? ⟨gb220, 2, none⟩ = some (.slice A0_2 l0_2.length c0_2) := (kc BK220.out 2).trans rfl
     have hcz34_3 : wc.cell? ⟨gb220, 3, none⟩ = some (.slice A0_3 l0_3.length c0_3) := (kc BK220.out 3).trans rfl
     have hcz34_4 : wc.cell? ⟨gb220, 4, none⟩ = some (.int .i64 a0_4) := (kc BK220.out 4).trans rfl
     have hcz34_5 : wc.cell? ⟨gb220, 5, none⟩ = some (.slice A0_5 l0_5.length c0_5) := (kc BK220.out 5).trans rfl
     have hcz34_6 : wc.cell? ⟨gb220, 6, none⟩ = some (.bool a0_6) := (kc BK220.out 6).trans rfl
     have hcz34_7 : wc.cell? ⟨gb220, 7, none⟩ = some (.int .i64 a0_7) := (kc BK220.out 7).trans rfl
     have hcz34_8 : wc.cell? ⟨gb220, 8, none⟩ = some (.string a0_8) := (kc BK220.out 8).trans rfl
     have hcz34_9 : wc.cell? ⟨gb220, 9, none⟩ = some (.bool a0_9) := (kc BK220.out 9).trans rfl
     have hcz34_10 : wc.cell? ⟨gb220, 10, none⟩ = some (.int .i64 a0_10) := (kc BK220.out 10).trans rfl
     have hcz34_11 : wc.cell? ⟨gb220, 11, none⟩ = some (.bool a0_11) := (kc BK220.out 11).trans rfl
     have hcz34_12 : wc.cell? ⟨gb220, 12, none⟩ = some (.bool a0_12) := (kc BK220.out 12).trans rfl
     have hcz34_13 : wc.cell? ⟨gb220, 13, none⟩ = some (.int .i64 a0_13) := (kc BK220.out 13).trans rfl
     have hfz34_0 := kf BK220.out 0
     have hfz34_1 := kf BK220.out 1
     have hfz34_2 := kf BK220.out 2
     have hfz34_3 := kf BK220.out 3
     have hfz34_4 := kf BK220.out 4
     have hfz34_5 := kf BK220.out 5
     have hfz34_6 := kf BK220.out 6
     have hfz34_7 := kf BK220.out 7
     have hfz34_8 := kf BK220.out 8
     have hfz34_9 := kf BK220.out 9
     have hfz34_10 := kf BK220.out 10
     have hfz34_11 := kf BK220.out 11
     have hfz34_12 := kf BK220.out 12
     have hfz34_13 := kf BK220.out 13
     go_wp2_with (first | ((with_reducible refine gate_callee (f := 35) rfl ?_); refine goesL_ (some 38) rfl rfl Tryz.func35 (by kernel_rfl) rfl #[.slice A0_2 l0_2.length c0_2, .slice A1 l1.length c1, .int .i64 a0_13] rfl xr ?_; (with_reducible refine (eval_One.calls kj3 _ _ l0_2 _ _ l1 a0_13 t225 t226 t227 t228 t229 _ (Tabs.below hT xf) ?side1 ?side2 ?side3 ?side4 A14.out).mono ?_); (case side1 => exact Kd.C_below HR0_2.out xb); (case side2 => exact HC0_2.out); (case side3 => exact Kd.C_below HR1.out xb); (case side4 => exact HC1.out); rintro e w35 ⟨rfl, hb⟩; refine ⟨_, rfl, ?_⟩; replace BK220 := xd BK220.out hb; replace BK221 := xd BK221.out hb; replace HB := xy (below_step xb hb); (try clear hb); (try clear hb2); (try clear hk); (try clear hi)) | ((with_reducible refine gate_dst (N := 10) rfl ?_); refine xq (N := 10) (cs := #[.bool false, .int .i64 0, .string (⟨#[]⟩ : ByteArray)]) (t := 24) ?_; intro gb230 hg w36 hbox hb; have BK230 := xy (hbox); have GW230 := xs w hg; have GE230 := xs w hg; replace HB := xy (below_step xb hb); have NB220_230 := xn hg BK220.out; have NB230_220 := xp hg BK220.out; replace BK220 := xd BK220.out hb; have NB221_230 := xn hg BK221.out; have NB230_221 := xp hg BK221.out; replace BK221 := xd BK221.out hb; clear hb hbox hg; have hnb37 := NB230_220.out; have hnc37 := NB220_230.out; have hnb38 := NB230_221.out; have hnc38 := NB221_230.out; have hcz39_0 : w36.cell? ⟨gb230, 0, none⟩ = some (.bool false) := (kc BK230.out 0).trans rfl; have hcz39_1 : w36.cell? ⟨gb230, 1, none⟩ = some (.int .i64 0) := (kc BK230.out 1).trans rfl; have hcz39_2 : w36.cell? ⟨gb230, 2, none⟩ = some (.string (⟨#[]⟩ : ByteArray)) := (kc BK230.out 2).trans rfl; have hfz39_0 := kf BK230.out 0; have hfz39_1 := kf BK230.out 1; have hfz39_2 := kf BK230.out 2; have hcz40_0 : w36.cell? ⟨gb221, 0, none⟩ = some (.string (⟨#[]⟩ : ByteArray)) := (kc BK221.out 0).trans rfl; have hcz40_1 : w36.cell? ⟨gb221, 1, none⟩ = some (.bool false) := (kc BK221.out 1).trans rfl; have hcz40_2 : w36.cell? ⟨gb221, 2, none⟩ = some (.int .i64 0) := (kc BK221.out 2).trans rfl; have hcz40_3 : w36.cell? ⟨gb221, 3, none⟩ = some (.string (⟨#[]⟩ : ByteArray)) := (kc BK221.out 3).trans rfl; have hfz40_0 := kf BK221.out 0; have hfz40_1 := kf BK221.out 1; have hfz40_2 := kf BK221.out 2; have hfz40_3 := kf BK221.out 3))
     refine bodyPost_ret (results_ctt rfl _ _ gb221 55 #[.string (⟨#[]⟩ : ByteArray), .bool false, .int .i64 0, .string (⟨#[]⟩ : ByteArray)] (0, 0) _ rfl (by (with_reducible repeat (first | refine blk_drewN ?_ _ | refine blk_drew ?_ | refine blk_alloc ?_ _)); refine blk_put (cs := #[.string (⟨#[]⟩ : ByteArray), .bool false, .int .i64 0, .string (⟨#[]⟩ : ByteArray)]) ?_ 3 _ rfl; (with_reducible repeat (first | refine blk_drewN ?_ _ | refine blk_drew ?_ | refine blk_alloc ?_ _)); refine blk_put (cs := #[.string (⟨#[]⟩ : ByteArray), .bool false, .int .i64 0, .string (⟨#[]⟩ : ByteArray)]) ?_ 2 _ rfl; (with_reducible repeat (first | refine blk_drewN ?_ _ | refine blk_drew ?_ | refine blk_alloc ?_ _)); refine blk_put (cs := #[.string (⟨#[]⟩ : ByteArray), .bool false, .int .i64 0, .string (⟨#[]⟩ : ByteArray)]) ?_ 1 _ rfl; (with_reducible repeat (first | refine blk_drewN ?_ _ | refine blk_drew ?_ | refine blk_alloc ?_ _)); refine blk_put (cs := #[.string (⟨#[]⟩ : ByteArray), .bool false, .int .i64 0, .string (⟨#[]⟩ : ByteArray)]) ?_ 0 _ rfl; (with_reducible repeat (first | refine blk_drewN ?_ _ | refine blk_drew ?_ | refine blk_alloc ?_ _)); refine blk_far ?_ NB221_230.out _; (with_reducible repeat (first | refine blk_drewN ?_ _ | refine blk_drew ?_ | refine blk_alloc ?_ _)); refine blk_far ?_ NB221_230.out _; (with_reducible repeat (first | refine blk_drewN ?_ _ | refine blk_drew ?_ | refine blk_alloc ?_ _)); refine blk_far ?_ NB221_230.out _; (with_reducible repeat (first | refine blk_drewN ?_ _ | refine blk_drew ?_ | refine blk_alloc ?_ _)); exact BK221.out) Tryz.underlying55 rfl (by kernel_rfl)) rfl ?_
     exact ⟨xe, xb⟩
end Go.Proofs.YtialoecplmnjfaaGreatDoor.PX
