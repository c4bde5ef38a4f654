/- Walked functions, by this session's program over the kit's print. -/
import Derived.Test.YtejmgcfjpofniaaGreatDoorPXx0
import Derived.Test.YtejmgcfjpofniaaGreatDoorPXx2
import Derived.Test.YtejmgcfjpofniaaGreatDoorPXx3
import Derived.Test.YtejmgcfjpofniaaGreatDoorPXx9
import Derived.Test.YtejmgcfjpofniaaGreatDoorPXx10
namespace Go.Proofs.YtejmgcfjpofniaaGreatDoor.PX
open Go.RowKit Go.Proofs.YtejmgcfjpofniaaGreatDoorW.PrintWords Go.Proofs.YtejmgcfjpofniaaGreatDoorW.PrintLast Go.Proofs.YtejmgcfjpofniaaGreatDoorW.PrintMore
attribute [local go_sem] xm_gtr max2_int min2_int max_two min_two max_three min_three max_four min_four   -- for this text's walks alone
set_option linter.unusedVariables false
set_option linter.unusedSimpArgs false

/-! ### threshinglaw16_EvalNeeds: function 6 -/
mutual
def threshinglaw16_EvalNeeds.l0 : Nat → List (S48) → List ByteArray → Int → Int → Option (Bool)
  | 0, _, _, _, _ => none
  | k + 1, x0, x1, x2, x7 => if x7 < (x0.length : Int) then (if 0 ≤ x7 then (if ((rd_T48 x0 x7).f0) = 3 then ((threshinglaw16_alive.f k).bind fun t336 => (some t336)) else (threshinglaw16_EvalNeeds.l0 k x0 x1 x2 (wrap64 (x7 + 1)))) else (none)) else ((check_Needs.f k x0).bind fun t337 => (if t337 < 0 then (threshinglaw16_EvalNeeds.j1 k x0 x1 x2 t337 true) else (threshinglaw16_EvalNeeds.j1 k x0 x1 x2 t337 (decide (t337 > 50)))))
def threshinglaw16_EvalNeeds.j1 : Nat → List (S48) → List ByteArray → Int → Int → Bool → Option (Bool)
  | 0, _, _, _, _, _ => none
  | k + 1, x0, x1, x2, x8, x43 => if x43 = true then (some false) else (threshinglaw16_EvalNeeds.l1 k x0 x1 x2 x8 (([] : List ByteArray)) 0)
def threshinglaw16_EvalNeeds.l1 : Nat → List (S48) → List ByteArray → Int → Int → List ByteArray → Int → Option (Bool)
  | 0, _, _, _, _, _, _ => none
  | k + 1, x0, x1, x2, x8, x9, x10 => if x10 < x8 then (threshinglaw16_EvalNeeds.j3 k x0 x1 x2 x8 x9 x10 (decide (x10 < (x1.length : Int)))) else (threshinglaw16_EvalNeeds.j3 k x0 x1 x2 x8 x9 x10 false)
def threshinglaw16_EvalNeeds.j3 : Nat → List (S48) → List ByteArray → Int → Int → List ByteArray → Int → Bool → Option (Bool)
  | 0, _, _, _, _, _, _, _ => none
  | k + 1, x0, x1, x2, x8, x9, x10, x53 => if x53 = true then (if 0 ≤ x10 then (if x10 < (x1.length : Int) then (if ((rdOf ByteArray.empty x1 x10).size : Int) > 1000 then (if 0 ≤ 1000 then (if 1000 ≤ ((rdOf ByteArray.empty x1 x10).size : Int) then (if x9.length < 8796093022208 then (threshinglaw16_EvalNeeds.l1 k x0 x1 x2 x8 (x9 ++ [(rdOf ByteArray.empty x1 x10).extract 0 1000]) (wrap64 (x10 + 1))) else (none)) else (none)) else (none)) else (if x9.length < 8796093022208 then (threshinglaw16_EvalNeeds.l1 k x0 x1 x2 x8 (x9 ++ [rdOf ByteArray.empty x1 x10]) (wrap64 (x10 + 1))) else (none))) else (none)) else (none)) else ((eval_Run.f k x0 x1 x2).bind fun bt348 => ((eval_Run.f k x0 x9 x2).bind fun bt353 => ((threshinglaw16_alive.f k).bind fun t358 => (if t358 = true then ((threshingref16_Same.f k bt348.1 bt353.1).bind fun t359 => (if t359 = true then (if bt348.2.1 = bt353.2.1 then (some (bt348.2.2 == bt353.2.2)) else (some false)) else (some false))) else (some false)))))
end
def threshinglaw16_EvalNeeds.f (k : Nat) (l0 : List (S48)) (l1 : List ByteArray) (a2 : Int) : Option (Bool) := (threshinglaw16_small.f k l0 l1).bind fun t333 => (if t333 = true then (threshinglaw16_EvalNeeds.l0 k l0 l1 a2 0) else ((threshinglaw16_alive.f k).bind fun t334 => (some t334)))
theorem threshinglaw16_EvalNeeds.mono_l : ∀ k, (∀ y0 y1 y2 y3, LeO (threshinglaw16_EvalNeeds.l0 k y0 y1 y2 y3) (threshinglaw16_EvalNeeds.l0 (k + 1) y0 y1 y2 y3)) ∧ (∀ y0 y1 y2 y3 y4, LeO (threshinglaw16_EvalNeeds.j1 k y0 y1 y2 y3 y4) (threshinglaw16_EvalNeeds.j1 (k + 1) y0 y1 y2 y3 y4)) ∧ (∀ y0 y1 y2 y3 y4 y5, LeO (threshinglaw16_EvalNeeds.l1 k y0 y1 y2 y3 y4 y5) (threshinglaw16_EvalNeeds.l1 (k + 1) y0 y1 y2 y3 y4 y5)) ∧ (∀ y0 y1 y2 y3 y4 y5 y6, LeO (threshinglaw16_EvalNeeds.j3 k y0 y1 y2 y3 y4 y5 y6) (threshinglaw16_EvalNeeds.j3 (k + 1) y0 y1 y2 y3 y4 y5 y6))
  | 0 => ⟨fun _ _ _ _ r h => by simp [threshinglaw16_EvalNeeds.l0] at h, fun _ _ _ _ _ r h => by simp [threshinglaw16_EvalNeeds.j1] at h, fun _ _ _ _ _ _ r h => by simp [threshinglaw16_EvalNeeds.l1] at h, fun _ _ _ _ _ _ _ r h => by simp [threshinglaw16_EvalNeeds.j3] at h⟩
  | k + 1 => by
    obtain ⟨ih0, ih1, ih2, ih3⟩ := threshinglaw16_EvalNeeds.mono_l k
    refine ⟨?_, ?_, ?_, ?_⟩
    · intro y0 y1 y2 y3
      unfold threshinglaw16_EvalNeeds.l0
      repeat' first
      | (with_reducible exact ih0 _ _ _ _)
      | (with_reducible exact ih1 _ _ _ _ _)
      | (with_reducible exact ih2 _ _ _ _ _ _)
      | (with_reducible exact ih3 _ _ _ _ _ _ _)
      | (with_reducible exact check_Needs.mono _ _)
      | (with_reducible exact eval_Run.mono _ _ _ _)
      | (with_reducible exact threshinglaw16_alive.mono _)
      | (with_reducible exact threshinglaw16_small.mono _ _ _)
      | (with_reducible exact threshingref16_Same.mono _ _ _)
      | (with_reducible exact LeO.refl _)
      | (with_reducible exact LeO.none _)
      | (with_reducible refine LeO.ite ?_ ?_)
      | (with_reducible refine LeO.bind ?_ (fun _ => ?_))
      | exact ih0 _ _ _ _
      | exact ih1 _ _ _ _ _
      | exact ih2 _ _ _ _ _ _
      | exact ih3 _ _ _ _ _ _ _
      | exact check_Needs.mono _ _
      | exact eval_Run.mono _ _ _ _
      | exact threshinglaw16_alive.mono _
      | exact threshinglaw16_small.mono _ _ _
      | exact threshingref16_Same.mono _ _ _
      | exact LeO.none _
      | refine LeO.ite ?_ ?_
      | refine LeO.bind ?_ (fun _ => ?_)
    · intro y0 y1 y2 y3 y4
      unfold threshinglaw16_EvalNeeds.j1
      repeat' first
      | (with_reducible exact ih0 _ _ _ _)
      | (with_reducible exact ih1 _ _ _ _ _)
      | (with_reducible exact ih2 _ _ _ _ _ _)
      | (with_reducible exact ih3 _ _ _ _ _ _ _)
      | (with_reducible exact check_Needs.mono _ _)
      | (with_reducible exact eval_Run.mono _ _ _ _)
      | (with_reducible exact threshinglaw16_alive.mono _)
      | (with_reducible exact threshinglaw16_small.mono _ _ _)
      | (with_reducible exact threshingref16_Same.mono _ _ _)
      | (with_reducible exact LeO.refl _)
      | (with_reducible exact LeO.none _)
      | (with_reducible refine LeO.ite ?_ ?_)
      | (with_reducible refine LeO.bind ?_ (fun _ => ?_))
      | exact ih0 _ _ _ _
      | exact ih1 _ _ _ _ _
      | exact ih2 _ _ _ _ _ _
      | exact ih3 _ _ _ _ _ _ _
      | exact check_Needs.mono _ _
      | exact eval_Run.mono _ _ _ _
      | exact threshinglaw16_alive.mono _
      | exact threshinglaw16_small.mono _ _ _
      | exact threshingref16_Same.mono _ _ _
      | exact LeO.none _
      | refine LeO.ite ?_ ?_
      | refine LeO.bind ?_ (fun _ => ?_)
    · intro y0 y1 y2 y3 y4 y5
      unfold threshinglaw16_EvalNeeds.l1
      repeat' first
      | (with_reducible exact ih0 _ _ _ _)
      | (with_reducible exact ih1 _ _ _ _ _)
      | (with_reducible exact ih2 _ _ _ _ _ _)
      | (with_reducible exact ih3 _ _ _ _ _ _ _)
      | (with_reducible exact check_Needs.mono _ _)
      | (with_reducible exact eval_Run.mono _ _ _ _)
      | (with_reducible exact threshinglaw16_alive.mono _)
      | (with_reducible exact threshinglaw16_small.mono _ _ _)
      | (with_reducible exact threshingref16_Same.mono _ _ _)
      | (with_reducible exact LeO.refl _)
      | (with_reducible exact LeO.none _)
      | (with_reducible refine LeO.ite ?_ ?_)
      | (with_reducible refine LeO.bind ?_ (fun _ => ?_))
      | exact ih0 _ _ _ _
      | exact ih1 _ _ _ _ _
      | exact ih2 _ _ _ _ _ _
      | exact ih3 _ _ _ _ _ _ _
      | exact check_Needs.mono _ _
      | exact eval_Run.mono _ _ _ _
      | exact threshinglaw16_alive.mono _
      | exact threshinglaw16_small.mono _ _ _
      | exact threshingref16_Same.mono _ _ _
      | exact LeO.none _
      | refine LeO.ite ?_ ?_
      | refine LeO.bind ?_ (fun _ => ?_)
    · intro y0 y1 y2 y3 y4 y5 y6
      unfold threshinglaw16_EvalNeeds.j3
      repeat' first
      | (with_reducible exact ih0 _ _ _ _)
      | (with_reducible exact ih1 _ _ _ _ _)
      | (with_reducible exact ih2 _ _ _ _ _ _)
      | (with_reducible exact ih3 _ _ _ _ _ _ _)
      | (with_reducible exact check_Needs.mono _ _)
      | (with_reducible exact eval_Run.mono _ _ _ _)
      | (with_reducible exact threshinglaw16_alive.mono _)
      | (with_reducible exact threshinglaw16_small.mono _ _ _)
      | (with_reducible exact threshingref16_Same.mono _ _ _)
      | (with_reducible exact LeO.refl _)
      | (with_reducible exact LeO.none _)
      | (with_reducible refine LeO.ite ?_ ?_)
      | (with_reducible refine LeO.bind ?_ (fun _ => ?_))
      | exact ih0 _ _ _ _
      | exact ih1 _ _ _ _ _
      | exact ih2 _ _ _ _ _ _
      | exact ih3 _ _ _ _ _ _ _
      | exact check_Needs.mono _ _
      | exact eval_Run.mono _ _ _ _
      | exact threshinglaw16_alive.mono _
      | exact threshinglaw16_small.mono _ _ _
      | exact threshingref16_Same.mono _ _ _
      | exact LeO.none _
      | refine LeO.ite ?_ ?_
      | refine LeO.bind ?_ (fun _ => ?_)
theorem threshinglaw16_EvalNeeds.mono : ∀ a0 a1 a2 k, LeO (threshinglaw16_EvalNeeds.f k a0 a1 a2) (threshinglaw16_EvalNeeds.f (k + 1) a0 a1 a2) := by
  intro a0 a1 a2 k
  obtain ⟨ih0, ih1, ih2, ih3⟩ := threshinglaw16_EvalNeeds.mono_l k
  unfold threshinglaw16_EvalNeeds.f
  repeat' first
      | (with_reducible exact ih0 _ _ _ _)
      | (with_reducible exact ih1 _ _ _ _ _)
      | (with_reducible exact ih2 _ _ _ _ _ _)
      | (with_reducible exact ih3 _ _ _ _ _ _ _)
      | (with_reducible exact check_Needs.mono _ _)
      | (with_reducible exact eval_Run.mono _ _ _ _)
      | (with_reducible exact threshinglaw16_alive.mono _)
      | (with_reducible exact threshinglaw16_small.mono _ _ _)
      | (with_reducible exact threshingref16_Same.mono _ _ _)
      | (with_reducible exact LeO.refl _)
      | (with_reducible exact LeO.none _)
      | (with_reducible refine LeO.ite ?_ ?_)
      | (with_reducible refine LeO.bind ?_ (fun _ => ?_))
      | exact ih0 _ _ _ _
      | exact ih1 _ _ _ _ _
      | exact ih2 _ _ _ _ _ _
      | exact ih3 _ _ _ _ _ _ _
      | exact check_Needs.mono _ _
      | exact eval_Run.mono _ _ _ _
      | exact threshinglaw16_alive.mono _
      | exact threshinglaw16_small.mono _ _ _
      | exact threshingref16_Same.mono _ _ _
      | exact LeO.none _
      | refine LeO.ite ?_ ?_
      | refine LeO.bind ?_ (fun _ => ?_)
set_option maxHeartbeats 8000000 in
set_option maxRecDepth 100000 in
theorem threshinglaw16_EvalNeeds.calls (k : Nat) (A0 : Option Addr) (c0 : Nat) (l0 : List (S48)) (A1 : Option Addr) (c1 : Nat) (l1 : List ByteArray) (a2 : Int) (r : Bool) (w : World) (hT : Tabs w) (hr0 : Kd.C k48 w A0 l0.length l0) (hc0 : l0.length ≤ c0) (hr1 : Kd.C Kd.string w A1 l1.length l1) (hc1 : l1.length ≤ c1) (h : threshinglaw16_EvalNeeds.f k l0 l1 a2 = some r) :
    Calls Tryz.prog 6 #[.slice A0 l0.length c0, .slice A1 l1.length c1, .int .i64 a2] w fun e w' => e = .returned (.bool r) ∧ Below w.heap.size w w' := by
  have HR0 := Aside0.mk hr0
  have HC0 := Aside0.mk hc0
  clear hr0 hc0
  have HR1 := Aside0.mk hr1
  have HC1 := Aside0.mk hc1
  clear hr1 hc1
  have HB := Aside0.mk (Below.refl w.heap.size w)
  have H : ((threshinglaw16_small.f k l0 l1).bind fun t333 => (if t333 = true then (threshinglaw16_EvalNeeds.l0 k l0 l1 a2 0) else ((threshinglaw16_alive.f k).bind fun t334 => (some t334)))) = some r := h
  clear h
  replace H := Option.bind_eq_some_iff.mp H
  obtain ⟨t333, A40, H⟩ := H
  replace H : (if t333 = true then (threshinglaw16_EvalNeeds.l0 k l0 l1 a2 0) else ((threshinglaw16_alive.f k).bind fun t334 => (some t334))) = some r := H
  have A4 := Aside0.mk A40
  clear A40
  by_cases c5 : t333 = true
  · subst c5
    have H1 : (threshinglaw16_EvalNeeds.l0 k l0 l1 a2 0) = some r := by rw [if_pos rfl] at H; exact H
    clear H
    have H := H1
    clear H1
    have H' := Aside0.mk H
    clear H
    go_enter Tryz.func6, Tryz.ntmps6
    go_wp2_with (first | ((with_reducible refine gate_callee (f := 21) rfl ?_); refine goesL_ (some 20) rfl rfl Tryz.func21 (by kernel_rfl) rfl #[.slice A0 l0.length c0, .slice A1 l1.length c1] rfl xr ?_; (with_reducible refine (threshinglaw16_small.calls k _ _ l0 (fun k_ => k_ < w.heap.size) _ _ l1 true _ (Tabs.below hT xf) ?side1 ?side2 ?side3 A4.out).mono ?_); (case side1 => repeat (first | exact HR0.out | (with_reducible refine Kd.C_alloc ?_ _) | (with_reducible refine Kd.C_drewN ?_ _) | (with_reducible refine Kd.C_drew ?_))); (case side2 => exact HC0.out); (case side3 => exact Kd.V_mk HC1.out (Kd.F_below (Kd.C_F Kd.heap_string HR1.out) xb)); rintro e w6 ⟨rfl, hb⟩; refine ⟨_, rfl, ?_⟩; have n0_ := Aside0.mk (below_step xb hb); clear HB; have HB := n0_; clear n0_; (try clear hb); (try clear hb2); (try clear hk); (try clear hi)))
    go_loopg [7] k (fun kq v7 w' => ∃ (x7_1 : Int), v7 = .int .i64 x7_1 ∧ Aside0 (threshinglaw16_EvalNeeds.l0 kq l0 l1 a2 x7_1 = some r) ∧ Aside0 (kq ≤ k) ∧ Aside0 (Below w.heap.size w w'))
    case atStart => exact ⟨(0), (by first | rfl | (simp; done) | (simp [*]; done) | exact congrArg Value.bool (xm_ne_nil _) | exact congrArg Value.bool (xm_ne_nil _).symm), H', ⟨Nat.le_refl _⟩, ⟨xb⟩⟩
    case round =>
      clear H'
      try clear c1
      try clear c2
      try clear p2
      try clear c5
      try clear c6
      obtain ⟨x7_1, rfl, HA, HK1, HB⟩ := hrel
      cases gk with
      | zero => exact absurd HA.out (by simp [threshinglaw16_EvalNeeds.l0])
      | succ k1 =>
        have H := HA.out
        clear HA
        simp only [threshinglaw16_EvalNeeds.l0] at H
        by_cases c7 : x7_1 < (l0.length : Int)
        · rw [if_pos c7] at H
          have c7b0 : decide (x7_1 < (l0.length : Int)) = true := decide_eq_true c7
          clear c7
          by_cases c8 : 0 ≤ x7_1
          · rw [if_pos c8] at H
            have c8b0 : decide (0 ≤ x7_1) = true := decide_eq_true c8
            clear c8
            by_cases c9 : ((rd_T48 l0 x7_1).f0) = 3
            · rw [if_pos c9] at H
              have c9b0 : (((rd_T48 l0 x7_1).f0) == 3) = true := beq_iff_eq.mpr c9
              have c9b1 : (((rd_T48 l0 x7_1).f0) != 3) = false := bne_eq_false_iff_eq.mpr c9
              clear c9
              replace H := Option.bind_eq_some_iff.mp H
              obtain ⟨t336, A100, H⟩ := H
              replace H : (some t336) = some r := H
              have A10 := Aside0.mk A100
              clear A100
              obtain rfl := Option.some.inj H
              have p335 : 0 ≤ (x7_1 : Int) := of_decide_eq_true (by first | (with_reducible assumption) | assumption)
              have q335 : x7_1 < (l0.length : Int) := of_decide_eq_true (by first | (with_reducible assumption) | assumption)
              obtain ⟨ad335, e335, hx335_0, hx335_1, hx335_2⟩ := at_T48 HR0.out x7_1 p335 q335
              cases e335
              replace hx335_0 := (HB.out.cell (World.block_lt_of_cell? w _ hx335_0)).trans hx335_0
              replace hx335_1 := (HB.out.cell (World.block_lt_of_cell? w _ hx335_1)).trans hx335_1
              replace hx335_2 := (HB.out.cell (World.block_lt_of_cell? w _ hx335_2)).trans hx335_2
              replace p335 := eq_true p335
              replace q335 := eq_true q335
              go_wp2_with (first | ((with_reducible refine gate_callee (f := 22) rfl ?_); refine goesL_ (some 35) rfl rfl Tryz.func22 (by kernel_rfl) rfl #[] rfl xr ?_; (with_reducible refine (threshinglaw16_alive.calls k1  t336 _ (Tabs.below hT xf) A10.out).mono ?_); rintro e w11 ⟨rfl, hb⟩; refine ⟨_, rfl, ?_⟩; have n0_ := Aside0.mk (below_step xb hb); clear HB; have HB := n0_; clear n0_; (try clear hb); (try clear hb2); (try clear hk); (try clear hi)))
              go_ret
              exact ⟨by first | rfl | (simp [errW_none, errW_some] <;> rfl) | (simp [*, errW_none, errW_some] <;> rfl), xb⟩
            · rw [if_neg c9] at H
              have c9b0 : (((rd_T48 l0 x7_1).f0) == 3) = false := beq_eq_false_iff_ne.mpr c9
              have c9b1 : (((rd_T48 l0 x7_1).f0) != 3) = true := bne_iff_ne.mpr c9
              have H' := Aside0.mk H
              clear H
              have p335 : 0 ≤ (x7_1 : Int) := of_decide_eq_true (by first | (with_reducible assumption) | assumption)
              have q335 : x7_1 < (l0.length : Int) := of_decide_eq_true (by first | (with_reducible assumption) | assumption)
              obtain ⟨ad335, e335, hx335_0, hx335_1, hx335_2⟩ := at_T48 HR0.out x7_1 p335 q335
              cases e335
              replace hx335_0 := (HB.out.cell (World.block_lt_of_cell? w _ hx335_0)).trans hx335_0
              replace hx335_1 := (HB.out.cell (World.block_lt_of_cell? w _ hx335_1)).trans hx335_1
              replace hx335_2 := (HB.out.cell (World.block_lt_of_cell? w _ hx335_2)).trans hx335_2
              replace p335 := eq_true p335
              replace q335 := eq_true q335
              go_wp2
              go_roundg k1
              case measure => have := HK1.out; omega
              case rel => exact ⟨(wrap64 (x7_1 + 1)), (by first | rfl | (simp; done) | (simp [*]; done) | exact congrArg Value.bool (xm_ne_nil _) | exact congrArg Value.bool (xm_ne_nil _).symm), H', ⟨by have := HK1.out; omega⟩, ⟨xb⟩⟩
          · rw [if_neg c8] at H
            exact absurd H (by simp)
        · rw [if_neg c7] at H
          have c7b0 : decide (x7_1 < (l0.length : Int)) = false := decide_eq_false c7
          clear c7
          replace H := Option.bind_eq_some_iff.mp H
          obtain ⟨t337, A120, H⟩ := H
          replace H : (if t337 < 0 then (threshinglaw16_EvalNeeds.j1 k1 l0 l1 a2 t337 true) else (threshinglaw16_EvalNeeds.j1 k1 l0 l1 a2 t337 (decide (t337 > 50)))) = some r := H
          have A12 := Aside0.mk A120
          clear A120
          have HC13 := Aside0.mk H
          clear H
          go_upto_region 9 with (first | ((with_reducible refine gate_callee (f := 18) rfl ?_); refine goesL_ (some 37) rfl rfl Tryz.func18 (by kernel_rfl) rfl #[.slice A0 l0.length c0] rfl xr ?_; (with_reducible refine (check_Needs.calls k1 _ _ l0 t337 _ (Tabs.below hT xf) ?side1 ?side2 A12.out).mono ?_); (case side1 => repeat (first | exact (Kd.C_below HR0.out HB.out) | (with_reducible refine Kd.C_alloc ?_ _) | (with_reducible refine Kd.C_drewN ?_ _) | (with_reducible refine Kd.C_drew ?_))); (case side2 => exact HC0.out); rintro e w14 ⟨rfl, hb⟩; refine ⟨_, rfl, ?_⟩; have n0_ := Aside0.mk (below_step xb hb); clear HB; have HB := n0_; clear n0_; (try clear hb); (try clear hb2); (try clear hk); (try clear hi)))
          (try simp only [Act.put, List.setIfInBounds_toArray, List.set_cons_zero, List.set_cons_succ])
          go_cut [43] (fun v43 wc => ∃ (kq : Nat) (x43_12 : Bool), v43 = .bool x43_12 ∧ Aside0 (threshinglaw16_EvalNeeds.j1 kq l0 l1 a2 t337 x43_12 = some r) ∧ Aside0 (kq ≤ k1) ∧ Aside0 (Below w.heap.size w wc))
          case first =>
            have H := HC13.out
            clear HC13
            by_cases c15 : t337 < 0
            · rw [if_pos c15] at H
              have c15b0 : decide (t337 < 0) = true := decide_eq_true c15
              clear c15
              (first | rw [c15b0] | (simp only [i64_w, i32_w]; rw [c15b0]) | skip)
              have H' := Aside0.mk H
              clear H
              go_wp2
              go_meet
              case rel => exact ⟨_, (true), (by first | rfl | (simp; done) | (simp [*]; done) | exact congrArg Value.bool (xm_ne_nil _) | exact congrArg Value.bool (xm_ne_nil _).symm), H', ⟨by have := HK1.out; first | omega | exact Nat.le_refl _⟩, ⟨xb⟩⟩
            · rw [if_neg c15] at H
              have c15b0 : decide (t337 < 0) = false := decide_eq_false c15
              clear c15
              (first | rw [c15b0] | (simp only [i64_w, i32_w]; rw [c15b0]) | skip)
              have H' := Aside0.mk H
              clear H
              go_wp2
              go_meet
              case rel => exact ⟨_, (decide (t337 > 50)), (by first | rfl | (simp; done) | (simp [*]; done) | exact congrArg Value.bool (xm_ne_nil _) | exact congrArg Value.bool (xm_ne_nil _).symm), H', ⟨by have := HK1.out; first | omega | exact Nat.le_refl _⟩, ⟨xb⟩⟩
          case rest =>
            clear HC13
            try clear c1
            try clear c2
            try clear p2
            try clear p3
            try clear q3
            try clear hx3
            try clear c5
            try clear c6
            try clear p6
            try clear c7
            try clear c7b0
            try clear c8
            try clear c8b0
            try clear c9
            try clear c9b0
            try clear c9b1
            try clear c15
            try clear c15b0
            try clear hx335_0
            try clear hx335_1
            try clear hx335_2
            try clear p2
            try clear p335
            try clear q335
            obtain ⟨kq, x43_12, rfl, HA, HJ12, HB⟩ := hcut
            cases kq with
            | zero => exact absurd HA.out (by simp [threshinglaw16_EvalNeeds.j1])
            | succ kj12 =>
              have H := HA.out
              clear HA
              simp only [threshinglaw16_EvalNeeds.j1] at H
              by_cases c16 : x43_12 = true
              · subst c16
                have H1 : (some false) = some r := by rw [if_pos rfl] at H; exact H
                clear H
                have H := H1
                clear H1
                obtain rfl := Option.some.inj H
                go_wp2
                go_ret
                exact ⟨by first | rfl | (simp [errW_none, errW_some] <;> rfl) | (simp [*, errW_none, errW_some] <;> rfl), xb⟩
              · replace c16 := Bool.eq_false_iff.mpr c16
                subst c16
                have H1 : (threshinglaw16_EvalNeeds.l1 kj12 l0 l1 a2 t337 (([] : List ByteArray)) 0) = some r := by rw [if_neg (show ¬ (false = true) by decide)] at H; exact H
                clear H
                have H := H1
                clear H1
                obtain ⟨y338, hy338⟩ : ∃ y_ : List ByteArray, y_ = (([] : List ByteArray)) := ⟨_, rfl⟩
                replace H : (threshinglaw16_EvalNeeds.l1 kj12 l0 l1 a2 t337 y338 0) = some r := by first | (rw [hy338]; with_reducible exact H) | (have H2_ := (Option.bind_some _ _).symm.trans H; rw [hy338]; with_reducible exact H2_) | (have H2_ := (Option.bind_some _ _).symm.trans H; with_reducible exact H2_) | with_reducible exact H | (rw [hy338]; exact H) | exact H
                have Ny338 := Aside0.mk hy338
                clear hy338
                have H' := Aside0.mk H
                clear H
                go_wp2_with (first | ((with_reducible refine gate_dst (N := 44) rfl ?_); (try (refine gate_guard (by rfl) ?_; dsimp only)); refine Kd.R_lit Kd.string _ 9 ?hg (N := 44) ?hd (xs := ([] : List ByteArray)) (inner := []) (ok := fun _ => True) (okp := fun _ => True) ?hr ?hp (fun _ hk => hk) trivial (Below.refl _ _) (Nat.le_refl _) (by simp) ?_; (case hd => rfl); (case hg => rfl); (case hr => first | (go_simp; done) | (go_simp; rfl)); (case hp => exact (Reps.none _ _)); intro v339 w17 ho18 hb hg_ hnew_; clear hg_ hnew_; (first | rw [← Ny338.out] at ho18 | (simp only [Int.reduceToNat] at ho18; rw [← Ny338.out] at ho18)); have n0_ := Aside0.mk (Kd.R_lower ho18 (below_size xb)); have n1_ := Aside0.mk (below_step xb hb); clear HB; have HO340 := n0_; have HB := n1_; clear n0_ n1_; clear hb ho18))
                go_loopg [9, 10] kj12 (fun kq v9 v10 w' => ∃ (x9_3 : List ByteArray) (x10_3 : Int), v10 = .int .i64 x10_3 ∧ Aside0 (threshinglaw16_EvalNeeds.l1 kq l0 l1 a2 t337 x9_3 x10_3 = some r) ∧ Aside0 (kq ≤ kj12) ∧ Aside0 (Kd.R Kd.string 9 w' w.heap.size (fun _ => True) v9 x9_3) ∧ Aside0 (Below w.heap.size w w'))
                case atStart => exact ⟨(y338), (0), (by first | rfl | (simp; done) | (simp [*]; done) | exact congrArg Value.bool (xm_ne_nil _) | exact congrArg Value.bool (xm_ne_nil _).symm), H', ⟨Nat.le_refl _⟩, ⟨by (with_reducible repeat (first | apply Kd.R_alloc | apply Kd.R_drewN | apply Kd.R_drew)); exact HO340.out⟩, ⟨xb⟩⟩
                case round =>
                  clear H'
                  try clear c1
                  try clear c2
                  try clear p2
                  try clear p3
                  try clear q3
                  try clear hx3
                  try clear c5
                  try clear c6
                  try clear p6
                  try clear c7
                  try clear c7b0
                  try clear c8
                  try clear c8b0
                  try clear c9
                  try clear c9b0
                  try clear c9b1
                  try clear c15
                  try clear c15b0
                  try clear c16
                  try clear c18
                  try clear hx335_0
                  try clear hx335_1
                  try clear hx335_2
                  try clear p2
                  try clear p3
                  try clear p335
                  try clear p6
                  try clear q3
                  try clear q335
                  obtain ⟨x9_3, x10_3, rfl, HA, HK3, HO_9, HB⟩ := hrel
                  cases gk with
                  | zero => exact absurd HA.out (by simp [threshinglaw16_EvalNeeds.l1])
                  | succ k3 =>
                    have H := HA.out
                    clear HA
                    simp only [threshinglaw16_EvalNeeds.l1] at H
                    have HC19 := Aside0.mk H
                    clear H
                    go_upto_region 13 with (fail)
                    go_cut [53] (fun v53 wc => ∃ (kq : Nat) (x53_18 : Bool), v53 = .bool x53_18 ∧ Aside0 (threshinglaw16_EvalNeeds.j3 kq l0 l1 a2 t337 x9_3 x10_3 x53_18 = some r) ∧ Aside0 (kq ≤ k3) ∧ Aside0 (Kd.R Kd.string 9 wc w.heap.size (fun _ => True) u9 x9_3) ∧ Aside0 (Below w.heap.size w wc))
                    case first =>
                      have H := HC19.out
                      clear HC19
                      by_cases c20 : x10_3 < t337
                      · rw [if_pos c20] at H
                        have c20b0 : decide (x10_3 < t337) = true := decide_eq_true c20
                        clear c20
                        (first | rw [c20b0] | (simp only [i64_w, i32_w]; rw [c20b0]) | skip)
                        have H' := Aside0.mk H
                        clear H
                        go_wp2
                        go_meet
                        case rel => exact ⟨_, (decide (x10_3 < (l1.length : Int))), (by first | rfl | (simp; done) | (simp [*]; done) | exact congrArg Value.bool (xm_ne_nil _) | exact congrArg Value.bool (xm_ne_nil _).symm), H', ⟨by have := HK1.out; have := HJ12.out; have := HK3.out; first | omega | exact Nat.le_refl _⟩, ⟨by (with_reducible repeat (first | apply Kd.R_alloc | apply Kd.R_drewN | apply Kd.R_drew)); exact HO_9.out⟩, ⟨xb⟩⟩
                      · rw [if_neg c20] at H
                        have c20b0 : decide (x10_3 < t337) = false := decide_eq_false c20
                        clear c20
                        (first | rw [c20b0] | (simp only [i64_w, i32_w]; rw [c20b0]) | skip)
                        have H' := Aside0.mk H
                        clear H
                        go_wp2
                        go_meet
                        case rel => exact ⟨_, (false), (by first | rfl | (simp; done) | (simp [*]; done) | exact congrArg Value.bool (xm_ne_nil _) | exact congrArg Value.bool (xm_ne_nil _).symm), H', ⟨by have := HK1.out; have := HJ12.out; have := HK3.out; first | omega | exact Nat.le_refl _⟩, ⟨by (with_reducible repeat (first | apply Kd.R_alloc | apply Kd.R_drewN | apply Kd.R_drew)); exact HO_9.out⟩, ⟨xb⟩⟩
                    case rest =>
                      clear HC19
                      try clear c1
                      try clear c2
                      try clear p2
                      try clear p3
                      try clear q3
                      try clear hx3
                      try clear c5
                      try clear c6
                      try clear p6
                      try clear c7
                      try clear c7b0
                      try clear c8
                      try clear c8b0
                      try clear c9
                      try clear c9b0
                      try clear c9b1
                      try clear c15
                      try clear c15b0
                      try clear c16
                      try clear c18
                      try clear c20
                      try clear c20b0
                      try clear hx335_0
                      try clear hx335_1
                      try clear hx335_2
                      try clear p2
                      try clear p3
                      try clear p335
                      try clear p6
                      try clear q3
                      try clear q335
                      obtain ⟨kq, x53_18, rfl, HA, HJ18, HO_9, HB⟩ := hcut
                      cases kq with
                      | zero => exact absurd HA.out (by simp [threshinglaw16_EvalNeeds.j3])
                      | succ kj18 =>
                        have H := HA.out
                        clear HA
                        simp only [threshinglaw16_EvalNeeds.j3] at H
                        by_cases c21 : x53_18 = true
                        · subst c21
                          have H1 : (if 0 ≤ x10_3 then (if x10_3 < (l1.length : Int) then (if ((rdOf ByteArray.empty l1 x10_3).size : Int) > 1000 then (if 0 ≤ 1000 then (if 1000 ≤ ((rdOf ByteArray.empty l1 x10_3).size : Int) then (if x9_3.length < 8796093022208 then (threshinglaw16_EvalNeeds.l1 kj18 l0 l1 a2 t337 (x9_3 ++ [(rdOf ByteArray.empty l1 x10_3).extract 0 1000]) (wrap64 (x10_3 + 1))) else (none)) else (none)) else (none)) else (if x9_3.length < 8796093022208 then (threshinglaw16_EvalNeeds.l1 kj18 l0 l1 a2 t337 (x9_3 ++ [rdOf ByteArray.empty l1 x10_3]) (wrap64 (x10_3 + 1))) else (none))) else (none)) else (none)) = some r := by rw [if_pos rfl] at H; exact H
                          clear H
                          have H := H1
                          clear H1
                          by_cases c22 : 0 ≤ x10_3
                          · rw [if_pos c22] at H
                            have c22b0 : decide (0 ≤ x10_3) = true := decide_eq_true c22
                            clear c22
                            by_cases c23 : x10_3 < (l1.length : Int)
                            · rw [if_pos c23] at H
                              have c23b0 : decide (x10_3 < (l1.length : Int)) = true := decide_eq_true c23
                              clear c23
                              by_cases c24 : ((rdOf ByteArray.empty l1 x10_3).size : Int) > 1000
                              · rw [if_pos c24] at H
                                have c24b0 : decide (1000 < ((rdOf ByteArray.empty l1 x10_3).size : Int)) = true := decide_eq_true c24
                                have c24b1 : decide (1000 < (rdOf ByteArray.empty l1 x10_3).size) = true := decide_eq_true (by omega)
                                clear c24
                                by_cases c25 : 0 ≤ 1000
                                · rw [if_pos c25] at H
                                  have c25b0 := eq_true c25
                                  have c25b1 : decide (0 ≤ 1000) = true := decide_eq_true c25
                                  clear c25
                                  by_cases c26 : 1000 ≤ ((rdOf ByteArray.empty l1 x10_3).size : Int)
                                  · rw [if_pos c26] at H
                                    have c26b0 := eq_true c26
                                    have c26b1 : decide (1000 ≤ ((rdOf ByteArray.empty l1 x10_3).size : Int)) = true := decide_eq_true c26
                                    clear c26
                                    by_cases c27 : x9_3.length < 8796093022208
                                    · rw [if_pos c27] at H
                                      have LMc27 := Aside0.mk c27
                                      clear c27
                                      obtain ⟨y342, hy342⟩ : ∃ y_ : List ByteArray, y_ = (x9_3 ++ [(rdOf ByteArray.empty l1 x10_3).extract 0 1000]) := ⟨_, rfl⟩
                                      replace H : (threshinglaw16_EvalNeeds.l1 kj18 l0 l1 a2 t337 y342 (wrap64 (x10_3 + 1))) = some r := by first | (rw [hy342]; with_reducible exact H) | (have H2_ := (Option.bind_some _ _).symm.trans H; rw [hy342]; with_reducible exact H2_) | (have H2_ := (Option.bind_some _ _).symm.trans H; with_reducible exact H2_) | with_reducible exact H | (rw [hy342]; exact H) | exact H
                                      have Ny342 := Aside0.mk hy342
                                      clear hy342
                                      have H' := Aside0.mk H
                                      clear H
                                      have p341 : 0 ≤ (x10_3 : Int) := of_decide_eq_true (by first | (with_reducible assumption) | assumption)
                                      have q341 : x10_3 < (l1.length : Int) := of_decide_eq_true (by first | (with_reducible assumption) | assumption)
                                      obtain ⟨ad341, e341, hx341_0⟩ := Kd.at_string HR1.out x10_3 p341 q341
                                      cases e341
                                      replace hx341_0 := (HB.out.cell (World.block_lt_of_cell? w _ hx341_0)).trans hx341_0
                                      replace p341 := eq_true p341
                                      replace q341 := eq_true q341
                                      go_wp2_with (first | ((with_reducible refine gate_builtin (b := .append) (xs := #[.tmp 65, .tmp 67]) rfl ?_); (try (refine gate_guard (by rfl) ?_; dsimp only)); at_builtin; refine Kd.R_append Kd.string (w0 := w) w.heap.size rfl (.tmp 65) (.tmp 67) 36 9 (.string ⟨#[]⟩) 16 rfl Tryz.underlying36 info9 rfl (by decide) (by omega) u9 x9_3 ((rdOf ByteArray.empty l1 x10_3).extract 0 1000) [.string ((rdOf ByteArray.empty l1 x10_3).extract 0 1000)] (fun _ => True) (fun _ => False) rfl rfl ?aP (fun _ hk => hk.elim) ?aF ?aO ?aB ?aS ?aL ?_; (case aP => exact rfl); (case aB => exact xb); (case aF => exact (fun _ _ => trivial)); (case aO => exact (by (with_reducible repeat (first | apply Kd.R_alloc | apply Kd.R_drewN | apply Kd.R_drew)); exact HO_9.out)); (case aS => exact (below_size xb)); (case aL => have := LMc27.out; omega); intro v343 w28 ho hb hg hat; rw [← Ny342.out] at ho; have n0_ := Aside0.mk (hb); have n1_ := Aside0.mk (ho); clear HB; clear HO_9; have HB := n0_; have HO344 := n1_; clear n0_ n1_; clear ho hb hg hat))
                                      go_roundg kj18
                                      case measure => have := HK1.out; have := HJ12.out; have := HK3.out; have := HJ18.out; omega
                                      case rel => exact ⟨(y342), (wrap64 (x10_3 + 1)), (by first | rfl | (simp; done) | (simp [*]; done) | exact congrArg Value.bool (xm_ne_nil _) | exact congrArg Value.bool (xm_ne_nil _).symm), H', ⟨by have := HK1.out; have := HJ12.out; have := HK3.out; have := HJ18.out; omega⟩, ⟨by (with_reducible repeat (first | apply Kd.R_alloc | apply Kd.R_drewN | apply Kd.R_drew)); exact HO344.out⟩, ⟨xb⟩⟩
                                    · rw [if_neg c27] at H
                                      exact absurd H (by simp)
                                  · rw [if_neg c26] at H
                                    exact absurd H (by simp)
                                · rw [if_neg c25] at H
                                  exact absurd H (by simp)
                              · rw [if_neg c24] at H
                                have c24b0 : decide (1000 < ((rdOf ByteArray.empty l1 x10_3).size : Int)) = false := decide_eq_false c24
                                have c24b1 : decide (1000 < (rdOf ByteArray.empty l1 x10_3).size) = false := decide_eq_false (by omega)
                                clear c24
                                by_cases c29 : x9_3.length < 8796093022208
                                · rw [if_pos c29] at H
                                  have LMc29 := Aside0.mk c29
                                  clear c29
                                  obtain ⟨y345, hy345⟩ : ∃ y_ : List ByteArray, y_ = (x9_3 ++ [rdOf ByteArray.empty l1 x10_3]) := ⟨_, rfl⟩
                                  replace H : (threshinglaw16_EvalNeeds.l1 kj18 l0 l1 a2 t337 y345 (wrap64 (x10_3 + 1))) = some r := by first | (rw [hy345]; with_reducible exact H) | (have H2_ := (Option.bind_some _ _).symm.trans H; rw [hy345]; with_reducible exact H2_) | (have H2_ := (Option.bind_some _ _).symm.trans H; with_reducible exact H2_) | with_reducible exact H | (rw [hy345]; exact H) | exact H
                                  have Ny345 := Aside0.mk hy345
                                  clear hy345
                                  have H' := Aside0.mk H
                                  clear H
                                  have p341 : 0 ≤ (x10_3 : Int) := of_decide_eq_true (by first | (with_reducible assumption) | assumption)
                                  have q341 : x10_3 < (l1.length : Int) := of_decide_eq_true (by first | (with_reducible assumption) | assumption)
                                  obtain ⟨ad341, e341, hx341_0⟩ := Kd.at_string HR1.out x10_3 p341 q341
                                  cases e341
                                  replace hx341_0 := (HB.out.cell (World.block_lt_of_cell? w _ hx341_0)).trans hx341_0
                                  replace p341 := eq_true p341
                                  replace q341 := eq_true q341
                                  go_wp2_with (first | ((with_reducible refine gate_builtin (b := .append) (xs := #[.tmp 65, .tmp 67]) rfl ?_); (try (refine gate_guard (by rfl) ?_; dsimp only)); at_builtin; refine Kd.R_append Kd.string (w0 := w) w.heap.size rfl (.tmp 65) (.tmp 67) 36 9 (.string ⟨#[]⟩) 16 rfl Tryz.underlying36 info9 rfl (by decide) (by omega) u9 x9_3 (rdOf ByteArray.empty l1 x10_3) [.string (rdOf ByteArray.empty l1 x10_3)] (fun _ => True) (fun _ => False) rfl rfl ?aP (fun _ hk => hk.elim) ?aF ?aO ?aB ?aS ?aL ?_; (case aP => exact rfl); (case aB => exact xb); (case aF => exact (fun _ _ => trivial)); (case aO => exact (by (with_reducible repeat (first | apply Kd.R_alloc | apply Kd.R_drewN | apply Kd.R_drew)); exact HO_9.out)); (case aS => exact (below_size xb)); (case aL => have := LMc29.out; omega); intro v346 w30 ho hb hg hat; rw [← Ny345.out] at ho; have n0_ := Aside0.mk (hb); have n1_ := Aside0.mk (ho); clear HB; clear HO_9; have HB := n0_; have HO347 := n1_; clear n0_ n1_; clear ho hb hg hat))
                                  go_roundg kj18
                                  case measure => have := HK1.out; have := HJ12.out; have := HK3.out; have := HJ18.out; omega
                                  case rel => exact ⟨(y345), (wrap64 (x10_3 + 1)), (by first | rfl | (simp; done) | (simp [*]; done) | exact congrArg Value.bool (xm_ne_nil _) | exact congrArg Value.bool (xm_ne_nil _).symm), H', ⟨by have := HK1.out; have := HJ12.out; have := HK3.out; have := HJ18.out; omega⟩, ⟨by (with_reducible repeat (first | apply Kd.R_alloc | apply Kd.R_drewN | apply Kd.R_drew)); exact HO347.out⟩, ⟨xb⟩⟩
                                · rw [if_neg c29] at H
                                  exact absurd H (by simp)
                            · rw [if_neg c23] at H
                              exact absurd H (by simp)
                          · rw [if_neg c22] at H
                            exact absurd H (by simp)
                        · replace c21 := Bool.eq_false_iff.mpr c21
                          subst c21
                          have H1 : ((eval_Run.f kj18 l0 l1 a2).bind fun bt348 => ((eval_Run.f kj18 l0 x9_3 a2).bind fun bt353 => ((threshinglaw16_alive.f kj18).bind fun t358 => (if t358 = true then ((threshingref16_Same.f kj18 bt348.1 bt353.1).bind fun t359 => (if t359 = true then (if bt348.2.1 = bt353.2.1 then (some (bt348.2.2 == bt353.2.2)) else (some false)) else (some false))) else (some false))))) = some r := by rw [if_neg (show ¬ (false = true) by decide)] at H; exact H
                          clear H
                          have H := H1
                          clear H1
                          replace H := Option.bind_eq_some_iff.mp H
                          obtain ⟨⟨t348, t349, t350⟩, A310, H⟩ := H
                          replace H : ((eval_Run.f kj18 l0 x9_3 a2).bind fun bt353 => ((threshinglaw16_alive.f kj18).bind fun t358 => (if t358 = true then ((threshingref16_Same.f kj18 t348 bt353.1).bind fun t359 => (if t359 = true then (if t349 = bt353.2.1 then (some (t350 == bt353.2.2)) else (some false)) else (some false))) else (some false)))) = some r := H
                          have A31 := Aside0.mk A310
                          clear A310
                          replace H := Option.bind_eq_some_iff.mp H
                          obtain ⟨⟨t353, t354, t355⟩, A320, H⟩ := H
                          replace H : ((threshinglaw16_alive.f kj18).bind fun t358 => (if t358 = true then ((threshingref16_Same.f kj18 t348 t353).bind fun t359 => (if t359 = true then (if t349 = t354 then (some (t350 == t355)) else (some false)) else (some false))) else (some false))) = some r := H
                          have A32 := Aside0.mk A320
                          clear A320
                          replace H := Option.bind_eq_some_iff.mp H
                          obtain ⟨t358, A330, H⟩ := H
                          replace H : (if t358 = true then ((threshingref16_Same.f kj18 t348 t353).bind fun t359 => (if t359 = true then (if t349 = t354 then (some (t350 == t355)) else (some false)) else (some false))) else (some false)) = some r := H
                          have A33 := Aside0.mk A330
                          clear A330
                          by_cases c34 : t358 = true
                          · subst c34
                            have H1 : ((threshingref16_Same.f kj18 t348 t353).bind fun t359 => (if t359 = true then (if t349 = t354 then (some (t350 == t355)) else (some false)) else (some false))) = some r := by rw [if_pos rfl] at H; exact H
                            clear H
                            have H := H1
                            clear H1
                            replace H := Option.bind_eq_some_iff.mp H
                            obtain ⟨t359, A350, H⟩ := H
                            replace H : (if t359 = true then (if t349 = t354 then (some (t350 == t355)) else (some false)) else (some false)) = some r := H
                            have A35 := Aside0.mk A350
                            clear A350
                            by_cases c36 : t359 = true
                            · subst c36
                              have H1 : (if t349 = t354 then (some (t350 == t355)) else (some false)) = some r := by rw [if_pos rfl] at H; exact H
                              clear H
                              have H := H1
                              clear H1
                              by_cases c37 : t349 = t354
                              · rw [if_pos c37] at H
                                have c37b0 : (t349 == t354) = true := beq_iff_eq.mpr c37
                                have c37b1 : (t349 != t354) = false := bne_eq_false_iff_eq.mpr c37
                                clear c37
                                obtain rfl := Option.some.inj H
                                go_wp2_with (first | ((with_reducible refine gate_callee (f := 23) rfl ?_); refine goesL_ (some 73) rfl rfl Tryz.func23 (by kernel_rfl) rfl #[.slice A0 l0.length c0, .slice A1 l1.length c1, .int .i64 a2] rfl xr ?_; (with_reducible refine (eval_Run.calls kj18 _ _ l0 _ _ l1 a2 t348 t349 t350 _ (Tabs.below hT xf) ?side1 ?side2 ?side3 ?side4 A31.out).mono ?_); (case side1 => repeat (first | exact (Kd.C_below HR0.out HB.out) | (with_reducible refine Kd.C_alloc ?_ _) | (with_reducible refine Kd.C_drewN ?_ _) | (with_reducible refine Kd.C_drew ?_))); (case side2 => exact HC0.out); (case side3 => repeat (first | exact (Kd.C_below HR1.out HB.out) | (with_reducible refine Kd.C_alloc ?_ _) | (with_reducible refine Kd.C_drewN ?_ _) | (with_reducible refine Kd.C_drew ?_))); (case side4 => exact HC1.out); rintro e w38 ⟨v351, rfl, ho0, hb⟩; refine ⟨_, rfl, ?_⟩; have n0_ := Aside0.mk (Kd.R_below (by (with_reducible repeat (first | apply Kd.R_alloc | apply Kd.R_drewN | apply Kd.R_drew)); exact HO_9.out) hb); have n1_ := Aside0.mk (Kd.R_lower ho0 (below_size xb)); have n2_ := Aside0.mk (below_step xb hb); clear HO_9; clear HB; have HO_9 := n0_; have HO352 := n1_; have HB := n2_; clear n0_ n1_ n2_; (try clear hb); (try clear hb2); (try clear hk); (try clear hi); (try clear ho0); obtain ⟨Ao39, co39, eo39⟩ := Kd.R_slice HO_9.out; subst eo39) | ((with_reducible refine gate_callee (f := 23) rfl ?_); refine goesL_ (some 81) rfl rfl Tryz.func23 (by kernel_rfl) rfl #[.slice A0 l0.length c0, .slice Ao39 x9_3.length co39, .int .i64 a2] rfl xr ?_; (with_reducible refine (eval_Run.calls kj18 _ _ l0 _ _ x9_3 a2 t353 t354 t355 _ (Tabs.below hT xf) ?side1 ?side2 ?side3 ?side4 A32.out).mono ?_); (case side1 => repeat (first | exact (Kd.C_below HR0.out HB.out) | (with_reducible refine Kd.C_alloc ?_ _) | (with_reducible refine Kd.C_drewN ?_ _) | (with_reducible refine Kd.C_drew ?_))); (case side2 => exact HC0.out); (case side3 => repeat (first | exact (Kd.R_reads' HO_9.out).2.2 | (with_reducible refine Kd.C_alloc ?_ _) | (with_reducible refine Kd.C_drewN ?_ _) | (with_reducible refine Kd.C_drew ?_))); (case side4 => exact (Kd.R_reads' HO_9.out).2.1); rintro e w40 ⟨v356, rfl, ho0, hb⟩; refine ⟨_, rfl, ?_⟩; have n0_ := Aside0.mk (Kd.R_below (by (with_reducible repeat (first | apply Kd.R_alloc | apply Kd.R_drewN | apply Kd.R_drew)); exact HO_9.out) hb); have n1_ := Aside0.mk (Kd.R_elder' (by (with_reducible repeat (first | apply Kd.R_alloc | apply Kd.R_drewN | apply Kd.R_drew)); exact HO352.out) (Kd.R_base ho0) hb); have n2_ := Aside0.mk (Kd.R_lower (Kd.R_new' ho0 (Kd.R_lt (by (with_reducible repeat (first | apply Kd.R_alloc | apply Kd.R_drewN | apply Kd.R_drew)); exact HO352.out))) (below_size xb)); have n3_ := Aside0.mk (below_step xb hb); clear HO_9; clear HO352; clear HB; have HO_9 := n0_; have HO352 := n1_; have HO357 := n2_; have HB := n3_; clear n0_ n1_ n2_ n3_; (try clear hb); (try clear hb2); (try clear hk); (try clear hi); (try clear ho0)) | ((with_reducible refine gate_callee (f := 22) rfl ?_); refine goesL_ (some 85) rfl rfl Tryz.func22 (by kernel_rfl) rfl #[] rfl xr ?_; (with_reducible refine (threshinglaw16_alive.calls kj18  true _ (Tabs.below hT xf) A33.out).mono ?_); rintro e w41 ⟨rfl, hb⟩; refine ⟨_, rfl, ?_⟩; have n0_ := Aside0.mk (Kd.R_below (by (with_reducible repeat (first | apply Kd.R_alloc | apply Kd.R_drewN | apply Kd.R_drew)); exact HO_9.out) hb); have n1_ := Aside0.mk (Kd.R_below (by (with_reducible repeat (first | apply Kd.R_alloc | apply Kd.R_drewN | apply Kd.R_drew)); exact HO352.out) hb); have n2_ := Aside0.mk (Kd.R_below (by (with_reducible repeat (first | apply Kd.R_alloc | apply Kd.R_drewN | apply Kd.R_drew)); exact HO357.out) hb); have n3_ := Aside0.mk (below_step xb hb); clear HO_9; clear HO352; clear HO357; clear HB; have HO_9 := n0_; have HO352 := n1_; have HO357 := n2_; have HB := n3_; clear n0_ n1_ n2_ n3_; (try clear hb); (try clear hb2); (try clear hk); (try clear hi); obtain ⟨Ao42, co42, eo42⟩ := Kd.R_slice HO352.out; subst eo42; obtain ⟨Ao43, co43, eo43⟩ := Kd.R_slice HO357.out; subst eo43) | (go_at_call 24; (with_reducible refine (threshingref16_Same.calls kj18 _ _ t348 _ _ t353 true _ (Tabs.below hT xf) ?side1 ?side2 ?side3 ?side4 A35.out).mono ?_); (case side1 => repeat (first | exact (Kd.R_reads' HO352.out).2.2 | (with_reducible refine Kd.C_alloc ?_ _) | (with_reducible refine Kd.C_drewN ?_ _) | (with_reducible refine Kd.C_drew ?_))); (case side2 => exact (Kd.R_reads' HO352.out).2.1); (case side3 => repeat (first | exact (Kd.R_reads' HO357.out).2.2 | (with_reducible refine Kd.C_alloc ?_ _) | (with_reducible refine Kd.C_drewN ?_ _) | (with_reducible refine Kd.C_drew ?_))); (case side4 => exact (Kd.R_reads' HO357.out).2.1); rintro e w' ⟨rfl, ⟨nd, rfl⟩⟩))
                                go_ret
                                exact ⟨by first | rfl | (simp [errW_none, errW_some] <;> rfl) | (simp [*, errW_none, errW_some] <;> rfl), xb⟩
                              · rw [if_neg c37] at H
                                have c37b0 : (t349 == t354) = false := beq_eq_false_iff_ne.mpr c37
                                have c37b1 : (t349 != t354) = true := bne_iff_ne.mpr c37
                                obtain rfl := Option.some.inj H
                                go_wp2_with (first | ((with_reducible refine gate_callee (f := 23) rfl ?_); refine goesL_ (some 73) rfl rfl Tryz.func23 (by kernel_rfl) rfl #[.slice A0 l0.length c0, .slice A1 l1.length c1, .int .i64 a2] rfl xr ?_; (with_reducible refine (eval_Run.calls kj18 _ _ l0 _ _ l1 a2 t348 t349 t350 _ (Tabs.below hT xf) ?side1 ?side2 ?side3 ?side4 A31.out).mono ?_); (case side1 => repeat (first | exact (Kd.C_below HR0.out HB.out) | (with_reducible refine Kd.C_alloc ?_ _) | (with_reducible refine Kd.C_drewN ?_ _) | (with_reducible refine Kd.C_drew ?_))); (case side2 => exact HC0.out); (case side3 => repeat (first | exact (Kd.C_below HR1.out HB.out) | (with_reducible refine Kd.C_alloc ?_ _) | (with_reducible refine Kd.C_drewN ?_ _) | (with_reducible refine Kd.C_drew ?_))); (case side4 => exact HC1.out); rintro e w44 ⟨v351, rfl, ho0, hb⟩; refine ⟨_, rfl, ?_⟩; have n0_ := Aside0.mk (Kd.R_below (by (with_reducible repeat (first | apply Kd.R_alloc | apply Kd.R_drewN | apply Kd.R_drew)); exact HO_9.out) hb); have n1_ := Aside0.mk (Kd.R_lower ho0 (below_size xb)); have n2_ := Aside0.mk (below_step xb hb); clear HO_9; clear HB; have HO_9 := n0_; have HO352 := n1_; have HB := n2_; clear n0_ n1_ n2_; (try clear hb); (try clear hb2); (try clear hk); (try clear hi); (try clear ho0); obtain ⟨Ao45, co45, eo45⟩ := Kd.R_slice HO_9.out; subst eo45) | ((with_reducible refine gate_callee (f := 23) rfl ?_); refine goesL_ (some 81) rfl rfl Tryz.func23 (by kernel_rfl) rfl #[.slice A0 l0.length c0, .slice Ao45 x9_3.length co45, .int .i64 a2] rfl xr ?_; (with_reducible refine (eval_Run.calls kj18 _ _ l0 _ _ x9_3 a2 t353 t354 t355 _ (Tabs.below hT xf) ?side1 ?side2 ?side3 ?side4 A32.out).mono ?_); (case side1 => repeat (first | exact (Kd.C_below HR0.out HB.out) | (with_reducible refine Kd.C_alloc ?_ _) | (with_reducible refine Kd.C_drewN ?_ _) | (with_reducible refine Kd.C_drew ?_))); (case side2 => exact HC0.out); (case side3 => repeat (first | exact (Kd.R_reads' HO_9.out).2.2 | (with_reducible refine Kd.C_alloc ?_ _) | (with_reducible refine Kd.C_drewN ?_ _) | (with_reducible refine Kd.C_drew ?_))); (case side4 => exact (Kd.R_reads' HO_9.out).2.1); rintro e w46 ⟨v356, rfl, ho0, hb⟩; refine ⟨_, rfl, ?_⟩; have n0_ := Aside0.mk (Kd.R_below (by (with_reducible repeat (first | apply Kd.R_alloc | apply Kd.R_drewN | apply Kd.R_drew)); exact HO_9.out) hb); have n1_ := Aside0.mk (Kd.R_elder' (by (with_reducible repeat (first | apply Kd.R_alloc | apply Kd.R_drewN | apply Kd.R_drew)); exact HO352.out) (Kd.R_base ho0) hb); have n2_ := Aside0.mk (Kd.R_lower (Kd.R_new' ho0 (Kd.R_lt (by (with_reducible repeat (first | apply Kd.R_alloc | apply Kd.R_drewN | apply Kd.R_drew)); exact HO352.out))) (below_size xb)); have n3_ := Aside0.mk (below_step xb hb); clear HO_9; clear HO352; clear HB; have HO_9 := n0_; have HO352 := n1_; have HO357 := n2_; have HB := n3_; clear n0_ n1_ n2_ n3_; (try clear hb); (try clear hb2); (try clear hk); (try clear hi); (try clear ho0)) | ((with_reducible refine gate_callee (f := 22) rfl ?_); refine goesL_ (some 85) rfl rfl Tryz.func22 (by kernel_rfl) rfl #[] rfl xr ?_; (with_reducible refine (threshinglaw16_alive.calls kj18  true _ (Tabs.below hT xf) A33.out).mono ?_); rintro e w47 ⟨rfl, hb⟩; refine ⟨_, rfl, ?_⟩; have n0_ := Aside0.mk (Kd.R_below (by (with_reducible repeat (first | apply Kd.R_alloc | apply Kd.R_drewN | apply Kd.R_drew)); exact HO_9.out) hb); have n1_ := Aside0.mk (Kd.R_below (by (with_reducible repeat (first | apply Kd.R_alloc | apply Kd.R_drewN | apply Kd.R_drew)); exact HO352.out) hb); have n2_ := Aside0.mk (Kd.R_below (by (with_reducible repeat (first | apply Kd.R_alloc | apply Kd.R_drewN | apply Kd.R_drew)); exact HO357.out) hb); have n3_ := Aside0.mk (below_step xb hb); clear HO_9; clear HO352; clear HO357; clear HB; have HO_9 := n0_; have HO352 := n1_; have HO357 := n2_; have HB := n3_; clear n0_ n1_ n2_ n3_; (try clear hb); (try clear hb2); (try clear hk); (try clear hi); obtain ⟨Ao48, co48, eo48⟩ := Kd.R_slice HO352.out; subst eo48; obtain ⟨Ao49, co49, eo49⟩ := Kd.R_slice HO357.out; subst eo49) | (go_at_call 24; (with_reducible refine (threshingref16_Same.calls kj18 _ _ t348 _ _ t353 true _ (Tabs.below hT xf) ?side1 ?side2 ?side3 ?side4 A35.out).mono ?_); (case side1 => repeat (first | exact (Kd.R_reads' HO352.out).2.2 | (with_reducible refine Kd.C_alloc ?_ _) | (with_reducible refine Kd.C_drewN ?_ _) | (with_reducible refine Kd.C_drew ?_))); (case side2 => exact (Kd.R_reads' HO352.out).2.1); (case side3 => repeat (first | exact (Kd.R_reads' HO357.out).2.2 | (with_reducible refine Kd.C_alloc ?_ _) | (with_reducible refine Kd.C_drewN ?_ _) | (with_reducible refine Kd.C_drew ?_))); (case side4 => exact (Kd.R_reads' HO357.out).2.1); rintro e w' ⟨rfl, ⟨nd, rfl⟩⟩))
                                go_ret
                                exact ⟨by first | rfl | (simp [errW_none, errW_some] <;> rfl) | (simp [*, errW_none, errW_some] <;> rfl), xb⟩
                            · replace c36 := Bool.eq_false_iff.mpr c36
                              subst c36
                              have H1 : (some false) = some r := by rw [if_neg (show ¬ (false = true) by decide)] at H; exact H
                              clear H
                              have H := H1
                              clear H1
                              obtain rfl := Option.some.inj H
                              go_wp2_with (first | ((with_reducible refine gate_callee (f := 23) rfl ?_); refine goesL_ (some 73) rfl rfl Tryz.func23 (by kernel_rfl) rfl #[.slice A0 l0.length c0, .slice A1 l1.length c1, .int .i64 a2] rfl xr ?_; (with_reducible refine (eval_Run.calls kj18 _ _ l0 _ _ l1 a2 t348 t349 t350 _ (Tabs.below hT xf) ?side1 ?side2 ?side3 ?side4 A31.out).mono ?_); (case side1 => repeat (first | exact (Kd.C_below HR0.out HB.out) | (with_reducible refine Kd.C_alloc ?_ _) | (with_reducible refine Kd.C_drewN ?_ _) | (with_reducible refine Kd.C_drew ?_))); (case side2 => exact HC0.out); (case side3 => repeat (first | exact (Kd.C_below HR1.out HB.out) | (with_reducible refine Kd.C_alloc ?_ _) | (with_reducible refine Kd.C_drewN ?_ _) | (with_reducible refine Kd.C_drew ?_))); (case side4 => exact HC1.out); rintro e w50 ⟨v351, rfl, ho0, hb⟩; refine ⟨_, rfl, ?_⟩; have n0_ := Aside0.mk (Kd.R_below (by (with_reducible repeat (first | apply Kd.R_alloc | apply Kd.R_drewN | apply Kd.R_drew)); exact HO_9.out) hb); have n1_ := Aside0.mk (Kd.R_lower ho0 (below_size xb)); have n2_ := Aside0.mk (below_step xb hb); clear HO_9; clear HB; have HO_9 := n0_; have HO352 := n1_; have HB := n2_; clear n0_ n1_ n2_; (try clear hb); (try clear hb2); (try clear hk); (try clear hi); (try clear ho0); obtain ⟨Ao51, co51, eo51⟩ := Kd.R_slice HO_9.out; subst eo51) | ((with_reducible refine gate_callee (f := 23) rfl ?_); refine goesL_ (some 81) rfl rfl Tryz.func23 (by kernel_rfl) rfl #[.slice A0 l0.length c0, .slice Ao51 x9_3.length co51, .int .i64 a2] rfl xr ?_; (with_reducible refine (eval_Run.calls kj18 _ _ l0 _ _ x9_3 a2 t353 t354 t355 _ (Tabs.below hT xf) ?side1 ?side2 ?side3 ?side4 A32.out).mono ?_); (case side1 => repeat (first | exact (Kd.C_below HR0.out HB.out) | (with_reducible refine Kd.C_alloc ?_ _) | (with_reducible refine Kd.C_drewN ?_ _) | (with_reducible refine Kd.C_drew ?_))); (case side2 => exact HC0.out); (case side3 => repeat (first | exact (Kd.R_reads' HO_9.out).2.2 | (with_reducible refine Kd.C_alloc ?_ _) | (with_reducible refine Kd.C_drewN ?_ _) | (with_reducible refine Kd.C_drew ?_))); (case side4 => exact (Kd.R_reads' HO_9.out).2.1); rintro e w52 ⟨v356, rfl, ho0, hb⟩; refine ⟨_, rfl, ?_⟩; have n0_ := Aside0.mk (Kd.R_below (by (with_reducible repeat (first | apply Kd.R_alloc | apply Kd.R_drewN | apply Kd.R_drew)); exact HO_9.out) hb); have n1_ := Aside0.mk (Kd.R_elder' (by (with_reducible repeat (first | apply Kd.R_alloc | apply Kd.R_drewN | apply Kd.R_drew)); exact HO352.out) (Kd.R_base ho0) hb); have n2_ := Aside0.mk (Kd.R_lower (Kd.R_new' ho0 (Kd.R_lt (by (with_reducible repeat (first | apply Kd.R_alloc | apply Kd.R_drewN | apply Kd.R_drew)); exact HO352.out))) (below_size xb)); have n3_ := Aside0.mk (below_step xb hb); clear HO_9; clear HO352; clear HB; have HO_9 := n0_; have HO352 := n1_; have HO357 := n2_; have HB := n3_; clear n0_ n1_ n2_ n3_; (try clear hb); (try clear hb2); (try clear hk); (try clear hi); (try clear ho0)) | ((with_reducible refine gate_callee (f := 22) rfl ?_); refine goesL_ (some 85) rfl rfl Tryz.func22 (by kernel_rfl) rfl #[] rfl xr ?_; (with_reducible refine (threshinglaw16_alive.calls kj18  true _ (Tabs.below hT xf) A33.out).mono ?_); rintro e w53 ⟨rfl, hb⟩; refine ⟨_, rfl, ?_⟩; have n0_ := Aside0.mk (Kd.R_below (by (with_reducible repeat (first | apply Kd.R_alloc | apply Kd.R_drewN | apply Kd.R_drew)); exact HO_9.out) hb); have n1_ := Aside0.mk (Kd.R_below (by (with_reducible repeat (first | apply Kd.R_alloc | apply Kd.R_drewN | apply Kd.R_drew)); exact HO352.out) hb); have n2_ := Aside0.mk (Kd.R_below (by (with_reducible repeat (first | apply Kd.R_alloc | apply Kd.R_drewN | apply Kd.R_drew)); exact HO357.out) hb); have n3_ := Aside0.mk (below_step xb hb); clear HO_9; clear HO352; clear HO357; clear HB; have HO_9 := n0_; have HO352 := n1_; have HO357 := n2_; have HB := n3_; clear n0_ n1_ n2_ n3_; (try clear hb); (try clear hb2); (try clear hk); (try clear hi); obtain ⟨Ao54, co54, eo54⟩ := Kd.R_slice HO352.out; subst eo54; obtain ⟨Ao55, co55, eo55⟩ := Kd.R_slice HO357.out; subst eo55) | (go_at_call 24; (with_reducible refine (threshingref16_Same.calls kj18 _ _ t348 _ _ t353 false _ (Tabs.below hT xf) ?side1 ?side2 ?side3 ?side4 A35.out).mono ?_); (case side1 => repeat (first | exact (Kd.R_reads' HO352.out).2.2 | (with_reducible refine Kd.C_alloc ?_ _) | (with_reducible refine Kd.C_drewN ?_ _) | (with_reducible refine Kd.C_drew ?_))); (case side2 => exact (Kd.R_reads' HO352.out).2.1); (case side3 => repeat (first | exact (Kd.R_reads' HO357.out).2.2 | (with_reducible refine Kd.C_alloc ?_ _) | (with_reducible refine Kd.C_drewN ?_ _) | (with_reducible refine Kd.C_drew ?_))); (case side4 => exact (Kd.R_reads' HO357.out).2.1); rintro e w' ⟨rfl, ⟨nd, rfl⟩⟩))
                              go_ret
                              exact ⟨by first | rfl | (simp [errW_none, errW_some] <;> rfl) | (simp [*, errW_none, errW_some] <;> rfl), xb⟩
                          · replace c34 := Bool.eq_false_iff.mpr c34
                            subst c34
                            have H1 : (some false) = some r := by rw [if_neg (show ¬ (false = true) by decide)] at H; exact H
                            clear H
                            have H := H1
                            clear H1
                            obtain rfl := Option.some.inj H
                            go_wp2_with (first | ((with_reducible refine gate_callee (f := 23) rfl ?_); refine goesL_ (some 73) rfl rfl Tryz.func23 (by kernel_rfl) rfl #[.slice A0 l0.length c0, .slice A1 l1.length c1, .int .i64 a2] rfl xr ?_; (with_reducible refine (eval_Run.calls kj18 _ _ l0 _ _ l1 a2 t348 t349 t350 _ (Tabs.below hT xf) ?side1 ?side2 ?side3 ?side4 A31.out).mono ?_); (case side1 => repeat (first | exact (Kd.C_below HR0.out HB.out) | (with_reducible refine Kd.C_alloc ?_ _) | (with_reducible refine Kd.C_drewN ?_ _) | (with_reducible refine Kd.C_drew ?_))); (case side2 => exact HC0.out); (case side3 => repeat (first | exact (Kd.C_below HR1.out HB.out) | (with_reducible refine Kd.C_alloc ?_ _) | (with_reducible refine Kd.C_drewN ?_ _) | (with_reducible refine Kd.C_drew ?_))); (case side4 => exact HC1.out); rintro e w56 ⟨v351, rfl, ho0, hb⟩; refine ⟨_, rfl, ?_⟩; have n0_ := Aside0.mk (Kd.R_below (by (with_reducible repeat (first | apply Kd.R_alloc | apply Kd.R_drewN | apply Kd.R_drew)); exact HO_9.out) hb); have n1_ := Aside0.mk (Kd.R_lower ho0 (below_size xb)); have n2_ := Aside0.mk (below_step xb hb); clear HO_9; clear HB; have HO_9 := n0_; have HO352 := n1_; have HB := n2_; clear n0_ n1_ n2_; (try clear hb); (try clear hb2); (try clear hk); (try clear hi); (try clear ho0); obtain ⟨Ao57, co57, eo57⟩ := Kd.R_slice HO_9.out; subst eo57) | ((with_reducible refine gate_callee (f := 23) rfl ?_); refine goesL_ (some 81) rfl rfl Tryz.func23 (by kernel_rfl) rfl #[.slice A0 l0.length c0, .slice Ao57 x9_3.length co57, .int .i64 a2] rfl xr ?_; (with_reducible refine (eval_Run.calls kj18 _ _ l0 _ _ x9_3 a2 t353 t354 t355 _ (Tabs.below hT xf) ?side1 ?side2 ?side3 ?side4 A32.out).mono ?_); (case side1 => repeat (first | exact (Kd.C_below HR0.out HB.out) | (with_reducible refine Kd.C_alloc ?_ _) | (with_reducible refine Kd.C_drewN ?_ _) | (with_reducible refine Kd.C_drew ?_))); (case side2 => exact HC0.out); (case side3 => repeat (first | exact (Kd.R_reads' HO_9.out).2.2 | (with_reducible refine Kd.C_alloc ?_ _) | (with_reducible refine Kd.C_drewN ?_ _) | (with_reducible refine Kd.C_drew ?_))); (case side4 => exact (Kd.R_reads' HO_9.out).2.1); rintro e w58 ⟨v356, rfl, ho0, hb⟩; refine ⟨_, rfl, ?_⟩; have n0_ := Aside0.mk (Kd.R_below (by (with_reducible repeat (first | apply Kd.R_alloc | apply Kd.R_drewN | apply Kd.R_drew)); exact HO_9.out) hb); have n1_ := Aside0.mk (Kd.R_elder' (by (with_reducible repeat (first | apply Kd.R_alloc | apply Kd.R_drewN | apply Kd.R_drew)); exact HO352.out) (Kd.R_base ho0) hb); have n2_ := Aside0.mk (Kd.R_lower (Kd.R_new' ho0 (Kd.R_lt (by (with_reducible repeat (first | apply Kd.R_alloc | apply Kd.R_drewN | apply Kd.R_drew)); exact HO352.out))) (below_size xb)); have n3_ := Aside0.mk (below_step xb hb); clear HO_9; clear HO352; clear HB; have HO_9 := n0_; have HO352 := n1_; have HO357 := n2_; have HB := n3_; clear n0_ n1_ n2_ n3_; (try clear hb); (try clear hb2); (try clear hk); (try clear hi); (try clear ho0)) | ((with_reducible refine gate_callee (f := 22) rfl ?_); refine goesL_ (some 85) rfl rfl Tryz.func22 (by kernel_rfl) rfl #[] rfl xr ?_; (with_reducible refine (threshinglaw16_alive.calls kj18  false _ (Tabs.below hT xf) A33.out).mono ?_); rintro e w59 ⟨rfl, hb⟩; refine ⟨_, rfl, ?_⟩; have n0_ := Aside0.mk (Kd.R_below (by (with_reducible repeat (first | apply Kd.R_alloc | apply Kd.R_drewN | apply Kd.R_drew)); exact HO_9.out) hb); have n1_ := Aside0.mk (Kd.R_below (by (with_reducible repeat (first | apply Kd.R_alloc | apply Kd.R_drewN | apply Kd.R_drew)); exact HO352.out) hb); have n2_ := Aside0.mk (Kd.R_below (by (with_reducible repeat (first | apply Kd.R_alloc | apply Kd.R_drewN | apply Kd.R_drew)); exact HO357.out) hb); have n3_ := Aside0.mk (below_step xb hb); clear HO_9; clear HO352; clear HO357; clear HB; have HO_9 := n0_; have HO352 := n1_; have HO357 := n2_; have HB := n3_; clear n0_ n1_ n2_ n3_; (try clear hb); (try clear hb2); (try clear hk); (try clear hi)))
                            go_ret
                            exact ⟨by first | rfl | (simp [errW_none, errW_some] <;> rfl) | (simp [*, errW_none, errW_some] <;> rfl), xb⟩
  · replace c5 := Bool.eq_false_iff.mpr c5
    subst c5
    have H1 : ((threshinglaw16_alive.f k).bind fun t334 => (some t334)) = some r := by rw [if_neg (show ¬ (false = true) by decide)] at H; exact H
    clear H
    have H := H1
    clear H1
    replace H := Option.bind_eq_some_iff.mp H
    obtain ⟨t334, A600, H⟩ := H
    replace H : (some t334) = some r := H
    have A60 := Aside0.mk A600
    clear A600
    obtain rfl := Option.some.inj H
    go_enter Tryz.func6, Tryz.ntmps6
    go_wp2_with (first | ((with_reducible refine gate_callee (f := 21) rfl ?_); refine goesL_ (some 20) rfl rfl Tryz.func21 (by kernel_rfl) rfl #[.slice A0 l0.length c0, .slice A1 l1.length c1] rfl xr ?_; (with_reducible refine (threshinglaw16_small.calls k _ _ l0 (fun k_ => k_ < w.heap.size) _ _ l1 false _ (Tabs.below hT xf) ?side1 ?side2 ?side3 A4.out).mono ?_); (case side1 => repeat (first | exact HR0.out | (with_reducible refine Kd.C_alloc ?_ _) | (with_reducible refine Kd.C_drewN ?_ _) | (with_reducible refine Kd.C_drew ?_))); (case side2 => exact HC0.out); (case side3 => exact Kd.V_mk HC1.out (Kd.F_below (Kd.C_F Kd.heap_string HR1.out) xb)); rintro e w61 ⟨rfl, hb⟩; refine ⟨_, rfl, ?_⟩; have n0_ := Aside0.mk (below_step xb hb); clear HB; have HB := n0_; clear n0_; (try clear hb); (try clear hb2); (try clear hk); (try clear hi)) | ((with_reducible refine gate_callee (f := 22) rfl ?_); refine goesL_ (some 22) rfl rfl Tryz.func22 (by kernel_rfl) rfl #[] rfl xr ?_; (with_reducible refine (threshinglaw16_alive.calls k  t334 _ (Tabs.below hT xf) A60.out).mono ?_); rintro e w62 ⟨rfl, hb⟩; refine ⟨_, rfl, ?_⟩; have n0_ := Aside0.mk (below_step xb hb); clear HB; have HB := n0_; clear n0_; (try clear hb); (try clear hb2); (try clear hk); (try clear hi)))
    go_ret
    exact ⟨by first | rfl | (simp [errW_none, errW_some] <;> rfl) | (simp [*, errW_none, errW_some] <;> rfl), xb⟩

def threshinglaw16_EvalNeeds.Pure : Prop := ∀ (x0 : List (S48)) (x1 : List ByteArray) (x2 : Int), (x0.length * 32 ≤ 140737488351232 ∧ ∀ q0_ ∈ x0, ((Lit.int .i64 q0_.f0).wf = true ∧ (Lit.int .i64 q0_.f1).wf = true ∧ q0_.f2.size ≤ 140737488351232)) → (x1.length * 16 ≤ 140737488351232 ∧ ∀ q0_ ∈ x1, q0_.size ≤ 140737488351232) → (Lit.int .i64 x2).wf = true → ∃ k, threshinglaw16_EvalNeeds.f k x0 x1 x2 = some true

end Go.Proofs.YtejmgcfjpofniaaGreatDoor.PX
