/- Walked functions, by this session's program over the kit's print. -/
import Derived.Test.YtejmgcfjpofniaaGreatDoorXCheckRun
import Derived.Test.YtejmgcfjpofniaaGreatDoorPXx0
import Derived.Test.YtejmgcfjpofniaaGreatDoorPXx1
import Derived.Test.YtejmgcfjpofniaaGreatDoorPXx2
import Derived.Test.YtejmgcfjpofniaaGreatDoorPXx3
import Derived.Test.YtejmgcfjpofniaaGreatDoorPXx8
namespace Go.Proofs.YtejmgcfjpofniaaGreatDoor.PX
open Go.RowKit Go.Proofs.YtejmgcfjpofniaaGreatDoorW.PrintWords Go.Proofs.YtejmgcfjpofniaaGreatDoorW.PrintLast Go.Proofs.YtejmgcfjpofniaaGreatDoorW.PrintMore
attribute [local go_sem] xm_gtr max2_int min2_int max_two min_two max_three min_three max_four min_four   -- for this text's walks alone
set_option linter.unusedVariables false
set_option linter.unusedSimpArgs false

/-! ### threshinglaw15_CheckWants: function 3 -/
def threshinglaw15_CheckWants.j0 : Nat → List (S48) → List Bool → List Bool → Bool → Option (Bool)
  | 0, _, _, _, _ => none
  | k + 1, x0, x1, x2, x19 => if x19 = true then ((threshinglaw15_alive.f k).bind fun t198 => (some t198)) else ((threshinglaw15_alive.f k).bind fun t199 => (if t199 = true then ((check_Check.f k x0 x1 x2).bind fun t200 => ((threshingref15_Check.f k x0 x1 x2).bind fun t201 => (some (t200 == t201)))) else (some false)))
def threshinglaw15_CheckWants.f (k : Nat) (l0 : List (S48)) (l1 : List Bool) (l2 : List Bool) : Option (Bool) := (threshinglaw15_small.f k l0).bind fun t197 => (if t197 = true then (if (l1.length : Int) > 5 then (threshinglaw15_CheckWants.j0 k l0 l1 l2 true) else (threshinglaw15_CheckWants.j0 k l0 l1 l2 (decide ((l2.length : Int) > 40)))) else (threshinglaw15_CheckWants.j0 k l0 l1 l2 true))
theorem threshinglaw15_CheckWants.mono_l : ∀ k, (∀ y0 y1 y2 y3, LeO (threshinglaw15_CheckWants.j0 k y0 y1 y2 y3) (threshinglaw15_CheckWants.j0 (k + 1) y0 y1 y2 y3))
  | 0 => fun _ _ _ _ r h => by simp [threshinglaw15_CheckWants.j0] at h
  | k + 1 => by
    have ih0 := threshinglaw15_CheckWants.mono_l k
    · intro y0 y1 y2 y3
      unfold threshinglaw15_CheckWants.j0
      repeat' first
      | (with_reducible exact ih0 _ _ _ _)
      | (with_reducible exact check_Check.mono _ _ _ _)
      | (with_reducible exact threshinglaw15_alive.mono _)
      | (with_reducible exact threshinglaw15_small.mono _ _)
      | (with_reducible exact threshingref15_Check.mono _ _ _ _)
      | (with_reducible exact LeO.refl _)
      | (with_reducible exact LeO.none _)
      | (with_reducible refine LeO.ite ?_ ?_)
      | (with_reducible refine LeO.bind ?_ (fun _ => ?_))
      | exact ih0 _ _ _ _
      | exact check_Check.mono _ _ _ _
      | exact threshinglaw15_alive.mono _
      | exact threshinglaw15_small.mono _ _
      | exact threshingref15_Check.mono _ _ _ _
      | exact LeO.none _
      | refine LeO.ite ?_ ?_
      | refine LeO.bind ?_ (fun _ => ?_)
theorem threshinglaw15_CheckWants.mono : ∀ a0 a1 a2 k, LeO (threshinglaw15_CheckWants.f k a0 a1 a2) (threshinglaw15_CheckWants.f (k + 1) a0 a1 a2) := by
  intro a0 a1 a2 k
  have ih0 := threshinglaw15_CheckWants.mono_l k
  unfold threshinglaw15_CheckWants.f
  repeat' first
      | (with_reducible exact ih0 _ _ _ _)
      | (with_reducible exact check_Check.mono _ _ _ _)
      | (with_reducible exact threshinglaw15_alive.mono _)
      | (with_reducible exact threshinglaw15_small.mono _ _)
      | (with_reducible exact threshingref15_Check.mono _ _ _ _)
      | (with_reducible exact LeO.refl _)
      | (with_reducible exact LeO.none _)
      | (with_reducible refine LeO.ite ?_ ?_)
      | (with_reducible refine LeO.bind ?_ (fun _ => ?_))
      | exact ih0 _ _ _ _
      | exact check_Check.mono _ _ _ _
      | exact threshinglaw15_alive.mono _
      | exact threshinglaw15_small.mono _ _
      | exact threshingref15_Check.mono _ _ _ _
      | exact LeO.none _
      | refine LeO.ite ?_ ?_
      | refine LeO.bind ?_ (fun _ => ?_)
set_option maxHeartbeats 8000000 in
set_option maxRecDepth 100000 in
theorem threshinglaw15_CheckWants.calls (k : Nat) (A0 : Option Addr) (c0 : Nat) (l0 : List (S48)) (A1 : Option Addr) (c1 : Nat) (l1 : List Bool) (A2 : Option Addr) (c2 : Nat) (l2 : List Bool) (r : Bool) (w : World) (hT : Tabs w) (hr0 : Kd.C k48 w A0 l0.length l0) (hc0 : l0.length ≤ c0) (hr1 : Kd.C Kd.bool w A1 l1.length l1) (hc1 : l1.length ≤ c1) (hr2 : Kd.C Kd.bool w A2 l2.length l2) (hc2 : l2.length ≤ c2) (h : threshinglaw15_CheckWants.f k l0 l1 l2 = some r) :
    Calls Tryz.prog 3 #[.slice A0 l0.length c0, .slice A1 l1.length c1, .slice A2 l2.length c2] w fun e w' => e = .returned (.bool r) ∧ Below w.heap.size w w' := by
  have HR0 := Aside0.mk hr0
  have HC0 := Aside0.mk hc0
  clear hr0 hc0
  have HR1 := Aside0.mk hr1
  have HC1 := Aside0.mk hc1
  clear hr1 hc1
  have HR2 := Aside0.mk hr2
  have HC2 := Aside0.mk hc2
  clear hr2 hc2
  have HB := Aside0.mk (Below.refl w.heap.size w)
  have H : ((threshinglaw15_small.f k l0).bind fun t197 => (if t197 = true then (if (l1.length : Int) > 5 then (threshinglaw15_CheckWants.j0 k l0 l1 l2 true) else (threshinglaw15_CheckWants.j0 k l0 l1 l2 (decide ((l2.length : Int) > 40)))) else (threshinglaw15_CheckWants.j0 k l0 l1 l2 true))) = some r := h
  clear h
  have HC4 := Aside0.mk H
  clear H
  go_enter Tryz.func3, Tryz.ntmps3
  go_upto_region 1 with (fail)
  go_cut [19] (fun v19 wc => ∃ (kq : Nat) (x19_3 : Bool), v19 = .bool x19_3 ∧ Aside0 (threshinglaw15_CheckWants.j0 kq l0 l1 l2 x19_3 = some r) ∧ Aside0 (kq ≤ k) ∧ Aside0 (Below w.heap.size w wc))
  case first =>
    have H := HC4.out
    clear HC4
    replace H := Option.bind_eq_some_iff.mp H
    obtain ⟨t197, A50, H⟩ := H
    replace H : (if t197 = true then (if (l1.length : Int) > 5 then (threshinglaw15_CheckWants.j0 k l0 l1 l2 true) else (threshinglaw15_CheckWants.j0 k l0 l1 l2 (decide ((l2.length : Int) > 40)))) else (threshinglaw15_CheckWants.j0 k l0 l1 l2 true)) = some r := H
    have A5 := Aside0.mk A50
    clear A50
    by_cases c6 : t197 = true
    · subst c6
      have H1 : (if (l1.length : Int) > 5 then (threshinglaw15_CheckWants.j0 k l0 l1 l2 true) else (threshinglaw15_CheckWants.j0 k l0 l1 l2 (decide ((l2.length : Int) > 40)))) = some r := by rw [if_pos rfl] at H; exact H
      clear H
      have H := H1
      clear H1
      by_cases c7 : (l1.length : Int) > 5
      · rw [if_pos c7] at H
        have c7b0 : decide (5 < (l1.length : Int)) = true := decide_eq_true c7
        have c7b1 : decide (5 < l1.length) = true := decide_eq_true (by omega)
        clear c7
        (first | rw [c7b0] | (simp only [i64_w, i32_w]; rw [c7b0]) | skip)
        have H' := Aside0.mk H
        clear H
        go_wp2_with (first | ((with_reducible refine gate_callee (f := 9) rfl ?_); refine goesL_ (some 8) rfl rfl Tryz.func9 (by kernel_rfl) rfl #[.slice A0 l0.length c0] rfl xr ?_; (with_reducible refine (threshinglaw15_small.calls k _ _ l0 true _ (Tabs.below hT xf) ?side1 ?side2 A5.out).mono ?_); (case side1 => repeat (first | exact (Kd.C_below HR0.out HB.out) | (with_reducible refine Kd.C_alloc ?_ _) | (with_reducible refine Kd.C_drewN ?_ _) | (with_reducible refine Kd.C_drew ?_))); (case side2 => exact HC0.out); rintro e w' ⟨rfl, ⟨nd, rfl⟩⟩; refine ⟨_, rfl, ?_⟩))
        go_meet
        case rel => exact ⟨_, (true), (by first | rfl | (simp; done) | (simp [*]; done) | exact congrArg Value.bool (xm_ne_nil _) | exact congrArg Value.bool (xm_ne_nil _).symm), H', ⟨by first | omega | exact Nat.le_refl _⟩, ⟨xb⟩⟩
      · rw [if_neg c7] at H
        have c7b0 : decide (5 < (l1.length : Int)) = false := decide_eq_false c7
        have c7b1 : decide (5 < l1.length) = false := decide_eq_false (by omega)
        clear c7
        (first | rw [c7b0] | (simp only [i64_w, i32_w]; rw [c7b0]) | skip)
        have H' := Aside0.mk H
        clear H
        go_wp2_with (first | ((with_reducible refine gate_callee (f := 9) rfl ?_); refine goesL_ (some 8) rfl rfl Tryz.func9 (by kernel_rfl) rfl #[.slice A0 l0.length c0] rfl xr ?_; (with_reducible refine (threshinglaw15_small.calls k _ _ l0 true _ (Tabs.below hT xf) ?side1 ?side2 A5.out).mono ?_); (case side1 => repeat (first | exact (Kd.C_below HR0.out HB.out) | (with_reducible refine Kd.C_alloc ?_ _) | (with_reducible refine Kd.C_drewN ?_ _) | (with_reducible refine Kd.C_drew ?_))); (case side2 => exact HC0.out); rintro e w' ⟨rfl, ⟨nd, rfl⟩⟩; refine ⟨_, rfl, ?_⟩))
        go_meet
        case rel => exact ⟨_, (decide ((l2.length : Int) > 40)), (by first | rfl | (simp; done) | (simp [*]; done) | exact congrArg Value.bool (xm_ne_nil _) | exact congrArg Value.bool (xm_ne_nil _).symm), H', ⟨by first | omega | exact Nat.le_refl _⟩, ⟨xb⟩⟩
    · replace c6 := Bool.eq_false_iff.mpr c6
      subst c6
      have H1 : (threshinglaw15_CheckWants.j0 k l0 l1 l2 true) = some r := by rw [if_neg (show ¬ (false = true) by decide)] at H; exact H
      clear H
      have H := H1
      clear H1
      have H' := Aside0.mk H
      clear H
      go_wp2_with (first | ((with_reducible refine gate_callee (f := 9) rfl ?_); refine goesL_ (some 8) rfl rfl Tryz.func9 (by kernel_rfl) rfl #[.slice A0 l0.length c0] rfl xr ?_; (with_reducible refine (threshinglaw15_small.calls k _ _ l0 false _ (Tabs.below hT xf) ?side1 ?side2 A5.out).mono ?_); (case side1 => repeat (first | exact (Kd.C_below HR0.out HB.out) | (with_reducible refine Kd.C_alloc ?_ _) | (with_reducible refine Kd.C_drewN ?_ _) | (with_reducible refine Kd.C_drew ?_))); (case side2 => exact HC0.out); rintro e w' ⟨rfl, ⟨nd, rfl⟩⟩; refine ⟨_, rfl, ?_⟩))
      go_meet
      case rel => exact ⟨_, (true), (by first | rfl | (simp; done) | (simp [*]; done) | exact congrArg Value.bool (xm_ne_nil _) | exact congrArg Value.bool (xm_ne_nil _).symm), H', ⟨by first | omega | exact Nat.le_refl _⟩, ⟨xb⟩⟩
  case rest =>
    clear HC4
    try clear c1
    try clear c2
    try clear p2
    try clear c3
    try clear c6
    try clear c7
    try clear c7b0
    try clear c7b1
    obtain ⟨kq, x19_3, rfl, HA, HJ3, HB⟩ := hcut
    cases kq with
    | zero => exact absurd HA.out (by simp [threshinglaw15_CheckWants.j0])
    | succ kj3 =>
      have H := HA.out
      clear HA
      simp only [threshinglaw15_CheckWants.j0] at H
      by_cases c8 : x19_3 = true
      · subst c8
        have H1 : ((threshinglaw15_alive.f kj3).bind fun t198 => (some t198)) = some r := by rw [if_pos rfl] at H; exact H
        clear H
        have H := H1
        clear H1
        replace H := Option.bind_eq_some_iff.mp H
        obtain ⟨t198, A90, H⟩ := H
        replace H : (some t198) = some r := H
        have A9 := Aside0.mk A90
        clear A90
        obtain rfl := Option.some.inj H
        go_wp2_with (first | ((with_reducible refine gate_callee (f := 10) rfl ?_); refine goesL_ (some 20) rfl rfl Tryz.func10 (by kernel_rfl) rfl #[] rfl xr ?_; (with_reducible refine (threshinglaw15_alive.calls kj3  t198 _ (Tabs.below hT xf) A9.out).mono ?_); rintro e w10 ⟨rfl, hb⟩; refine ⟨_, rfl, ?_⟩; have n0_ := Aside0.mk (below_step xb hb); clear HB; have HB := n0_; clear n0_; (try clear hb); (try clear hb2); (try clear hk); (try clear hi)))
        go_ret
        exact ⟨by first | rfl | (simp [errW_none, errW_some] <;> rfl) | (simp [*, errW_none, errW_some] <;> rfl), xb⟩
      · replace c8 := Bool.eq_false_iff.mpr c8
        subst c8
        have H1 : ((threshinglaw15_alive.f kj3).bind fun t199 => (if t199 = true then ((check_Check.f kj3 l0 l1 l2).bind fun t200 => ((threshingref15_Check.f kj3 l0 l1 l2).bind fun t201 => (some (t200 == t201)))) else (some false))) = some r := by rw [if_neg (show ¬ (false = true) by decide)] at H; exact H
        clear H
        have H := H1
        clear H1
        replace H := Option.bind_eq_some_iff.mp H
        obtain ⟨t199, A110, H⟩ := H
        replace H : (if t199 = true then ((check_Check.f kj3 l0 l1 l2).bind fun t200 => ((threshingref15_Check.f kj3 l0 l1 l2).bind fun t201 => (some (t200 == t201)))) else (some false)) = some r := H
        have A11 := Aside0.mk A110
        clear A110
        by_cases c12 : t199 = true
        · subst c12
          have H1 : ((check_Check.f kj3 l0 l1 l2).bind fun t200 => ((threshingref15_Check.f kj3 l0 l1 l2).bind fun t201 => (some (t200 == t201)))) = some r := by rw [if_pos rfl] at H; exact H
          clear H
          have H := H1
          clear H1
          replace H := Option.bind_eq_some_iff.mp H
          obtain ⟨t200, A130, H⟩ := H
          replace H : ((threshingref15_Check.f kj3 l0 l1 l2).bind fun t201 => (some (t200 == t201))) = some r := H
          have A13 := Aside0.mk A130
          clear A130
          replace H := Option.bind_eq_some_iff.mp H
          obtain ⟨t201, A140, H⟩ := H
          replace H : (some (t200 == t201)) = some r := H
          have A14 := Aside0.mk A140
          clear A140
          obtain rfl := Option.some.inj H
          go_wp2_with (first | ((with_reducible refine gate_callee (f := 10) rfl ?_); refine goesL_ (some 21) rfl rfl Tryz.func10 (by kernel_rfl) rfl #[] rfl xr ?_; (with_reducible refine (threshinglaw15_alive.calls kj3  true _ (Tabs.below hT xf) A11.out).mono ?_); rintro e w15 ⟨rfl, hb⟩; refine ⟨_, rfl, ?_⟩; have n0_ := Aside0.mk (below_step xb hb); clear HB; have HB := n0_; clear n0_; (try clear hb); (try clear hb2); (try clear hk); (try clear hi)) | (go_at_call 11; (with_reducible refine (check_Check.calls kj3 _ _ l0 _ _ l1 _ _ l2 t200 _ (Tabs.below hT xf) ?side1 ?side2 ?side3 ?side4 ?side5 ?side6 A13.out).mono ?_); (case side1 => repeat (first | exact (Kd.C_below HR0.out HB.out) | (with_reducible refine Kd.C_alloc ?_ _) | (with_reducible refine Kd.C_drewN ?_ _) | (with_reducible refine Kd.C_drew ?_))); (case side2 => exact HC0.out); (case side3 => repeat (first | exact (Kd.C_below HR1.out HB.out) | (with_reducible refine Kd.C_alloc ?_ _) | (with_reducible refine Kd.C_drewN ?_ _) | (with_reducible refine Kd.C_drew ?_))); (case side4 => exact HC1.out); (case side5 => repeat (first | exact (Kd.C_below HR2.out HB.out) | (with_reducible refine Kd.C_alloc ?_ _) | (with_reducible refine Kd.C_drewN ?_ _) | (with_reducible refine Kd.C_drew ?_))); (case side6 => exact HC2.out); rintro e w16 ⟨rfl, hb⟩; have n0_ := Aside0.mk (below_step xb hb); clear HB; have HB := n0_; clear n0_; (try clear hb); (try clear hb2); (try clear hk); (try clear hi)) | (go_at_call 12; (with_reducible refine (threshingref15_Check.calls kj3 _ _ l0 _ _ l1 _ _ l2 t201 _ (Tabs.below hT xf) ?side1 ?side2 ?side3 ?side4 ?side5 ?side6 A14.out).mono ?_); (case side1 => repeat (first | exact (Kd.C_below HR0.out HB.out) | (with_reducible refine Kd.C_alloc ?_ _) | (with_reducible refine Kd.C_drewN ?_ _) | (with_reducible refine Kd.C_drew ?_))); (case side2 => exact HC0.out); (case side3 => repeat (first | exact (Kd.C_below HR1.out HB.out) | (with_reducible refine Kd.C_alloc ?_ _) | (with_reducible refine Kd.C_drewN ?_ _) | (with_reducible refine Kd.C_drew ?_))); (case side4 => exact HC1.out); (case side5 => repeat (first | exact (Kd.C_below HR2.out HB.out) | (with_reducible refine Kd.C_alloc ?_ _) | (with_reducible refine Kd.C_drewN ?_ _) | (with_reducible refine Kd.C_drew ?_))); (case side6 => exact HC2.out); rintro e w17 ⟨rfl, hb⟩; have n0_ := Aside0.mk (below_step xb hb); clear HB; have HB := n0_; clear n0_; (try clear hb); (try clear hb2); (try clear hk); (try clear hi)))
          go_ret
          exact ⟨by first | rfl | (simp [errW_none, errW_some] <;> rfl) | (simp [*, errW_none, errW_some] <;> rfl), xb⟩
        · replace c12 := Bool.eq_false_iff.mpr c12
          subst c12
          have H1 : (some false) = some r := by rw [if_neg (show ¬ (false = true) by decide)] at H; exact H
          clear H
          have H := H1
          clear H1
          obtain rfl := Option.some.inj H
          go_wp2_with (first | ((with_reducible refine gate_callee (f := 10) rfl ?_); refine goesL_ (some 21) rfl rfl Tryz.func10 (by kernel_rfl) rfl #[] rfl xr ?_; (with_reducible refine (threshinglaw15_alive.calls kj3  false _ (Tabs.below hT xf) A11.out).mono ?_); rintro e w18 ⟨rfl, hb⟩; refine ⟨_, rfl, ?_⟩; have n0_ := Aside0.mk (below_step xb hb); clear HB; have HB := n0_; clear n0_; (try clear hb); (try clear hb2); (try clear hk); (try clear hi)))
          go_ret
          exact ⟨by first | rfl | (simp [errW_none, errW_some] <;> rfl) | (simp [*, errW_none, errW_some] <;> rfl), xb⟩

def threshinglaw15_CheckWants.Pure : Prop := ∀ (x0 : List (S48)) (x1 : List Bool) (x2 : List Bool), (x0.length * 32 ≤ 140737488351232 ∧ ∀ q0_ ∈ x0, ((Lit.int .i64 q0_.f0).wf = true ∧ (Lit.int .i64 q0_.f1).wf = true ∧ q0_.f2.size ≤ 140737488351232)) → (x1.length * 1 ≤ 140737488351232 ∧ ∀ q0_ ∈ x1, True) → (x2.length * 1 ≤ 140737488351232 ∧ ∀ q0_ ∈ x2, True) → ∃ k, threshinglaw15_CheckWants.f k x0 x1 x2 = some true

/-! ### check_Depth: function 16 -/
def check_Depth.f (l0 : List (S48)) (l1 : List Bool) : Option (Int) := some (XCheck.depthP check_Stack.may l0 l1)
theorem check_Depth.calls (A0 : Option Addr) (c0 : Nat) (l0 : List (S48)) (A1 : Option Addr) (c1 : Nat) (l1 : List Bool) (r : Int) (w : World) (hT : Tabs w) (hr0 : Kd.C k48 w A0 l0.length l0) (hc0 : l0.length ≤ c0) (hr1 : Kd.C Kd.bool w A1 l1.length l1) (hc1 : l1.length ≤ c1) (h : check_Depth.f l0 l1 = some r) :
    Calls Tryz.prog 16 #[.slice A0 l0.length c0, .slice A1 l1.length c1] w fun e w' => e = .returned (.int .i64 r) ∧ Below w.heap.size w w' := by
  obtain rfl := Option.some.inj h
  exact XCheck.depth_calls (T := Tabs) (fun w w' h hb => h.below hb) check_Stack.may check_Stack.may_calls check_Stack.may_op A0 c0 l0 A1 c1 l1 w hT hr0 hr1


/-! ### threshingref15_Depth: function 17 -/
def threshingref15_Depth.l0 : Nat → List (S48) → List Bool → Int → Int → Int → Option (Int)
  | 0, _, _, _, _, _ => none
  | k + 1, x0, x1, x6, x8, x9 => if x9 ≤ x6 then (if 0 ≤ x9 then (if x9 ≤ (x0.length : Int) then ((threshingref15_Stack.f k (x0.take (x9 : Int).toNat) x1).bind fun bt211 => (threshingref15_Depth.l0 k x0 x1 x6 (mx x8 (bt211.1.length : Int)) (wrap64 (x9 + 1)))) else (none)) else (none)) else (some x8)
def threshingref15_Depth.f (k : Nat) (l0 : List (S48)) (l1 : List Bool) : Option (Int) := (threshingref15_Stack.f k l0 l1).bind fun bt202 => (threshingref15_Depth.l0 k l0 l1 bt202.2.1 0 0)
theorem threshingref15_Depth.mono_l : ∀ k, (∀ y0 y1 y2 y3 y4, LeO (threshingref15_Depth.l0 k y0 y1 y2 y3 y4) (threshingref15_Depth.l0 (k + 1) y0 y1 y2 y3 y4))
  | 0 => fun _ _ _ _ _ r h => by simp [threshingref15_Depth.l0] at h
  | k + 1 => by
    have ih0 := threshingref15_Depth.mono_l k
    · intro y0 y1 y2 y3 y4
      unfold threshingref15_Depth.l0
      repeat' first
      | (with_reducible exact ih0 _ _ _ _ _)
      | (with_reducible exact threshingref15_Stack.mono _ _ _)
      | (with_reducible exact LeO.refl _)
      | (with_reducible exact LeO.none _)
      | (with_reducible refine LeO.ite ?_ ?_)
      | (with_reducible refine LeO.bind ?_ (fun _ => ?_))
      | exact ih0 _ _ _ _ _
      | exact threshingref15_Stack.mono _ _ _
      | exact LeO.none _
      | refine LeO.ite ?_ ?_
      | refine LeO.bind ?_ (fun _ => ?_)
theorem threshingref15_Depth.mono : ∀ a0 a1 k, LeO (threshingref15_Depth.f k a0 a1) (threshingref15_Depth.f (k + 1) a0 a1) := by
  intro a0 a1 k
  have ih0 := threshingref15_Depth.mono_l k
  unfold threshingref15_Depth.f
  repeat' first
      | (with_reducible exact ih0 _ _ _ _ _)
      | (with_reducible exact threshingref15_Stack.mono _ _ _)
      | (with_reducible exact LeO.refl _)
      | (with_reducible exact LeO.none _)
      | (with_reducible refine LeO.ite ?_ ?_)
      | (with_reducible refine LeO.bind ?_ (fun _ => ?_))
      | exact ih0 _ _ _ _ _
      | exact threshingref15_Stack.mono _ _ _
      | exact LeO.none _
      | refine LeO.ite ?_ ?_
      | refine LeO.bind ?_ (fun _ => ?_)
set_option maxHeartbeats 8000000 in
set_option maxRecDepth 100000 in
theorem threshingref15_Depth.calls (k : Nat) (A0 : Option Addr) (c0 : Nat) (l0 : List (S48)) (A1 : Option Addr) (c1 : Nat) (l1 : List Bool) (r : Int) (w : World) (hT : Tabs w) (hr0 : Kd.C k48 w A0 l0.length l0) (hc0 : l0.length ≤ c0) (hr1 : Kd.C Kd.bool w A1 l1.length l1) (hc1 : l1.length ≤ c1) (h : threshingref15_Depth.f k l0 l1 = some r) :
    Calls Tryz.prog 17 #[.slice A0 l0.length c0, .slice A1 l1.length c1] w fun e w' => e = .returned (.int .i64 r) ∧ Below w.heap.size w w' := by
  have HR0 := Aside0.mk hr0
  have HC0 := Aside0.mk hc0
  clear hr0 hc0
  have HR1 := Aside0.mk hr1
  have HC1 := Aside0.mk hc1
  clear hr1 hc1
  have HB := Aside0.mk (Below.refl w.heap.size w)
  have H : ((threshingref15_Stack.f k l0 l1).bind fun bt202 => (threshingref15_Depth.l0 k l0 l1 bt202.2.1 0 0)) = some r := h
  clear h
  replace H := Option.bind_eq_some_iff.mp H
  obtain ⟨⟨t202, t203, t204⟩, A30, H⟩ := H
  replace H : (threshingref15_Depth.l0 k l0 l1 t203 0 0) = some r := H
  have A3 := Aside0.mk A30
  clear A30
  have H' := Aside0.mk H
  clear H
  go_enter Tryz.func17, Tryz.ntmps17
  go_wp2_with (first | ((with_reducible refine gate_callee (f := 14) rfl ?_); refine goesL_ (some 16) rfl rfl Tryz.func14 (by kernel_rfl) rfl #[.slice A0 l0.length c0, .slice A1 l1.length c1] rfl xr ?_; (with_reducible refine (threshingref15_Stack.calls k _ _ l0 _ _ l1 t202 t203 t204 _ (Tabs.below hT xf) ?side1 ?side2 ?side3 ?side4 A3.out).mono ?_); (case side1 => repeat (first | exact HR0.out | (with_reducible refine Kd.C_alloc ?_ _) | (with_reducible refine Kd.C_drewN ?_ _) | (with_reducible refine Kd.C_drew ?_))); (case side2 => exact HC0.out); (case side3 => repeat (first | exact HR1.out | (with_reducible refine Kd.C_alloc ?_ _) | (with_reducible refine Kd.C_drewN ?_ _) | (with_reducible refine Kd.C_drew ?_))); (case side4 => exact HC1.out); rintro e w4 ⟨v205, rfl, ho0, hb⟩; refine ⟨_, rfl, ?_⟩; have n0_ := Aside0.mk (Kd.R_lower ho0 (below_size xb)); have n1_ := Aside0.mk (below_step xb hb); clear HB; have HO206 := n0_; have HB := n1_; clear n0_ n1_; (try clear hb); (try clear hb2); (try clear hk); (try clear hi); (try clear ho0)))
  go_loopg [8, 9] k (fun kq v8 v9 w' => ∃ (x8_1 : Int) (x9_1 : Int), v8 = .int .i64 x8_1 ∧ v9 = .int .i64 x9_1 ∧ Aside0 (threshingref15_Depth.l0 kq l0 l1 t203 x8_1 x9_1 = some r) ∧ Aside0 (kq ≤ k) ∧ Aside0 (Below w.heap.size w w'))
  case atStart => exact ⟨(0), (0), (by first | rfl | (simp; done) | (simp [*]; done) | exact congrArg Value.bool (xm_ne_nil _) | exact congrArg Value.bool (xm_ne_nil _).symm), (by first | rfl | (simp; done) | (simp [*]; done) | exact congrArg Value.bool (xm_ne_nil _) | exact congrArg Value.bool (xm_ne_nil _).symm), H', ⟨Nat.le_refl _⟩, ⟨xb⟩⟩
  case round =>
    clear H'
    try clear c1
    try clear p2
    obtain ⟨x8_1, x9_1, rfl, rfl, HA, HK1, HB⟩ := hrel
    cases gk with
    | zero => exact absurd HA.out (by simp [threshingref15_Depth.l0])
    | succ k1 =>
      have H := HA.out
      clear HA
      simp only [threshingref15_Depth.l0] at H
      by_cases c5 : x9_1 ≤ t203
      · rw [if_pos c5] at H
        have c5b0 : decide (x9_1 ≤ t203) = true := decide_eq_true c5
        clear c5
        by_cases c6 : 0 ≤ x9_1
        · rw [if_pos c6] at H
          have c6b0 := eq_true c6
          have c6b1 : decide (0 ≤ x9_1) = true := decide_eq_true c6
          clear c6
          by_cases c7 : x9_1 ≤ (l0.length : Int)
          · rw [if_pos c7] at H
            have c7b0 := eq_true c7
            have c7b1 : decide (x9_1 ≤ (l0.length : Int)) = true := decide_eq_true c7
            clear c7
            obtain ⟨y207, hy207⟩ : ∃ y_ : List (S48), y_ = (l0.take (x9_1 : Int).toNat) := ⟨_, rfl⟩
            replace H : ((threshingref15_Stack.f k1 y207 l1).bind fun bt211 => (threshingref15_Depth.l0 k1 l0 l1 t203 (mx x8_1 (bt211.1.length : Int)) (wrap64 (x9_1 + 1)))) = some r := by first | (rw [hy207]; with_reducible exact H) | (have H2_ := (Option.bind_some _ _).symm.trans H; rw [hy207]; with_reducible exact H2_) | (have H2_ := (Option.bind_some _ _).symm.trans H; with_reducible exact H2_) | with_reducible exact H | (rw [hy207]; exact H) | exact H
            have Ny207 := Aside0.mk hy207
            clear hy207
            replace H := Option.bind_eq_some_iff.mp H
            obtain ⟨⟨t211, t212, t213⟩, A80, H⟩ := H
            replace H : (threshingref15_Depth.l0 k1 l0 l1 t203 (mx x8_1 (t211.length : Int)) (wrap64 (x9_1 + 1))) = some r := H
            have A8 := Aside0.mk A80
            clear A80
            obtain ⟨ji9, hji9⟩ : ∃ j_ : Int, (mx x8_1 (t211.length : Int)) = j_ := ⟨_, rfl⟩
            replace H : (threshingref15_Depth.l0 k1 l0 l1 t203 ji9 (wrap64 (x9_1 + 1))) = some r := by first | (rw [hji9] at H; exact H) | (simp only [hji9] at H ⊢; exact H)
            (try rw [hji9] at A8)
            have hji9_ : (if x8_1 < (t211.length : Int) then (t211.length : Int) else x8_1) = ji9 := hji9
            have H' := Aside0.mk H
            clear H
            have q10 : (x9_1 : Int) ≤ ((l0.length : Int) : Int) := of_decide_eq_true (by first | (with_reducible assumption) | assumption)
            obtain ⟨i010, hi010, _, hsz10, _⟩ := info_parts info48
            have hroom10 : l0.length ≤ c0 := HC0.out
            have hC10 : Kd.C k48 _ A0 l0.length l0 := HR0.out
            have hcut10 := cut_to (P := Tryz.prog) 22 48 .i64 Tryz.underlying22 hi010 A0 l0.length c0 x9_1 (of_decide_eq_true (by first | (with_reducible assumption) | assumption)) q10 hroom10
            have hr10 := Kd.C_take (m := (x9_1 : Int).toNat) hC10 (by omega)
            have hy10 : y207.length = (x9_1 : Int).toNat := (by rw [Ny207.out, List.length_take]; omega)
            rw [← Ny207.out] at hr10
            rw [← hy10] at hcut10
            have HR210 := Aside0.mk hr10
            have HC210 := Aside0.mk (show y207.length ≤ c0 from by omega)
            clear hr10 hC10 hroom10 hi010 hsz10
            have KY10 := Aside0.mk hy10
            clear hy10
            replace q10 := eq_true q10
            go_wp2_with (first | ((with_reducible refine gate_callee (f := 14) rfl ?_); refine goesL_ (some 30) rfl rfl Tryz.func14 (by kernel_rfl) rfl #[.slice A0 y207.length c0, .slice A1 l1.length c1] rfl xr ?_; (with_reducible refine (threshingref15_Stack.calls k1 _ _ y207 _ _ l1 t211 t212 t213 _ (Tabs.below hT xf) ?side1 ?side2 ?side3 ?side4 A8.out).mono ?_); (case side1 => repeat (first | exact (Kd.C_below HR210.out HB.out) | (with_reducible refine Kd.C_alloc ?_ _) | (with_reducible refine Kd.C_drewN ?_ _) | (with_reducible refine Kd.C_drew ?_))); (case side2 => exact HC210.out); (case side3 => repeat (first | exact (Kd.C_below HR1.out HB.out) | (with_reducible refine Kd.C_alloc ?_ _) | (with_reducible refine Kd.C_drewN ?_ _) | (with_reducible refine Kd.C_drew ?_))); (case side4 => exact HC1.out); rintro e w11 ⟨v214, rfl, ho0, hb⟩; refine ⟨_, rfl, ?_⟩; have n0_ := Aside0.mk (Kd.R_lower ho0 (below_size xb)); have n1_ := Aside0.mk (below_step xb hb); clear HB; have HO215 := n0_; have HB := n1_; clear n0_ n1_; (try clear hb); (try clear hb2); (try clear hk); (try clear hi); (try clear ho0); obtain ⟨Ao12, co12, eo12⟩ := Kd.R_slice HO215.out; subst eo12))
            go_roundg k1
            case measure => have := HK1.out; omega
            case rel => exact ⟨(ji9), (wrap64 (x9_1 + 1)), (by first | rfl | (simp; done) | (simp only [← hji9] <;> (first | rfl | simp)) | (simp [*]; done)), (by first | rfl | (simp; done) | (simp [*]; done) | exact congrArg Value.bool (xm_ne_nil _) | exact congrArg Value.bool (xm_ne_nil _).symm), H', ⟨by have := HK1.out; omega⟩, ⟨xb⟩⟩
          · rw [if_neg c7] at H
            exact absurd H (by simp)
        · rw [if_neg c6] at H
          exact absurd H (by simp)
      · rw [if_neg c5] at H
        have c5b0 : decide (x9_1 ≤ t203) = false := decide_eq_false c5
        clear c5
        obtain rfl := Option.some.inj H
        go_wp2
        go_ret
        exact ⟨by first | rfl | (simp [errW_none, errW_some] <;> rfl) | (simp [*, errW_none, errW_some] <;> rfl), xb⟩

end Go.Proofs.YtejmgcfjpofniaaGreatDoor.PX
