/- Walked functions, by this session's program over the kit's print. -/
import Derived.Test.YtejmgcfjpofniaaGreatDoorPXx0
import Derived.Test.YtejmgcfjpofniaaGreatDoorPXx2
/- Walked functions, by this session's program over the kit's print. -/
namespace Go.Proofs.YtejmgcfjpofniaaGreatDoor.PX
open Go.RowKit Go.Proofs.YtejmgcfjpofniaaGreatDoorW.PrintWords Go.Proofs.YtejmgcfjpofniaaGreatDoorW.PrintLast Go.Proofs.YtejmgcfjpofniaaGreatDoorW.PrintMore
attribute [local go_sem] xm_gtr max2_int min2_int max_two min_two max_three min_three max_four min_four   -- for this text's walks alone
set_option linter.unusedVariables false
set_option linter.unusedSimpArgs false

/-! ### threshingref13_Result: function 45 -/
mutual
def threshingref13_Result.l0 : Nat → List Bool → ByteArray → ByteArray → Int → Int → Option (Bool × Int)
  | 0, _, _, _, _, _ => none
  | k + 1, x1, x6, x7, x8, x9 => if x9 < (x6.size : Int) then (if 0 ≤ x9 then (if (bt x6 x9) = 110 then (if x9 < (x1.length : Int) then (if rdOf false x1 x9 = true then (threshingref13_Result.j1 k x1 x6 x7 x8 x9 true) else (if (bt x6 x9) = 116 then (threshingref13_Result.j1 k x1 x6 x7 x8 x9 (!(rdOf false x1 x9))) else (threshingref13_Result.j1 k x1 x6 x7 x8 x9 false))) else (none)) else (if (bt x6 x9) = 116 then (if x9 < (x1.length : Int) then (threshingref13_Result.j1 k x1 x6 x7 x8 x9 (!(rdOf false x1 x9))) else (none)) else (threshingref13_Result.j1 k x1 x6 x7 x8 x9 false))) else (none)) else (if x7.toList = ([97] : List UInt8) then (if 0 ≤ x8 then (if x8 < (x1.length : Int) then (some (rdOf false x1 x8, 0)) else (none)) else (none)) else (some ((x7.toList == ([116] : List UInt8)), 0)))
def threshingref13_Result.j1 : Nat → List Bool → ByteArray → ByteArray → Int → Int → Bool → Option (Bool × Int)
  | 0, _, _, _, _, _, _ => none
  | k + 1, x1, x6, x7, x8, x9, x50 => if x50 = true then (some (false, 11)) else (if 0 ≤ x9 then (if x9 < (x6.size : Int) then (if (bt x6 x9) = 97 then (if x8 ≥ 0 then (if x9 < (x1.length : Int) then (if 0 ≤ x8 then (if x8 < (x1.length : Int) then (threshingref13_Result.j2 k x1 x6 x7 x8 x9 ((rdOf false x1 x9) != (rdOf false x1 x8))) else (none)) else (none)) else (none)) else (threshingref13_Result.j2 k x1 x6 x7 x8 x9 false)) else (threshingref13_Result.j2 k x1 x6 x7 x8 x9 false)) else (none)) else (none))
def threshingref13_Result.j2 : Nat → List Bool → ByteArray → ByteArray → Int → Int → Bool → Option (Bool × Int)
  | 0, _, _, _, _, _, _ => none
  | k + 1, x1, x6, x7, x8, x9, x69 => if x69 = true then (some (false, 11)) else (if 0 ≤ x9 then (if x9 < (x6.size : Int) then (if (bt x6 x9) = 97 then (threshingref13_Result.l0 k x1 x6 x7 x9 (wrap64 (x9 + 1))) else (threshingref13_Result.l0 k x1 x6 x7 x8 (wrap64 (x9 + 1)))) else (none)) else (none))
end
def threshingref13_Result.f (k : Nat) (a0 : Int) (l1 : List Bool) : Option (Bool × Int) := (threshingref13_kinds.f k a0).bind fun bt104 => (if bt104.1.toList = ([] : List UInt8) then (some (false, 1)) else (if (l1.length : Int) = (bt104.1.size : Int) then (threshingref13_Result.l0 k l1 bt104.1 bt104.2 (-1) 0) else (some (false, 11))))
theorem threshingref13_Result.mono_l : ∀ k, (∀ y0 y1 y2 y3 y4, LeO (threshingref13_Result.l0 k y0 y1 y2 y3 y4) (threshingref13_Result.l0 (k + 1) y0 y1 y2 y3 y4)) ∧ (∀ y0 y1 y2 y3 y4 y5, LeO (threshingref13_Result.j1 k y0 y1 y2 y3 y4 y5) (threshingref13_Result.j1 (k + 1) y0 y1 y2 y3 y4 y5)) ∧ (∀ y0 y1 y2 y3 y4 y5, LeO (threshingref13_Result.j2 k y0 y1 y2 y3 y4 y5) (threshingref13_Result.j2 (k + 1) y0 y1 y2 y3 y4 y5))
  | 0 => ⟨fun _ _ _ _ _ r h => by simp [threshingref13_Result.l0] at h, fun _ _ _ _ _ _ r h => by simp [threshingref13_Result.j1] at h, fun _ _ _ _ _ _ r h => by simp [threshingref13_Result.j2] at h⟩
  | k + 1 => by
    obtain ⟨ih0, ih1, ih2⟩ := threshingref13_Result.mono_l k
    refine ⟨?_, ?_, ?_⟩
    · intro y0 y1 y2 y3 y4
      unfold threshingref13_Result.l0
      repeat' first
      | (with_reducible exact ih0 _ _ _ _ _)
      | (with_reducible exact ih1 _ _ _ _ _ _)
      | (with_reducible exact ih2 _ _ _ _ _ _)
      | (with_reducible exact threshingref13_kinds.mono _ _)
      | (with_reducible exact LeO.refl _)
      | (with_reducible exact LeO.none _)
      | (with_reducible refine LeO.ite ?_ ?_)
      | (with_reducible refine LeO.bind ?_ (fun _ => ?_))
      | exact ih0 _ _ _ _ _
      | exact ih1 _ _ _ _ _ _
      | exact ih2 _ _ _ _ _ _
      | exact threshingref13_kinds.mono _ _
      | exact LeO.none _
      | refine LeO.ite ?_ ?_
      | refine LeO.bind ?_ (fun _ => ?_)
    · intro y0 y1 y2 y3 y4 y5
      unfold threshingref13_Result.j1
      repeat' first
      | (with_reducible exact ih0 _ _ _ _ _)
      | (with_reducible exact ih1 _ _ _ _ _ _)
      | (with_reducible exact ih2 _ _ _ _ _ _)
      | (with_reducible exact threshingref13_kinds.mono _ _)
      | (with_reducible exact LeO.refl _)
      | (with_reducible exact LeO.none _)
      | (with_reducible refine LeO.ite ?_ ?_)
      | (with_reducible refine LeO.bind ?_ (fun _ => ?_))
      | exact ih0 _ _ _ _ _
      | exact ih1 _ _ _ _ _ _
      | exact ih2 _ _ _ _ _ _
      | exact threshingref13_kinds.mono _ _
      | exact LeO.none _
      | refine LeO.ite ?_ ?_
      | refine LeO.bind ?_ (fun _ => ?_)
    · intro y0 y1 y2 y3 y4 y5
      unfold threshingref13_Result.j2
      repeat' first
      | (with_reducible exact ih0 _ _ _ _ _)
      | (with_reducible exact ih1 _ _ _ _ _ _)
      | (with_reducible exact ih2 _ _ _ _ _ _)
      | (with_reducible exact threshingref13_kinds.mono _ _)
      | (with_reducible exact LeO.refl _)
      | (with_reducible exact LeO.none _)
      | (with_reducible refine LeO.ite ?_ ?_)
      | (with_reducible refine LeO.bind ?_ (fun _ => ?_))
      | exact ih0 _ _ _ _ _
      | exact ih1 _ _ _ _ _ _
      | exact ih2 _ _ _ _ _ _
      | exact threshingref13_kinds.mono _ _
      | exact LeO.none _
      | refine LeO.ite ?_ ?_
      | refine LeO.bind ?_ (fun _ => ?_)
theorem threshingref13_Result.mono : ∀ a0 a1 k, LeO (threshingref13_Result.f k a0 a1) (threshingref13_Result.f (k + 1) a0 a1) := by
  intro a0 a1 k
  obtain ⟨ih0, ih1, ih2⟩ := threshingref13_Result.mono_l k
  unfold threshingref13_Result.f
  repeat' first
      | (with_reducible exact ih0 _ _ _ _ _)
      | (with_reducible exact ih1 _ _ _ _ _ _)
      | (with_reducible exact ih2 _ _ _ _ _ _)
      | (with_reducible exact threshingref13_kinds.mono _ _)
      | (with_reducible exact LeO.refl _)
      | (with_reducible exact LeO.none _)
      | (with_reducible refine LeO.ite ?_ ?_)
      | (with_reducible refine LeO.bind ?_ (fun _ => ?_))
      | exact ih0 _ _ _ _ _
      | exact ih1 _ _ _ _ _ _
      | exact ih2 _ _ _ _ _ _
      | exact threshingref13_kinds.mono _ _
      | exact LeO.none _
      | refine LeO.ite ?_ ?_
      | refine LeO.bind ?_ (fun _ => ?_)
set_option maxHeartbeats 8000000 in
set_option maxRecDepth 100000 in
theorem threshingref13_Result.calls (k : Nat) (a0 : Int) (A1 : Option Addr) (c1 : Nat) (l1 : List Bool) (r1 : Bool) (r2 : Int) (w : World) (hT : Tabs w) (hr1 : Kd.C Kd.bool w A1 l1.length l1) (hc1 : l1.length ≤ c1) (h : threshingref13_Result.f k a0 l1 = some (r1, r2)) :
    Calls Tryz.prog 45 #[.int .i64 a0, .slice A1 l1.length c1] w fun e w' => e = .returned (.tuple #[.bool r1, .int .i64 r2]) ∧ Drawn0 w w' := by
  have HR1 := Aside0.mk hr1
  have HC1 := Aside0.mk hc1
  clear hr1 hc1
  have H : ((threshingref13_kinds.f k a0).bind fun bt104 => (if bt104.1.toList = ([] : List UInt8) then (some (false, 1)) else (if (l1.length : Int) = (bt104.1.size : Int) then (threshingref13_Result.l0 k l1 bt104.1 bt104.2 (-1) 0) else (some (false, 11))))) = some (r1, r2) := h
  clear h
  replace H := Option.bind_eq_some_iff.mp H
  obtain ⟨⟨t104, t105⟩, A30, H⟩ := H
  replace H : (if t104.toList = ([] : List UInt8) then (some (false, 1)) else (if (l1.length : Int) = (t104.size : Int) then (threshingref13_Result.l0 k l1 t104 t105 (-1) 0) else (some (false, 11)))) = some (r1, r2) := H
  have A3 := Aside0.mk A30
  clear A30
  by_cases c4 : t104.toList = ([] : List UInt8)
  · rw [if_pos c4] at H
    have c4b0 : (t104.toList == ([] : List UInt8)) = true := beq_iff_eq.mpr c4
    have c4b1 : (t104.toList != ([] : List UInt8)) = false := bne_eq_false_iff_eq.mpr c4
    clear c4
    simp only [Option.some.injEq, Prod.mk.injEq] at H
    obtain ⟨rfl, rfl⟩ := H
    go_enter Tryz.func45, Tryz.ntmps45
    go_wp2_with (first | (go_at_call 58; (with_reducible refine (threshingref13_kinds.calls k a0 t104 t105 _ (Tabs.below hT xf) A3.out).mono ?_); rintro e w' ⟨rfl, ⟨nd, rfl⟩⟩; (try first | exact ⟨rfl, _, World.drewN_drewN _ _ _⟩ | exact ⟨rfl, _, Eq.trans (World.drewN_drewN _ _ _) (congrArg (World.drewN _) (Nat.add_assoc _ _ _))⟩)))
    repeat (go_quiet (first | (go_at_call 58; (with_reducible refine (threshingref13_kinds.calls k a0 t104 t105 _ (Tabs.below hT xf) A3.out).mono ?_); rintro e w' ⟨rfl, ⟨nd, rfl⟩⟩; (try first | exact ⟨rfl, _, World.drewN_drewN _ _ _⟩ | exact ⟨rfl, _, Eq.trans (World.drewN_drewN _ _ _) (congrArg (World.drewN _) (Nat.add_assoc _ _ _))⟩))); try go_wp2_with (first | (go_at_call 58; (with_reducible refine (threshingref13_kinds.calls k a0 t104 t105 _ (Tabs.below hT xf) A3.out).mono ?_); rintro e w' ⟨rfl, ⟨nd, rfl⟩⟩; (try first | exact ⟨rfl, _, World.drewN_drewN _ _ _⟩ | exact ⟨rfl, _, Eq.trans (World.drewN_drewN _ _ _) (congrArg (World.drewN _) (Nat.add_assoc _ _ _))⟩))))
    go_ret2
    exact ⟨xg, xz⟩
  · rw [if_neg c4] at H
    have c4b0 : (t104.toList == ([] : List UInt8)) = false := beq_eq_false_iff_ne.mpr c4
    have c4b1 : (t104.toList != ([] : List UInt8)) = true := bne_iff_ne.mpr c4
    by_cases c5 : (l1.length : Int) = (t104.size : Int)
    · rw [if_pos c5] at H
      have c5b0 : ((l1.length : Int) == (t104.size : Int)) = true := beq_iff_eq.mpr c5
      have c5b1 : ((l1.length : Int) != (t104.size : Int)) = false := bne_eq_false_iff_eq.mpr c5
      have c5b2 : (l1.length == t104.size) = true := by first | simpa using c5 | (simp at c5 ⊢; omega)
      clear c5
      have H' := Aside0.mk H
      clear H
      go_enter Tryz.func45, Tryz.ntmps45
      go_wp2_with (first | (go_at_call 58; (with_reducible refine (threshingref13_kinds.calls k a0 t104 t105 _ (Tabs.below hT xf) A3.out).mono ?_); rintro e w' ⟨rfl, ⟨nd, rfl⟩⟩; (try first | exact ⟨rfl, _, World.drewN_drewN _ _ _⟩ | exact ⟨rfl, _, Eq.trans (World.drewN_drewN _ _ _) (congrArg (World.drewN _) (Nat.add_assoc _ _ _))⟩)))
      repeat (go_quiet (first | (go_at_call 58; (with_reducible refine (threshingref13_kinds.calls k a0 t104 t105 _ (Tabs.below hT xf) A3.out).mono ?_); rintro e w' ⟨rfl, ⟨nd, rfl⟩⟩; (try first | exact ⟨rfl, _, World.drewN_drewN _ _ _⟩ | exact ⟨rfl, _, Eq.trans (World.drewN_drewN _ _ _) (congrArg (World.drewN _) (Nat.add_assoc _ _ _))⟩))); try go_wp2_with (first | (go_at_call 58; (with_reducible refine (threshingref13_kinds.calls k a0 t104 t105 _ (Tabs.below hT xf) A3.out).mono ?_); rintro e w' ⟨rfl, ⟨nd, rfl⟩⟩; (try first | exact ⟨rfl, _, World.drewN_drewN _ _ _⟩ | exact ⟨rfl, _, Eq.trans (World.drewN_drewN _ _ _) (congrArg (World.drewN _) (Nat.add_assoc _ _ _))⟩))))
      go_loopg [8, 9] k (fun kq v8 v9 w' => ∃ (x8_1 : Int) (x9_1 : Int), v8 = .int .i64 x8_1 ∧ v9 = .int .i64 x9_1 ∧ Aside0 (threshingref13_Result.l0 kq l1 t104 t105 x8_1 x9_1 = some (r1, r2)) ∧ Aside0 (kq ≤ k) ∧ Drawn0 w w')
      case atStart => exact ⟨((-1)), (0), xg, xg, H', ⟨Nat.le_refl _⟩, by repeat (first | exact Drawn0.refl _ | apply Drawn0.step)⟩
      case round =>
        clear H'
        try clear c1
        try clear p2
        try clear c4
        try clear c4b0
        try clear c4b1
        try clear c5
        try clear c5b0
        try clear c5b1
        try clear c5b2
        obtain ⟨x8_1, x9_1, rfl, rfl, HA, HK1, ⟨m1, rfl⟩⟩ := hrel
        cases gk with
        | zero => exact absurd HA.out (by simp [threshingref13_Result.l0])
        | succ k1 =>
          have H := HA.out
          clear HA
          simp only [threshingref13_Result.l0] at H
          by_cases c6 : x9_1 < (t104.size : Int)
          · rw [if_pos c6] at H
            have c6b0 : decide (x9_1 < (t104.size : Int)) = true := decide_eq_true c6
            clear c6
            have HC7 := Aside0.mk H
            clear H
            go_upto_region 10 with (fail)
            repeat (go_quiet (fail); go_upto_region 10 with (fail))
            go_cut [50] (fun v50 wc => ∃ (kq : Nat) (x50_6 : Bool), v50 = .bool x50_6 ∧ Aside0 (threshingref13_Result.j1 kq l1 t104 t105 x8_1 x9_1 x50_6 = some (r1, r2)) ∧ Aside0 (kq ≤ k1) ∧ Drawn0 w wc)
            case first =>
              have H := HC7.out
              clear HC7
              by_cases c8 : 0 ≤ x9_1
              · rw [if_pos c8] at H
                have c8b0 : decide (0 ≤ x9_1) = true := decide_eq_true c8
                clear c8
                (first | rw [c8b0] | (simp only [i64_w, i32_w]; rw [c8b0]) | skip)
                by_cases c10 : (bt t104 x9_1) = 110
                · rw [if_pos c10] at H
                  have c10b0 : ((bt t104 x9_1) == 110) = true := beq_iff_eq.mpr c10
                  have c10b1 : ((bt t104 x9_1) != 110) = false := bne_eq_false_iff_eq.mpr c10
                  clear c10
                  by_cases c11 : x9_1 < (l1.length : Int)
                  · rw [if_pos c11] at H
                    have c11b0 : decide (x9_1 < (l1.length : Int)) = true := decide_eq_true c11
                    clear c11
                    obtain ⟨bq12, hbq12⟩ : ∃ b_ : Bool, b_ = (rdOf false l1 x9_1) := ⟨_, rfl⟩
                    replace H : (if bq12 = true then (threshingref13_Result.j1 k1 l1 t104 t105 x8_1 x9_1 true) else (if (bt t104 x9_1) = 116 then (threshingref13_Result.j1 k1 l1 t104 t105 x8_1 x9_1 (!(bq12))) else (threshingref13_Result.j1 k1 l1 t104 t105 x8_1 x9_1 false))) = some (r1, r2) := by rw [← hbq12] at H; exact H
                    have Nbq12 := Aside0.mk hbq12
                    clear hbq12
                    by_cases c13 : bq12 = true
                    · subst c13
                      have H1 : (threshingref13_Result.j1 k1 l1 t104 t105 x8_1 x9_1 true) = some (r1, r2) := by rw [if_pos rfl] at H; exact H
                      clear H
                      have H := H1
                      clear H1
                      have H' := Aside0.mk H
                      clear H
                      have p9 : 0 ≤ (x9_1 : Int) := of_decide_eq_true xa
                      have q9 : x9_1 < (t104.size : Int) := of_decide_eq_true xa
                      have hx9 := bt_at t104 x9_1
                      replace p9 := eq_true p9
                      replace q9 := eq_true q9
                      have p107 : 0 ≤ (x9_1 : Int) := of_decide_eq_true xa
                      have q107 : x9_1 < (l1.length : Int) := of_decide_eq_true xa
                      obtain ⟨ad107, e107, hx107_0⟩ := Kd.at_bool HR1.out x9_1 p107 q107
                      (try rw [← Nbq12.out] at hx107_0)
                      cases e107
                      replace p107 := eq_true p107
                      replace q107 := eq_true q107
                      go_wp2
                      repeat (go_quiet (fail); try go_wp2)
                      go_meet
                      case rel => exact ⟨_, (true), xg, H', ⟨by have := HK1.out; first | omega | exact Nat.le_refl _⟩, by repeat (first | exact Drawn0.refl _ | apply Drawn0.step)⟩
                    · replace c13 := Bool.eq_false_iff.mpr c13
                      subst c13
                      have H1 : (if (bt t104 x9_1) = 116 then (threshingref13_Result.j1 k1 l1 t104 t105 x8_1 x9_1 (!(false))) else (threshingref13_Result.j1 k1 l1 t104 t105 x8_1 x9_1 false)) = some (r1, r2) := by rw [if_neg (show ¬ (false = true) by decide)] at H; exact H
                      clear H
                      have H := H1
                      clear H1
                      by_cases c15 : (bt t104 x9_1) = 116
                      · rw [if_pos c15] at H
                        have c15b0 : ((bt t104 x9_1) == 116) = true := beq_iff_eq.mpr c15
                        have c15b1 : ((bt t104 x9_1) != 116) = false := bne_eq_false_iff_eq.mpr c15
                        clear c15
                        have H' := Aside0.mk H
                        clear H
                        have p9 : 0 ≤ (x9_1 : Int) := of_decide_eq_true xa
                        have q9 : x9_1 < (t104.size : Int) := of_decide_eq_true xa
                        have hx9 := bt_at t104 x9_1
                        replace p9 := eq_true p9
                        replace q9 := eq_true q9
                        have p107 : 0 ≤ (x9_1 : Int) := of_decide_eq_true xa
                        have q107 : x9_1 < (l1.length : Int) := of_decide_eq_true xa
                        obtain ⟨ad107, e107, hx107_0⟩ := Kd.at_bool HR1.out x9_1 p107 q107
                        (try rw [← Nbq12.out] at hx107_0)
                        cases e107
                        replace p107 := eq_true p107
                        replace q107 := eq_true q107
                        have p14 : 0 ≤ (x9_1 : Int) := of_decide_eq_true xa
                        have q14 : x9_1 < (t104.size : Int) := of_decide_eq_true xa
                        have hx14 := bt_at t104 x9_1
                        replace p14 := eq_true p14
                        replace q14 := eq_true q14
                        have p108 : 0 ≤ (x9_1 : Int) := of_decide_eq_true xa
                        have q108 : x9_1 < (l1.length : Int) := of_decide_eq_true xa
                        obtain ⟨ad108, e108, hx108_0⟩ := Kd.at_bool HR1.out x9_1 p108 q108
                        (try rw [← Nbq12.out] at hx108_0)
                        obtain rfl : ad107 = ad108 := (by injection e108)
                        replace p108 := eq_true p108
                        replace q108 := eq_true q108
                        go_wp2
                        repeat (go_quiet (fail); try go_wp2)
                        go_meet
                        case rel => exact ⟨_, (!(false)), xg, H', ⟨by have := HK1.out; first | omega | exact Nat.le_refl _⟩, by repeat (first | exact Drawn0.refl _ | apply Drawn0.step)⟩
                      · rw [if_neg c15] at H
                        have c15b0 : ((bt t104 x9_1) == 116) = false := beq_eq_false_iff_ne.mpr c15
                        have c15b1 : ((bt t104 x9_1) != 116) = true := bne_iff_ne.mpr c15
                        have H' := Aside0.mk H
                        clear H
                        have p9 : 0 ≤ (x9_1 : Int) := of_decide_eq_true xa
                        have q9 : x9_1 < (t104.size : Int) := of_decide_eq_true xa
                        have hx9 := bt_at t104 x9_1
                        replace p9 := eq_true p9
                        replace q9 := eq_true q9
                        have p107 : 0 ≤ (x9_1 : Int) := of_decide_eq_true xa
                        have q107 : x9_1 < (l1.length : Int) := of_decide_eq_true xa
                        obtain ⟨ad107, e107, hx107_0⟩ := Kd.at_bool HR1.out x9_1 p107 q107
                        (try rw [← Nbq12.out] at hx107_0)
                        cases e107
                        replace p107 := eq_true p107
                        replace q107 := eq_true q107
                        have p14 : 0 ≤ (x9_1 : Int) := of_decide_eq_true xa
                        have q14 : x9_1 < (t104.size : Int) := of_decide_eq_true xa
                        have hx14 := bt_at t104 x9_1
                        replace p14 := eq_true p14
                        replace q14 := eq_true q14
                        go_wp2
                        repeat (go_quiet (fail); try go_wp2)
                        go_meet
                        case rel => exact ⟨_, (false), xg, H', ⟨by have := HK1.out; first | omega | exact Nat.le_refl _⟩, by repeat (first | exact Drawn0.refl _ | apply Drawn0.step)⟩
                  · rw [if_neg c11] at H
                    exact absurd H (by simp)
                · rw [if_neg c10] at H
                  have c10b0 : ((bt t104 x9_1) == 110) = false := beq_eq_false_iff_ne.mpr c10
                  have c10b1 : ((bt t104 x9_1) != 110) = true := bne_iff_ne.mpr c10
                  by_cases c17 : (bt t104 x9_1) = 116
                  · rw [if_pos c17] at H
                    have c17b0 : ((bt t104 x9_1) == 116) = true := beq_iff_eq.mpr c17
                    have c17b1 : ((bt t104 x9_1) != 116) = false := bne_eq_false_iff_eq.mpr c17
                    clear c17
                    by_cases c18 : x9_1 < (l1.length : Int)
                    · rw [if_pos c18] at H
                      have c18b0 : decide (x9_1 < (l1.length : Int)) = true := decide_eq_true c18
                      clear c18
                      have H' := Aside0.mk H
                      clear H
                      have p9 : 0 ≤ (x9_1 : Int) := of_decide_eq_true xa
                      have q9 : x9_1 < (t104.size : Int) := of_decide_eq_true xa
                      have hx9 := bt_at t104 x9_1
                      replace p9 := eq_true p9
                      replace q9 := eq_true q9
                      have p16 : 0 ≤ (x9_1 : Int) := of_decide_eq_true xa
                      have q16 : x9_1 < (t104.size : Int) := of_decide_eq_true xa
                      have hx16 := bt_at t104 x9_1
                      replace p16 := eq_true p16
                      replace q16 := eq_true q16
                      have p109 : 0 ≤ (x9_1 : Int) := of_decide_eq_true xa
                      have q109 : x9_1 < (l1.length : Int) := of_decide_eq_true xa
                      obtain ⟨ad109, e109, hx109_0⟩ := Kd.at_bool HR1.out x9_1 p109 q109
                      cases e109
                      replace p109 := eq_true p109
                      replace q109 := eq_true q109
                      go_wp2
                      repeat (go_quiet (fail); try go_wp2)
                      go_meet
                      case rel => exact ⟨_, (!(rdOf false l1 x9_1)), xg, H', ⟨by have := HK1.out; first | omega | exact Nat.le_refl _⟩, by repeat (first | exact Drawn0.refl _ | apply Drawn0.step)⟩
                    · rw [if_neg c18] at H
                      exact absurd H (by simp)
                  · rw [if_neg c17] at H
                    have c17b0 : ((bt t104 x9_1) == 116) = false := beq_eq_false_iff_ne.mpr c17
                    have c17b1 : ((bt t104 x9_1) != 116) = true := bne_iff_ne.mpr c17
                    have H' := Aside0.mk H
                    clear H
                    have p9 : 0 ≤ (x9_1 : Int) := of_decide_eq_true xa
                    have q9 : x9_1 < (t104.size : Int) := of_decide_eq_true xa
                    have hx9 := bt_at t104 x9_1
                    replace p9 := eq_true p9
                    replace q9 := eq_true q9
                    have p16 : 0 ≤ (x9_1 : Int) := of_decide_eq_true xa
                    have q16 : x9_1 < (t104.size : Int) := of_decide_eq_true xa
                    have hx16 := bt_at t104 x9_1
                    replace p16 := eq_true p16
                    replace q16 := eq_true q16
                    go_wp2
                    repeat (go_quiet (fail); try go_wp2)
                    go_meet
                    case rel => exact ⟨_, (false), xg, H', ⟨by have := HK1.out; first | omega | exact Nat.le_refl _⟩, by repeat (first | exact Drawn0.refl _ | apply Drawn0.step)⟩
              · rw [if_neg c8] at H
                exact absurd H (by simp)
            case rest =>
              clear HC7
              try clear c1
              try clear p1
              try clear q1
              try clear hx1
              try clear p2
              try clear c4
              try clear c4b0
              try clear c4b1
              try clear c5
              try clear c5b0
              try clear c5b1
              try clear c5b2
              try clear c6
              try clear c6b0
              try clear c8
              try clear c8b0
              try clear p9
              try clear q9
              try clear hx9
              try clear c10
              try clear c10b0
              try clear c10b1
              try clear p10
              try clear q10
              try clear hx10
              try clear c11
              try clear c11b0
              try clear q12
              try clear c13
              try clear p14
              try clear q14
              try clear hx14
              try clear c15
              try clear c15b0
              try clear c15b1
              try clear p16
              try clear q16
              try clear hx16
              try clear c17
              try clear c17b0
              try clear c17b1
              try clear c18
              try clear c18b0
              try clear hx107_0
              try clear hx108_0
              try clear hx109_0
              try clear p107
              try clear p108
              try clear p109
              try clear p14
              try clear p16
              try clear p2
              try clear p9
              try clear q107
              try clear q108
              try clear q109
              try clear q14
              try clear q16
              try clear q9
              obtain ⟨kq, x50_6, rfl, HA, HJ6, ⟨mc6, rfl⟩⟩ := hcut
              cases kq with
              | zero => exact absurd HA.out (by simp [threshingref13_Result.j1])
              | succ kj6 =>
                have H := HA.out
                clear HA
                simp only [threshingref13_Result.j1] at H
                by_cases c19 : x50_6 = true
                · subst c19
                  have H1 : (some (false, 11)) = some (r1, r2) := by rw [if_pos rfl] at H; exact H
                  clear H
                  have H := H1
                  clear H1
                  simp only [Option.some.injEq, Prod.mk.injEq] at H
                  obtain ⟨rfl, rfl⟩ := H
                  go_wp2
                  repeat (go_quiet (fail); try go_wp2)
                  go_ret2
                  exact ⟨xg, xz⟩
                · replace c19 := Bool.eq_false_iff.mpr c19
                  subst c19
                  have H1 : (if 0 ≤ x9_1 then (if x9_1 < (t104.size : Int) then (if (bt t104 x9_1) = 97 then (if x8_1 ≥ 0 then (if x9_1 < (l1.length : Int) then (if 0 ≤ x8_1 then (if x8_1 < (l1.length : Int) then (threshingref13_Result.j2 kj6 l1 t104 t105 x8_1 x9_1 ((rdOf false l1 x9_1) != (rdOf false l1 x8_1))) else (none)) else (none)) else (none)) else (threshingref13_Result.j2 kj6 l1 t104 t105 x8_1 x9_1 false)) else (threshingref13_Result.j2 kj6 l1 t104 t105 x8_1 x9_1 false)) else (none)) else (none)) = some (r1, r2) := by rw [if_neg (show ¬ (false = true) by decide)] at H; exact H
                  clear H
                  have H := H1
                  clear H1
                  have HC20 := Aside0.mk H
                  clear H
                  go_upto_region 12 with (fail)
                  repeat (go_quiet (fail); go_upto_region 12 with (fail))
                  go_cut [69] (fun v69 wc => ∃ (kq : Nat) (x69_19 : Bool), v69 = .bool x69_19 ∧ Aside0 (threshingref13_Result.j2 kq l1 t104 t105 x8_1 x9_1 x69_19 = some (r1, r2)) ∧ Aside0 (kq ≤ kj6) ∧ Drawn0 w wc)
                  case first =>
                    have H := HC20.out
                    clear HC20
                    by_cases c21 : 0 ≤ x9_1
                    · rw [if_pos c21] at H
                      have c21b0 : decide (0 ≤ x9_1) = true := decide_eq_true c21
                      clear c21
                      (first | rw [c21b0] | (simp only [i64_w, i32_w]; rw [c21b0]) | skip)
                      by_cases c22 : x9_1 < (t104.size : Int)
                      · rw [if_pos c22] at H
                        have c22b0 : decide (x9_1 < (t104.size : Int)) = true := decide_eq_true c22
                        clear c22
                        by_cases c24 : (bt t104 x9_1) = 97
                        · rw [if_pos c24] at H
                          have c24b0 : ((bt t104 x9_1) == 97) = true := beq_iff_eq.mpr c24
                          have c24b1 : ((bt t104 x9_1) != 97) = false := bne_eq_false_iff_eq.mpr c24
                          clear c24
                          by_cases c25 : x8_1 ≥ 0
                          · rw [if_pos c25] at H
                            have c25b0 : decide (0 ≤ x8_1) = true := decide_eq_true c25
                            clear c25
                            by_cases c26 : x9_1 < (l1.length : Int)
                            · rw [if_pos c26] at H
                              have c26b0 : decide (x9_1 < (l1.length : Int)) = true := decide_eq_true c26
                              clear c26
                              by_cases c27 : 0 ≤ x8_1
                              · rw [if_pos c27] at H
                                have c27b0 : decide (0 ≤ x8_1) = true := decide_eq_true c27
                                clear c27
                                by_cases c28 : x8_1 < (l1.length : Int)
                                · rw [if_pos c28] at H
                                  have c28b0 : decide (x8_1 < (l1.length : Int)) = true := decide_eq_true c28
                                  clear c28
                                  have H' := Aside0.mk H
                                  clear H
                                  have p23 : 0 ≤ (x9_1 : Int) := of_decide_eq_true xa
                                  have q23 : x9_1 < (t104.size : Int) := of_decide_eq_true xa
                                  have hx23 := bt_at t104 x9_1
                                  replace p23 := eq_true p23
                                  replace q23 := eq_true q23
                                  have p110 : 0 ≤ (x9_1 : Int) := of_decide_eq_true xa
                                  have q110 : x9_1 < (l1.length : Int) := of_decide_eq_true xa
                                  obtain ⟨ad110, e110, hx110_0⟩ := Kd.at_bool HR1.out x9_1 p110 q110
                                  cases e110
                                  replace p110 := eq_true p110
                                  replace q110 := eq_true q110
                                  have p111 : 0 ≤ (x8_1 : Int) := of_decide_eq_true xa
                                  have q111 : x8_1 < (l1.length : Int) := of_decide_eq_true xa
                                  obtain ⟨ad111, e111, hx111_0⟩ := Kd.at_bool HR1.out x8_1 p111 q111
                                  obtain rfl : ad110 = ad111 := (by injection e111)
                                  replace p111 := eq_true p111
                                  replace q111 := eq_true q111
                                  go_wp2
                                  repeat (go_quiet (fail); try go_wp2)
                                  go_meet
                                  case rel => exact ⟨_, (((rdOf false l1 x9_1) != (rdOf false l1 x8_1))), xg, H', ⟨by have := HK1.out; have := HJ6.out; first | omega | exact Nat.le_refl _⟩, by repeat (first | exact Drawn0.refl _ | apply Drawn0.step)⟩
                                · rw [if_neg c28] at H
                                  exact absurd H (by simp)
                              · rw [if_neg c27] at H
                                exact absurd H (by simp)
                            · rw [if_neg c26] at H
                              exact absurd H (by simp)
                          · rw [if_neg c25] at H
                            have c25b0 : decide (0 ≤ x8_1) = false := decide_eq_false c25
                            clear c25
                            have H' := Aside0.mk H
                            clear H
                            have p23 : 0 ≤ (x9_1 : Int) := of_decide_eq_true xa
                            have q23 : x9_1 < (t104.size : Int) := of_decide_eq_true xa
                            have hx23 := bt_at t104 x9_1
                            replace p23 := eq_true p23
                            replace q23 := eq_true q23
                            go_wp2
                            repeat (go_quiet (fail); try go_wp2)
                            go_meet
                            case rel => exact ⟨_, (false), xg, H', ⟨by have := HK1.out; have := HJ6.out; first | omega | exact Nat.le_refl _⟩, by repeat (first | exact Drawn0.refl _ | apply Drawn0.step)⟩
                        · rw [if_neg c24] at H
                          have c24b0 : ((bt t104 x9_1) == 97) = false := beq_eq_false_iff_ne.mpr c24
                          have c24b1 : ((bt t104 x9_1) != 97) = true := bne_iff_ne.mpr c24
                          have H' := Aside0.mk H
                          clear H
                          have p23 : 0 ≤ (x9_1 : Int) := of_decide_eq_true xa
                          have q23 : x9_1 < (t104.size : Int) := of_decide_eq_true xa
                          have hx23 := bt_at t104 x9_1
                          replace p23 := eq_true p23
                          replace q23 := eq_true q23
                          go_wp2
                          repeat (go_quiet (fail); try go_wp2)
                          go_meet
                          case rel => exact ⟨_, (false), xg, H', ⟨by have := HK1.out; have := HJ6.out; first | omega | exact Nat.le_refl _⟩, by repeat (first | exact Drawn0.refl _ | apply Drawn0.step)⟩
                      · rw [if_neg c22] at H
                        exact absurd H (by simp)
                    · rw [if_neg c21] at H
                      exact absurd H (by simp)
                  case rest =>
                    clear HC20
                    try clear c1
                    try clear p1
                    try clear q1
                    try clear hx1
                    try clear c2
                    try clear p2
                    try clear q2
                    try clear hx2
                    try clear c4
                    try clear c4b0
                    try clear c4b1
                    try clear c5
                    try clear c5b0
                    try clear c5b1
                    try clear c5b2
                    try clear c6
                    try clear c6b0
                    try clear c8
                    try clear c8b0
                    try clear p9
                    try clear q9
                    try clear hx9
                    try clear c10
                    try clear c10b0
                    try clear c10b1
                    try clear p10
                    try clear q10
                    try clear hx10
                    try clear c11
                    try clear c11b0
                    try clear p11
                    try clear q11
                    try clear hx11
                    try clear q12
                    try clear c13
                    try clear p14
                    try clear q14
                    try clear hx14
                    try clear c15
                    try clear c15b0
                    try clear c15b1
                    try clear p16
                    try clear q16
                    try clear hx16
                    try clear c17
                    try clear c17b0
                    try clear c17b1
                    try clear c18
                    try clear c18b0
                    try clear c19
                    try clear c21
                    try clear c21b0
                    try clear c22
                    try clear c22b0
                    try clear p23
                    try clear q23
                    try clear hx23
                    try clear c24
                    try clear c24b0
                    try clear c24b1
                    try clear c25
                    try clear c25b0
                    try clear c26
                    try clear c26b0
                    try clear c27
                    try clear c27b0
                    try clear c28
                    try clear c28b0
                    try clear hx107_0
                    try clear hx108_0
                    try clear hx109_0
                    try clear hx110_0
                    try clear hx111_0
                    try clear p1
                    try clear p10
                    try clear p107
                    try clear p108
                    try clear p109
                    try clear p110
                    try clear p111
                    try clear p14
                    try clear p16
                    try clear p2
                    try clear p23
                    try clear p9
                    try clear q1
                    try clear q10
                    try clear q107
                    try clear q108
                    try clear q109
                    try clear q110
                    try clear q111
                    try clear q12
                    try clear q14
                    try clear q16
                    try clear q23
                    try clear q9
                    obtain ⟨kq, x69_19, rfl, HA, HJ19, ⟨mc19, rfl⟩⟩ := hcut
                    cases kq with
                    | zero => exact absurd HA.out (by simp [threshingref13_Result.j2])
                    | succ kj19 =>
                      have H := HA.out
                      clear HA
                      simp only [threshingref13_Result.j2] at H
                      by_cases c29 : x69_19 = true
                      · subst c29
                        have H1 : (some (false, 11)) = some (r1, r2) := by rw [if_pos rfl] at H; exact H
                        clear H
                        have H := H1
                        clear H1
                        simp only [Option.some.injEq, Prod.mk.injEq] at H
                        obtain ⟨rfl, rfl⟩ := H
                        go_wp2
                        repeat (go_quiet (fail); try go_wp2)
                        go_ret2
                        exact ⟨xg, xz⟩
                      · replace c29 := Bool.eq_false_iff.mpr c29
                        subst c29
                        have H1 : (if 0 ≤ x9_1 then (if x9_1 < (t104.size : Int) then (if (bt t104 x9_1) = 97 then (threshingref13_Result.l0 kj19 l1 t104 t105 x9_1 (wrap64 (x9_1 + 1))) else (threshingref13_Result.l0 kj19 l1 t104 t105 x8_1 (wrap64 (x9_1 + 1)))) else (none)) else (none)) = some (r1, r2) := by rw [if_neg (show ¬ (false = true) by decide)] at H; exact H
                        clear H
                        have H := H1
                        clear H1
                        by_cases c30 : 0 ≤ x9_1
                        · rw [if_pos c30] at H
                          have c30b0 : decide (0 ≤ x9_1) = true := decide_eq_true c30
                          clear c30
                          by_cases c31 : x9_1 < (t104.size : Int)
                          · rw [if_pos c31] at H
                            have c31b0 : decide (x9_1 < (t104.size : Int)) = true := decide_eq_true c31
                            clear c31
                            by_cases c33 : (bt t104 x9_1) = 97
                            · rw [if_pos c33] at H
                              have c33b0 : ((bt t104 x9_1) == 97) = true := beq_iff_eq.mpr c33
                              have c33b1 : ((bt t104 x9_1) != 97) = false := bne_eq_false_iff_eq.mpr c33
                              clear c33
                              have H' := Aside0.mk H
                              clear H
                              have p32 : 0 ≤ (x9_1 : Int) := of_decide_eq_true xa
                              have q32 : x9_1 < (t104.size : Int) := of_decide_eq_true xa
                              have hx32 := bt_at t104 x9_1
                              replace p32 := eq_true p32
                              replace q32 := eq_true q32
                              go_wp2
                              repeat (go_quiet (fail); try go_wp2)
                              go_roundg kj19
                              case measure => have := HK1.out; have := HJ6.out; have := HJ19.out; omega
                              case rel => exact ⟨(x9_1), (wrap64 (x9_1 + 1)), xg, xg, H', ⟨by have := HK1.out; have := HJ6.out; have := HJ19.out; omega⟩, by repeat (first | exact Drawn0.refl _ | apply Drawn0.step)⟩
                            · rw [if_neg c33] at H
                              have c33b0 : ((bt t104 x9_1) == 97) = false := beq_eq_false_iff_ne.mpr c33
                              have c33b1 : ((bt t104 x9_1) != 97) = true := bne_iff_ne.mpr c33
                              have H' := Aside0.mk H
                              clear H
                              have p32 : 0 ≤ (x9_1 : Int) := of_decide_eq_true xa
                              have q32 : x9_1 < (t104.size : Int) := of_decide_eq_true xa
                              have hx32 := bt_at t104 x9_1
                              replace p32 := eq_true p32
                              replace q32 := eq_true q32
                              go_wp2
                              repeat (go_quiet (fail); try go_wp2)
                              go_roundg kj19
                              case measure => have := HK1.out; have := HJ6.out; have := HJ19.out; omega
                              case rel => exact ⟨(x8_1), (wrap64 (x9_1 + 1)), xg, xg, H', ⟨by have := HK1.out; have := HJ6.out; have := HJ19.out; omega⟩, by repeat (first | exact Drawn0.refl _ | apply Drawn0.step)⟩
                          · rw [if_neg c31] at H
                            exact absurd H (by simp)
                        · rw [if_neg c30] at H
                          exact absurd H (by simp)
          · rw [if_neg c6] at H
            have c6b0 : decide (x9_1 < (t104.size : Int)) = false := decide_eq_false c6
            clear c6
            by_cases c34 : t105.toList = ([97] : List UInt8)
            · rw [if_pos c34] at H
              have c34b0 : (t105.toList == ([97] : List UInt8)) = true := beq_iff_eq.mpr c34
              have c34b1 : (t105.toList != ([97] : List UInt8)) = false := bne_eq_false_iff_eq.mpr c34
              clear c34
              by_cases c35 : 0 ≤ x8_1
              · rw [if_pos c35] at H
                have c35b0 : decide (0 ≤ x8_1) = true := decide_eq_true c35
                clear c35
                by_cases c36 : x8_1 < (l1.length : Int)
                · rw [if_pos c36] at H
                  have c36b0 : decide (x8_1 < (l1.length : Int)) = true := decide_eq_true c36
                  clear c36
                  simp only [Option.some.injEq, Prod.mk.injEq] at H
                  obtain ⟨rfl, rfl⟩ := H
                  have p106 : 0 ≤ (x8_1 : Int) := of_decide_eq_true xa
                  have q106 : x8_1 < (l1.length : Int) := of_decide_eq_true xa
                  obtain ⟨ad106, e106, hx106_0⟩ := Kd.at_bool HR1.out x8_1 p106 q106
                  cases e106
                  replace p106 := eq_true p106
                  replace q106 := eq_true q106
                  go_wp2
                  repeat (go_quiet (fail); try go_wp2)
                  go_ret2
                  exact ⟨xg, xz⟩
                · rw [if_neg c36] at H
                  exact absurd H (by simp)
              · rw [if_neg c35] at H
                exact absurd H (by simp)
            · rw [if_neg c34] at H
              have c34b0 : (t105.toList == ([97] : List UInt8)) = false := beq_eq_false_iff_ne.mpr c34
              have c34b1 : (t105.toList != ([97] : List UInt8)) = true := bne_iff_ne.mpr c34
              simp only [Option.some.injEq, Prod.mk.injEq] at H
              obtain ⟨rfl, rfl⟩ := H
              go_wp2
              repeat (go_quiet (fail); try go_wp2)
              go_ret2
              exact ⟨xg, xz⟩
    · rw [if_neg c5] at H
      have c5b0 : ((l1.length : Int) == (t104.size : Int)) = false := beq_eq_false_iff_ne.mpr c5
      have c5b1 : ((l1.length : Int) != (t104.size : Int)) = true := bne_iff_ne.mpr c5
      have c5b2 : (l1.length == t104.size) = false := by first | simpa using c5 | (simp at c5 ⊢; omega)
      simp only [Option.some.injEq, Prod.mk.injEq] at H
      obtain ⟨rfl, rfl⟩ := H
      go_enter Tryz.func45, Tryz.ntmps45
      go_wp2_with (first | (go_at_call 58; (with_reducible refine (threshingref13_kinds.calls k a0 t104 t105 _ (Tabs.below hT xf) A3.out).mono ?_); rintro e w' ⟨rfl, ⟨nd, rfl⟩⟩; (try first | exact ⟨rfl, _, World.drewN_drewN _ _ _⟩ | exact ⟨rfl, _, Eq.trans (World.drewN_drewN _ _ _) (congrArg (World.drewN _) (Nat.add_assoc _ _ _))⟩)))
      repeat (go_quiet (first | (go_at_call 58; (with_reducible refine (threshingref13_kinds.calls k a0 t104 t105 _ (Tabs.below hT xf) A3.out).mono ?_); rintro e w' ⟨rfl, ⟨nd, rfl⟩⟩; (try first | exact ⟨rfl, _, World.drewN_drewN _ _ _⟩ | exact ⟨rfl, _, Eq.trans (World.drewN_drewN _ _ _) (congrArg (World.drewN _) (Nat.add_assoc _ _ _))⟩))); try go_wp2_with (first | (go_at_call 58; (with_reducible refine (threshingref13_kinds.calls k a0 t104 t105 _ (Tabs.below hT xf) A3.out).mono ?_); rintro e w' ⟨rfl, ⟨nd, rfl⟩⟩; (try first | exact ⟨rfl, _, World.drewN_drewN _ _ _⟩ | exact ⟨rfl, _, Eq.trans (World.drewN_drewN _ _ _) (congrArg (World.drewN _) (Nat.add_assoc _ _ _))⟩))))
      go_ret2
      exact ⟨xg, xz⟩

end Go.Proofs.YtejmgcfjpofniaaGreatDoor.PX
