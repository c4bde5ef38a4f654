/- Walked functions, by this session's program over the kit's print. -/
import Derived.Test.YtebofnoljebakaaGreatDoorPXx0
namespace Go.Proofs.YtebofnoljebakaaGreatDoor.PX
open Go.RowKit Go.Proofs.YtebofnoljebakaaGreatDoorW.PrintWords Go.Proofs.YtebofnoljebakaaGreatDoorW.PrintLast Go.Proofs.YtebofnoljebakaaGreatDoorW.PrintMore
attribute [local go_sem] xm_gtr max2_int min2_int max_two min_two max_three min_three max_four min_four
set_option linter.unusedVariables false
set_option linter.unusedSimpArgs false
/- Walked functions, by this session's program over the kit's print. -/
mutual
def r13_kinds.j0 : Nat → Int → Bool → Option (ByteArray × ByteArray)
 | 0, _, _ => none
 | k + 1, x4, x5 => if x5 = true then (some ((⟨#[110, 110]⟩ : ByteArray), (⟨#[110]⟩ : ByteArray))) else (if x4 = 9 then (some ((⟨#[116, 116]⟩ : ByteArray), (⟨#[116]⟩ : ByteArray))) else (if x4 = 10 then (r13_kinds.j1 k x4 (x4 == 10)) else (if x4 = 18 then (r13_kinds.j1 k x4 (x4 == 18)) else (r13_kinds.j1 k x4 (x4 == 20)))))
def r13_kinds.j1 : Nat → Int → Bool → Option (ByteArray × ByteArray)
 | 0, _, _ => none
 | k + 1, x4, x13 => if x13 = true then (some ((⟨#[116]⟩ : ByteArray), (⟨#[110]⟩ : ByteArray))) else (if x4 = 11 then (some ((⟨#[116, 110, 110]⟩ : ByteArray), (⟨#[116]⟩ : ByteArray))) else (if x4 = 12 then (r13_kinds.j2 k x4 (x4 == 12)) else (r13_kinds.j2 k x4 (x4 == 13))))
def r13_kinds.j2 : Nat → Int → Bool → Option (ByteArray × ByteArray)
 | 0, _, _ => none
 | k + 1, x4, x19 => if x19 = true then (some ((⟨#[116]⟩ : ByteArray), (⟨#[116]⟩ : ByteArray))) else (if x4 = 14 then (r13_kinds.j3 k x4 (x4 == 14)) else (r13_kinds.j3 k x4 (x4 == 15)))
def r13_kinds.j3 : Nat → Int → Bool → Option (ByteArray × ByteArray)
 | 0, _, _ => none
 | k + 1, x4, x22 => if x22 = true then (some ((⟨#[97, 97]⟩ : ByteArray), (⟨#[110]⟩ : ByteArray))) else (if x4 = 16 then (some ((⟨#[110]⟩ : ByteArray), (⟨#[110]⟩ : ByteArray))) else (if x4 = 17 then (some ((⟨#[110, 97, 97]⟩ : ByteArray), (⟨#[97]⟩ : ByteArray))) else (if x4 = 19 then (some ((⟨#[110]⟩ : ByteArray), (⟨#[116]⟩ : ByteArray))) else (if x4 = 21 then (some ((⟨#[116, 116]⟩ : ByteArray), (⟨#[110]⟩ : ByteArray))) else (some ((⟨#[]⟩ : ByteArray), (⟨#[]⟩ : ByteArray)))))))
end
def r13_kinds.f (k : Nat) (a0 : Int) : Option (ByteArray × ByteArray) := if a0 = 4 then (r13_kinds.j0 k a0 (a0 == 4)) else (if a0 = 5 then (r13_kinds.j0 k a0 (a0 == 5)) else (if a0 = 6 then (r13_kinds.j0 k a0 (a0 == 6)) else (if a0 = 7 then (r13_kinds.j0 k a0 (a0 == 7)) else (r13_kinds.j0 k a0 (a0 == 8)))))
theorem r13_kinds.mono_l : ∀ k, (∀ y0 y1, LeO (r13_kinds.j0 k y0 y1) (r13_kinds.j0 (k + 1) y0 y1)) ∧ (∀ y0 y1, LeO (r13_kinds.j1 k y0 y1) (r13_kinds.j1 (k + 1) y0 y1)) ∧ (∀ y0 y1, LeO (r13_kinds.j2 k y0 y1) (r13_kinds.j2 (k + 1) y0 y1)) ∧ (∀ y0 y1, LeO (r13_kinds.j3 k y0 y1) (r13_kinds.j3 (k + 1) y0 y1))
 | 0 => ⟨fun _ _ r h => by simp [r13_kinds.j0] at h, fun _ _ r h => by simp [r13_kinds.j1] at h, fun _ _ r h => by simp [r13_kinds.j2] at h, fun _ _ r h => by simp [r13_kinds.j3] at h⟩
 | k + 1 => by
  obtain ⟨ih0, ih1, ih2, ih3⟩ := r13_kinds.mono_l k
  refine ⟨?_, ?_, ?_, ?_⟩
  ·intro y0 y1
   unfold r13_kinds.j0
   repeat' (with_reducible first | exact ih0 _ _ | exact ih1 _ _ | exact ih2 _ _ | exact ih3 _ _ | exact LeO.refl _ | exact LeO.none _ | refine LeO.ite ?_ ?_ | refine LeO.bind ?_ (fun _ => ?_))
  ·intro y0 y1
   unfold r13_kinds.j1
   repeat' (with_reducible first | exact ih0 _ _ | exact ih1 _ _ | exact ih2 _ _ | exact ih3 _ _ | exact LeO.refl _ | exact LeO.none _ | refine LeO.ite ?_ ?_ | refine LeO.bind ?_ (fun _ => ?_))
  ·intro y0 y1
   unfold r13_kinds.j2
   repeat' (with_reducible first | exact ih0 _ _ | exact ih1 _ _ | exact ih2 _ _ | exact ih3 _ _ | exact LeO.refl _ | exact LeO.none _ | refine LeO.ite ?_ ?_ | refine LeO.bind ?_ (fun _ => ?_))
  ·intro y0 y1
   unfold r13_kinds.j3
   repeat' (with_reducible first | exact ih0 _ _ | exact ih1 _ _ | exact ih2 _ _ | exact ih3 _ _ | exact LeO.refl _ | exact LeO.none _ | refine LeO.ite ?_ ?_ | refine LeO.bind ?_ (fun _ => ?_))
theorem r13_kinds.mono : ∀ a0 k, LeO (r13_kinds.f k a0) (r13_kinds.f (k + 1) a0) := by
 intro a0 k
 obtain ⟨ih0, ih1, ih2, ih3⟩ := r13_kinds.mono_l k
 unfold r13_kinds.f
 repeat' (with_reducible first | exact ih0 _ _ | exact ih1 _ _ | exact ih2 _ _ | exact ih3 _ _ | exact LeO.refl _ | exact LeO.none _ | refine LeO.ite ?_ ?_ | refine LeO.bind ?_ (fun _ => ?_))
set_option maxHeartbeats 8000000 in
set_option maxRecDepth 100000 in
theorem r13_kinds.calls (k : Nat) (a0 : Int) (r1 : ByteArray) (r2 : ByteArray) (w : World) (hT : Tabs w) (h : r13_kinds.f k a0 = some (r1, r2)) :
  Calls Tryz.prog 63 #[.int .i64 a0] w fun e w' => e = .returned (.tuple #[.string r1, .string r2]) ∧ Drawn0 w w' := by
 unfold r13_kinds.f at h
 have H := h
 clear h
 have HC2 := xy H
 clear H
 go_enter Tryz.func63, Tryz.ntmps63
 go_upto_if 5 with (fail)
 go_cut [5] (fun v5 wc => ∃ (kq : Nat) (x5_1 : Bool), v5 = .bool x5_1 ∧ Aside0 (r13_kinds.j0 kq a0 x5_1 = some (r1, r2)) ∧ Aside0 (kq ≤ k) ∧ Drawn0 w wc)
 case first =>
  have H := HC2.out
  clear HC2
  by_cases c3 : a0 = 4
  ·rw [if_pos c3] at H
   have c3b0 : (a0 == 4) = true := beq_iff_eq.mpr c3
   have c3b1 : (a0 != 4) = false := bne_eq_false_iff_eq.mpr c3
   clear c3
   (first | rw [c3b0] | (simp only [i64_w, i32_w]; rw [c3b0]) | skip)
   have H' := xy H
   clear H
   go_wp2
   go_meet
   case rel => exact ⟨_, ((a0 == 4)), xg, H', ⟨by first | omega | exact Nat.le_refl _⟩, by repeat (first | exact Drawn0.refl _ | apply Drawn0.step)⟩
  ·rw [if_neg c3] at H
   have c3b0 : (a0 == 4) = false := beq_eq_false_iff_ne.mpr c3
   have c3b1 : (a0 != 4) = true := bne_iff_ne.mpr c3
   (first | rw [c3b0] | (simp only [i64_w, i32_w]; rw [c3b0]) | skip)
   by_cases c4 : a0 = 5
   ·rw [if_pos c4] at H
    have c4b0 : (a0 == 5) = true := beq_iff_eq.mpr c4
    have c4b1 : (a0 != 5) = false := bne_eq_false_iff_eq.mpr c4
    clear c4
    have H' := xy H
    clear H
    go_wp2
    go_meet
    case rel => exact ⟨_, ((a0 == 5)), xg, H', ⟨by first | omega | exact Nat.le_refl _⟩, by repeat (first | exact Drawn0.refl _ | apply Drawn0.step)⟩
   ·rw [if_neg c4] at H
    have c4b0 : (a0 == 5) = false := beq_eq_false_iff_ne.mpr c4
    have c4b1 : (a0 != 5) = true := bne_iff_ne.mpr c4
    by_cases c5 : a0 = 6
    ·rw [if_pos c5] at H
     have c5b0 : (a0 == 6) = true := beq_iff_eq.mpr c5
     have c5b1 : (a0 != 6) = false := bne_eq_false_iff_eq.mpr c5
     clear c5
     have H' := xy H
     clear H
     go_wp2
     go_meet
     case rel => exact ⟨_, ((a0 == 6)), xg, H', ⟨by first | omega | exact Nat.le_refl _⟩, by repeat (first | exact Drawn0.refl _ | apply Drawn0.step)⟩
    ·rw [if_neg c5] at H
     have c5b0 : (a0 == 6) = false := beq_eq_false_iff_ne.mpr c5
     have c5b1 : (a0 != 6) = true := bne_iff_ne.mpr c5
     by_cases c6 : a0 = 7
     ·rw [if_pos c6] at H
      have c6b0 : (a0 == 7) = true := beq_iff_eq.mpr c6
      have c6b1 : (a0 != 7) = false := bne_eq_false_iff_eq.mpr c6
      clear c6
      have H' := xy H
      clear H
      go_wp2
      go_meet
      case rel => exact ⟨_, ((a0 == 7)), xg, H', ⟨by first | omega | exact Nat.le_refl _⟩, by repeat (first | exact Drawn0.refl _ | apply Drawn0.step)⟩
     ·rw [if_neg c6] at H
      have c6b0 : (a0 == 7) = false := beq_eq_false_iff_ne.mpr c6
      have c6b1 : (a0 != 7) = true := bne_iff_ne.mpr c6
      have H' := xy H
      clear H
      go_wp2
      go_meet
      case rel => exact ⟨_, ((a0 == 8)), xg, H', ⟨by first | omega | exact Nat.le_refl _⟩, by repeat (first | exact Drawn0.refl _ | apply Drawn0.step)⟩
 case rest =>
  clear HC2
  try clear p2
  try clear c3
  try clear c3b0
  try clear c3b1
  try clear c4
  try clear c4b0
  try clear c4b1
  try clear c5
  try clear c5b0
  try clear c5b1
  try clear c6
  try clear c6b0
  try clear c6b1
  obtain ⟨kq, x5_1, rfl, HA, HJ1, ⟨mc1, rfl⟩⟩ := hcut
  cases kq with
  | zero => exact absurd HA.out (by simp [r13_kinds.j0])
  | succ kj1 =>
   have H := HA.out
   clear HA
   simp only [r13_kinds.j0] at H
   by_cases c7 : x5_1 = true
   ·subst c7
    rw [if_pos rfl] at H
    simp only [Option.some.injEq, Prod.mk.injEq] at H
    obtain ⟨rfl, rfl⟩ := H
    go_wp2
    go_ret2
    exact ⟨xg, xz⟩
   ·replace c7 := Bool.eq_false_iff.mpr c7
    subst c7
    rw [if_neg (show ¬ (false = true) by decide)] at H
    by_cases c8 : a0 = 9
    ·rw [if_pos c8] at H
     have c8b0 : (a0 == 9) = true := beq_iff_eq.mpr c8
     have c8b1 : (a0 != 9) = false := bne_eq_false_iff_eq.mpr c8
     clear c8
     simp only [Option.some.injEq, Prod.mk.injEq] at H
     obtain ⟨rfl, rfl⟩ := H
     go_wp2
     go_ret2
     exact ⟨xg, xz⟩
    ·rw [if_neg c8] at H
     have c8b0 : (a0 == 9) = false := beq_eq_false_iff_ne.mpr c8
     have c8b1 : (a0 != 9) = true := bne_iff_ne.mpr c8
     have HC9 := xy H
     clear H
     go_upto_if 13 with (fail)
     go_cut [13] (fun v13 wc => ∃ (kq : Nat) (x13_8 : Bool), v13 = .bool x13_8 ∧ Aside0 (r13_kinds.j1 kq a0 x13_8 = some (r1, r2)) ∧ Aside0 (kq ≤ kj1) ∧ Drawn0 w wc)
     case first =>
      have H := HC9.out
      clear HC9
      by_cases c10 : a0 = 10
      ·rw [if_pos c10] at H
       have c10b0 : (a0 == 10) = true := beq_iff_eq.mpr c10
       have c10b1 : (a0 != 10) = false := bne_eq_false_iff_eq.mpr c10
       clear c10
       (first | rw [c10b0] | (simp only [i64_w, i32_w]; rw [c10b0]) | skip)
       have H' := xy H
       clear H
       go_wp2
       go_meet
       case rel => exact ⟨_, ((a0 == 10)), xg, H', ⟨by have := HJ1.out; first | omega | exact Nat.le_refl _⟩, by repeat (first | exact Drawn0.refl _ | apply Drawn0.step)⟩
      ·rw [if_neg c10] at H
       have c10b0 : (a0 == 10) = false := beq_eq_false_iff_ne.mpr c10
       have c10b1 : (a0 != 10) = true := bne_iff_ne.mpr c10
       (first | rw [c10b0] | (simp only [i64_w, i32_w]; rw [c10b0]) | skip)
       by_cases c11 : a0 = 18
       ·rw [if_pos c11] at H
        have c11b0 : (a0 == 18) = true := beq_iff_eq.mpr c11
        have c11b1 : (a0 != 18) = false := bne_eq_false_iff_eq.mpr c11
        clear c11
        have H' := xy H
        clear H
        go_wp2
        go_meet
        case rel => exact ⟨_, ((a0 == 18)), xg, H', ⟨by have := HJ1.out; first | omega | exact Nat.le_refl _⟩, by repeat (first | exact Drawn0.refl _ | apply Drawn0.step)⟩
       ·rw [if_neg c11] at H
        have c11b0 : (a0 == 18) = false := beq_eq_false_iff_ne.mpr c11
        have c11b1 : (a0 != 18) = true := bne_iff_ne.mpr c11
        have H' := xy H
        clear H
        go_wp2
        go_meet
        case rel => exact ⟨_, ((a0 == 20)), xg, H', ⟨by have := HJ1.out; first | omega | exact Nat.le_refl _⟩, by repeat (first | exact Drawn0.refl _ | apply Drawn0.step)⟩
     case rest =>
      clear HC9
      try clear c1
      try clear p2
      try clear c3
      try clear c3b0
      try clear c3b1
      try clear c4
      try clear c4b0
      try clear c4b1
      try clear c5
      try clear c5b0
      try clear c5b1
      try clear c6
      try clear c6b0
      try clear c6b1
      try clear c7
      try clear c8
      try clear c8b0
      try clear c8b1
      try clear c10
      try clear c10b0
      try clear c10b1
      try clear c11
      try clear c11b0
      try clear c11b1
      try clear p2
      obtain ⟨kq, x13_8, rfl, HA, HJ8, ⟨mc8, rfl⟩⟩ := hcut
      cases kq with
      | zero => exact absurd HA.out (by simp [r13_kinds.j1])
      | succ kj8 =>
       have H := HA.out
       clear HA
       simp only [r13_kinds.j1] at H
       by_cases c12 : x13_8 = true
       ·subst c12
        rw [if_pos rfl] at H
        simp only [Option.some.injEq, Prod.mk.injEq] at H
        obtain ⟨rfl, rfl⟩ := H
        go_wp2
        go_ret2
        exact ⟨xg, xz⟩
       ·replace c12 := Bool.eq_false_iff.mpr c12
        subst c12
        rw [if_neg (show ¬ (false = true) by decide)] at H
        by_cases c13 : a0 = 11
        ·rw [if_pos c13] at H
         have c13b0 : (a0 == 11) = true := beq_iff_eq.mpr c13
         have c13b1 : (a0 != 11) = false := bne_eq_false_iff_eq.mpr c13
         clear c13
         simp only [Option.some.injEq, Prod.mk.injEq] at H
         obtain ⟨rfl, rfl⟩ := H
         go_wp2
         go_ret2
         exact ⟨xg, xz⟩
        ·rw [if_neg c13] at H
         have c13b0 : (a0 == 11) = false := beq_eq_false_iff_ne.mpr c13
         have c13b1 : (a0 != 11) = true := bne_iff_ne.mpr c13
         have HC14 := xy H
         clear H
         go_upto_if 19 with (fail)
         go_cut [19] (fun v19 wc => ∃ (kq : Nat) (x19_13 : Bool), v19 = .bool x19_13 ∧ Aside0 (r13_kinds.j2 kq a0 x19_13 = some (r1, r2)) ∧ Aside0 (kq ≤ kj8) ∧ Drawn0 w wc)
         case first =>
          have H := HC14.out
          clear HC14
          by_cases c15 : a0 = 12
          ·rw [if_pos c15] at H
           have c15b0 : (a0 == 12) = true := beq_iff_eq.mpr c15
           have c15b1 : (a0 != 12) = false := bne_eq_false_iff_eq.mpr c15
           clear c15
           (first | rw [c15b0] | (simp only [i64_w, i32_w]; rw [c15b0]) | skip)
           have H' := xy H
           clear H
           go_wp2
           go_meet
           case rel => exact ⟨_, ((a0 == 12)), xg, H', ⟨by have := HJ1.out; have := HJ8.out; first | omega | exact Nat.le_refl _⟩, by repeat (first | exact Drawn0.refl _ | apply Drawn0.step)⟩
          ·rw [if_neg c15] at H
           have c15b0 : (a0 == 12) = false := beq_eq_false_iff_ne.mpr c15
           have c15b1 : (a0 != 12) = true := bne_iff_ne.mpr c15
           (first | rw [c15b0] | (simp only [i64_w, i32_w]; rw [c15b0]) | skip)
           have H' := xy H
           clear H
           go_wp2
           go_meet
           case rel => exact ⟨_, ((a0 == 13)), xg, H', ⟨by have := HJ1.out; have := HJ8.out; first | omega | exact Nat.le_refl _⟩, by repeat (first | exact Drawn0.refl _ | apply Drawn0.step)⟩
         case rest =>
          clear HC14
          try clear c1
          try clear p2
          try clear c3
          try clear c3b0
          try clear c3b1
          try clear c4
          try clear c4b0
          try clear c4b1
          try clear c5
          try clear c5b0
          try clear c5b1
          try clear c6
          try clear c6b0
          try clear c6b1
          try clear c7
          try clear c8
          try clear c8b0
          try clear c8b1
          try clear c10
          try clear c10b0
          try clear c10b1
          try clear c11
          try clear c11b0
          try clear c11b1
          try clear c12
          try clear c13
          try clear c13b0
          try clear c13b1
          try clear c15
          try clear c15b0
          try clear c15b1
          try clear p2
          obtain ⟨kq, x19_13, rfl, HA, HJ13, ⟨mc13, rfl⟩⟩ := hcut
          cases kq with
          | zero => exact absurd HA.out (by simp [r13_kinds.j2])
          | succ kj13 =>
           have H := HA.out
           clear HA
           simp only [r13_kinds.j2] at H
           by_cases c16 : x19_13 = true
           ·subst c16
            rw [if_pos rfl] at H
            simp only [Option.some.injEq, Prod.mk.injEq] at H
            obtain ⟨rfl, rfl⟩ := H
            go_wp2
            go_ret2
            exact ⟨xg, xz⟩
           ·replace c16 := Bool.eq_false_iff.mpr c16
            subst c16
            rw [if_neg (show ¬ (false = true) by decide)] at H
            have HC17 := xy H
            clear H
            go_upto_if 22 with (fail)
            go_cut [22] (fun v22 wc => ∃ (kq : Nat) (x22_16 : Bool), v22 = .bool x22_16 ∧ Aside0 (r13_kinds.j3 kq a0 x22_16 = some (r1, r2)) ∧ Aside0 (kq ≤ kj13) ∧ Drawn0 w wc)
            case first =>
             have H := HC17.out
             clear HC17
             by_cases c18 : a0 = 14
             ·rw [if_pos c18] at H
              have c18b0 : (a0 == 14) = true := beq_iff_eq.mpr c18
              have c18b1 : (a0 != 14) = false := bne_eq_false_iff_eq.mpr c18
              clear c18
              (first | rw [c18b0] | (simp only [i64_w, i32_w]; rw [c18b0]) | skip)
              have H' := xy H
              clear H
              go_wp2
              go_meet
              case rel => exact ⟨_, ((a0 == 14)), xg, H', ⟨by have := HJ1.out; have := HJ8.out; have := HJ13.out; first | omega | exact Nat.le_refl _⟩, by repeat (first | exact Drawn0.refl _ | apply Drawn0.step)⟩
             ·rw [if_neg c18] at H
              have c18b0 : (a0 == 14) = false := beq_eq_false_iff_ne.mpr c18
              have c18b1 : (a0 != 14) = true := bne_iff_ne.mpr c18
              (first | rw [c18b0] | (simp only [i64_w, i32_w]; rw [c18b0]) | skip)
              have H' := xy H
              clear H
              go_wp2
              go_meet
              case rel => exact ⟨_, ((a0 == 15)), xg, H', ⟨by have := HJ1.out; have := HJ8.out; have := HJ13.out; first | omega | exact Nat.le_refl _⟩, by repeat (first | exact Drawn0.refl _ | apply Drawn0.step)⟩
            case rest =>
             clear HC17
             try clear c1
             try clear p2
             try clear c3
             try clear c3b0
             try clear c3b1
             try clear c4
             try clear c4b0
             try clear c4b1
             try clear c5
             try clear c5b0
             try clear c5b1
             try clear c6
             try clear c6b0
             try clear c6b1
             try clear c7
             try clear c8
             try clear c8b0
             try clear c8b1
             try clear c10
             try clear c10b0
             try clear c10b1
             try clear c11
             try clear c11b0
             try clear c11b1
             try clear c12
             try clear c13
             try clear c13b0
             try clear c13b1
             try clear c15
             try clear c15b0
             try clear c15b1
             try clear c16
             try clear c18
             try clear c18b0
             try clear c18b1
             try clear p2
             obtain ⟨kq, x22_16, rfl, HA, HJ16, ⟨mc16, rfl⟩⟩ := hcut
             cases kq with
             | zero => exact absurd HA.out (by simp [r13_kinds.j3])
             | succ kj16 =>
              have H := HA.out
              clear HA
              simp only [r13_kinds.j3] at H
              by_cases c19 : x22_16 = true
              ·subst c19
               rw [if_pos rfl] at H
               simp only [Option.some.injEq, Prod.mk.injEq] at H
               obtain ⟨rfl, rfl⟩ := H
               go_wp2
               go_ret2
               exact ⟨xg, xz⟩
              ·replace c19 := Bool.eq_false_iff.mpr c19
               subst c19
               rw [if_neg (show ¬ (false = true) by decide)] at H
               by_cases c20 : a0 = 16
               ·rw [if_pos c20] at H
                have c20b0 : (a0 == 16) = true := beq_iff_eq.mpr c20
                have c20b1 : (a0 != 16) = false := bne_eq_false_iff_eq.mpr c20
                clear c20
                simp only [Option.some.injEq, Prod.mk.injEq] at H
                obtain ⟨rfl, rfl⟩ := H
                go_wp2
                go_ret2
                exact ⟨xg, xz⟩
               ·rw [if_neg c20] at H
                have c20b0 : (a0 == 16) = false := beq_eq_false_iff_ne.mpr c20
                have c20b1 : (a0 != 16) = true := bne_iff_ne.mpr c20
                by_cases c21 : a0 = 17
                ·rw [if_pos c21] at H
                 have c21b0 : (a0 == 17) = true := beq_iff_eq.mpr c21
                 have c21b1 : (a0 != 17) = false := bne_eq_false_iff_eq.mpr c21
                 clear c21
                 simp only [Option.some.injEq, Prod.mk.injEq] at H
                 obtain ⟨rfl, rfl⟩ := H
                 go_wp2
                 go_ret2
                 exact ⟨xg, xz⟩
                ·rw [if_neg c21] at H
                 have c21b0 : (a0 == 17) = false := beq_eq_false_iff_ne.mpr c21
                 have c21b1 : (a0 != 17) = true := bne_iff_ne.mpr c21
                 by_cases c22 : a0 = 19
                 ·rw [if_pos c22] at H
                  have c22b0 : (a0 == 19) = true := beq_iff_eq.mpr c22
                  have c22b1 : (a0 != 19) = false := bne_eq_false_iff_eq.mpr c22
                  clear c22
                  simp only [Option.some.injEq, Prod.mk.injEq] at H
                  obtain ⟨rfl, rfl⟩ := H
                  go_wp2
                  go_ret2
                  exact ⟨xg, xz⟩
                 ·rw [if_neg c22] at H
                  have c22b0 : (a0 == 19) = false := beq_eq_false_iff_ne.mpr c22
                  have c22b1 : (a0 != 19) = true := bne_iff_ne.mpr c22
                  by_cases c23 : a0 = 21
                  ·rw [if_pos c23] at H
                   have c23b0 : (a0 == 21) = true := beq_iff_eq.mpr c23
                   have c23b1 : (a0 != 21) = false := bne_eq_false_iff_eq.mpr c23
                   clear c23
                   simp only [Option.some.injEq, Prod.mk.injEq] at H
                   obtain ⟨rfl, rfl⟩ := H
                   go_wp2
                   go_ret2
                   exact ⟨xg, xz⟩
                  ·rw [if_neg c23] at H
                   have c23b0 : (a0 == 21) = false := beq_eq_false_iff_ne.mpr c23
                   have c23b1 : (a0 != 21) = true := bne_iff_ne.mpr c23
                   simp only [Option.some.injEq, Prod.mk.injEq] at H
                   obtain ⟨rfl, rfl⟩ := H
                   go_wp2
                   go_ret2
                   exact ⟨xg, xz⟩
/- Walked functions, by this session's program over the kit's print. -/
mutual
def r13_Result.l0 : Nat → List Bool → ByteArray → ByteArray → Int → Int → Option (Bool × Int)
 | 0, _, _, _, _, _ => none
 | k + 1, x1, x6, x7, x8, x9 => if x9 < (x6.size : Int) then (if 0 ≤ x9 then (if (bt x6 x9) = 110 then (if x9 < (x1.length : Int) then (if rdOf false x1 x9 = true then (r13_Result.j1 k x1 x6 x7 x8 x9 true) else (if (bt x6 x9) = 116 then (r13_Result.j1 k x1 x6 x7 x8 x9 (!(rdOf false x1 x9))) else (r13_Result.j1 k x1 x6 x7 x8 x9 false))) else (none)) else (if (bt x6 x9) = 116 then (if x9 < (x1.length : Int) then (r13_Result.j1 k x1 x6 x7 x8 x9 (!(rdOf false x1 x9))) else (none)) else (r13_Result.j1 k x1 x6 x7 x8 x9 false))) else (none)) else (if x7.toList = ([97] : List UInt8) then (if 0 ≤ x8 then (if x8 < (x1.length : Int) then (some (rdOf false x1 x8, 0)) else (none)) else (none)) else (some ((x7.toList == ([116] : List UInt8)), 0)))
def r13_Result.j1 : Nat → List Bool → ByteArray → ByteArray → Int → Int → Bool → Option (Bool × Int)
 | 0, _, _, _, _, _, _ => none
 | k + 1, x1, x6, x7, x8, x9, x50 => if x50 = true then (some (false, 11)) else (if 0 ≤ x9 then (if x9 < (x6.size : Int) then (if (bt x6 x9) = 97 then (if x8 ≥ 0 then (if x9 < (x1.length : Int) then (if 0 ≤ x8 then (if x8 < (x1.length : Int) then (r13_Result.j2 k x1 x6 x7 x8 x9 ((rdOf false x1 x9) != (rdOf false x1 x8))) else (none)) else (none)) else (none)) else (r13_Result.j2 k x1 x6 x7 x8 x9 false)) else (r13_Result.j2 k x1 x6 x7 x8 x9 false)) else (none)) else (none))
def r13_Result.j2 : Nat → List Bool → ByteArray → ByteArray → Int → Int → Bool → Option (Bool × Int)
 | 0, _, _, _, _, _, _ => none
 | k + 1, x1, x6, x7, x8, x9, x69 => if x69 = true then (some (false, 11)) else (if 0 ≤ x9 then (if x9 < (x6.size : Int) then (if (bt x6 x9) = 97 then (r13_Result.l0 k x1 x6 x7 x9 (wrap64 (x9 + 1))) else (r13_Result.l0 k x1 x6 x7 x8 (wrap64 (x9 + 1)))) else (none)) else (none))
end
def r13_Result.f (k : Nat) (a0 : Int) (l1 : List Bool) : Option (Bool × Int) := (r13_kinds.f k a0).bind fun bt325 => (if bt325.1.toList = ([] : List UInt8) then (some (false, 1)) else (if (l1.length : Int) = (bt325.1.size : Int) then (r13_Result.l0 k l1 bt325.1 bt325.2 (-1) 0) else (some (false, 11))))
theorem r13_Result.mono_l : ∀ k, (∀ y0 y1 y2 y3 y4, LeO (r13_Result.l0 k y0 y1 y2 y3 y4) (r13_Result.l0 (k + 1) y0 y1 y2 y3 y4)) ∧ (∀ y0 y1 y2 y3 y4 y5, LeO (r13_Result.j1 k y0 y1 y2 y3 y4 y5) (r13_Result.j1 (k + 1) y0 y1 y2 y3 y4 y5)) ∧ (∀ y0 y1 y2 y3 y4 y5, LeO (r13_Result.j2 k y0 y1 y2 y3 y4 y5) (r13_Result.j2 (k + 1) y0 y1 y2 y3 y4 y5))
 | 0 => ⟨fun _ _ _ _ _ r h => by simp [r13_Result.l0] at h, fun _ _ _ _ _ _ r h => by simp [r13_Result.j1] at h, fun _ _ _ _ _ _ r h => by simp [r13_Result.j2] at h⟩
 | k + 1 => by
  obtain ⟨ih0, ih1, ih2⟩ := r13_Result.mono_l k
  refine ⟨?_, ?_, ?_⟩
  ·intro y0 y1 y2 y3 y4
   unfold r13_Result.l0
   repeat' (with_reducible first | exact ih0 _ _ _ _ _ | exact ih1 _ _ _ _ _ _ | exact ih2 _ _ _ _ _ _ | exact r13_kinds.mono _ _ | exact LeO.refl _ | exact LeO.none _ | refine LeO.ite ?_ ?_ | refine LeO.bind ?_ (fun _ => ?_))
  ·intro y0 y1 y2 y3 y4 y5
   unfold r13_Result.j1
   repeat' (with_reducible first | exact ih0 _ _ _ _ _ | exact ih1 _ _ _ _ _ _ | exact ih2 _ _ _ _ _ _ | exact r13_kinds.mono _ _ | exact LeO.refl _ | exact LeO.none _ | refine LeO.ite ?_ ?_ | refine LeO.bind ?_ (fun _ => ?_))
  ·intro y0 y1 y2 y3 y4 y5
   unfold r13_Result.j2
   repeat' (with_reducible first | exact ih0 _ _ _ _ _ | exact ih1 _ _ _ _ _ _ | exact ih2 _ _ _ _ _ _ | exact r13_kinds.mono _ _ | exact LeO.refl _ | exact LeO.none _ | refine LeO.ite ?_ ?_ | refine LeO.bind ?_ (fun _ => ?_))
theorem r13_Result.mono : ∀ a0 a1 k, LeO (r13_Result.f k a0 a1) (r13_Result.f (k + 1) a0 a1) := by
 intro a0 a1 k
 obtain ⟨ih0, ih1, ih2⟩ := r13_Result.mono_l k
 unfold r13_Result.f
 repeat' (with_reducible first | exact ih0 _ _ _ _ _ | exact ih1 _ _ _ _ _ _ | exact ih2 _ _ _ _ _ _ | exact r13_kinds.mono _ _ | exact LeO.refl _ | exact LeO.none _ | refine LeO.ite ?_ ?_ | refine LeO.bind ?_ (fun _ => ?_))
set_option maxHeartbeats 8000000 in
set_option maxRecDepth 100000 in
theorem r13_Result.calls (k : Nat) (a0 : Int) (A1 : Option Addr) (c1 : Nat) (l1 : List Bool) (r1 : Bool) (r2 : Int) (w : World) (hT : Tabs w) (hr1 : Kd.C Kd.bool w A1 l1.length l1) (hc1 : l1.length ≤ c1) (h : r13_Result.f k a0 l1 = some (r1, r2)) :
  Calls Tryz.prog 55 #[.int .i64 a0, .slice A1 l1.length c1] w fun e w' => e = .returned (.tuple #[.bool r1, .int .i64 r2]) ∧ Drawn0 w w' := by
 have HR1 := xy hr1
 have HC1 := xy hc1
 clear hr1 hc1
 unfold r13_Result.f at h
 have H := h
 clear h
 replace H := xj H
 obtain ⟨⟨t325, t326⟩, A30, H⟩ := H
 try dsimp only at H
 have A3 := xy A30
 clear A30
 by_cases c4 : t325.toList = ([] : List UInt8)
 ·rw [if_pos c4] at H
  have c4b0 : (t325.toList == ([] : List UInt8)) = true := beq_iff_eq.mpr c4
  have c4b1 : (t325.toList != ([] : List UInt8)) = false := bne_eq_false_iff_eq.mpr c4
  clear c4
  simp only [Option.some.injEq, Prod.mk.injEq] at H
  obtain ⟨rfl, rfl⟩ := H
  go_enter Tryz.func55, Tryz.ntmps55
  go_wp2_with ((go_at_call 63; (with_reducible refine (r13_kinds.calls k a0 t325 t326 _ (Tabs.below hT xf) A3.out).mono ?_); rintro e w' ⟨rfl, ⟨nd, rfl⟩⟩; (try first | exact ⟨rfl, _, World.drewN_drewN _ _ _⟩ | exact ⟨rfl, _, Eq.trans (World.drewN_drewN _ _ _) (congrArg (World.drewN _) (Nat.add_assoc _ _ _))⟩)))
  repeat (go_quiet (fail); try go_wp2_with (fail))
  go_ret2
  exact ⟨xg, xz⟩
 ·rw [if_neg c4] at H
  have c4b0 : (t325.toList == ([] : List UInt8)) = false := beq_eq_false_iff_ne.mpr c4
  have c4b1 : (t325.toList != ([] : List UInt8)) = true := bne_iff_ne.mpr c4
  by_cases c5 : (l1.length : Int) = (t325.size : Int)
  ·rw [if_pos c5] at H
   have c5b0 : ((l1.length : Int) == (t325.size : Int)) = true := beq_iff_eq.mpr c5
   have c5b1 : ((l1.length : Int) != (t325.size : Int)) = false := bne_eq_false_iff_eq.mpr c5
   have c5b2 : (l1.length == t325.size) = true := by first | simpa using c5 | (simp at c5 ⊢; omega)
   clear c5
   have H' := xy H
   clear H
   go_enter Tryz.func55, Tryz.ntmps55
   go_wp2_with ((go_at_call 63; (with_reducible refine (r13_kinds.calls k a0 t325 t326 _ (Tabs.below hT xf) A3.out).mono ?_); rintro e w' ⟨rfl, ⟨nd, rfl⟩⟩; (try first | exact ⟨rfl, _, World.drewN_drewN _ _ _⟩ | exact ⟨rfl, _, Eq.trans (World.drewN_drewN _ _ _) (congrArg (World.drewN _) (Nat.add_assoc _ _ _))⟩)))
   repeat (go_quiet (fail); try go_wp2_with (fail))
   go_loopg [8, 9] k (fun kq v8 v9 w' => ∃ (x8_1 : Int) (x9_1 : Int), v8 = .int .i64 x8_1 ∧ v9 = .int .i64 x9_1 ∧ Aside0 (r13_Result.l0 kq l1 t325 t326 x8_1 x9_1 = some (r1, r2)) ∧ Aside0 (kq ≤ k) ∧ Drawn0 w w')
   case atStart => exact ⟨((-1)), (0), xg, xg, H', ⟨Nat.le_refl _⟩, by repeat (first | exact Drawn0.refl _ | apply Drawn0.step)⟩
   case round =>
    clear H'
    try clear c1
    try clear p2
    try clear c4
    try clear c4b0
    try clear c4b1
    try clear c5
    try clear c5b0
    try clear c5b1
    try clear c5b2
    obtain ⟨x8_1, x9_1, rfl, rfl, HA, HK1, ⟨m1, rfl⟩⟩ := hrel
    cases gk with
    | zero => exact absurd HA.out (by simp [r13_Result.l0])
    | succ k1 =>
     have H := HA.out
     clear HA
     simp only [r13_Result.l0] at H
     by_cases c6 : x9_1 < (t325.size : Int)
     ·rw [if_pos c6] at H
      have c6b0 : decide (x9_1 < (t325.size : Int)) = true := decide_eq_true c6
      clear c6
      have HC7 := xy H
      clear H
      go_upto_region 10 with (fail)
      repeat (go_quiet (fail); go_upto_region 10 with (fail))
      go_cut [50] (fun v50 wc => ∃ (kq : Nat) (x50_6 : Bool), v50 = .bool x50_6 ∧ Aside0 (r13_Result.j1 kq l1 t325 t326 x8_1 x9_1 x50_6 = some (r1, r2)) ∧ Aside0 (kq ≤ k1) ∧ Drawn0 w wc)
      case first =>
       have H := HC7.out
       clear HC7
       by_cases c8 : 0 ≤ x9_1
       ·rw [if_pos c8] at H
        have c8b0 : decide (0 ≤ x9_1) = true := decide_eq_true c8
        clear c8
        (first | rw [c8b0] | (simp only [i64_w, i32_w]; rw [c8b0]) | skip)
        by_cases c10 : (bt t325 x9_1) = 110
        ·rw [if_pos c10] at H
         have c10b0 : ((bt t325 x9_1) == 110) = true := beq_iff_eq.mpr c10
         have c10b1 : ((bt t325 x9_1) != 110) = false := bne_eq_false_iff_eq.mpr c10
         clear c10
         by_cases c11 : x9_1 < (l1.length : Int)
         ·rw [if_pos c11] at H
          have c11b0 : decide (x9_1 < (l1.length : Int)) = true := decide_eq_true c11
          clear c11
          obtain ⟨bq12, hbq12⟩ : ∃ b_ : Bool, b_ = (rdOf false l1 x9_1) := ⟨_, rfl⟩
          replace H : (if bq12 = true then (r13_Result.j1 k1 l1 t325 t326 x8_1 x9_1 true) else (if (bt t325 x9_1) = 116 then (r13_Result.j1 k1 l1 t325 t326 x8_1 x9_1 (!(bq12))) else (r13_Result.j1 k1 l1 t325 t326 x8_1 x9_1 false))) = some (r1, r2) := by rw [← hbq12] at H; exact H
          have Nbq12 := xy hbq12
          clear hbq12
          by_cases c13 : bq12 = true
          ·subst c13
           rw [if_pos rfl] at H
           have H' := xy H
           clear H
           have p9 : 0 ≤ (x9_1 : Int) := xi
           have q9 : x9_1 < (t325.size : Int) := xi
           have hx9 := bt_at t325 x9_1
           replace p9 := eq_true p9
           replace q9 := eq_true q9
           have p328 : 0 ≤ (x9_1 : Int) := xi
           have q328 : x9_1 < (l1.length : Int) := xi
           obtain ⟨ad328, e328, hx328_0⟩ := Kd.at_bool HR1.out x9_1 p328 q328
           (try rw [← Nbq12.out] at hx328_0)
           cases e328
           replace p328 := eq_true p328
           replace q328 := eq_true q328
           go_wp2
           repeat (go_quiet (fail); try go_wp2)
           go_meet
           case rel => exact ⟨_, (true), xg, H', ⟨by have := HK1.out; first | omega | exact Nat.le_refl _⟩, by repeat (first | exact Drawn0.refl _ | apply Drawn0.step)⟩
          ·replace c13 := Bool.eq_false_iff.mpr c13
           subst c13
           rw [if_neg (show ¬ (false = true) by decide)] at H
           by_cases c15 : (bt t325 x9_1) = 116
           ·rw [if_pos c15] at H
            have c15b0 : ((bt t325 x9_1) == 116) = true := beq_iff_eq.mpr c15
            have c15b1 : ((bt t325 x9_1) != 116) = false := bne_eq_false_iff_eq.mpr c15
            clear c15
            have H' := xy H
            clear H
            have p9 : 0 ≤ (x9_1 : Int) := xi
            have q9 : x9_1 < (t325.size : Int) := xi
            have hx9 := bt_at t325 x9_1
            replace p9 := eq_true p9
            replace q9 := eq_true q9
            have p328 : 0 ≤ (x9_1 : Int) := xi
            have q328 : x9_1 < (l1.length : Int) := xi
            obtain ⟨ad328, e328, hx328_0⟩ := Kd.at_bool HR1.out x9_1 p328 q328
            (try rw [← Nbq12.out] at hx328_0)
            cases e328
            replace p328 := eq_true p328
            replace q328 := eq_true q328
            have p14 : 0 ≤ (x9_1 : Int) := xi
            have q14 : x9_1 < (t325.size : Int) := xi
            have hx14 := bt_at t325 x9_1
            replace p14 := eq_true p14
            replace q14 := eq_true q14
            have p329 : 0 ≤ (x9_1 : Int) := xi
            have q329 : x9_1 < (l1.length : Int) := xi
            obtain ⟨ad329, e329, hx329_0⟩ := Kd.at_bool HR1.out x9_1 p329 q329
            (try rw [← Nbq12.out] at hx329_0)
            obtain rfl : ad328 = ad329 := (by injection e329)
            replace p329 := eq_true p329
            replace q329 := eq_true q329
            go_wp2
            repeat (go_quiet (fail); try go_wp2)
            go_meet
            case rel => exact ⟨_, (!(false)), xg, H', ⟨by have := HK1.out; first | omega | exact Nat.le_refl _⟩, by repeat (first | exact Drawn0.refl _ | apply Drawn0.step)⟩
           ·rw [if_neg c15] at H
            have c15b0 : ((bt t325 x9_1) == 116) = false := beq_eq_false_iff_ne.mpr c15
            have c15b1 : ((bt t325 x9_1) != 116) = true := bne_iff_ne.mpr c15
            have H' := xy H
            clear H
            have p9 : 0 ≤ (x9_1 : Int) := xi
            have q9 : x9_1 < (t325.size : Int) := xi
            have hx9 := bt_at t325 x9_1
            replace p9 := eq_true p9
            replace q9 := eq_true q9
            have p328 : 0 ≤ (x9_1 : Int) := xi
            have q328 : x9_1 < (l1.length : Int) := xi
            obtain ⟨ad328, e328, hx328_0⟩ := Kd.at_bool HR1.out x9_1 p328 q328
            (try rw [← Nbq12.out] at hx328_0)
            cases e328
            replace p328 := eq_true p328
            replace q328 := eq_true q328
            have p14 : 0 ≤ (x9_1 : Int) := xi
            have q14 : x9_1 < (t325.size : Int) := xi
            have hx14 := bt_at t325 x9_1
            replace p14 := eq_true p14
            replace q14 := eq_true q14
            go_wp2
            repeat (go_quiet (fail); try go_wp2)
            go_meet
            case rel => exact ⟨_, (false), xg, H', ⟨by have := HK1.out; first | omega | exact Nat.le_refl _⟩, by repeat (first | exact Drawn0.refl _ | apply Drawn0.step)⟩
         ·rw [if_neg c11] at H
          exact absurd H (by simp)
        ·rw [if_neg c10] at H
         have c10b0 : ((bt t325 x9_1) == 110) = false := beq_eq_false_iff_ne.mpr c10
         have c10b1 : ((bt t325 x9_1) != 110) = true := bne_iff_ne.mpr c10
         by_cases c17 : (bt t325 x9_1) = 116
         ·rw [if_pos c17] at H
          have c17b0 : ((bt t325 x9_1) == 116) = true := beq_iff_eq.mpr c17
          have c17b1 : ((bt t325 x9_1) != 116) = false := bne_eq_false_iff_eq.mpr c17
          clear c17
          by_cases c18 : x9_1 < (l1.length : Int)
          ·rw [if_pos c18] at H
           have c18b0 : decide (x9_1 < (l1.length : Int)) = true := decide_eq_true c18
           clear c18
           have H' := xy H
           clear H
           have p9 : 0 ≤ (x9_1 : Int) := xi
           have q9 : x9_1 < (t325.size : Int) := xi
           have hx9 := bt_at t325 x9_1
           replace p9 := eq_true p9
           replace q9 := eq_true q9
           have p16 : 0 ≤ (x9_1 : Int) := xi
           have q16 : x9_1 < (t325.size : Int) := xi
           have hx16 := bt_at t325 x9_1
           replace p16 := eq_true p16
           replace q16 := eq_true q16
           have p330 : 0 ≤ (x9_1 : Int) := xi
           have q330 : x9_1 < (l1.length : Int) := xi
           obtain ⟨ad330, e330, hx330_0⟩ := Kd.at_bool HR1.out x9_1 p330 q330
           cases e330
           replace p330 := eq_true p330
           replace q330 := eq_true q330
           go_wp2
           repeat (go_quiet (fail); try go_wp2)
           go_meet
           case rel => exact ⟨_, (!(rdOf false l1 x9_1)), xg, H', ⟨by have := HK1.out; first | omega | exact Nat.le_refl _⟩, by repeat (first | exact Drawn0.refl _ | apply Drawn0.step)⟩
          ·rw [if_neg c18] at H
           exact absurd H (by simp)
         ·rw [if_neg c17] at H
          have c17b0 : ((bt t325 x9_1) == 116) = false := beq_eq_false_iff_ne.mpr c17
          have c17b1 : ((bt t325 x9_1) != 116) = true := bne_iff_ne.mpr c17
          have H' := xy H
          clear H
          have p9 : 0 ≤ (x9_1 : Int) := xi
          have q9 : x9_1 < (t325.size : Int) := xi
          have hx9 := bt_at t325 x9_1
          replace p9 := eq_true p9
          replace q9 := eq_true q9
          have p16 : 0 ≤ (x9_1 : Int) := xi
          have q16 : x9_1 < (t325.size : Int) := xi
          have hx16 := bt_at t325 x9_1
          replace p16 := eq_true p16
          replace q16 := eq_true q16
          go_wp2
          repeat (go_quiet (fail); try go_wp2)
          go_meet
          case rel => exact ⟨_, (false), xg, H', ⟨by have := HK1.out; first | omega | exact Nat.le_refl _⟩, by repeat (first | exact Drawn0.refl _ | apply Drawn0.step)⟩
       ·rw [if_neg c8] at H
        exact absurd H (by simp)
      case rest =>
       clear HC7
       try clear c1
       try clear p1
       try clear q1
       try clear hx1
       try clear p2
       try clear p3
       try clear q3
       try clear hx3
       try clear c4
       try clear c4b0
       try clear c4b1
       try clear c5
       try clear c5b0
       try clear c5b1
       try clear c5b2
       try clear c6
       try clear c6b0
       try clear c8
       try clear c8b0
       try clear p9
       try clear q9
       try clear hx9
       try clear c10
       try clear c10b0
       try clear c10b1
       try clear c11
       try clear c11b0
       try clear q12
       try clear c13
       try clear p14
       try clear q14
       try clear hx14
       try clear c15
       try clear c15b0
       try clear c15b1
       try clear p16
       try clear q16
       try clear hx16
       try clear c17
       try clear c17b0
       try clear c17b1
       try clear c18
       try clear c18b0
       try clear hx328_0
       try clear hx329_0
       try clear hx330_0
       try clear p14
       try clear p16
       try clear p2
       try clear p328
       try clear p329
       try clear p330
       try clear p9
       try clear q14
       try clear q16
       try clear q328
       try clear q329
       try clear q330
       try clear q9
       obtain ⟨kq, x50_6, rfl, HA, HJ6, ⟨mc6, rfl⟩⟩ := hcut
       cases kq with
       | zero => exact absurd HA.out (by simp [r13_Result.j1])
       | succ kj6 =>
        have H := HA.out
        clear HA
        simp only [r13_Result.j1] at H
        by_cases c19 : x50_6 = true
        ·subst c19
         rw [if_pos rfl] at H
         simp only [Option.some.injEq, Prod.mk.injEq] at H
         obtain ⟨rfl, rfl⟩ := H
         go_wp2
         repeat (go_quiet (fail); try go_wp2)
         go_ret2
         exact ⟨xg, xz⟩
        ·replace c19 := Bool.eq_false_iff.mpr c19
         subst c19
         rw [if_neg (show ¬ (false = true) by decide)] at H
         have HC20 := xy H
         clear H
         go_upto_region 12 with (fail)
         repeat (go_quiet (fail); go_upto_region 12 with (fail))
         go_cut [69] (fun v69 wc => ∃ (kq : Nat) (x69_19 : Bool), v69 = .bool x69_19 ∧ Aside0 (r13_Result.j2 kq l1 t325 t326 x8_1 x9_1 x69_19 = some (r1, r2)) ∧ Aside0 (kq ≤ kj6) ∧ Drawn0 w wc)
         case first =>
          have H := HC20.out
          clear HC20
          by_cases c21 : 0 ≤ x9_1
          ·rw [if_pos c21] at H
           have c21b0 : decide (0 ≤ x9_1) = true := decide_eq_true c21
           clear c21
           (first | rw [c21b0] | (simp only [i64_w, i32_w]; rw [c21b0]) | skip)
           by_cases c22 : x9_1 < (t325.size : Int)
           ·rw [if_pos c22] at H
            have c22b0 : decide (x9_1 < (t325.size : Int)) = true := decide_eq_true c22
            clear c22
            by_cases c24 : (bt t325 x9_1) = 97
            ·rw [if_pos c24] at H
             have c24b0 : ((bt t325 x9_1) == 97) = true := beq_iff_eq.mpr c24
             have c24b1 : ((bt t325 x9_1) != 97) = false := bne_eq_false_iff_eq.mpr c24
             clear c24
             by_cases c25 : x8_1 ≥ 0
             ·rw [if_pos c25] at H
              have c25b0 : decide (0 ≤ x8_1) = true := decide_eq_true c25
              clear c25
              by_cases c26 : x9_1 < (l1.length : Int)
              ·rw [if_pos c26] at H
               have c26b0 : decide (x9_1 < (l1.length : Int)) = true := decide_eq_true c26
               clear c26
               by_cases c27 : 0 ≤ x8_1
               ·rw [if_pos c27] at H
                have c27b0 : decide (0 ≤ x8_1) = true := decide_eq_true c27
                clear c27
                by_cases c28 : x8_1 < (l1.length : Int)
                ·rw [if_pos c28] at H
                 have c28b0 : decide (x8_1 < (l1.length : Int)) = true := decide_eq_true c28
                 clear c28
                 have H' := xy H
                 clear H
                 have p23 : 0 ≤ (x9_1 : Int) := xi
                 have q23 : x9_1 < (t325.size : Int) := xi
                 have hx23 := bt_at t325 x9_1
                 replace p23 := eq_true p23
                 replace q23 := eq_true q23
                 have p331 : 0 ≤ (x9_1 : Int) := xi
                 have q331 : x9_1 < (l1.length : Int) := xi
                 obtain ⟨ad331, e331, hx331_0⟩ := Kd.at_bool HR1.out x9_1 p331 q331
                 cases e331
                 replace p331 := eq_true p331
                 replace q331 := eq_true q331
                 have p332 : 0 ≤ (x8_1 : Int) := xi
                 have q332 : x8_1 < (l1.length : Int) := xi
                 obtain ⟨ad332, e332, hx332_0⟩ := Kd.at_bool HR1.out x8_1 p332 q332
                 obtain rfl : ad331 = ad332 := (by injection e332)
                 replace p332 := eq_true p332
                 replace q332 := eq_true q332
                 go_wp2
                 repeat (go_quiet (fail); try go_wp2)
                 go_meet
                 case rel => exact ⟨_, (((rdOf false l1 x9_1) != (rdOf false l1 x8_1))), xg, H', ⟨by have := HK1.out; have := HJ6.out; first | omega | exact Nat.le_refl _⟩, by repeat (first | exact Drawn0.refl _ | apply Drawn0.step)⟩
                ·rw [if_neg c28] at H
                 exact absurd H (by simp)
               ·rw [if_neg c27] at H
                exact absurd H (by simp)
              ·rw [if_neg c26] at H
               exact absurd H (by simp)
             ·rw [if_neg c25] at H
              have c25b0 : decide (0 ≤ x8_1) = false := decide_eq_false c25
              clear c25
              have H' := xy H
              clear H
              have p23 : 0 ≤ (x9_1 : Int) := xi
              have q23 : x9_1 < (t325.size : Int) := xi
              have hx23 := bt_at t325 x9_1
              replace p23 := eq_true p23
              replace q23 := eq_true q23
              go_wp2
              repeat (go_quiet (fail); try go_wp2)
              go_meet
              case rel => exact ⟨_, (false), xg, H', ⟨by have := HK1.out; have := HJ6.out; first | omega | exact Nat.le_refl _⟩, by repeat (first | exact Drawn0.refl _ | apply Drawn0.step)⟩
            ·rw [if_neg c24] at H
             have c24b0 : ((bt t325 x9_1) == 97) = false := beq_eq_false_iff_ne.mpr c24
             have c24b1 : ((bt t325 x9_1) != 97) = true := bne_iff_ne.mpr c24
             have H' := xy H
             clear H
             have p23 : 0 ≤ (x9_1 : Int) := xi
             have q23 : x9_1 < (t325.size : Int) := xi
             have hx23 := bt_at t325 x9_1
             replace p23 := eq_true p23
             replace q23 := eq_true q23
             go_wp2
             repeat (go_quiet (fail); try go_wp2)
             go_meet
             case rel => exact ⟨_, (false), xg, H', ⟨by have := HK1.out; have := HJ6.out; first | omega | exact Nat.le_refl _⟩, by repeat (first | exact Drawn0.refl _ | apply Drawn0.step)⟩
           ·rw [if_neg c22] at H
            exact absurd H (by simp)
          ·rw [if_neg c21] at H
           exact absurd H (by simp)
         case rest =>
          clear HC20
          try clear c1
          try clear p1
          try clear q1
          try clear hx1
          try clear c2
          try clear p2
          try clear q2
          try clear hx2
          try clear p3
          try clear q3
          try clear hx3
          try clear c4
          try clear c4b0
          try clear c4b1
          try clear c5
          try clear c5b0
          try clear c5b1
          try clear c5b2
          try clear c6
          try clear c6b0
          try clear c8
          try clear c8b0
          try clear p9
          try clear q9
          try clear hx9
          try clear c10
          try clear c10b0
          try clear c10b1
          try clear c11
          try clear c11b0
          try clear q12
          try clear c13
          try clear p14
          try clear q14
          try clear hx14
          try clear c15
          try clear c15b0
          try clear c15b1
          try clear p16
          try clear q16
          try clear hx16
          try clear c17
          try clear c17b0
          try clear c17b1
          try clear c18
          try clear c18b0
          try clear c19
          try clear c21
          try clear c21b0
          try clear c22
          try clear c22b0
          try clear p23
          try clear q23
          try clear hx23
          try clear c24
          try clear c24b0
          try clear c24b1
          try clear c25
          try clear c25b0
          try clear c26
          try clear c26b0
          try clear c27
          try clear c27b0
          try clear c28
          try clear c28b0
          try clear hx328_0
          try clear hx329_0
          try clear hx330_0
          try clear hx331_0
          try clear hx332_0
          try clear p1
          try clear p14
          try clear p16
          try clear p2
          try clear p23
          try clear p3
          try clear p328
          try clear p329
          try clear p330
          try clear p331
          try clear p332
          try clear p9
          try clear q1
          try clear q12
          try clear q14
          try clear q16
          try clear q23
          try clear q3
          try clear q328
          try clear q329
          try clear q330
          try clear q331
          try clear q332
          try clear q9
          obtain ⟨kq, x69_19, rfl, HA, HJ19, ⟨mc19, rfl⟩⟩ := hcut
          cases kq with
          | zero => exact absurd HA.out (by simp [r13_Result.j2])
          | succ kj19 =>
           have H := HA.out
           clear HA
           simp only [r13_Result.j2] at H
           by_cases c29 : x69_19 = true
           ·subst c29
            rw [if_pos rfl] at H
            simp only [Option.some.injEq, Prod.mk.injEq] at H
            obtain ⟨rfl, rfl⟩ := H
            go_wp2
            repeat (go_quiet (fail); try go_wp2)
            go_ret2
            exact ⟨xg, xz⟩
           ·replace c29 := Bool.eq_false_iff.mpr c29
            subst c29
            rw [if_neg (show ¬ (false = true) by decide)] at H
            by_cases c30 : 0 ≤ x9_1
            ·rw [if_pos c30] at H
             have c30b0 : decide (0 ≤ x9_1) = true := decide_eq_true c30
             clear c30
             by_cases c31 : x9_1 < (t325.size : Int)
             ·rw [if_pos c31] at H
              have c31b0 : decide (x9_1 < (t325.size : Int)) = true := decide_eq_true c31
              clear c31
              by_cases c33 : (bt t325 x9_1) = 97
              ·rw [if_pos c33] at H
               have c33b0 : ((bt t325 x9_1) == 97) = true := beq_iff_eq.mpr c33
               have c33b1 : ((bt t325 x9_1) != 97) = false := bne_eq_false_iff_eq.mpr c33
               clear c33
               have H' := xy H
               clear H
               have p32 : 0 ≤ (x9_1 : Int) := xi
               have q32 : x9_1 < (t325.size : Int) := xi
               have hx32 := bt_at t325 x9_1
               replace p32 := eq_true p32
               replace q32 := eq_true q32
               go_wp2
               repeat (go_quiet (fail); try go_wp2)
               go_roundg kj19
               case measure => have := HK1.out; have := HJ6.out; have := HJ19.out; omega
               case rel => exact ⟨(x9_1), (wrap64 (x9_1 + 1)), xg, xg, H', ⟨by have := HK1.out; have := HJ6.out; have := HJ19.out; omega⟩, by repeat (first | exact Drawn0.refl _ | apply Drawn0.step)⟩
              ·rw [if_neg c33] at H
               have c33b0 : ((bt t325 x9_1) == 97) = false := beq_eq_false_iff_ne.mpr c33
               have c33b1 : ((bt t325 x9_1) != 97) = true := bne_iff_ne.mpr c33
               have H' := xy H
               clear H
               have p32 : 0 ≤ (x9_1 : Int) := xi
               have q32 : x9_1 < (t325.size : Int) := xi
               have hx32 := bt_at t325 x9_1
               replace p32 := eq_true p32
               replace q32 := eq_true q32
               go_wp2
               repeat (go_quiet (fail); try go_wp2)
               go_roundg kj19
               case measure => have := HK1.out; have := HJ6.out; have := HJ19.out; omega
               case rel => exact ⟨(x8_1), (wrap64 (x9_1 + 1)), xg, xg, H', ⟨by have := HK1.out; have := HJ6.out; have := HJ19.out; omega⟩, by repeat (first | exact Drawn0.refl _ | apply Drawn0.step)⟩
             ·rw [if_neg c31] at H
              exact absurd H (by simp)
            ·rw [if_neg c30] at H
             exact absurd H (by simp)
     ·rw [if_neg c6] at H
      have c6b0 : decide (x9_1 < (t325.size : Int)) = false := decide_eq_false c6
      clear c6
      by_cases c34 : t326.toList = ([97] : List UInt8)
      ·rw [if_pos c34] at H
       have c34b0 : (t326.toList == ([97] : List UInt8)) = true := beq_iff_eq.mpr c34
       have c34b1 : (t326.toList != ([97] : List UInt8)) = false := bne_eq_false_iff_eq.mpr c34
       clear c34
       by_cases c35 : 0 ≤ x8_1
       ·rw [if_pos c35] at H
        have c35b0 : decide (0 ≤ x8_1) = true := decide_eq_true c35
        clear c35
        by_cases c36 : x8_1 < (l1.length : Int)
        ·rw [if_pos c36] at H
         have c36b0 : decide (x8_1 < (l1.length : Int)) = true := decide_eq_true c36
         clear c36
         simp only [Option.some.injEq, Prod.mk.injEq] at H
         obtain ⟨rfl, rfl⟩ := H
         have p327 : 0 ≤ (x8_1 : Int) := xi
         have q327 : x8_1 < (l1.length : Int) := xi
         obtain ⟨ad327, e327, hx327_0⟩ := Kd.at_bool HR1.out x8_1 p327 q327
         cases e327
         replace p327 := eq_true p327
         replace q327 := eq_true q327
         go_wp2
         repeat (go_quiet (fail); try go_wp2)
         go_ret2
         exact ⟨xg, xz⟩
        ·rw [if_neg c36] at H
         exact absurd H (by simp)
       ·rw [if_neg c35] at H
        exact absurd H (by simp)
      ·rw [if_neg c34] at H
       have c34b0 : (t326.toList == ([97] : List UInt8)) = false := beq_eq_false_iff_ne.mpr c34
       have c34b1 : (t326.toList != ([97] : List UInt8)) = true := bne_iff_ne.mpr c34
       simp only [Option.some.injEq, Prod.mk.injEq] at H
       obtain ⟨rfl, rfl⟩ := H
       go_wp2
       repeat (go_quiet (fail); try go_wp2)
       go_ret2
       exact ⟨xg, xz⟩
  ·rw [if_neg c5] at H
   have c5b0 : ((l1.length : Int) == (t325.size : Int)) = false := beq_eq_false_iff_ne.mpr c5
   have c5b1 : ((l1.length : Int) != (t325.size : Int)) = true := bne_iff_ne.mpr c5
   have c5b2 : (l1.length == t325.size) = false := by first | simpa using c5 | (simp at c5 ⊢; omega)
   simp only [Option.some.injEq, Prod.mk.injEq] at H
   obtain ⟨rfl, rfl⟩ := H
   go_enter Tryz.func55, Tryz.ntmps55
   go_wp2_with ((go_at_call 63; (with_reducible refine (r13_kinds.calls k a0 t325 t326 _ (Tabs.below hT xf) A3.out).mono ?_); rintro e w' ⟨rfl, ⟨nd, rfl⟩⟩; (try first | exact ⟨rfl, _, World.drewN_drewN _ _ _⟩ | exact ⟨rfl, _, Eq.trans (World.drewN_drewN _ _ _) (congrArg (World.drewN _) (Nat.add_assoc _ _ _))⟩)))
   repeat (go_quiet (fail); try go_wp2_with (fail))
   go_ret2
   exact ⟨xg, xz⟩
/- Walked functions, by this session's program over the kit's print. -/
mutual
def r13_number.j0 : Nat → ByteArray → Int → Bool → Option (Int)
 | 0, _, _, _ => none
 | k + 1, x0, x3, x13 => if x13 = true then (if 1 ≤ (x0.size : Int) then (r13_number.j1 k (x0.extract 1 x0.size) (-1)) else (none)) else (r13_number.j1 k x0 x3)
def r13_number.j1 : Nat → ByteArray → Int → Option (Int)
 | 0, _, _ => none
 | k + 1, x0, x3 => if (x0.size : Int) < 1 then (r13_number.j2 k x0 x3 true) else (r13_number.j2 k x0 x3 (decide ((x0.size : Int) > 18)))
def r13_number.j2 : Nat → ByteArray → Int → Bool → Option (Int)
 | 0, _, _, _ => none
 | k + 1, x0, x3, x23 => if x23 = true then (some 0) else (r13_number.l0 k x0 x3 0 0)
def r13_number.l0 : Nat → ByteArray → Int → Int → Int → Option (Int)
 | 0, _, _, _, _ => none
 | k + 1, x0, x3, x4, x5 => if x5 < (x0.size : Int) then (if 0 ≤ x5 then (if (bt x0 x5) < 48 then (some 0) else (if (bt x0 x5) > 57 then (some 0) else (r13_number.l0 k x0 x3 (wrap64 ((wrap64 (10 * x4)) + (((bt x0 x5) - 48) % 256))) (wrap64 (x5 + 1))))) else (none)) else (some (wrap64 (x3 * x4)))
end
def r13_number.f (k : Nat) (a0 : ByteArray) : Option (Int) := if (a0.size : Int) > 0 then (if 0 < (a0.size : Int) then (r13_number.j0 k a0 1 ((bt a0 0) == 45)) else (none)) else (r13_number.j0 k a0 1 false)
theorem r13_number.mono_l : ∀ k, (∀ y0 y1 y2, LeO (r13_number.j0 k y0 y1 y2) (r13_number.j0 (k + 1) y0 y1 y2)) ∧ (∀ y0 y1, LeO (r13_number.j1 k y0 y1) (r13_number.j1 (k + 1) y0 y1)) ∧ (∀ y0 y1 y2, LeO (r13_number.j2 k y0 y1 y2) (r13_number.j2 (k + 1) y0 y1 y2)) ∧ (∀ y0 y1 y2 y3, LeO (r13_number.l0 k y0 y1 y2 y3) (r13_number.l0 (k + 1) y0 y1 y2 y3))
 | 0 => ⟨fun _ _ _ r h => by simp [r13_number.j0] at h, fun _ _ r h => by simp [r13_number.j1] at h, fun _ _ _ r h => by simp [r13_number.j2] at h, fun _ _ _ _ r h => by simp [r13_number.l0] at h⟩
 | k + 1 => by
  obtain ⟨ih0, ih1, ih2, ih3⟩ := r13_number.mono_l k
  refine ⟨?_, ?_, ?_, ?_⟩
  ·intro y0 y1 y2
   unfold r13_number.j0
   repeat' (with_reducible first | exact ih0 _ _ _ | exact ih1 _ _ | exact ih2 _ _ _ | exact ih3 _ _ _ _ | exact LeO.refl _ | exact LeO.none _ | refine LeO.ite ?_ ?_ | refine LeO.bind ?_ (fun _ => ?_))
  ·intro y0 y1
   unfold r13_number.j1
   repeat' (with_reducible first | exact ih0 _ _ _ | exact ih1 _ _ | exact ih2 _ _ _ | exact ih3 _ _ _ _ | exact LeO.refl _ | exact LeO.none _ | refine LeO.ite ?_ ?_ | refine LeO.bind ?_ (fun _ => ?_))
  ·intro y0 y1 y2
   unfold r13_number.j2
   repeat' (with_reducible first | exact ih0 _ _ _ | exact ih1 _ _ | exact ih2 _ _ _ | exact ih3 _ _ _ _ | exact LeO.refl _ | exact LeO.none _ | refine LeO.ite ?_ ?_ | refine LeO.bind ?_ (fun _ => ?_))
  ·intro y0 y1 y2 y3
   unfold r13_number.l0
   repeat' (with_reducible first | exact ih0 _ _ _ | exact ih1 _ _ | exact ih2 _ _ _ | exact ih3 _ _ _ _ | exact LeO.refl _ | exact LeO.none _ | refine LeO.ite ?_ ?_ | refine LeO.bind ?_ (fun _ => ?_))
theorem r13_number.mono : ∀ a0 k, LeO (r13_number.f k a0) (r13_number.f (k + 1) a0) := by
 intro a0 k
 obtain ⟨ih0, ih1, ih2, ih3⟩ := r13_number.mono_l k
 unfold r13_number.f
 repeat' (with_reducible first | exact ih0 _ _ _ | exact ih1 _ _ | exact ih2 _ _ _ | exact ih3 _ _ _ _ | exact LeO.refl _ | exact LeO.none _ | refine LeO.ite ?_ ?_ | refine LeO.bind ?_ (fun _ => ?_))
set_option maxHeartbeats 8000000 in
set_option maxRecDepth 100000 in
theorem r13_number.calls (k : Nat) (a0 : ByteArray) (r : Int) (w : World) (hT : Tabs w) (h : r13_number.f k a0 = some r) :
  Calls Tryz.prog 70 #[.string a0] w fun e w' => e = .returned (.int .i64 r) ∧ Drawn0 w w' := by
 unfold r13_number.f at h
 have H := h
 clear h
 have HC2 := xy H
 clear H
 go_enter Tryz.func70, Tryz.ntmps70
 go_upto_region 2 with (fail)
 go_cut [13] (fun v13 wc => ∃ (kq : Nat) (x13_1 : Bool), v13 = .bool x13_1 ∧ Aside0 (r13_number.j0 kq a0 1 x13_1 = some r) ∧ Aside0 (kq ≤ k) ∧ Drawn0 w wc)
 case first =>
  have H := HC2.out
  clear HC2
  by_cases c3 : (a0.size : Int) > 0
  ·rw [if_pos c3] at H
   have c3b0 : decide (0 < (a0.size : Int)) = true := decide_eq_true c3
   have c3b1 : decide (0 < a0.size) = true := decide_eq_true (by omega)
   clear c3
   (first | rw [c3b0] | (simp only [i64_w, i32_w]; rw [c3b0]) | skip)
   by_cases c4 : 0 < (a0.size : Int)
   ·rw [if_pos c4] at H
    have c4b0 : decide (0 < (a0.size : Int)) = true := decide_eq_true c4
    have c4b1 : decide (0 < a0.size) = true := decide_eq_true (by omega)
    clear c4
    have H' := xy H
    clear H
    have p5 : 0 ≤ (0 : Int) := (by omega)
    have q5 : 0 < a0.size := (by have : (0 : Int) < (a0.size : Int) := xi; omega)
    have hx5 : ∀ h : 0 < a0.size, ((a0[0]'h).toNat : Int) = bt a0 0 := bt_at a0 0
    clear p5
    have qi5 : (0 < (a0.size : Int)) = True := eq_true xi
    replace q5 := eq_true q5
    go_wp2
    go_meet
    case rel => exact ⟨_, (((bt a0 0) == 45)), xg, H', ⟨by first | omega | exact Nat.le_refl _⟩, by repeat (first | exact Drawn0.refl _ | apply Drawn0.step)⟩
   ·rw [if_neg c4] at H
    exact absurd H (by simp)
  ·rw [if_neg c3] at H
   have c3b0 : decide (0 < (a0.size : Int)) = false := decide_eq_false c3
   have c3b1 : decide (0 < a0.size) = false := decide_eq_false (by omega)
   clear c3
   (first | rw [c3b0] | (simp only [i64_w, i32_w]; rw [c3b0]) | skip)
   have H' := xy H
   clear H
   go_wp2
   go_meet
   case rel => exact ⟨_, (false), xg, H', ⟨by first | omega | exact Nat.le_refl _⟩, by repeat (first | exact Drawn0.refl _ | apply Drawn0.step)⟩
 case rest =>
  clear HC2
  try clear p2
  try clear c3
  try clear c3b0
  try clear c3b1
  try clear c4
  try clear c4b0
  try clear c4b1
  try clear p5
  try clear q5
  try clear hx5
  try clear qi5
  try clear p5
  try clear q5
  obtain ⟨kq, x13_1, rfl, HA, HJ1, ⟨mc1, rfl⟩⟩ := hcut
  cases kq with
  | zero => exact absurd HA.out (by simp [r13_number.j0])
  | succ kj1 =>
   have H := HA.out
   clear HA
   simp only [r13_number.j0] at H
   have HC6 := xy H
   clear H
   go_upto_if 13 with (fail)
   go_cut [0, 3] (fun v0 v3 wc => ∃ (kq : Nat) (x0_5 : ByteArray) (x3_5 : Int), v0 = .string x0_5 ∧ v3 = .int .i64 x3_5 ∧ Aside0 (r13_number.j1 kq x0_5 x3_5 = some r) ∧ Aside0 (kq ≤ kj1) ∧ Drawn0 w wc)
   case first =>
    have H := HC6.out
    clear HC6
    by_cases c7 : x13_1 = true
    ·subst c7
     rw [if_pos rfl] at H
     by_cases c8 : 1 ≤ (a0.size : Int)
     ·rw [if_pos c8] at H
      have c8b0 := eq_true c8
      have c8b1 : decide (1 ≤ (a0.size : Int)) = true := decide_eq_true c8
      clear c8
      have H' := xy H
      clear H
      go_wp2
      go_meet
      case rel => exact ⟨_, (a0.extract 1 a0.size), ((-1)), xg, xg, H', ⟨by have := HJ1.out; first | omega | exact Nat.le_refl _⟩, by repeat (first | exact Drawn0.refl _ | apply Drawn0.step)⟩
     ·rw [if_neg c8] at H
      exact absurd H (by simp)
    ·replace c7 := Bool.eq_false_iff.mpr c7
     subst c7
     rw [if_neg (show ¬ (false = true) by decide)] at H
     have H' := xy H
     clear H
     go_wp2
     go_meet
     case rel => exact ⟨_, (a0), (1), xg, xg, H', ⟨by have := HJ1.out; first | omega | exact Nat.le_refl _⟩, by repeat (first | exact Drawn0.refl _ | apply Drawn0.step)⟩
   case rest =>
    clear HC6
    try clear c1
    try clear p2
    try clear c3
    try clear c3b0
    try clear c3b1
    try clear c4
    try clear c4b0
    try clear c4b1
    try clear p5
    try clear q5
    try clear hx5
    try clear qi5
    try clear c7
    try clear c8
    try clear c8b0
    try clear c8b1
    try clear p2
    try clear p5
    try clear q5
    obtain ⟨kq, x0_5, x3_5, rfl, rfl, HA, HJ5, ⟨mc5, rfl⟩⟩ := hcut
    cases kq with
    | zero => exact absurd HA.out (by simp [r13_number.j1])
    | succ kj5 =>
     have H := HA.out
     clear HA
     simp only [r13_number.j1] at H
     have HC9 := xy H
     clear H
     go_upto_region 5 with (fail)
     go_cut [23] (fun v23 wc => ∃ (kq : Nat) (x23_8 : Bool), v23 = .bool x23_8 ∧ Aside0 (r13_number.j2 kq x0_5 x3_5 x23_8 = some r) ∧ Aside0 (kq ≤ kj5) ∧ Drawn0 w wc)
     case first =>
      have H := HC9.out
      clear HC9
      by_cases c10 : (x0_5.size : Int) < 1
      ·rw [if_pos c10] at H
       have c10b0 : decide ((x0_5.size : Int) < 1) = true := decide_eq_true c10
       have c10b1 : decide (x0_5.size < 1) = true := decide_eq_true (by omega)
       clear c10
       (first | rw [c10b0] | (simp only [i64_w, i32_w]; rw [c10b0]) | skip)
       have H' := xy H
       clear H
       go_wp2
       go_meet
       case rel => exact ⟨_, (true), xg, H', ⟨by have := HJ1.out; have := HJ5.out; first | omega | exact Nat.le_refl _⟩, by repeat (first | exact Drawn0.refl _ | apply Drawn0.step)⟩
      ·rw [if_neg c10] at H
       have c10b0 : decide ((x0_5.size : Int) < 1) = false := decide_eq_false c10
       have c10b1 : decide (x0_5.size < 1) = false := decide_eq_false (by omega)
       clear c10
       (first | rw [c10b0] | (simp only [i64_w, i32_w]; rw [c10b0]) | skip)
       have H' := xy H
       clear H
       go_wp2
       go_meet
       case rel => exact ⟨_, (decide ((x0_5.size : Int) > 18)), xg, H', ⟨by have := HJ1.out; have := HJ5.out; first | omega | exact Nat.le_refl _⟩, by repeat (first | exact Drawn0.refl _ | apply Drawn0.step)⟩
     case rest =>
      clear HC9
      try clear c1
      try clear p2
      try clear c3
      try clear c3b0
      try clear c3b1
      try clear c4
      try clear c4b0
      try clear c4b1
      try clear c5
      try clear p5
      try clear q5
      try clear hx5
      try clear qi5
      try clear c7
      try clear c8
      try clear c8b0
      try clear c8b1
      try clear c10
      try clear c10b0
      try clear c10b1
      try clear p2
      try clear p5
      try clear q5
      obtain ⟨kq, x23_8, rfl, HA, HJ8, ⟨mc8, rfl⟩⟩ := hcut
      cases kq with
      | zero => exact absurd HA.out (by simp [r13_number.j2])
      | succ kj8 =>
       have H := HA.out
       clear HA
       simp only [r13_number.j2] at H
       by_cases c11 : x23_8 = true
       ·subst c11
        rw [if_pos rfl] at H
        obtain rfl := Option.some.inj H
        go_wp2
        go_ret
        exact ⟨xg, xz⟩
       ·replace c11 := Bool.eq_false_iff.mpr c11
        subst c11
        rw [if_neg (show ¬ (false = true) by decide)] at H
        have H' := xy H
        clear H
        go_wp2
        go_loopg [4, 5] kj8 (fun kq v4 v5 w' => ∃ (x4_4 : Int) (x5_4 : Int), v4 = .int .i64 x4_4 ∧ v5 = .int .i64 x5_4 ∧ Aside0 (r13_number.l0 kq x0_5 x3_5 x4_4 x5_4 = some r) ∧ Aside0 (kq ≤ kj8) ∧ Drawn0 w w')
        case atStart => exact ⟨(0), (0), xg, xg, H', ⟨Nat.le_refl _⟩, by repeat (first | exact Drawn0.refl _ | apply Drawn0.step)⟩
        case round =>
         clear H'
         try clear c1
         try clear p2
         try clear c3
         try clear c3b0
         try clear c3b1
         try clear c4
         try clear c4b0
         try clear c4b1
         try clear c5
         try clear p5
         try clear q5
         try clear hx5
         try clear qi5
         try clear c7
         try clear c8
         try clear c8b0
         try clear c8b1
         try clear c10
         try clear c10b0
         try clear c10b1
         try clear c11
         try clear p2
         try clear p5
         try clear q5
         obtain ⟨x4_4, x5_4, rfl, rfl, HA, HK4, ⟨m4, rfl⟩⟩ := hrel
         cases gk with
         | zero => exact absurd HA.out (by simp [r13_number.l0])
         | succ k4 =>
          have H := HA.out
          clear HA
          simp only [r13_number.l0] at H
          by_cases c12 : x5_4 < (x0_5.size : Int)
          ·rw [if_pos c12] at H
           have c12b0 : decide (x5_4 < (x0_5.size : Int)) = true := decide_eq_true c12
           clear c12
           by_cases c13 : 0 ≤ x5_4
           ·rw [if_pos c13] at H
            have c13b0 : decide (0 ≤ x5_4) = true := decide_eq_true c13
            clear c13
            by_cases c15 : (bt x0_5 x5_4) < 48
            ·rw [if_pos c15] at H
             have c15b0 : decide ((bt x0_5 x5_4) < 48) = true := decide_eq_true c15
             clear c15
             obtain rfl := Option.some.inj H
             have p14 : 0 ≤ (x5_4 : Int) := xi
             have q14 : x5_4 < (x0_5.size : Int) := xi
             have hx14 := bt_at x0_5 x5_4
             replace p14 := eq_true p14
             replace q14 := eq_true q14
             go_wp2
             go_ret
             exact ⟨xg, xz⟩
            ·rw [if_neg c15] at H
             have c15b0 : decide ((bt x0_5 x5_4) < 48) = false := decide_eq_false c15
             clear c15
             by_cases c17 : (bt x0_5 x5_4) > 57
             ·rw [if_pos c17] at H
              have c17b0 : decide (57 < (bt x0_5 x5_4)) = true := decide_eq_true c17
              clear c17
              obtain rfl := Option.some.inj H
              have p14 : 0 ≤ (x5_4 : Int) := xi
              have q14 : x5_4 < (x0_5.size : Int) := xi
              have hx14 := bt_at x0_5 x5_4
              replace p14 := eq_true p14
              replace q14 := eq_true q14
              have p16 : 0 ≤ (x5_4 : Int) := xi
              have q16 : x5_4 < (x0_5.size : Int) := xi
              have hx16 := bt_at x0_5 x5_4
              replace p16 := eq_true p16
              replace q16 := eq_true q16
              go_wp2
              go_ret
              exact ⟨xg, xz⟩
             ·rw [if_neg c17] at H
              have c17b0 : decide (57 < (bt x0_5 x5_4)) = false := decide_eq_false c17
              clear c17
              have H' := xy H
              clear H
              have p14 : 0 ≤ (x5_4 : Int) := xi
              have q14 : x5_4 < (x0_5.size : Int) := xi
              have hx14 := bt_at x0_5 x5_4
              replace p14 := eq_true p14
              replace q14 := eq_true q14
              have p16 : 0 ≤ (x5_4 : Int) := xi
              have q16 : x5_4 < (x0_5.size : Int) := xi
              have hx16 := bt_at x0_5 x5_4
              replace p16 := eq_true p16
              replace q16 := eq_true q16
              have p18 : 0 ≤ (x5_4 : Int) := xi
              have q18 : x5_4 < (x0_5.size : Int) := xi
              have hx18 := bt_at x0_5 x5_4
              replace p18 := eq_true p18
              replace q18 := eq_true q18
              go_wp2
              go_roundg k4
              case measure => have := HJ1.out; have := HJ5.out; have := HJ8.out; have := HK4.out; omega
              case rel => exact ⟨(wrap64 ((wrap64 (10 * x4_4)) + (((bt x0_5 x5_4) - 48) % 256))), (wrap64 (x5_4 + 1)), xg, xg, H', ⟨by have := HJ1.out; have := HJ5.out; have := HJ8.out; have := HK4.out; omega⟩, by repeat (first | exact Drawn0.refl _ | apply Drawn0.step)⟩
           ·rw [if_neg c13] at H
            exact absurd H (by simp)
          ·rw [if_neg c12] at H
           have c12b0 : decide (x5_4 < (x0_5.size : Int)) = false := decide_eq_false c12
           clear c12
           obtain rfl := Option.some.inj H
           go_wp2
           go_ret
           exact ⟨xg, xz⟩
/- Walked functions, by this session's program over the kit's print. -/
def r13_figures.f : Nat → Int → Option (ByteArray)
 | 0, _ => none
 | k + 1, a0 => (some (([(IntKind.u64.wrap (48 + (Int.tmod a0 10))) % 256] : List Int) : List Int)).bind fun y357 => (if a0 < 10 then (some (strOfNums y357)) else ((r13_figures.f k (IntKind.u64.wrap (Int.tdiv a0 10))).bind fun t360 => (if t360.size + (strOfNums y357).size ≤ 9223372036854775807 then (some (t360 ++ (strOfNums y357))) else (none))))
theorem r13_figures.mono_l : ∀ k, (∀ y0, LeO (r13_figures.f k y0) (r13_figures.f (k + 1) y0))
 | 0 => fun _ r h => by simp [r13_figures.f] at h
 | k + 1 => by
  have ih0 := r13_figures.mono_l k
  ·intro y0
   unfold r13_figures.f
   repeat' (with_reducible first | exact ih0 _ | exact LeO.refl _ | exact LeO.none _ | refine LeO.ite ?_ ?_ | refine LeO.bind ?_ (fun _ => ?_))
theorem r13_figures.mono : ∀ a0 k, LeO (r13_figures.f k a0) (r13_figures.f (k + 1) a0) := by
 intro a0 k
 have ih0 := r13_figures.mono_l k
 exact ih0 a0
set_option maxHeartbeats 8000000 in
set_option maxRecDepth 100000 in
theorem r13_figures.calls (k : Nat) : ∀ (a0 : Int) (r : ByteArray) (w : World) (hT : Tabs w) (h : r13_figures.f k a0 = some r),
  Calls Tryz.prog 92 #[.int .u64 a0] w fun e w' => e = .returned (.string r) ∧ Below w.heap.size w w' := by
 induction k using Nat.strongRecOn with
 | _ k ih =>
 intro a0 r w hT h
 cases k with
 | zero => exact absurd h (by simp [r13_figures.f])
 | succ k =>
 simp only [r13_figures.f] at h
 have HB := xy (Below.refl w.heap.size w)
 have H : ((some (([(IntKind.u64.wrap (48 + (Int.tmod a0 10))) % 256] : List Int) : List Int)).bind fun y357 => (if a0 < 10 then (some (strOfNums y357)) else ((r13_figures.f k (IntKind.u64.wrap (Int.tdiv a0 10))).bind fun t360 => (if t360.size + (strOfNums y357).size ≤ 9223372036854775807 then (some (t360 ++ (strOfNums y357))) else (none))))) = some r := h
 clear h
 obtain ⟨y357, hy357⟩ : ∃ y_ : List Int, y_ = (([(IntKind.u64.wrap (48 + (Int.tmod a0 10))) % 256] : List Int)) := ⟨_, rfl⟩
 replace H : (if a0 < 10 then (some (strOfNums y357)) else ((r13_figures.f k (IntKind.u64.wrap (Int.tdiv a0 10))).bind fun t360 => (if t360.size + (strOfNums y357).size ≤ 9223372036854775807 then (some (t360 ++ (strOfNums y357))) else (none)))) = some r := by first | (rw [hy357]; with_reducible exact H) | (have H2_ := (Option.bind_some _ _).symm.trans H; rw [hy357]; with_reducible exact H2_) | (have H2_ := (Option.bind_some _ _).symm.trans H; with_reducible exact H2_) | with_reducible exact H | (rw [hy357]; exact H) | exact H
 have Ny357 := xy hy357
 clear hy357
 by_cases c2 : a0 < 10
 ·rw [if_pos c2] at H
  have c2b0 : decide (a0 < 10) = true := decide_eq_true c2
  clear c2
  obtain rfl := Option.some.inj H
  go_enter Tryz.func92, Tryz.ntmps92
  go_wp2_with (((with_reducible refine gate_dst (N := 8) rfl ?_); refine Kd.R_lit (Kd.int .u8) _ 5 ?hg (N := 8) ?hd (xs := ([(IntKind.u64.wrap (48 + (Int.tmod a0 10))) % 256] : List Int)) (inner := [.int .u8 ((IntKind.u64.wrap (48 + (Int.tmod a0 10))) % 256)]) (ok := fun _ => True) (okp := fun _ => True) ?hr ?hp (fun _ hk => hk) trivial (Below.refl _ _) (Nat.le_refl _) (by simp) ?_; (case hd => rfl); (case hg => rfl); (case hr => exact xh); (case hp => exact (Reps.one (show Kd.M (Kd.int .u8) _ _ _ ((IntKind.u64.wrap (48 + (Int.tmod a0 10))) % 256) [.int .u8 ((IntKind.u64.wrap (48 + (Int.tmod a0 10))) % 256)] from rfl) (Reps.none _ _))); intro v358 w3 ho4 hb hg_ hnew_; clear hg_ hnew_; (first | rw [← Ny357.out] at ho4 | (simp only [Int.reduceToNat] at ho4; rw [← Ny357.out] at ho4)); have HO359 := xy (Kd.R_lower ho4 (below_size xb)); replace HB := xy (below_step xb hb); clear hb ho4; have hcv5 := own_string (P := Tryz.prog) Tryz.underlying124 Tryz.underlying5 Tryz.underlying9 (Kd.own_of_R HO359.out); have hcv6 := fun (nq_ : Nat) => own_string (P := Tryz.prog) Tryz.underlying124 Tryz.underlying5 Tryz.underlying9 (Kd.own_of_R (Kd.R_drewN HO359.out nq_))))
  go_ret
  exact ⟨xe, xb⟩
 ·rw [if_neg c2] at H
  have c2b0 : decide (a0 < 10) = false := decide_eq_false c2
  clear c2
  replace H := xj H
  obtain ⟨t360, A70, H⟩ := H
  try dsimp only at H
  have A7 := xy A70
  clear A70
  by_cases c8 : t360.size + (strOfNums y357).size ≤ 9223372036854775807
  ·rw [if_pos c8] at H
   have c8b0 := eq_true c8
   have c8b1 : decide (t360.size + (strOfNums y357).size ≤ 9223372036854775807) = true := decide_eq_true c8
   try have c8b2 : (9223372036854775807 < t360.size + (strOfNums y357).size) = False := eq_false (Nat.not_lt.2 c8)
   obtain rfl := Option.some.inj H
   go_enter Tryz.func92, Tryz.ntmps92
   go_wp2_with (first | ((with_reducible refine gate_dst (N := 8) rfl ?_); refine Kd.R_lit (Kd.int .u8) _ 5 ?hg (N := 8) ?hd (xs := ([(IntKind.u64.wrap (48 + (Int.tmod a0 10))) % 256] : List Int)) (inner := [.int .u8 ((IntKind.u64.wrap (48 + (Int.tmod a0 10))) % 256)]) (ok := fun _ => True) (okp := fun _ => True) ?hr ?hp (fun _ hk => hk) trivial (Below.refl _ _) (Nat.le_refl _) (by simp) ?_; (case hd => rfl); (case hg => rfl); (case hr => exact xh); (case hp => exact (Reps.one (show Kd.M (Kd.int .u8) _ _ _ ((IntKind.u64.wrap (48 + (Int.tmod a0 10))) % 256) [.int .u8 ((IntKind.u64.wrap (48 + (Int.tmod a0 10))) % 256)] from rfl) (Reps.none _ _))); intro v358 w9 ho10 hb hg_ hnew_; clear hg_ hnew_; (first | rw [← Ny357.out] at ho10 | (simp only [Int.reduceToNat] at ho10; rw [← Ny357.out] at ho10)); have HO359 := xy (Kd.R_lower ho10 (below_size xb)); replace HB := xy (below_step xb hb); clear hb ho10; have hcv11 := own_string (P := Tryz.prog) Tryz.underlying124 Tryz.underlying5 Tryz.underlying9 (Kd.own_of_R HO359.out); have hcv12 := fun (nq_ : Nat) => own_string (P := Tryz.prog) Tryz.underlying124 Tryz.underlying5 Tryz.underlying9 (Kd.own_of_R (Kd.R_drewN HO359.out nq_))) | ((with_reducible refine gate_callee (f := 92) rfl ?_); refine goesL_ (some 15) rfl rfl Tryz.func92 (by kernel_rfl) rfl #[.int .u64 (IntKind.u64.wrap (Int.tdiv a0 10))] rfl xr ?_; (with_reducible refine (ih k (by omega) (IntKind.u64.wrap (Int.tdiv a0 10)) t360 _ (Tabs.below hT xf) A7.out).mono ?_); rintro e w13 ⟨rfl, hb⟩; refine ⟨_, rfl, ?_⟩; replace HO359 := xy (Kd.R_below (xo HO359.out) hb); replace HB := xy (below_step xb hb); (try clear hb); (try clear hb2); (try clear hk); (try clear hi)))
   go_ret
   exact ⟨xe, xb⟩
  ·rw [if_neg c8] at H
   exact absurd H (by simp)
def r13_Figures.f (k : Nat) (a0 : Int) : Option (ByteArray) := if a0 < 0 then ((r13_figures.f k (IntKind.u64.wrap (-(IntKind.u64.wrap (a0))))).bind fun t361 => (if 1 + t361.size ≤ 9223372036854775807 then (some ((⟨#[45]⟩ : ByteArray) ++ t361)) else (none))) else ((r13_figures.f k (IntKind.u64.wrap (a0))).bind fun t362 => (some t362))
theorem r13_Figures.mono : ∀ a0 k, LeO (r13_Figures.f k a0) (r13_Figures.f (k + 1) a0) := by
 intro a0 k
 unfold r13_Figures.f
 repeat' (with_reducible first | exact r13_figures.mono _ _ | exact LeO.refl _ | exact LeO.none _ | refine LeO.ite ?_ ?_ | refine LeO.bind ?_ (fun _ => ?_))
set_option maxHeartbeats 8000000 in
set_option maxRecDepth 100000 in
theorem r13_Figures.calls (k : Nat) (a0 : Int) (r : ByteArray) (w : World) (hT : Tabs w) (h : r13_Figures.f k a0 = some r) :
  Calls Tryz.prog 71 #[.int .i64 a0] w fun e w' => e = .returned (.string r) ∧ Below w.heap.size w w' := by
 have HB := xy (Below.refl w.heap.size w)
 unfold r13_Figures.f at h
 have H := h
 clear h
 by_cases c2 : a0 < 0
 ·rw [if_pos c2] at H
  have c2b0 : decide (a0 < 0) = true := decide_eq_true c2
  clear c2
  replace H := xj H
  obtain ⟨t361, A30, H⟩ := H
  try dsimp only at H
  have A3 := xy A30
  clear A30
  by_cases c4 : 1 + t361.size ≤ 9223372036854775807
  ·rw [if_pos c4] at H
   have c4b0 := eq_true c4
   have c4b1 : decide (1 + t361.size ≤ 9223372036854775807) = true := decide_eq_true c4
   try have c4b2 : (9223372036854775807 < 1 + t361.size) = False := eq_false (Nat.not_lt.2 c4)
   obtain rfl := Option.some.inj H
   go_enter Tryz.func71, Tryz.ntmps71
   go_wp2_with (((with_reducible refine gate_callee (f := 92) rfl ?_); refine goesL_ (some 8) rfl rfl Tryz.func92 (by kernel_rfl) rfl #[.int .u64 (IntKind.u64.wrap (-(IntKind.u64.wrap (a0))))] rfl xr ?_; (with_reducible refine (r13_figures.calls k (IntKind.u64.wrap (-(IntKind.u64.wrap (a0)))) t361 _ (Tabs.below hT xf) A3.out).mono ?_); rintro e w5 ⟨rfl, hb⟩; refine ⟨_, rfl, ?_⟩; replace HB := xy (below_step xb hb); (try clear hb); (try clear hb2); (try clear hk); (try clear hi)))
   go_ret
   exact ⟨xe, xb⟩
  ·rw [if_neg c4] at H
   exact absurd H (by simp)
 ·rw [if_neg c2] at H
  have c2b0 : decide (a0 < 0) = false := decide_eq_false c2
  clear c2
  replace H := xj H
  obtain ⟨t362, A60, H⟩ := H
  try dsimp only at H
  have A6 := xy A60
  clear A60
  obtain rfl := Option.some.inj H
  go_enter Tryz.func71, Tryz.ntmps71
  go_wp2_with (((with_reducible refine gate_callee (f := 92) rfl ?_); refine goesL_ (some 12) rfl rfl Tryz.func92 (by kernel_rfl) rfl #[.int .u64 (IntKind.u64.wrap (a0))] rfl xr ?_; (with_reducible refine (r13_figures.calls k (IntKind.u64.wrap (a0)) t362 _ (Tabs.below hT xf) A6.out).mono ?_); rintro e w7 ⟨rfl, hb⟩; refine ⟨_, rfl, ?_⟩; replace HB := xy (below_step xb hb); (try clear hb); (try clear hb2); (try clear hk); (try clear hi)))
  go_ret
  exact ⟨xe, xb⟩
def r13_Hash.l0 : Nat → ByteArray → Int → Int → Option (Int)
 | 0, _, _, _ => none
 | k + 1, x0, x3, x4 => if x4 < (x0.size : Int) then (if 0 ≤ x4 then (r13_Hash.l0 k x0 (((Go.bits .xor .u32 x3 ((bt x0 x4) % 4294967296)) * 16777619) % 4294967296) (wrap64 (x4 + 1))) else (none)) else (some (wrap64 (Int.tmod x3 2147483648)))
def r13_Hash.f (k : Nat) (a0 : ByteArray) : Option (Int) := r13_Hash.l0 k a0 2166136261 0
theorem r13_Hash.mono_l : ∀ k, (∀ y0 y1 y2, LeO (r13_Hash.l0 k y0 y1 y2) (r13_Hash.l0 (k + 1) y0 y1 y2))
 | 0 => fun _ _ _ r h => by simp [r13_Hash.l0] at h
 | k + 1 => by
  have ih0 := r13_Hash.mono_l k
  ·intro y0 y1 y2
   unfold r13_Hash.l0
   repeat' (with_reducible first | exact ih0 _ _ _ | exact LeO.refl _ | exact LeO.none _ | refine LeO.ite ?_ ?_ | refine LeO.bind ?_ (fun _ => ?_))
theorem r13_Hash.mono : ∀ a0 k, LeO (r13_Hash.f k a0) (r13_Hash.f (k + 1) a0) := by
 intro a0 k
 have ih0 := r13_Hash.mono_l k
 unfold r13_Hash.f
 repeat' (with_reducible first | exact ih0 _ _ _ | exact LeO.refl _ | exact LeO.none _ | refine LeO.ite ?_ ?_ | refine LeO.bind ?_ (fun _ => ?_))
set_option maxHeartbeats 8000000 in
set_option maxRecDepth 100000 in
theorem r13_Hash.calls (k : Nat) (a0 : ByteArray) (r : Int) (w : World) (hT : Tabs w) (h : r13_Hash.f k a0 = some r) :
  Calls Tryz.prog 72 #[.string a0] w fun e w' => e = .returned (.int .i64 r) ∧ Drawn0 w w' := by
 unfold r13_Hash.f at h
 have H := h
 clear h
 have H' := xy H
 clear H
 go_enter Tryz.func72, Tryz.ntmps72
 go_wp2
 go_loopg [3, 4] k (fun kq v3 v4 w' => ∃ (x3_1 : Int) (x4_1 : Int), v3 = .int .u32 x3_1 ∧ v4 = .int .i64 x4_1 ∧ Aside0 (r13_Hash.l0 kq a0 x3_1 x4_1 = some r) ∧ Aside0 (kq ≤ k) ∧ Drawn0 w w')
 case atStart => exact ⟨(2166136261), (0), xg, xg, H', ⟨Nat.le_refl _⟩, by repeat (first | exact Drawn0.refl _ | apply Drawn0.step)⟩
 case round =>
  clear H'
  obtain ⟨x3_1, x4_1, rfl, rfl, HA, HK1, ⟨m1, rfl⟩⟩ := hrel
  cases gk with
  | zero => exact absurd HA.out (by simp [r13_Hash.l0])
  | succ k1 =>
   have H := HA.out
   clear HA
   simp only [r13_Hash.l0] at H
   by_cases c2 : x4_1 < (a0.size : Int)
   ·rw [if_pos c2] at H
    have c2b0 : decide (x4_1 < (a0.size : Int)) = true := decide_eq_true c2
    clear c2
    by_cases c3 : 0 ≤ x4_1
    ·rw [if_pos c3] at H
     have c3b0 : decide (0 ≤ x4_1) = true := decide_eq_true c3
     clear c3
     have H' := xy H
     clear H
     have p4 : 0 ≤ (x4_1 : Int) := xi
     have q4 : x4_1 < (a0.size : Int) := xi
     have hx4 := bt_at a0 x4_1
     replace p4 := eq_true p4
     replace q4 := eq_true q4
     go_wp2
     go_roundg k1
     case measure => have := HK1.out; omega
     case rel => exact ⟨(((Go.bits .xor .u32 x3_1 ((bt a0 x4_1) % 4294967296)) * 16777619) % 4294967296), (wrap64 (x4_1 + 1)), xg, xg, H', ⟨by have := HK1.out; omega⟩, by repeat (first | exact Drawn0.refl _ | apply Drawn0.step)⟩
    ·rw [if_neg c3] at H
     exact absurd H (by simp)
   ·rw [if_neg c2] at H
    have c2b0 : decide (x4_1 < (a0.size : Int)) = false := decide_eq_false c2
    clear c2
    obtain rfl := Option.some.inj H
    go_wp2
    go_ret
    exact ⟨xg, xz⟩
def r13_find.l0 : Nat → ByteArray → ByteArray → Int → Option (Int)
 | 0, _, _, _ => none
 | k + 1, x0, x1, x5 => if (wrap64 (x5 + (x1.size : Int))) ≤ (x0.size : Int) then (if 0 ≤ x5 then (if x5 ≤ (wrap64 (x5 + (x1.size : Int))) then (if (x0.extract (x5 : Int).toNat ((wrap64 (x5 + (x1.size : Int))) : Int).toNat).toList = x1.toList then (some x5) else (r13_find.l0 k x0 x1 (wrap64 (x5 + 1)))) else (none)) else (none)) else (some (-1))
def r13_find.f (k : Nat) (a0 : ByteArray) (a1 : ByteArray) : Option (Int) := r13_find.l0 k a0 a1 0
theorem r13_find.mono_l : ∀ k, (∀ y0 y1 y2, LeO (r13_find.l0 k y0 y1 y2) (r13_find.l0 (k + 1) y0 y1 y2))
 | 0 => fun _ _ _ r h => by simp [r13_find.l0] at h
 | k + 1 => by
  have ih0 := r13_find.mono_l k
  ·intro y0 y1 y2
   unfold r13_find.l0
   repeat' (with_reducible first | exact ih0 _ _ _ | exact LeO.refl _ | exact LeO.none _ | refine LeO.ite ?_ ?_ | refine LeO.bind ?_ (fun _ => ?_))
theorem r13_find.mono : ∀ a0 a1 k, LeO (r13_find.f k a0 a1) (r13_find.f (k + 1) a0 a1) := by
 intro a0 a1 k
 have ih0 := r13_find.mono_l k
 unfold r13_find.f
 repeat' (with_reducible first | exact ih0 _ _ _ | exact LeO.refl _ | exact LeO.none _ | refine LeO.ite ?_ ?_ | refine LeO.bind ?_ (fun _ => ?_))
set_option maxHeartbeats 8000000 in
set_option maxRecDepth 100000 in
theorem r13_find.calls (k : Nat) (a0 : ByteArray) (a1 : ByteArray) (r : Int) (w : World) (hT : Tabs w) (h : r13_find.f k a0 a1 = some r) :
  Calls Tryz.prog 73 #[.string a0, .string a1] w fun e w' => e = .returned (.int .i64 r) ∧ Drawn0 w w' := by
 unfold r13_find.f at h
 have H := h
 clear h
 have H' := xy H
 clear H
 go_enter Tryz.func73, Tryz.ntmps73
 go_wp2
 go_loopg [5] k (fun kq v5 w' => ∃ (x5_1 : Int), v5 = .int .i64 x5_1 ∧ Aside0 (r13_find.l0 kq a0 a1 x5_1 = some r) ∧ Aside0 (kq ≤ k) ∧ Drawn0 w w')
 case atStart => exact ⟨(0), xg, H', ⟨Nat.le_refl _⟩, by repeat (first | exact Drawn0.refl _ | apply Drawn0.step)⟩
 case round =>
  clear H'
  try clear p2
  obtain ⟨x5_1, rfl, HA, HK1, ⟨m1, rfl⟩⟩ := hrel
  cases gk with
  | zero => exact absurd HA.out (by simp [r13_find.l0])
  | succ k1 =>
   have H := HA.out
   clear HA
   simp only [r13_find.l0] at H
   by_cases c3 : (wrap64 (x5_1 + (a1.size : Int))) ≤ (a0.size : Int)
   ·rw [if_pos c3] at H
    have c3b0 : decide ((wrap64 (x5_1 + (a1.size : Int))) ≤ (a0.size : Int)) = true := decide_eq_true c3
    clear c3
    by_cases c4 : 0 ≤ x5_1
    ·rw [if_pos c4] at H
     have c4b0 := eq_true c4
     have c4b1 : decide (0 ≤ x5_1) = true := decide_eq_true c4
     clear c4
     by_cases c5 : x5_1 ≤ (wrap64 (x5_1 + (a1.size : Int)))
     ·rw [if_pos c5] at H
      have c5b0 := eq_true c5
      have c5b1 : decide (x5_1 ≤ (wrap64 (x5_1 + (a1.size : Int)))) = true := decide_eq_true c5
      have c6b0 := eq_true (xi : (wrap64 (x5_1 + (a1.size : Int))) ≤ (a0.size : Int))
      by_cases c7 : (a0.extract (x5_1 : Int).toNat ((wrap64 (x5_1 + (a1.size : Int))) : Int).toNat).toList = a1.toList
      ·rw [if_pos c7] at H
       have c7b0 : ((a0.extract (x5_1 : Int).toNat ((wrap64 (x5_1 + (a1.size : Int))) : Int).toNat).toList == a1.toList) = true := beq_iff_eq.mpr c7
       (try (have c7b0s := c7b0; simp only [ByteArray.size_extract, Nat.min_self] at c7b0s))
       have c7b1 : ((a0.extract (x5_1 : Int).toNat ((wrap64 (x5_1 + (a1.size : Int))) : Int).toNat).toList != a1.toList) = false := bne_eq_false_iff_eq.mpr c7
       (try (have c7b1s := c7b1; simp only [ByteArray.size_extract, Nat.min_self] at c7b1s))
       clear c7
       obtain rfl := Option.some.inj H
       go_wp2
       go_ret
       exact ⟨xg, xz⟩
      ·rw [if_neg c7] at H
       have c7b0 : ((a0.extract (x5_1 : Int).toNat ((wrap64 (x5_1 + (a1.size : Int))) : Int).toNat).toList == a1.toList) = false := beq_eq_false_iff_ne.mpr c7
       (try (have c7b0s := c7b0; simp only [ByteArray.size_extract, Nat.min_self] at c7b0s))
       have c7b1 : ((a0.extract (x5_1 : Int).toNat ((wrap64 (x5_1 + (a1.size : Int))) : Int).toNat).toList != a1.toList) = true := bne_iff_ne.mpr c7
       (try (have c7b1s := c7b1; simp only [ByteArray.size_extract, Nat.min_self] at c7b1s))
       have H' := xy H
       clear H
       go_wp2
       go_roundg k1
       case measure => have := HK1.out; omega
       case rel => exact ⟨(wrap64 (x5_1 + 1)), xg, H', ⟨by have := HK1.out; omega⟩, by repeat (first | exact Drawn0.refl _ | apply Drawn0.step)⟩
     ·rw [if_neg c5] at H
      exact absurd H (by simp)
    ·rw [if_neg c4] at H
     exact absurd H (by simp)
   ·rw [if_neg c3] at H
    have c3b0 : decide ((wrap64 (x5_1 + (a1.size : Int))) ≤ (a0.size : Int)) = false := decide_eq_false c3
    clear c3
    obtain rfl := Option.some.inj H
    go_wp2
    go_ret
    exact ⟨xg, xz⟩
end Go.Proofs.YtebofnoljebakaaGreatDoor.PX
