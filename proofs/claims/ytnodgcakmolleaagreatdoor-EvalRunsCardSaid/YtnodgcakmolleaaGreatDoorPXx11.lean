/- Walked functions, by this session's program over the kit's print. -/
import Derived.Test.YtnodgcakmolleaaGreatDoorPXx0
namespace Go.Proofs.YtnodgcakmolleaaGreatDoor.PX
open Go.RowKit Go.Proofs.YtnodgcakmolleaaGreatDoorW.PrintWords Go.Proofs.YtnodgcakmolleaaGreatDoorW.PrintLast Go.Proofs.YtnodgcakmolleaaGreatDoorW.PrintMore
attribute [local go_sem] xm_gtr max2_int min2_int max_two min_two max_three min_three max_four min_four
set_option linter.unusedVariables false
set_option linter.unusedSimpArgs false
/- Walked functions, by this session's program over the kit's print. -/
mutual
def r13_kinds.j0 : Nat → Int → Bool → Option (ByteArray × ByteArray)
 | 0, _, _ => none
 | k + 1, x4, x5 => if x5 = true then (some ((⟨#[110, 110]⟩ : ByteArray), (⟨#[110]⟩ : ByteArray))) else (if x4 = 9 then (some ((⟨#[116, 116]⟩ : ByteArray), (⟨#[116]⟩ : ByteArray))) else (if x4 = 10 then (r13_kinds.j1 k x4 (x4 == 10)) else (if x4 = 18 then (r13_kinds.j1 k x4 (x4 == 18)) else (r13_kinds.j1 k x4 (x4 == 20)))))
def r13_kinds.j1 : Nat → Int → Bool → Option (ByteArray × ByteArray)
 | 0, _, _ => none
 | k + 1, x4, x13 => if x13 = true then (some ((⟨#[116]⟩ : ByteArray), (⟨#[110]⟩ : ByteArray))) else (if x4 = 11 then (some ((⟨#[116, 110, 110]⟩ : ByteArray), (⟨#[116]⟩ : ByteArray))) else (if x4 = 12 then (r13_kinds.j2 k x4 (x4 == 12)) else (r13_kinds.j2 k x4 (x4 == 13))))
def r13_kinds.j2 : Nat → Int → Bool → Option (ByteArray × ByteArray)
 | 0, _, _ => none
 | k + 1, x4, x19 => if x19 = true then (some ((⟨#[116]⟩ : ByteArray), (⟨#[116]⟩ : ByteArray))) else (if x4 = 14 then (r13_kinds.j3 k x4 (x4 == 14)) else (r13_kinds.j3 k x4 (x4 == 15)))
def r13_kinds.j3 : Nat → Int → Bool → Option (ByteArray × ByteArray)
 | 0, _, _ => none
 | k + 1, x4, x22 => if x22 = true then (some ((⟨#[97, 97]⟩ : ByteArray), (⟨#[110]⟩ : ByteArray))) else (if x4 = 16 then (some ((⟨#[110]⟩ : ByteArray), (⟨#[110]⟩ : ByteArray))) else (if x4 = 17 then (some ((⟨#[110, 97, 97]⟩ : ByteArray), (⟨#[97]⟩ : ByteArray))) else (if x4 = 19 then (some ((⟨#[110]⟩ : ByteArray), (⟨#[116]⟩ : ByteArray))) else (if x4 = 21 then (some ((⟨#[116, 116]⟩ : ByteArray), (⟨#[110]⟩ : ByteArray))) else (some ((⟨#[]⟩ : ByteArray), (⟨#[]⟩ : ByteArray)))))))
end
def r13_kinds.f (k : Nat) (a0 : Int) : Option (ByteArray × ByteArray) := if a0 = 4 then (r13_kinds.j0 k a0 (a0 == 4)) else (if a0 = 5 then (r13_kinds.j0 k a0 (a0 == 5)) else (if a0 = 6 then (r13_kinds.j0 k a0 (a0 == 6)) else (if a0 = 7 then (r13_kinds.j0 k a0 (a0 == 7)) else (r13_kinds.j0 k a0 (a0 == 8)))))
theorem r13_kinds.mono_l : ∀ k, (∀ y0 y1, LeO (r13_kinds.j0 k y0 y1) (r13_kinds.j0 (k + 1) y0 y1)) ∧ (∀ y0 y1, LeO (r13_kinds.j1 k y0 y1) (r13_kinds.j1 (k + 1) y0 y1)) ∧ (∀ y0 y1, LeO (r13_kinds.j2 k y0 y1) (r13_kinds.j2 (k + 1) y0 y1)) ∧ (∀ y0 y1, LeO (r13_kinds.j3 k y0 y1) (r13_kinds.j3 (k + 1) y0 y1))
 | 0 => ⟨fun _ _ r h => by simp [r13_kinds.j0] at h, fun _ _ r h => by simp [r13_kinds.j1] at h, fun _ _ r h => by simp [r13_kinds.j2] at h, fun _ _ r h => by simp [r13_kinds.j3] at h⟩
 | k + 1 => by
  obtain ⟨ih0, ih1, ih2, ih3⟩ := r13_kinds.mono_l k
  refine ⟨?_, ?_, ?_, ?_⟩
  ·intro y0 y1
   unfold r13_kinds.j0
   repeat' (with_reducible first | exact ih0 _ _ | exact ih1 _ _ | exact ih2 _ _ | exact ih3 _ _ | exact LeO.refl _ | exact LeO.none _ | refine LeO.ite ?_ ?_ | refine LeO.bind ?_ (fun _ => ?_))
  ·intro y0 y1
   unfold r13_kinds.j1
   repeat' (with_reducible first | exact ih0 _ _ | exact ih1 _ _ | exact ih2 _ _ | exact ih3 _ _ | exact LeO.refl _ | exact LeO.none _ | refine LeO.ite ?_ ?_ | refine LeO.bind ?_ (fun _ => ?_))
  ·intro y0 y1
   unfold r13_kinds.j2
   repeat' (with_reducible first | exact ih0 _ _ | exact ih1 _ _ | exact ih2 _ _ | exact ih3 _ _ | exact LeO.refl _ | exact LeO.none _ | refine LeO.ite ?_ ?_ | refine LeO.bind ?_ (fun _ => ?_))
  ·intro y0 y1
   unfold r13_kinds.j3
   repeat' (with_reducible first | exact ih0 _ _ | exact ih1 _ _ | exact ih2 _ _ | exact ih3 _ _ | exact LeO.refl _ | exact LeO.none _ | refine LeO.ite ?_ ?_ | refine LeO.bind ?_ (fun _ => ?_))
theorem r13_kinds.mono : ∀ a0 k, LeO (r13_kinds.f k a0) (r13_kinds.f (k + 1) a0) := by
 intro a0 k
 obtain ⟨ih0, ih1, ih2, ih3⟩ := r13_kinds.mono_l k
 unfold r13_kinds.f
 repeat' (with_reducible first | exact ih0 _ _ | exact ih1 _ _ | exact ih2 _ _ | exact ih3 _ _ | exact LeO.refl _ | exact LeO.none _ | refine LeO.ite ?_ ?_ | refine LeO.bind ?_ (fun _ => ?_))
set_option maxHeartbeats 8000000 in
set_option maxRecDepth 100000 in
theorem r13_kinds.calls (k : Nat) (a0 : Int) (r1 : ByteArray) (r2 : ByteArray) (w : World) (hT : Tabs w) (h : r13_kinds.f k a0 = some (r1, r2)) :
  Calls Tryz.prog 49 #[.int .i64 a0] w fun e w' => e = .returned (.tuple #[.string r1, .string r2]) ∧ Drawn0 w w' := by
 unfold r13_kinds.f at h
 have H := h
 clear h
 have HC2 := xy H
 clear H
 go_enter Tryz.func49, Tryz.ntmps49
 go_upto_if 5 with (fail)
 go_cut [5] (fun v5 wc => ∃ (kq : Nat) (x5_1 : Bool), v5 = .bool x5_1 ∧ Aside0 (r13_kinds.j0 kq a0 x5_1 = some (r1, r2)) ∧ Aside0 (kq ≤ k) ∧ Drawn0 w wc)
 case first =>
  have H := HC2.out
  clear HC2
  by_cases c3 : a0 = 4
  ·rw [if_pos c3] at H
   have c3b0 : (a0 == 4) = true := beq_iff_eq.mpr c3
   have c3b1 : (a0 != 4) = false := bne_eq_false_iff_eq.mpr c3
   clear c3
   (first | rw [c3b0] | (simp only [i64_w, i32_w]; rw [c3b0]) | skip)
   have H' := xy H
   clear H
   go_wp2
   go_meet
   case rel => exact ⟨_, ((a0 == 4)), xg, H', ⟨by first | omega | exact Nat.le_refl _⟩, by repeat (first | exact Drawn0.refl _ | apply Drawn0.step)⟩
  ·rw [if_neg c3] at H
   have c3b0 : (a0 == 4) = false := beq_eq_false_iff_ne.mpr c3
   have c3b1 : (a0 != 4) = true := bne_iff_ne.mpr c3
   (first | rw [c3b0] | (simp only [i64_w, i32_w]; rw [c3b0]) | skip)
   by_cases c4 : a0 = 5
   ·rw [if_pos c4] at H
    have c4b0 : (a0 == 5) = true := beq_iff_eq.mpr c4
    have c4b1 : (a0 != 5) = false := bne_eq_false_iff_eq.mpr c4
    clear c4
    have H' := xy H
    clear H
    go_wp2
    go_meet
    case rel => exact ⟨_, ((a0 == 5)), xg, H', ⟨by first | omega | exact Nat.le_refl _⟩, by repeat (first | exact Drawn0.refl _ | apply Drawn0.step)⟩
   ·rw [if_neg c4] at H
    have c4b0 : (a0 == 5) = false := beq_eq_false_iff_ne.mpr c4
    have c4b1 : (a0 != 5) = true := bne_iff_ne.mpr c4
    by_cases c5 : a0 = 6
    ·rw [if_pos c5] at H
     have c5b0 : (a0 == 6) = true := beq_iff_eq.mpr c5
     have c5b1 : (a0 != 6) = false := bne_eq_false_iff_eq.mpr c5
     clear c5
     have H' := xy H
     clear H
     go_wp2
     go_meet
     case rel => exact ⟨_, ((a0 == 6)), xg, H', ⟨by first | omega | exact Nat.le_refl _⟩, by repeat (first | exact Drawn0.refl _ | apply Drawn0.step)⟩
    ·rw [if_neg c5] at H
     have c5b0 : (a0 == 6) = false := beq_eq_false_iff_ne.mpr c5
     have c5b1 : (a0 != 6) = true := bne_iff_ne.mpr c5
     by_cases c6 : a0 = 7
     ·rw [if_pos c6] at H
      have c6b0 : (a0 == 7) = true := beq_iff_eq.mpr c6
      have c6b1 : (a0 != 7) = false := bne_eq_false_iff_eq.mpr c6
      clear c6
      have H' := xy H
      clear H
      go_wp2
      go_meet
      case rel => exact ⟨_, ((a0 == 7)), xg, H', ⟨by first | omega | exact Nat.le_refl _⟩, by repeat (first | exact Drawn0.refl _ | apply Drawn0.step)⟩
     ·rw [if_neg c6] at H
      have c6b0 : (a0 == 7) = false := beq_eq_false_iff_ne.mpr c6
      have c6b1 : (a0 != 7) = true := bne_iff_ne.mpr c6
      have H' := xy H
      clear H
      go_wp2
      go_meet
      case rel => exact ⟨_, ((a0 == 8)), xg, H', ⟨by first | omega | exact Nat.le_refl _⟩, by repeat (first | exact Drawn0.refl _ | apply Drawn0.step)⟩
 case rest =>
  clear HC2
  try clear p2
  try clear c3
  try clear c3b0
  try clear c3b1
  try clear c4
  try clear c4b0
  try clear c4b1
  try clear c5
  try clear c5b0
  try clear c5b1
  try clear c6
  try clear c6b0
  try clear c6b1
  obtain ⟨kq, x5_1, rfl, HA, HJ1, ⟨mc1, rfl⟩⟩ := hcut
  cases kq with
  | zero => exact absurd HA.out (by simp [r13_kinds.j0])
  | succ kj1 =>
   have H := HA.out
   clear HA
   simp only [r13_kinds.j0] at H
   by_cases c7 : x5_1 = true
   ·subst c7
    rw [if_pos rfl] at H
    simp only [Option.some.injEq, Prod.mk.injEq] at H
    obtain ⟨rfl, rfl⟩ := H
    go_wp2
    go_ret2
    exact ⟨xg, xz⟩
   ·replace c7 := Bool.eq_false_iff.mpr c7
    subst c7
    rw [if_neg (show ¬ (false = true) by decide)] at H
    by_cases c8 : a0 = 9
    ·rw [if_pos c8] at H
     have c8b0 : (a0 == 9) = true := beq_iff_eq.mpr c8
     have c8b1 : (a0 != 9) = false := bne_eq_false_iff_eq.mpr c8
     clear c8
     simp only [Option.some.injEq, Prod.mk.injEq] at H
     obtain ⟨rfl, rfl⟩ := H
     go_wp2
     go_ret2
     exact ⟨xg, xz⟩
    ·rw [if_neg c8] at H
     have c8b0 : (a0 == 9) = false := beq_eq_false_iff_ne.mpr c8
     have c8b1 : (a0 != 9) = true := bne_iff_ne.mpr c8
     have HC9 := xy H
     clear H
     go_upto_if 13 with (fail)
     go_cut [13] (fun v13 wc => ∃ (kq : Nat) (x13_8 : Bool), v13 = .bool x13_8 ∧ Aside0 (r13_kinds.j1 kq a0 x13_8 = some (r1, r2)) ∧ Aside0 (kq ≤ kj1) ∧ Drawn0 w wc)
     case first =>
      have H := HC9.out
      clear HC9
      by_cases c10 : a0 = 10
      ·rw [if_pos c10] at H
       have c10b0 : (a0 == 10) = true := beq_iff_eq.mpr c10
       have c10b1 : (a0 != 10) = false := bne_eq_false_iff_eq.mpr c10
       clear c10
       (first | rw [c10b0] | (simp only [i64_w, i32_w]; rw [c10b0]) | skip)
       have H' := xy H
       clear H
       go_wp2
       go_meet
       case rel => exact ⟨_, ((a0 == 10)), xg, H', ⟨by have := HJ1.out; first | omega | exact Nat.le_refl _⟩, by repeat (first | exact Drawn0.refl _ | apply Drawn0.step)⟩
      ·rw [if_neg c10] at H
       have c10b0 : (a0 == 10) = false := beq_eq_false_iff_ne.mpr c10
       have c10b1 : (a0 != 10) = true := bne_iff_ne.mpr c10
       (first | rw [c10b0] | (simp only [i64_w, i32_w]; rw [c10b0]) | skip)
       by_cases c11 : a0 = 18
       ·rw [if_pos c11] at H
        have c11b0 : (a0 == 18) = true := beq_iff_eq.mpr c11
        have c11b1 : (a0 != 18) = false := bne_eq_false_iff_eq.mpr c11
        clear c11
        have H' := xy H
        clear H
        go_wp2
        go_meet
        case rel => exact ⟨_, ((a0 == 18)), xg, H', ⟨by have := HJ1.out; first | omega | exact Nat.le_refl _⟩, by repeat (first | exact Drawn0.refl _ | apply Drawn0.step)⟩
       ·rw [if_neg c11] at H
        have c11b0 : (a0 == 18) = false := beq_eq_false_iff_ne.mpr c11
        have c11b1 : (a0 != 18) = true := bne_iff_ne.mpr c11
        have H' := xy H
        clear H
        go_wp2
        go_meet
        case rel => exact ⟨_, ((a0 == 20)), xg, H', ⟨by have := HJ1.out; first | omega | exact Nat.le_refl _⟩, by repeat (first | exact Drawn0.refl _ | apply Drawn0.step)⟩
     case rest =>
      clear HC9
      try clear c1
      try clear p2
      try clear c3
      try clear c3b0
      try clear c3b1
      try clear c4
      try clear c4b0
      try clear c4b1
      try clear c5
      try clear c5b0
      try clear c5b1
      try clear c6
      try clear c6b0
      try clear c6b1
      try clear c7
      try clear c8
      try clear c8b0
      try clear c8b1
      try clear c10
      try clear c10b0
      try clear c10b1
      try clear c11
      try clear c11b0
      try clear c11b1
      try clear p2
      obtain ⟨kq, x13_8, rfl, HA, HJ8, ⟨mc8, rfl⟩⟩ := hcut
      cases kq with
      | zero => exact absurd HA.out (by simp [r13_kinds.j1])
      | succ kj8 =>
       have H := HA.out
       clear HA
       simp only [r13_kinds.j1] at H
       by_cases c12 : x13_8 = true
       ·subst c12
        rw [if_pos rfl] at H
        simp only [Option.some.injEq, Prod.mk.injEq] at H
        obtain ⟨rfl, rfl⟩ := H
        go_wp2
        go_ret2
        exact ⟨xg, xz⟩
       ·replace c12 := Bool.eq_false_iff.mpr c12
        subst c12
        rw [if_neg (show ¬ (false = true) by decide)] at H
        by_cases c13 : a0 = 11
        ·rw [if_pos c13] at H
         have c13b0 : (a0 == 11) = true := beq_iff_eq.mpr c13
         have c13b1 : (a0 != 11) = false := bne_eq_false_iff_eq.mpr c13
         clear c13
         simp only [Option.some.injEq, Prod.mk.injEq] at H
         obtain ⟨rfl, rfl⟩ := H
         go_wp2
         go_ret2
         exact ⟨xg, xz⟩
        ·rw [if_neg c13] at H
         have c13b0 : (a0 == 11) = false := beq_eq_false_iff_ne.mpr c13
         have c13b1 : (a0 != 11) = true := bne_iff_ne.mpr c13
         have HC14 := xy H
         clear H
         go_upto_if 19 with (fail)
         go_cut [19] (fun v19 wc => ∃ (kq : Nat) (x19_13 : Bool), v19 = .bool x19_13 ∧ Aside0 (r13_kinds.j2 kq a0 x19_13 = some (r1, r2)) ∧ Aside0 (kq ≤ kj8) ∧ Drawn0 w wc)
         case first =>
          have H := HC14.out
          clear HC14
          by_cases c15 : a0 = 12
          ·rw [if_pos c15] at H
           have c15b0 : (a0 == 12) = true := beq_iff_eq.mpr c15
           have c15b1 : (a0 != 12) = false := bne_eq_false_iff_eq.mpr c15
           clear c15
           (first | rw [c15b0] | (simp only [i64_w, i32_w]; rw [c15b0]) | skip)
           have H' := xy H
           clear H
           go_wp2
           go_meet
           case rel => exact ⟨_, ((a0 == 12)), xg, H', ⟨by have := HJ1.out; have := HJ8.out; first | omega | exact Nat.le_refl _⟩, by repeat (first | exact Drawn0.refl _ | apply Drawn0.step)⟩
          ·rw [if_neg c15] at H
           have c15b0 : (a0 == 12) = false := beq_eq_false_iff_ne.mpr c15
           have c15b1 : (a0 != 12) = true := bne_iff_ne.mpr c15
           (first | rw [c15b0] | (simp only [i64_w, i32_w]; rw [c15b0]) | skip)
           have H' := xy H
           clear H
           go_wp2
           go_meet
           case rel => exact ⟨_, ((a0 == 13)), xg, H', ⟨by have := HJ1.out; have := HJ8.out; first | omega | exact Nat.le_refl _⟩, by repeat (first | exact Drawn0.refl _ | apply Drawn0.step)⟩
         case rest =>
          clear HC14
          try clear c1
          try clear p2
          try clear c3
          try clear c3b0
          try clear c3b1
          try clear c4
          try clear c4b0
          try clear c4b1
          try clear c5
          try clear c5b0
          try clear c5b1
          try clear c6
          try clear c6b0
          try clear c6b1
          try clear c7
          try clear c8
          try clear c8b0
          try clear c8b1
          try clear c10
          try clear c10b0
          try clear c10b1
          try clear c11
          try clear c11b0
          try clear c11b1
          try clear c12
          try clear c13
          try clear c13b0
          try clear c13b1
          try clear c15
          try clear c15b0
          try clear c15b1
          try clear p2
          obtain ⟨kq, x19_13, rfl, HA, HJ13, ⟨mc13, rfl⟩⟩ := hcut
          cases kq with
          | zero => exact absurd HA.out (by simp [r13_kinds.j2])
          | succ kj13 =>
           have H := HA.out
           clear HA
           simp only [r13_kinds.j2] at H
           by_cases c16 : x19_13 = true
           ·subst c16
            rw [if_pos rfl] at H
            simp only [Option.some.injEq, Prod.mk.injEq] at H
            obtain ⟨rfl, rfl⟩ := H
            go_wp2
            go_ret2
            exact ⟨xg, xz⟩
           ·replace c16 := Bool.eq_false_iff.mpr c16
            subst c16
            rw [if_neg (show ¬ (false = true) by decide)] at H
            have HC17 := xy H
            clear H
            go_upto_if 22 with (fail)
            go_cut [22] (fun v22 wc => ∃ (kq : Nat) (x22_16 : Bool), v22 = .bool x22_16 ∧ Aside0 (r13_kinds.j3 kq a0 x22_16 = some (r1, r2)) ∧ Aside0 (kq ≤ kj13) ∧ Drawn0 w wc)
            case first =>
             have H := HC17.out
             clear HC17
             by_cases c18 : a0 = 14
             ·rw [if_pos c18] at H
              have c18b0 : (a0 == 14) = true := beq_iff_eq.mpr c18
              have c18b1 : (a0 != 14) = false := bne_eq_false_iff_eq.mpr c18
              clear c18
              (first | rw [c18b0] | (simp only [i64_w, i32_w]; rw [c18b0]) | skip)
              have H' := xy H
              clear H
              go_wp2
              go_meet
              case rel => exact ⟨_, ((a0 == 14)), xg, H', ⟨by have := HJ1.out; have := HJ8.out; have := HJ13.out; first | omega | exact Nat.le_refl _⟩, by repeat (first | exact Drawn0.refl _ | apply Drawn0.step)⟩
             ·rw [if_neg c18] at H
              have c18b0 : (a0 == 14) = false := beq_eq_false_iff_ne.mpr c18
              have c18b1 : (a0 != 14) = true := bne_iff_ne.mpr c18
              (first | rw [c18b0] | (simp only [i64_w, i32_w]; rw [c18b0]) | skip)
              have H' := xy H
              clear H
              go_wp2
              go_meet
              case rel => exact ⟨_, ((a0 == 15)), xg, H', ⟨by have := HJ1.out; have := HJ8.out; have := HJ13.out; first | omega | exact Nat.le_refl _⟩, by repeat (first | exact Drawn0.refl _ | apply Drawn0.step)⟩
            case rest =>
             clear HC17
             try clear c1
             try clear p2
             try clear c3
             try clear c3b0
             try clear c3b1
             try clear c4
             try clear c4b0
             try clear c4b1
             try clear c5
             try clear c5b0
             try clear c5b1
             try clear c6
             try clear c6b0
             try clear c6b1
             try clear c7
             try clear c8
             try clear c8b0
             try clear c8b1
             try clear c10
             try clear c10b0
             try clear c10b1
             try clear c11
             try clear c11b0
             try clear c11b1
             try clear c12
             try clear c13
             try clear c13b0
             try clear c13b1
             try clear c15
             try clear c15b0
             try clear c15b1
             try clear c16
             try clear c18
             try clear c18b0
             try clear c18b1
             try clear p2
             obtain ⟨kq, x22_16, rfl, HA, HJ16, ⟨mc16, rfl⟩⟩ := hcut
             cases kq with
             | zero => exact absurd HA.out (by simp [r13_kinds.j3])
             | succ kj16 =>
              have H := HA.out
              clear HA
              simp only [r13_kinds.j3] at H
              by_cases c19 : x22_16 = true
              ·subst c19
               rw [if_pos rfl] at H
               simp only [Option.some.injEq, Prod.mk.injEq] at H
               obtain ⟨rfl, rfl⟩ := H
               go_wp2
               go_ret2
               exact ⟨xg, xz⟩
              ·replace c19 := Bool.eq_false_iff.mpr c19
               subst c19
               rw [if_neg (show ¬ (false = true) by decide)] at H
               by_cases c20 : a0 = 16
               ·rw [if_pos c20] at H
                have c20b0 : (a0 == 16) = true := beq_iff_eq.mpr c20
                have c20b1 : (a0 != 16) = false := bne_eq_false_iff_eq.mpr c20
                clear c20
                simp only [Option.some.injEq, Prod.mk.injEq] at H
                obtain ⟨rfl, rfl⟩ := H
                go_wp2
                go_ret2
                exact ⟨xg, xz⟩
               ·rw [if_neg c20] at H
                have c20b0 : (a0 == 16) = false := beq_eq_false_iff_ne.mpr c20
                have c20b1 : (a0 != 16) = true := bne_iff_ne.mpr c20
                by_cases c21 : a0 = 17
                ·rw [if_pos c21] at H
                 have c21b0 : (a0 == 17) = true := beq_iff_eq.mpr c21
                 have c21b1 : (a0 != 17) = false := bne_eq_false_iff_eq.mpr c21
                 clear c21
                 simp only [Option.some.injEq, Prod.mk.injEq] at H
                 obtain ⟨rfl, rfl⟩ := H
                 go_wp2
                 go_ret2
                 exact ⟨xg, xz⟩
                ·rw [if_neg c21] at H
                 have c21b0 : (a0 == 17) = false := beq_eq_false_iff_ne.mpr c21
                 have c21b1 : (a0 != 17) = true := bne_iff_ne.mpr c21
                 by_cases c22 : a0 = 19
                 ·rw [if_pos c22] at H
                  have c22b0 : (a0 == 19) = true := beq_iff_eq.mpr c22
                  have c22b1 : (a0 != 19) = false := bne_eq_false_iff_eq.mpr c22
                  clear c22
                  simp only [Option.some.injEq, Prod.mk.injEq] at H
                  obtain ⟨rfl, rfl⟩ := H
                  go_wp2
                  go_ret2
                  exact ⟨xg, xz⟩
                 ·rw [if_neg c22] at H
                  have c22b0 : (a0 == 19) = false := beq_eq_false_iff_ne.mpr c22
                  have c22b1 : (a0 != 19) = true := bne_iff_ne.mpr c22
                  by_cases c23 : a0 = 21
                  ·rw [if_pos c23] at H
                   have c23b0 : (a0 == 21) = true := beq_iff_eq.mpr c23
                   have c23b1 : (a0 != 21) = false := bne_eq_false_iff_eq.mpr c23
                   clear c23
                   simp only [Option.some.injEq, Prod.mk.injEq] at H
                   obtain ⟨rfl, rfl⟩ := H
                   go_wp2
                   go_ret2
                   exact ⟨xg, xz⟩
                  ·rw [if_neg c23] at H
                   have c23b0 : (a0 == 21) = false := beq_eq_false_iff_ne.mpr c23
                   have c23b1 : (a0 != 21) = true := bne_iff_ne.mpr c23
                   simp only [Option.some.injEq, Prod.mk.injEq] at H
                   obtain ⟨rfl, rfl⟩ := H
                   go_wp2
                   go_ret2
                   exact ⟨xg, xz⟩
/- Walked functions, by this session's program over the kit's print. -/
def r13_Arity.f (k : Nat) (a0 : Int) : Option (Int) := (r13_kinds.f k a0).bind fun bt328 => (some (bt328.1.size : Int))
theorem r13_Arity.mono : ∀ a0 k, LeO (r13_Arity.f k a0) (r13_Arity.f (k + 1) a0) := by
 intro a0 k
 unfold r13_Arity.f
 repeat' (with_reducible first | exact r13_kinds.mono _ _ | exact LeO.refl _ | exact LeO.none _ | refine LeO.ite ?_ ?_ | refine LeO.bind ?_ (fun _ => ?_))
set_option maxHeartbeats 8000000 in
set_option maxRecDepth 100000 in
theorem r13_Arity.calls (k : Nat) (a0 : Int) (r : Int) (w : World) (hT : Tabs w) (h : r13_Arity.f k a0 = some r) :
  Calls Tryz.prog 30 #[.int .i64 a0] w fun e w' => e = .returned (.int .i64 r) ∧ Drawn0 w w' := by
 unfold r13_Arity.f at h
 have H := h
 clear h
 replace H := xj H
 obtain ⟨⟨t328, t329⟩, A20, H⟩ := H
 replace H : (some (t328.size : Int)) = some r := H
 have A2 := xy A20
 clear A20
 obtain rfl := Option.some.inj H
 go_enter Tryz.func30, Tryz.ntmps30
 go_wp2_with (((with_reducible refine gate_callee (f := 49) rfl ?_); refine goesL_ (some 7) rfl rfl Tryz.func49 (by kernel_rfl) rfl #[.int .i64 a0] rfl xr ?_; (with_reducible refine (r13_kinds.calls k a0 t328 t329 _ (Tabs.below hT xf) A2.out).mono ?_); rintro e w' ⟨rfl, ⟨nd, rfl⟩⟩; refine ⟨_, rfl, ?_⟩))
 go_ret
 exact ⟨xg, xz⟩
def r14_May.f (a0_0 : Int) (a0_1 : Int) (a0_2 : ByteArray) : Option (Bool) := if a0_0 < 0 then (some false) else (if a0_0 > 23 then (some false) else (if a0_0 = 1 then (if (a0_2.size : Int) > 1000 then (some false) else (if a0_0 = 0 then (some true) else (if a0_0 = 2 then (if a0_1 ≥ 0 then (if a0_1 ≤ 49 then (some true) else (some false)) else (some false)) else (some (a0_1 == 0))))) else (if a0_2.toList = ([] : List UInt8) then (if (a0_2.size : Int) > 1000 then (some false) else (if a0_0 = 0 then (some true) else (if a0_0 = 2 then (if a0_1 ≥ 0 then (if a0_1 ≤ 49 then (some true) else (some false)) else (some false)) else (some (a0_1 == 0))))) else (some false))))
set_option maxHeartbeats 8000000 in
set_option maxRecDepth 100000 in
theorem r14_May.calls (a0_0 : Int) (a0_1 : Int) (a0_2 : ByteArray) (r : Bool) (w : World) (hT : Tabs w) (h : r14_May.f a0_0 a0_1 a0_2 = some r) :
  Calls Tryz.prog 47 #[.agg #[.int .i64 a0_0, .int .i64 a0_1, .string a0_2]] w fun e w' => e = .returned (.bool r) ∧ Below w.heap.size w w' := by
 have hu44 := Tryz.underlying44
 have HB := xy (Below.refl w.heap.size w)
 unfold r14_May.f at h
 have H := h
 clear h
 by_cases c2 : a0_0 < 0
 ·rw [if_pos c2] at H
  have c2b0 : decide (a0_0 < 0) = true := decide_eq_true c2
  clear c2
  obtain rfl := Option.some.inj H
  go_enter Tryz.func47, Tryz.ntmps47
  go_wp2_with (((with_reducible refine gate_dst (N := 1) rfl ?_); (try (refine gate_guard (by rfl) ?_; dsimp only)); refine xq (N := 1) (cs := #[.int .i64 a0_0, .int .i64 a0_1, .string a0_2]) (t := 44) ?_; intro gb330 hg w3 hbox hb; have BK330 := xy (hbox); have GW330 := xs w hg; have GE330 := xs w hg; replace HB := xy (below_step xb hb); clear hb hbox hg; have hcz4_0 : w3.cell? ⟨gb330, 0, none⟩ = some (.int .i64 a0_0) := (kc BK330.out 0).trans rfl; have hcz4_1 : w3.cell? ⟨gb330, 1, none⟩ = some (.int .i64 a0_1) := (kc BK330.out 1).trans rfl; have hcz4_2 : w3.cell? ⟨gb330, 2, none⟩ = some (.string a0_2) := (kc BK330.out 2).trans rfl; have hfz4_0 := kf BK330.out 0; have hfz4_1 := kf BK330.out 1; have hfz4_2 := kf BK330.out 2))
  go_ret
  exact ⟨xe, xb⟩
 ·rw [if_neg c2] at H
  have c2b0 : decide (a0_0 < 0) = false := decide_eq_false c2
  clear c2
  by_cases c5 : a0_0 > 23
  ·rw [if_pos c5] at H
   have c5b0 : decide (23 < a0_0) = true := decide_eq_true c5
   clear c5
   obtain rfl := Option.some.inj H
   go_enter Tryz.func47, Tryz.ntmps47
   go_wp2_with (((with_reducible refine gate_dst (N := 1) rfl ?_); (try (refine gate_guard (by rfl) ?_; dsimp only)); refine xq (N := 1) (cs := #[.int .i64 a0_0, .int .i64 a0_1, .string a0_2]) (t := 44) ?_; intro gb330 hg w6 hbox hb; have BK330 := xy (hbox); have GW330 := xs w hg; have GE330 := xs w hg; replace HB := xy (below_step xb hb); clear hb hbox hg; have hcz7_0 : w6.cell? ⟨gb330, 0, none⟩ = some (.int .i64 a0_0) := (kc BK330.out 0).trans rfl; have hcz7_1 : w6.cell? ⟨gb330, 1, none⟩ = some (.int .i64 a0_1) := (kc BK330.out 1).trans rfl; have hcz7_2 : w6.cell? ⟨gb330, 2, none⟩ = some (.string a0_2) := (kc BK330.out 2).trans rfl; have hfz7_0 := kf BK330.out 0; have hfz7_1 := kf BK330.out 1; have hfz7_2 := kf BK330.out 2))
   go_ret
   exact ⟨xe, xb⟩
  ·rw [if_neg c5] at H
   have c5b0 : decide (23 < a0_0) = false := decide_eq_false c5
   clear c5
   by_cases c8 : a0_0 = 1
   ·rw [if_pos c8] at H
    have c8b0 : (a0_0 == 1) = true := beq_iff_eq.mpr c8
    have c8b1 : (a0_0 != 1) = false := bne_eq_false_iff_eq.mpr c8
    clear c8
    by_cases c9 : (a0_2.size : Int) > 1000
    ·rw [if_pos c9] at H
     have c9b0 : decide (1000 < (a0_2.size : Int)) = true := decide_eq_true c9
     have c9b1 : decide (1000 < a0_2.size) = true := decide_eq_true (by omega)
     clear c9
     obtain rfl := Option.some.inj H
     go_enter Tryz.func47, Tryz.ntmps47
     go_wp2_with (((with_reducible refine gate_dst (N := 1) rfl ?_); (try (refine gate_guard (by rfl) ?_; dsimp only)); refine xq (N := 1) (cs := #[.int .i64 a0_0, .int .i64 a0_1, .string a0_2]) (t := 44) ?_; intro gb330 hg w10 hbox hb; have BK330 := xy (hbox); have GW330 := xs w hg; have GE330 := xs w hg; replace HB := xy (below_step xb hb); clear hb hbox hg; have hcz11_0 : w10.cell? ⟨gb330, 0, none⟩ = some (.int .i64 a0_0) := (kc BK330.out 0).trans rfl; have hcz11_1 : w10.cell? ⟨gb330, 1, none⟩ = some (.int .i64 a0_1) := (kc BK330.out 1).trans rfl; have hcz11_2 : w10.cell? ⟨gb330, 2, none⟩ = some (.string a0_2) := (kc BK330.out 2).trans rfl; have hfz11_0 := kf BK330.out 0; have hfz11_1 := kf BK330.out 1; have hfz11_2 := kf BK330.out 2))
     go_ret
     exact ⟨xe, xb⟩
    ·rw [if_neg c9] at H
     have c9b0 : decide (1000 < (a0_2.size : Int)) = false := decide_eq_false c9
     have c9b1 : decide (1000 < a0_2.size) = false := decide_eq_false (by omega)
     clear c9
     by_cases c12 : a0_0 = 0
     ·rw [if_pos c12] at H
      have c12b0 : (a0_0 == 0) = true := beq_iff_eq.mpr c12
      have c12b1 : (a0_0 != 0) = false := bne_eq_false_iff_eq.mpr c12
      clear c12
      obtain rfl := Option.some.inj H
      go_enter Tryz.func47, Tryz.ntmps47
      go_wp2_with (((with_reducible refine gate_dst (N := 1) rfl ?_); (try (refine gate_guard (by rfl) ?_; dsimp only)); refine xq (N := 1) (cs := #[.int .i64 a0_0, .int .i64 a0_1, .string a0_2]) (t := 44) ?_; intro gb330 hg w13 hbox hb; have BK330 := xy (hbox); have GW330 := xs w hg; have GE330 := xs w hg; replace HB := xy (below_step xb hb); clear hb hbox hg; have hcz14_0 : w13.cell? ⟨gb330, 0, none⟩ = some (.int .i64 a0_0) := (kc BK330.out 0).trans rfl; have hcz14_1 : w13.cell? ⟨gb330, 1, none⟩ = some (.int .i64 a0_1) := (kc BK330.out 1).trans rfl; have hcz14_2 : w13.cell? ⟨gb330, 2, none⟩ = some (.string a0_2) := (kc BK330.out 2).trans rfl; have hfz14_0 := kf BK330.out 0; have hfz14_1 := kf BK330.out 1; have hfz14_2 := kf BK330.out 2))
      go_ret
      exact ⟨xe, xb⟩
     ·rw [if_neg c12] at H
      have c12b0 : (a0_0 == 0) = false := beq_eq_false_iff_ne.mpr c12
      have c12b1 : (a0_0 != 0) = true := bne_iff_ne.mpr c12
      by_cases c15 : a0_0 = 2
      ·rw [if_pos c15] at H
       have c15b0 : (a0_0 == 2) = true := beq_iff_eq.mpr c15
       have c15b1 : (a0_0 != 2) = false := bne_eq_false_iff_eq.mpr c15
       clear c15
       by_cases c16 : a0_1 ≥ 0
       ·rw [if_pos c16] at H
        have c16b0 : decide (0 ≤ a0_1) = true := decide_eq_true c16
        clear c16
        by_cases c17 : a0_1 ≤ 49
        ·rw [if_pos c17] at H
         have c17b0 : decide (a0_1 ≤ 49) = true := decide_eq_true c17
         clear c17
         obtain rfl := Option.some.inj H
         go_enter Tryz.func47, Tryz.ntmps47
         go_wp2_with (((with_reducible refine gate_dst (N := 1) rfl ?_); (try (refine gate_guard (by rfl) ?_; dsimp only)); refine xq (N := 1) (cs := #[.int .i64 a0_0, .int .i64 a0_1, .string a0_2]) (t := 44) ?_; intro gb330 hg w18 hbox hb; have BK330 := xy (hbox); have GW330 := xs w hg; have GE330 := xs w hg; replace HB := xy (below_step xb hb); clear hb hbox hg; have hcz19_0 : w18.cell? ⟨gb330, 0, none⟩ = some (.int .i64 a0_0) := (kc BK330.out 0).trans rfl; have hcz19_1 : w18.cell? ⟨gb330, 1, none⟩ = some (.int .i64 a0_1) := (kc BK330.out 1).trans rfl; have hcz19_2 : w18.cell? ⟨gb330, 2, none⟩ = some (.string a0_2) := (kc BK330.out 2).trans rfl; have hfz19_0 := kf BK330.out 0; have hfz19_1 := kf BK330.out 1; have hfz19_2 := kf BK330.out 2))
         go_ret
         exact ⟨xe, xb⟩
        ·rw [if_neg c17] at H
         have c17b0 : decide (a0_1 ≤ 49) = false := decide_eq_false c17
         clear c17
         obtain rfl := Option.some.inj H
         go_enter Tryz.func47, Tryz.ntmps47
         go_wp2_with (((with_reducible refine gate_dst (N := 1) rfl ?_); (try (refine gate_guard (by rfl) ?_; dsimp only)); refine xq (N := 1) (cs := #[.int .i64 a0_0, .int .i64 a0_1, .string a0_2]) (t := 44) ?_; intro gb330 hg w20 hbox hb; have BK330 := xy (hbox); have GW330 := xs w hg; have GE330 := xs w hg; replace HB := xy (below_step xb hb); clear hb hbox hg; have hcz21_0 : w20.cell? ⟨gb330, 0, none⟩ = some (.int .i64 a0_0) := (kc BK330.out 0).trans rfl; have hcz21_1 : w20.cell? ⟨gb330, 1, none⟩ = some (.int .i64 a0_1) := (kc BK330.out 1).trans rfl; have hcz21_2 : w20.cell? ⟨gb330, 2, none⟩ = some (.string a0_2) := (kc BK330.out 2).trans rfl; have hfz21_0 := kf BK330.out 0; have hfz21_1 := kf BK330.out 1; have hfz21_2 := kf BK330.out 2))
         go_ret
         exact ⟨xe, xb⟩
       ·rw [if_neg c16] at H
        have c16b0 : decide (0 ≤ a0_1) = false := decide_eq_false c16
        clear c16
        obtain rfl := Option.some.inj H
        go_enter Tryz.func47, Tryz.ntmps47
        go_wp2_with (((with_reducible refine gate_dst (N := 1) rfl ?_); (try (refine gate_guard (by rfl) ?_; dsimp only)); refine xq (N := 1) (cs := #[.int .i64 a0_0, .int .i64 a0_1, .string a0_2]) (t := 44) ?_; intro gb330 hg w22 hbox hb; have BK330 := xy (hbox); have GW330 := xs w hg; have GE330 := xs w hg; replace HB := xy (below_step xb hb); clear hb hbox hg; have hcz23_0 : w22.cell? ⟨gb330, 0, none⟩ = some (.int .i64 a0_0) := (kc BK330.out 0).trans rfl; have hcz23_1 : w22.cell? ⟨gb330, 1, none⟩ = some (.int .i64 a0_1) := (kc BK330.out 1).trans rfl; have hcz23_2 : w22.cell? ⟨gb330, 2, none⟩ = some (.string a0_2) := (kc BK330.out 2).trans rfl; have hfz23_0 := kf BK330.out 0; have hfz23_1 := kf BK330.out 1; have hfz23_2 := kf BK330.out 2))
        go_ret
        exact ⟨xe, xb⟩
      ·rw [if_neg c15] at H
       have c15b0 : (a0_0 == 2) = false := beq_eq_false_iff_ne.mpr c15
       have c15b1 : (a0_0 != 2) = true := bne_iff_ne.mpr c15
       obtain rfl := Option.some.inj H
       go_enter Tryz.func47, Tryz.ntmps47
       go_wp2_with (((with_reducible refine gate_dst (N := 1) rfl ?_); (try (refine gate_guard (by rfl) ?_; dsimp only)); refine xq (N := 1) (cs := #[.int .i64 a0_0, .int .i64 a0_1, .string a0_2]) (t := 44) ?_; intro gb330 hg w24 hbox hb; have BK330 := xy (hbox); have GW330 := xs w hg; have GE330 := xs w hg; replace HB := xy (below_step xb hb); clear hb hbox hg; have hcz25_0 : w24.cell? ⟨gb330, 0, none⟩ = some (.int .i64 a0_0) := (kc BK330.out 0).trans rfl; have hcz25_1 : w24.cell? ⟨gb330, 1, none⟩ = some (.int .i64 a0_1) := (kc BK330.out 1).trans rfl; have hcz25_2 : w24.cell? ⟨gb330, 2, none⟩ = some (.string a0_2) := (kc BK330.out 2).trans rfl; have hfz25_0 := kf BK330.out 0; have hfz25_1 := kf BK330.out 1; have hfz25_2 := kf BK330.out 2))
       go_ret
       exact ⟨xe, xb⟩
   ·rw [if_neg c8] at H
    have c8b0 : (a0_0 == 1) = false := beq_eq_false_iff_ne.mpr c8
    have c8b1 : (a0_0 != 1) = true := bne_iff_ne.mpr c8
    by_cases c26 : a0_2.toList = ([] : List UInt8)
    ·rw [if_pos c26] at H
     have c26b0 : (a0_2.toList == ([] : List UInt8)) = true := beq_iff_eq.mpr c26
     have c26b1 : (a0_2.toList != ([] : List UInt8)) = false := bne_eq_false_iff_eq.mpr c26
     clear c26
     by_cases c27 : (a0_2.size : Int) > 1000
     ·rw [if_pos c27] at H
      have c27b0 : decide (1000 < (a0_2.size : Int)) = true := decide_eq_true c27
      have c27b1 : decide (1000 < a0_2.size) = true := decide_eq_true (by omega)
      clear c27
      obtain rfl := Option.some.inj H
      go_enter Tryz.func47, Tryz.ntmps47
      go_wp2_with (((with_reducible refine gate_dst (N := 1) rfl ?_); (try (refine gate_guard (by rfl) ?_; dsimp only)); refine xq (N := 1) (cs := #[.int .i64 a0_0, .int .i64 a0_1, .string a0_2]) (t := 44) ?_; intro gb330 hg w28 hbox hb; have BK330 := xy (hbox); have GW330 := xs w hg; have GE330 := xs w hg; replace HB := xy (below_step xb hb); clear hb hbox hg; have hcz29_0 : w28.cell? ⟨gb330, 0, none⟩ = some (.int .i64 a0_0) := (kc BK330.out 0).trans rfl; have hcz29_1 : w28.cell? ⟨gb330, 1, none⟩ = some (.int .i64 a0_1) := (kc BK330.out 1).trans rfl; have hcz29_2 : w28.cell? ⟨gb330, 2, none⟩ = some (.string a0_2) := (kc BK330.out 2).trans rfl; have hfz29_0 := kf BK330.out 0; have hfz29_1 := kf BK330.out 1; have hfz29_2 := kf BK330.out 2))
      go_ret
      exact ⟨xe, xb⟩
     ·rw [if_neg c27] at H
      have c27b0 : decide (1000 < (a0_2.size : Int)) = false := decide_eq_false c27
      have c27b1 : decide (1000 < a0_2.size) = false := decide_eq_false (by omega)
      clear c27
      by_cases c30 : a0_0 = 0
      ·rw [if_pos c30] at H
       have c30b0 : (a0_0 == 0) = true := beq_iff_eq.mpr c30
       have c30b1 : (a0_0 != 0) = false := bne_eq_false_iff_eq.mpr c30
       clear c30
       obtain rfl := Option.some.inj H
       go_enter Tryz.func47, Tryz.ntmps47
       go_wp2_with (((with_reducible refine gate_dst (N := 1) rfl ?_); (try (refine gate_guard (by rfl) ?_; dsimp only)); refine xq (N := 1) (cs := #[.int .i64 a0_0, .int .i64 a0_1, .string a0_2]) (t := 44) ?_; intro gb330 hg w31 hbox hb; have BK330 := xy (hbox); have GW330 := xs w hg; have GE330 := xs w hg; replace HB := xy (below_step xb hb); clear hb hbox hg; have hcz32_0 : w31.cell? ⟨gb330, 0, none⟩ = some (.int .i64 a0_0) := (kc BK330.out 0).trans rfl; have hcz32_1 : w31.cell? ⟨gb330, 1, none⟩ = some (.int .i64 a0_1) := (kc BK330.out 1).trans rfl; have hcz32_2 : w31.cell? ⟨gb330, 2, none⟩ = some (.string a0_2) := (kc BK330.out 2).trans rfl; have hfz32_0 := kf BK330.out 0; have hfz32_1 := kf BK330.out 1; have hfz32_2 := kf BK330.out 2))
       go_ret
       exact ⟨xe, xb⟩
      ·rw [if_neg c30] at H
       have c30b0 : (a0_0 == 0) = false := beq_eq_false_iff_ne.mpr c30
       have c30b1 : (a0_0 != 0) = true := bne_iff_ne.mpr c30
       by_cases c33 : a0_0 = 2
       ·rw [if_pos c33] at H
        have c33b0 : (a0_0 == 2) = true := beq_iff_eq.mpr c33
        have c33b1 : (a0_0 != 2) = false := bne_eq_false_iff_eq.mpr c33
        clear c33
        by_cases c34 : a0_1 ≥ 0
        ·rw [if_pos c34] at H
         have c34b0 : decide (0 ≤ a0_1) = true := decide_eq_true c34
         clear c34
         by_cases c35 : a0_1 ≤ 49
         ·rw [if_pos c35] at H
          have c35b0 : decide (a0_1 ≤ 49) = true := decide_eq_true c35
          clear c35
          obtain rfl := Option.some.inj H
          go_enter Tryz.func47, Tryz.ntmps47
          go_wp2_with (((with_reducible refine gate_dst (N := 1) rfl ?_); (try (refine gate_guard (by rfl) ?_; dsimp only)); refine xq (N := 1) (cs := #[.int .i64 a0_0, .int .i64 a0_1, .string a0_2]) (t := 44) ?_; intro gb330 hg w36 hbox hb; have BK330 := xy (hbox); have GW330 := xs w hg; have GE330 := xs w hg; replace HB := xy (below_step xb hb); clear hb hbox hg; have hcz37_0 : w36.cell? ⟨gb330, 0, none⟩ = some (.int .i64 a0_0) := (kc BK330.out 0).trans rfl; have hcz37_1 : w36.cell? ⟨gb330, 1, none⟩ = some (.int .i64 a0_1) := (kc BK330.out 1).trans rfl; have hcz37_2 : w36.cell? ⟨gb330, 2, none⟩ = some (.string a0_2) := (kc BK330.out 2).trans rfl; have hfz37_0 := kf BK330.out 0; have hfz37_1 := kf BK330.out 1; have hfz37_2 := kf BK330.out 2))
          go_ret
          exact ⟨xe, xb⟩
         ·rw [if_neg c35] at H
          have c35b0 : decide (a0_1 ≤ 49) = false := decide_eq_false c35
          clear c35
          obtain rfl := Option.some.inj H
          go_enter Tryz.func47, Tryz.ntmps47
          go_wp2_with (((with_reducible refine gate_dst (N := 1) rfl ?_); (try (refine gate_guard (by rfl) ?_; dsimp only)); refine xq (N := 1) (cs := #[.int .i64 a0_0, .int .i64 a0_1, .string a0_2]) (t := 44) ?_; intro gb330 hg w38 hbox hb; have BK330 := xy (hbox); have GW330 := xs w hg; have GE330 := xs w hg; replace HB := xy (below_step xb hb); clear hb hbox hg; have hcz39_0 : w38.cell? ⟨gb330, 0, none⟩ = some (.int .i64 a0_0) := (kc BK330.out 0).trans rfl; have hcz39_1 : w38.cell? ⟨gb330, 1, none⟩ = some (.int .i64 a0_1) := (kc BK330.out 1).trans rfl; have hcz39_2 : w38.cell? ⟨gb330, 2, none⟩ = some (.string a0_2) := (kc BK330.out 2).trans rfl; have hfz39_0 := kf BK330.out 0; have hfz39_1 := kf BK330.out 1; have hfz39_2 := kf BK330.out 2))
          go_ret
          exact ⟨xe, xb⟩
        ·rw [if_neg c34] at H
         have c34b0 : decide (0 ≤ a0_1) = false := decide_eq_false c34
         clear c34
         obtain rfl := Option.some.inj H
         go_enter Tryz.func47, Tryz.ntmps47
         go_wp2_with (((with_reducible refine gate_dst (N := 1) rfl ?_); (try (refine gate_guard (by rfl) ?_; dsimp only)); refine xq (N := 1) (cs := #[.int .i64 a0_0, .int .i64 a0_1, .string a0_2]) (t := 44) ?_; intro gb330 hg w40 hbox hb; have BK330 := xy (hbox); have GW330 := xs w hg; have GE330 := xs w hg; replace HB := xy (below_step xb hb); clear hb hbox hg; have hcz41_0 : w40.cell? ⟨gb330, 0, none⟩ = some (.int .i64 a0_0) := (kc BK330.out 0).trans rfl; have hcz41_1 : w40.cell? ⟨gb330, 1, none⟩ = some (.int .i64 a0_1) := (kc BK330.out 1).trans rfl; have hcz41_2 : w40.cell? ⟨gb330, 2, none⟩ = some (.string a0_2) := (kc BK330.out 2).trans rfl; have hfz41_0 := kf BK330.out 0; have hfz41_1 := kf BK330.out 1; have hfz41_2 := kf BK330.out 2))
         go_ret
         exact ⟨xe, xb⟩
       ·rw [if_neg c33] at H
        have c33b0 : (a0_0 == 2) = false := beq_eq_false_iff_ne.mpr c33
        have c33b1 : (a0_0 != 2) = true := bne_iff_ne.mpr c33
        obtain rfl := Option.some.inj H
        go_enter Tryz.func47, Tryz.ntmps47
        go_wp2_with (((with_reducible refine gate_dst (N := 1) rfl ?_); (try (refine gate_guard (by rfl) ?_; dsimp only)); refine xq (N := 1) (cs := #[.int .i64 a0_0, .int .i64 a0_1, .string a0_2]) (t := 44) ?_; intro gb330 hg w42 hbox hb; have BK330 := xy (hbox); have GW330 := xs w hg; have GE330 := xs w hg; replace HB := xy (below_step xb hb); clear hb hbox hg; have hcz43_0 : w42.cell? ⟨gb330, 0, none⟩ = some (.int .i64 a0_0) := (kc BK330.out 0).trans rfl; have hcz43_1 : w42.cell? ⟨gb330, 1, none⟩ = some (.int .i64 a0_1) := (kc BK330.out 1).trans rfl; have hcz43_2 : w42.cell? ⟨gb330, 2, none⟩ = some (.string a0_2) := (kc BK330.out 2).trans rfl; have hfz43_0 := kf BK330.out 0; have hfz43_1 := kf BK330.out 1; have hfz43_2 := kf BK330.out 2))
        go_ret
        exact ⟨xe, xb⟩
    ·rw [if_neg c26] at H
     have c26b0 : (a0_2.toList == ([] : List UInt8)) = false := beq_eq_false_iff_ne.mpr c26
     have c26b1 : (a0_2.toList != ([] : List UInt8)) = true := bne_iff_ne.mpr c26
     obtain rfl := Option.some.inj H
     go_enter Tryz.func47, Tryz.ntmps47
     go_wp2_with (((with_reducible refine gate_dst (N := 1) rfl ?_); (try (refine gate_guard (by rfl) ?_; dsimp only)); refine xq (N := 1) (cs := #[.int .i64 a0_0, .int .i64 a0_1, .string a0_2]) (t := 44) ?_; intro gb330 hg w44 hbox hb; have BK330 := xy (hbox); have GW330 := xs w hg; have GE330 := xs w hg; replace HB := xy (below_step xb hb); clear hb hbox hg; have hcz45_0 : w44.cell? ⟨gb330, 0, none⟩ = some (.int .i64 a0_0) := (kc BK330.out 0).trans rfl; have hcz45_1 : w44.cell? ⟨gb330, 1, none⟩ = some (.int .i64 a0_1) := (kc BK330.out 1).trans rfl; have hcz45_2 : w44.cell? ⟨gb330, 2, none⟩ = some (.string a0_2) := (kc BK330.out 2).trans rfl; have hfz45_0 := kf BK330.out 0; have hfz45_1 := kf BK330.out 1; have hfz45_2 := kf BK330.out 2))
     go_ret
     exact ⟨xe, xb⟩
/- Walked functions, by this session's program over the kit's print. -/
mutual
def r13_Result.l0 : Nat → List Bool → ByteArray → ByteArray → Int → Int → Option (Bool × Int)
 | 0, _, _, _, _, _ => none
 | k + 1, x1, x6, x7, x8, x9 => if x9 < (x6.size : Int) then (if 0 ≤ x9 then (if (bt x6 x9) = 110 then (if x9 < (x1.length : Int) then (if rdOf false x1 x9 = true then (r13_Result.j1 k x1 x6 x7 x8 x9 true) else (if (bt x6 x9) = 116 then (r13_Result.j1 k x1 x6 x7 x8 x9 (!(rdOf false x1 x9))) else (r13_Result.j1 k x1 x6 x7 x8 x9 false))) else (none)) else (if (bt x6 x9) = 116 then (if x9 < (x1.length : Int) then (r13_Result.j1 k x1 x6 x7 x8 x9 (!(rdOf false x1 x9))) else (none)) else (r13_Result.j1 k x1 x6 x7 x8 x9 false))) else (none)) else (if x7.toList = ([97] : List UInt8) then (if 0 ≤ x8 then (if x8 < (x1.length : Int) then (some (rdOf false x1 x8, 0)) else (none)) else (none)) else (some ((x7.toList == ([116] : List UInt8)), 0)))
def r13_Result.j1 : Nat → List Bool → ByteArray → ByteArray → Int → Int → Bool → Option (Bool × Int)
 | 0, _, _, _, _, _, _ => none
 | k + 1, x1, x6, x7, x8, x9, x50 => if x50 = true then (some (false, 11)) else (if 0 ≤ x9 then (if x9 < (x6.size : Int) then (if (bt x6 x9) = 97 then (if x8 ≥ 0 then (if x9 < (x1.length : Int) then (if 0 ≤ x8 then (if x8 < (x1.length : Int) then (r13_Result.j2 k x1 x6 x7 x8 x9 ((rdOf false x1 x9) != (rdOf false x1 x8))) else (none)) else (none)) else (none)) else (r13_Result.j2 k x1 x6 x7 x8 x9 false)) else (r13_Result.j2 k x1 x6 x7 x8 x9 false)) else (none)) else (none))
def r13_Result.j2 : Nat → List Bool → ByteArray → ByteArray → Int → Int → Bool → Option (Bool × Int)
 | 0, _, _, _, _, _, _ => none
 | k + 1, x1, x6, x7, x8, x9, x69 => if x69 = true then (some (false, 11)) else (if 0 ≤ x9 then (if x9 < (x6.size : Int) then (if (bt x6 x9) = 97 then (r13_Result.l0 k x1 x6 x7 x9 (wrap64 (x9 + 1))) else (r13_Result.l0 k x1 x6 x7 x8 (wrap64 (x9 + 1)))) else (none)) else (none))
end
def r13_Result.f (k : Nat) (a0 : Int) (l1 : List Bool) : Option (Bool × Int) := (r13_kinds.f k a0).bind fun bt331 => (if bt331.1.toList = ([] : List UInt8) then (some (false, 1)) else (if (l1.length : Int) = (bt331.1.size : Int) then (r13_Result.l0 k l1 bt331.1 bt331.2 (-1) 0) else (some (false, 11))))
theorem r13_Result.mono_l : ∀ k, (∀ y0 y1 y2 y3 y4, LeO (r13_Result.l0 k y0 y1 y2 y3 y4) (r13_Result.l0 (k + 1) y0 y1 y2 y3 y4)) ∧ (∀ y0 y1 y2 y3 y4 y5, LeO (r13_Result.j1 k y0 y1 y2 y3 y4 y5) (r13_Result.j1 (k + 1) y0 y1 y2 y3 y4 y5)) ∧ (∀ y0 y1 y2 y3 y4 y5, LeO (r13_Result.j2 k y0 y1 y2 y3 y4 y5) (r13_Result.j2 (k + 1) y0 y1 y2 y3 y4 y5))
 | 0 => ⟨fun _ _ _ _ _ r h => by simp [r13_Result.l0] at h, fun _ _ _ _ _ _ r h => by simp [r13_Result.j1] at h, fun _ _ _ _ _ _ r h => by simp [r13_Result.j2] at h⟩
 | k + 1 => by
  obtain ⟨ih0, ih1, ih2⟩ := r13_Result.mono_l k
  refine ⟨?_, ?_, ?_⟩
  ·intro y0 y1 y2 y3 y4
   unfold r13_Result.l0
   repeat' (with_reducible first | exact ih0 _ _ _ _ _ | exact ih1 _ _ _ _ _ _ | exact ih2 _ _ _ _ _ _ | exact r13_kinds.mono _ _ | exact LeO.refl _ | exact LeO.none _ | refine LeO.ite ?_ ?_ | refine LeO.bind ?_ (fun _ => ?_))
  ·intro y0 y1 y2 y3 y4 y5
   unfold r13_Result.j1
   repeat' (with_reducible first | exact ih0 _ _ _ _ _ | exact ih1 _ _ _ _ _ _ | exact ih2 _ _ _ _ _ _ | exact r13_kinds.mono _ _ | exact LeO.refl _ | exact LeO.none _ | refine LeO.ite ?_ ?_ | refine LeO.bind ?_ (fun _ => ?_))
  ·intro y0 y1 y2 y3 y4 y5
   unfold r13_Result.j2
   repeat' (with_reducible first | exact ih0 _ _ _ _ _ | exact ih1 _ _ _ _ _ _ | exact ih2 _ _ _ _ _ _ | exact r13_kinds.mono _ _ | exact LeO.refl _ | exact LeO.none _ | refine LeO.ite ?_ ?_ | refine LeO.bind ?_ (fun _ => ?_))
theorem r13_Result.mono : ∀ a0 a1 k, LeO (r13_Result.f k a0 a1) (r13_Result.f (k + 1) a0 a1) := by
 intro a0 a1 k
 obtain ⟨ih0, ih1, ih2⟩ := r13_Result.mono_l k
 unfold r13_Result.f
 repeat' (with_reducible first | exact ih0 _ _ _ _ _ | exact ih1 _ _ _ _ _ _ | exact ih2 _ _ _ _ _ _ | exact r13_kinds.mono _ _ | exact LeO.refl _ | exact LeO.none _ | refine LeO.ite ?_ ?_ | refine LeO.bind ?_ (fun _ => ?_))
set_option maxHeartbeats 8000000 in
set_option maxRecDepth 100000 in
theorem r13_Result.calls (k : Nat) (a0 : Int) (A1 : Option Addr) (c1 : Nat) (l1 : List Bool) (r1 : Bool) (r2 : Int) (w : World) (hT : Tabs w) (hr1 : Kd.C Kd.bool w A1 l1.length l1) (hc1 : l1.length ≤ c1) (h : r13_Result.f k a0 l1 = some (r1, r2)) :
  Calls Tryz.prog 48 #[.int .i64 a0, .slice A1 l1.length c1] w fun e w' => e = .returned (.tuple #[.bool r1, .int .i64 r2]) ∧ Drawn0 w w' := by
 have HR1 := xy hr1
 have HC1 := xy hc1
 clear hr1 hc1
 unfold r13_Result.f at h
 have H := h
 clear h
 replace H := xj H
 obtain ⟨⟨t331, t332⟩, A30, H⟩ := H
 replace H : (if t331.toList = ([] : List UInt8) then (some (false, 1)) else (if (l1.length : Int) = (t331.size : Int) then (r13_Result.l0 k l1 t331 t332 (-1) 0) else (some (false, 11)))) = some (r1, r2) := H
 have A3 := xy A30
 clear A30
 by_cases c4 : t331.toList = ([] : List UInt8)
 ·rw [if_pos c4] at H
  have c4b0 : (t331.toList == ([] : List UInt8)) = true := beq_iff_eq.mpr c4
  have c4b1 : (t331.toList != ([] : List UInt8)) = false := bne_eq_false_iff_eq.mpr c4
  clear c4
  simp only [Option.some.injEq, Prod.mk.injEq] at H
  obtain ⟨rfl, rfl⟩ := H
  go_enter Tryz.func48, Tryz.ntmps48
  go_wp2_with ((go_at_call 49; (with_reducible refine (r13_kinds.calls k a0 t331 t332 _ (Tabs.below hT xf) A3.out).mono ?_); rintro e w' ⟨rfl, ⟨nd, rfl⟩⟩; (try first | exact ⟨rfl, _, World.drewN_drewN _ _ _⟩ | exact ⟨rfl, _, Eq.trans (World.drewN_drewN _ _ _) (congrArg (World.drewN _) (Nat.add_assoc _ _ _))⟩)))
  repeat (go_quiet (fail); try go_wp2_with (fail))
  go_ret2
  exact ⟨xg, xz⟩
 ·rw [if_neg c4] at H
  have c4b0 : (t331.toList == ([] : List UInt8)) = false := beq_eq_false_iff_ne.mpr c4
  have c4b1 : (t331.toList != ([] : List UInt8)) = true := bne_iff_ne.mpr c4
  by_cases c5 : (l1.length : Int) = (t331.size : Int)
  ·rw [if_pos c5] at H
   have c5b0 : ((l1.length : Int) == (t331.size : Int)) = true := beq_iff_eq.mpr c5
   have c5b1 : ((l1.length : Int) != (t331.size : Int)) = false := bne_eq_false_iff_eq.mpr c5
   have c5b2 : (l1.length == t331.size) = true := by first | simpa using c5 | (simp at c5 ⊢; omega)
   clear c5
   have H' := xy H
   clear H
   go_enter Tryz.func48, Tryz.ntmps48
   go_wp2_with ((go_at_call 49; (with_reducible refine (r13_kinds.calls k a0 t331 t332 _ (Tabs.below hT xf) A3.out).mono ?_); rintro e w' ⟨rfl, ⟨nd, rfl⟩⟩; (try first | exact ⟨rfl, _, World.drewN_drewN _ _ _⟩ | exact ⟨rfl, _, Eq.trans (World.drewN_drewN _ _ _) (congrArg (World.drewN _) (Nat.add_assoc _ _ _))⟩)))
   repeat (go_quiet (fail); try go_wp2_with (fail))
   go_loopg [8, 9] k (fun kq v8 v9 w' => ∃ (x8_1 : Int) (x9_1 : Int), v8 = .int .i64 x8_1 ∧ v9 = .int .i64 x9_1 ∧ Aside0 (r13_Result.l0 kq l1 t331 t332 x8_1 x9_1 = some (r1, r2)) ∧ Aside0 (kq ≤ k) ∧ Drawn0 w w')
   case atStart => exact ⟨((-1)), (0), xg, xg, H', ⟨Nat.le_refl _⟩, by repeat (first | exact Drawn0.refl _ | apply Drawn0.step)⟩
   case round =>
    clear H'
    try clear c1
    try clear p2
    try clear c4
    try clear c4b0
    try clear c4b1
    try clear c5
    try clear c5b0
    try clear c5b1
    try clear c5b2
    obtain ⟨x8_1, x9_1, rfl, rfl, HA, HK1, ⟨m1, rfl⟩⟩ := hrel
    cases gk with
    | zero => exact absurd HA.out (by simp [r13_Result.l0])
    | succ k1 =>
     have H := HA.out
     clear HA
     simp only [r13_Result.l0] at H
     by_cases c6 : x9_1 < (t331.size : Int)
     ·rw [if_pos c6] at H
      have c6b0 : decide (x9_1 < (t331.size : Int)) = true := decide_eq_true c6
      clear c6
      have HC7 := xy H
      clear H
      go_upto_region 10 with (fail)
      repeat (go_quiet (fail); go_upto_region 10 with (fail))
      go_cut [50] (fun v50 wc => ∃ (kq : Nat) (x50_6 : Bool), v50 = .bool x50_6 ∧ Aside0 (r13_Result.j1 kq l1 t331 t332 x8_1 x9_1 x50_6 = some (r1, r2)) ∧ Aside0 (kq ≤ k1) ∧ Drawn0 w wc)
      case first =>
       have H := HC7.out
       clear HC7
       by_cases c8 : 0 ≤ x9_1
       ·rw [if_pos c8] at H
        have c8b0 : decide (0 ≤ x9_1) = true := decide_eq_true c8
        clear c8
        (first | rw [c8b0] | (simp only [i64_w, i32_w]; rw [c8b0]) | skip)
        by_cases c10 : (bt t331 x9_1) = 110
        ·rw [if_pos c10] at H
         have c10b0 : ((bt t331 x9_1) == 110) = true := beq_iff_eq.mpr c10
         have c10b1 : ((bt t331 x9_1) != 110) = false := bne_eq_false_iff_eq.mpr c10
         clear c10
         by_cases c11 : x9_1 < (l1.length : Int)
         ·rw [if_pos c11] at H
          have c11b0 : decide (x9_1 < (l1.length : Int)) = true := decide_eq_true c11
          clear c11
          obtain ⟨bq12, hbq12⟩ : ∃ b_ : Bool, b_ = (rdOf false l1 x9_1) := ⟨_, rfl⟩
          replace H : (if bq12 = true then (r13_Result.j1 k1 l1 t331 t332 x8_1 x9_1 true) else (if (bt t331 x9_1) = 116 then (r13_Result.j1 k1 l1 t331 t332 x8_1 x9_1 (!(bq12))) else (r13_Result.j1 k1 l1 t331 t332 x8_1 x9_1 false))) = some (r1, r2) := by rw [← hbq12] at H; exact H
          have Nbq12 := xy hbq12
          clear hbq12
          by_cases c13 : bq12 = true
          ·subst c13
           rw [if_pos rfl] at H
           have H' := xy H
           clear H
           have p9 : 0 ≤ (x9_1 : Int) := xi
           have q9 : x9_1 < (t331.size : Int) := xi
           have hx9 := bt_at t331 x9_1
           replace p9 := eq_true p9
           replace q9 := eq_true q9
           have p334 : 0 ≤ (x9_1 : Int) := xi
           have q334 : x9_1 < (l1.length : Int) := xi
           obtain ⟨ad334, e334, hx334_0⟩ := Kd.at_bool HR1.out x9_1 p334 q334
           (try rw [← Nbq12.out] at hx334_0)
           cases e334
           replace p334 := eq_true p334
           replace q334 := eq_true q334
           go_wp2
           repeat (go_quiet (fail); try go_wp2)
           go_meet
           case rel => exact ⟨_, (true), xg, H', ⟨by have := HK1.out; first | omega | exact Nat.le_refl _⟩, by repeat (first | exact Drawn0.refl _ | apply Drawn0.step)⟩
          ·replace c13 := Bool.eq_false_iff.mpr c13
           subst c13
           rw [if_neg (show ¬ (false = true) by decide)] at H
           by_cases c15 : (bt t331 x9_1) = 116
           ·rw [if_pos c15] at H
            have c15b0 : ((bt t331 x9_1) == 116) = true := beq_iff_eq.mpr c15
            have c15b1 : ((bt t331 x9_1) != 116) = false := bne_eq_false_iff_eq.mpr c15
            clear c15
            have H' := xy H
            clear H
            have p9 : 0 ≤ (x9_1 : Int) := xi
            have q9 : x9_1 < (t331.size : Int) := xi
            have hx9 := bt_at t331 x9_1
            replace p9 := eq_true p9
            replace q9 := eq_true q9
            have p334 : 0 ≤ (x9_1 : Int) := xi
            have q334 : x9_1 < (l1.length : Int) := xi
            obtain ⟨ad334, e334, hx334_0⟩ := Kd.at_bool HR1.out x9_1 p334 q334
            (try rw [← Nbq12.out] at hx334_0)
            cases e334
            replace p334 := eq_true p334
            replace q334 := eq_true q334
            have p14 : 0 ≤ (x9_1 : Int) := xi
            have q14 : x9_1 < (t331.size : Int) := xi
            have hx14 := bt_at t331 x9_1
            replace p14 := eq_true p14
            replace q14 := eq_true q14
            have p335 : 0 ≤ (x9_1 : Int) := xi
            have q335 : x9_1 < (l1.length : Int) := xi
            obtain ⟨ad335, e335, hx335_0⟩ := Kd.at_bool HR1.out x9_1 p335 q335
            (try rw [← Nbq12.out] at hx335_0)
            obtain rfl : ad334 = ad335 := (by injection e335)
            replace p335 := eq_true p335
            replace q335 := eq_true q335
            go_wp2
            repeat (go_quiet (fail); try go_wp2)
            go_meet
            case rel => exact ⟨_, (!(false)), xg, H', ⟨by have := HK1.out; first | omega | exact Nat.le_refl _⟩, by repeat (first | exact Drawn0.refl _ | apply Drawn0.step)⟩
           ·rw [if_neg c15] at H
            have c15b0 : ((bt t331 x9_1) == 116) = false := beq_eq_false_iff_ne.mpr c15
            have c15b1 : ((bt t331 x9_1) != 116) = true := bne_iff_ne.mpr c15
            have H' := xy H
            clear H
            have p9 : 0 ≤ (x9_1 : Int) := xi
            have q9 : x9_1 < (t331.size : Int) := xi
            have hx9 := bt_at t331 x9_1
            replace p9 := eq_true p9
            replace q9 := eq_true q9
            have p334 : 0 ≤ (x9_1 : Int) := xi
            have q334 : x9_1 < (l1.length : Int) := xi
            obtain ⟨ad334, e334, hx334_0⟩ := Kd.at_bool HR1.out x9_1 p334 q334
            (try rw [← Nbq12.out] at hx334_0)
            cases e334
            replace p334 := eq_true p334
            replace q334 := eq_true q334
            have p14 : 0 ≤ (x9_1 : Int) := xi
            have q14 : x9_1 < (t331.size : Int) := xi
            have hx14 := bt_at t331 x9_1
            replace p14 := eq_true p14
            replace q14 := eq_true q14
            go_wp2
            repeat (go_quiet (fail); try go_wp2)
            go_meet
            case rel => exact ⟨_, (false), xg, H', ⟨by have := HK1.out; first | omega | exact Nat.le_refl _⟩, by repeat (first | exact Drawn0.refl _ | apply Drawn0.step)⟩
         ·rw [if_neg c11] at H
          exact absurd H (by simp)
        ·rw [if_neg c10] at H
         have c10b0 : ((bt t331 x9_1) == 110) = false := beq_eq_false_iff_ne.mpr c10
         have c10b1 : ((bt t331 x9_1) != 110) = true := bne_iff_ne.mpr c10
         by_cases c17 : (bt t331 x9_1) = 116
         ·rw [if_pos c17] at H
          have c17b0 : ((bt t331 x9_1) == 116) = true := beq_iff_eq.mpr c17
          have c17b1 : ((bt t331 x9_1) != 116) = false := bne_eq_false_iff_eq.mpr c17
          clear c17
          by_cases c18 : x9_1 < (l1.length : Int)
          ·rw [if_pos c18] at H
           have c18b0 : decide (x9_1 < (l1.length : Int)) = true := decide_eq_true c18
           clear c18
           have H' := xy H
           clear H
           have p9 : 0 ≤ (x9_1 : Int) := xi
           have q9 : x9_1 < (t331.size : Int) := xi
           have hx9 := bt_at t331 x9_1
           replace p9 := eq_true p9
           replace q9 := eq_true q9
           have p16 : 0 ≤ (x9_1 : Int) := xi
           have q16 : x9_1 < (t331.size : Int) := xi
           have hx16 := bt_at t331 x9_1
           replace p16 := eq_true p16
           replace q16 := eq_true q16
           have p336 : 0 ≤ (x9_1 : Int) := xi
           have q336 : x9_1 < (l1.length : Int) := xi
           obtain ⟨ad336, e336, hx336_0⟩ := Kd.at_bool HR1.out x9_1 p336 q336
           cases e336
           replace p336 := eq_true p336
           replace q336 := eq_true q336
           go_wp2
           repeat (go_quiet (fail); try go_wp2)
           go_meet
           case rel => exact ⟨_, (!(rdOf false l1 x9_1)), xg, H', ⟨by have := HK1.out; first | omega | exact Nat.le_refl _⟩, by repeat (first | exact Drawn0.refl _ | apply Drawn0.step)⟩
          ·rw [if_neg c18] at H
           exact absurd H (by simp)
         ·rw [if_neg c17] at H
          have c17b0 : ((bt t331 x9_1) == 116) = false := beq_eq_false_iff_ne.mpr c17
          have c17b1 : ((bt t331 x9_1) != 116) = true := bne_iff_ne.mpr c17
          have H' := xy H
          clear H
          have p9 : 0 ≤ (x9_1 : Int) := xi
          have q9 : x9_1 < (t331.size : Int) := xi
          have hx9 := bt_at t331 x9_1
          replace p9 := eq_true p9
          replace q9 := eq_true q9
          have p16 : 0 ≤ (x9_1 : Int) := xi
          have q16 : x9_1 < (t331.size : Int) := xi
          have hx16 := bt_at t331 x9_1
          replace p16 := eq_true p16
          replace q16 := eq_true q16
          go_wp2
          repeat (go_quiet (fail); try go_wp2)
          go_meet
          case rel => exact ⟨_, (false), xg, H', ⟨by have := HK1.out; first | omega | exact Nat.le_refl _⟩, by repeat (first | exact Drawn0.refl _ | apply Drawn0.step)⟩
       ·rw [if_neg c8] at H
        exact absurd H (by simp)
      case rest =>
       clear HC7
       try clear c1
       try clear p1
       try clear q1
       try clear hx1
       try clear p2
       try clear p3
       try clear q3
       try clear hx3
       try clear c4
       try clear c4b0
       try clear c4b1
       try clear c5
       try clear c5b0
       try clear c5b1
       try clear c5b2
       try clear c6
       try clear c6b0
       try clear c8
       try clear c8b0
       try clear p9
       try clear q9
       try clear hx9
       try clear c10
       try clear c10b0
       try clear c10b1
       try clear c11
       try clear c11b0
       try clear q12
       try clear c13
       try clear p14
       try clear q14
       try clear hx14
       try clear c15
       try clear c15b0
       try clear c15b1
       try clear p16
       try clear q16
       try clear hx16
       try clear c17
       try clear c17b0
       try clear c17b1
       try clear c18
       try clear c18b0
       try clear hx334_0
       try clear hx335_0
       try clear hx336_0
       try clear p14
       try clear p16
       try clear p2
       try clear p334
       try clear p335
       try clear p336
       try clear p9
       try clear q14
       try clear q16
       try clear q334
       try clear q335
       try clear q336
       try clear q9
       obtain ⟨kq, x50_6, rfl, HA, HJ6, ⟨mc6, rfl⟩⟩ := hcut
       cases kq with
       | zero => exact absurd HA.out (by simp [r13_Result.j1])
       | succ kj6 =>
        have H := HA.out
        clear HA
        simp only [r13_Result.j1] at H
        by_cases c19 : x50_6 = true
        ·subst c19
         rw [if_pos rfl] at H
         simp only [Option.some.injEq, Prod.mk.injEq] at H
         obtain ⟨rfl, rfl⟩ := H
         go_wp2
         repeat (go_quiet (fail); try go_wp2)
         go_ret2
         exact ⟨xg, xz⟩
        ·replace c19 := Bool.eq_false_iff.mpr c19
         subst c19
         rw [if_neg (show ¬ (false = true) by decide)] at H
         have HC20 := xy H
         clear H
         go_upto_region 12 with (fail)
         repeat (go_quiet (fail); go_upto_region 12 with (fail))
         go_cut [69] (fun v69 wc => ∃ (kq : Nat) (x69_19 : Bool), v69 = .bool x69_19 ∧ Aside0 (r13_Result.j2 kq l1 t331 t332 x8_1 x9_1 x69_19 = some (r1, r2)) ∧ Aside0 (kq ≤ kj6) ∧ Drawn0 w wc)
         case first =>
          have H := HC20.out
          clear HC20
          by_cases c21 : 0 ≤ x9_1
          ·rw [if_pos c21] at H
           have c21b0 : decide (0 ≤ x9_1) = true := decide_eq_true c21
           clear c21
           (first | rw [c21b0] | (simp only [i64_w, i32_w]; rw [c21b0]) | skip)
           by_cases c22 : x9_1 < (t331.size : Int)
           ·rw [if_pos c22] at H
            have c22b0 : decide (x9_1 < (t331.size : Int)) = true := decide_eq_true c22
            clear c22
            by_cases c24 : (bt t331 x9_1) = 97
            ·rw [if_pos c24] at H
             have c24b0 : ((bt t331 x9_1) == 97) = true := beq_iff_eq.mpr c24
             have c24b1 : ((bt t331 x9_1) != 97) = false := bne_eq_false_iff_eq.mpr c24
             clear c24
             by_cases c25 : x8_1 ≥ 0
             ·rw [if_pos c25] at H
              have c25b0 : decide (0 ≤ x8_1) = true := decide_eq_true c25
              clear c25
              by_cases c26 : x9_1 < (l1.length : Int)
              ·rw [if_pos c26] at H
               have c26b0 : decide (x9_1 < (l1.length : Int)) = true := decide_eq_true c26
               clear c26
               by_cases c27 : 0 ≤ x8_1
               ·rw [if_pos c27] at H
                have c27b0 : decide (0 ≤ x8_1) = true := decide_eq_true c27
                clear c27
                by_cases c28 : x8_1 < (l1.length : Int)
                ·rw [if_pos c28] at H
                 have c28b0 : decide (x8_1 < (l1.length : Int)) = true := decide_eq_true c28
                 clear c28
                 have H' := xy H
                 clear H
                 have p23 : 0 ≤ (x9_1 : Int) := xi
                 have q23 : x9_1 < (t331.size : Int) := xi
                 have hx23 := bt_at t331 x9_1
                 replace p23 := eq_true p23
                 replace q23 := eq_true q23
                 have p337 : 0 ≤ (x9_1 : Int) := xi
                 have q337 : x9_1 < (l1.length : Int) := xi
                 obtain ⟨ad337, e337, hx337_0⟩ := Kd.at_bool HR1.out x9_1 p337 q337
                 cases e337
                 replace p337 := eq_true p337
                 replace q337 := eq_true q337
                 have p338 : 0 ≤ (x8_1 : Int) := xi
                 have q338 : x8_1 < (l1.length : Int) := xi
                 obtain ⟨ad338, e338, hx338_0⟩ := Kd.at_bool HR1.out x8_1 p338 q338
                 obtain rfl : ad337 = ad338 := (by injection e338)
                 replace p338 := eq_true p338
                 replace q338 := eq_true q338
                 go_wp2
                 repeat (go_quiet (fail); try go_wp2)
                 go_meet
                 case rel => exact ⟨_, (((rdOf false l1 x9_1) != (rdOf false l1 x8_1))), xg, H', ⟨by have := HK1.out; have := HJ6.out; first | omega | exact Nat.le_refl _⟩, by repeat (first | exact Drawn0.refl _ | apply Drawn0.step)⟩
                ·rw [if_neg c28] at H
                 exact absurd H (by simp)
               ·rw [if_neg c27] at H
                exact absurd H (by simp)
              ·rw [if_neg c26] at H
               exact absurd H (by simp)
             ·rw [if_neg c25] at H
              have c25b0 : decide (0 ≤ x8_1) = false := decide_eq_false c25
              clear c25
              have H' := xy H
              clear H
              have p23 : 0 ≤ (x9_1 : Int) := xi
              have q23 : x9_1 < (t331.size : Int) := xi
              have hx23 := bt_at t331 x9_1
              replace p23 := eq_true p23
              replace q23 := eq_true q23
              go_wp2
              repeat (go_quiet (fail); try go_wp2)
              go_meet
              case rel => exact ⟨_, (false), xg, H', ⟨by have := HK1.out; have := HJ6.out; first | omega | exact Nat.le_refl _⟩, by repeat (first | exact Drawn0.refl _ | apply Drawn0.step)⟩
            ·rw [if_neg c24] at H
             have c24b0 : ((bt t331 x9_1) == 97) = false := beq_eq_false_iff_ne.mpr c24
             have c24b1 : ((bt t331 x9_1) != 97) = true := bne_iff_ne.mpr c24
             have H' := xy H
             clear H
             have p23 : 0 ≤ (x9_1 : Int) := xi
             have q23 : x9_1 < (t331.size : Int) := xi
             have hx23 := bt_at t331 x9_1
             replace p23 := eq_true p23
             replace q23 := eq_true q23
             go_wp2
             repeat (go_quiet (fail); try go_wp2)
             go_meet
             case rel => exact ⟨_, (false), xg, H', ⟨by have := HK1.out; have := HJ6.out; first | omega | exact Nat.le_refl _⟩, by repeat (first | exact Drawn0.refl _ | apply Drawn0.step)⟩
           ·rw [if_neg c22] at H
            exact absurd H (by simp)
          ·rw [if_neg c21] at H
           exact absurd H (by simp)
         case rest =>
          clear HC20
          try clear c1
          try clear p1
          try clear q1
          try clear hx1
          try clear c2
          try clear p2
          try clear q2
          try clear hx2
          try clear p3
          try clear q3
          try clear hx3
          try clear c4
          try clear c4b0
          try clear c4b1
          try clear c5
          try clear c5b0
          try clear c5b1
          try clear c5b2
          try clear c6
          try clear c6b0
          try clear c8
          try clear c8b0
          try clear p9
          try clear q9
          try clear hx9
          try clear c10
          try clear c10b0
          try clear c10b1
          try clear c11
          try clear c11b0
          try clear q12
          try clear c13
          try clear p14
          try clear q14
          try clear hx14
          try clear c15
          try clear c15b0
          try clear c15b1
          try clear p16
          try clear q16
          try clear hx16
          try clear c17
          try clear c17b0
          try clear c17b1
          try clear c18
          try clear c18b0
          try clear c19
          try clear c21
          try clear c21b0
          try clear c22
          try clear c22b0
          try clear p23
          try clear q23
          try clear hx23
          try clear c24
          try clear c24b0
          try clear c24b1
          try clear c25
          try clear c25b0
          try clear c26
          try clear c26b0
          try clear c27
          try clear c27b0
          try clear c28
          try clear c28b0
          try clear hx334_0
          try clear hx335_0
          try clear hx336_0
          try clear hx337_0
          try clear hx338_0
          try clear p1
          try clear p14
          try clear p16
          try clear p2
          try clear p23
          try clear p3
          try clear p334
          try clear p335
          try clear p336
          try clear p337
          try clear p338
          try clear p9
          try clear q1
          try clear q12
          try clear q14
          try clear q16
          try clear q23
          try clear q3
          try clear q334
          try clear q335
          try clear q336
          try clear q337
          try clear q338
          try clear q9
          obtain ⟨kq, x69_19, rfl, HA, HJ19, ⟨mc19, rfl⟩⟩ := hcut
          cases kq with
          | zero => exact absurd HA.out (by simp [r13_Result.j2])
          | succ kj19 =>
           have H := HA.out
           clear HA
           simp only [r13_Result.j2] at H
           by_cases c29 : x69_19 = true
           ·subst c29
            rw [if_pos rfl] at H
            simp only [Option.some.injEq, Prod.mk.injEq] at H
            obtain ⟨rfl, rfl⟩ := H
            go_wp2
            repeat (go_quiet (fail); try go_wp2)
            go_ret2
            exact ⟨xg, xz⟩
           ·replace c29 := Bool.eq_false_iff.mpr c29
            subst c29
            rw [if_neg (show ¬ (false = true) by decide)] at H
            by_cases c30 : 0 ≤ x9_1
            ·rw [if_pos c30] at H
             have c30b0 : decide (0 ≤ x9_1) = true := decide_eq_true c30
             clear c30
             by_cases c31 : x9_1 < (t331.size : Int)
             ·rw [if_pos c31] at H
              have c31b0 : decide (x9_1 < (t331.size : Int)) = true := decide_eq_true c31
              clear c31
              by_cases c33 : (bt t331 x9_1) = 97
              ·rw [if_pos c33] at H
               have c33b0 : ((bt t331 x9_1) == 97) = true := beq_iff_eq.mpr c33
               have c33b1 : ((bt t331 x9_1) != 97) = false := bne_eq_false_iff_eq.mpr c33
               clear c33
               have H' := xy H
               clear H
               have p32 : 0 ≤ (x9_1 : Int) := xi
               have q32 : x9_1 < (t331.size : Int) := xi
               have hx32 := bt_at t331 x9_1
               replace p32 := eq_true p32
               replace q32 := eq_true q32
               go_wp2
               repeat (go_quiet (fail); try go_wp2)
               go_roundg kj19
               case measure => have := HK1.out; have := HJ6.out; have := HJ19.out; omega
               case rel => exact ⟨(x9_1), (wrap64 (x9_1 + 1)), xg, xg, H', ⟨by have := HK1.out; have := HJ6.out; have := HJ19.out; omega⟩, by repeat (first | exact Drawn0.refl _ | apply Drawn0.step)⟩
              ·rw [if_neg c33] at H
               have c33b0 : ((bt t331 x9_1) == 97) = false := beq_eq_false_iff_ne.mpr c33
               have c33b1 : ((bt t331 x9_1) != 97) = true := bne_iff_ne.mpr c33
               have H' := xy H
               clear H
               have p32 : 0 ≤ (x9_1 : Int) := xi
               have q32 : x9_1 < (t331.size : Int) := xi
               have hx32 := bt_at t331 x9_1
               replace p32 := eq_true p32
               replace q32 := eq_true q32
               go_wp2
               repeat (go_quiet (fail); try go_wp2)
               go_roundg kj19
               case measure => have := HK1.out; have := HJ6.out; have := HJ19.out; omega
               case rel => exact ⟨(x8_1), (wrap64 (x9_1 + 1)), xg, xg, H', ⟨by have := HK1.out; have := HJ6.out; have := HJ19.out; omega⟩, by repeat (first | exact Drawn0.refl _ | apply Drawn0.step)⟩
             ·rw [if_neg c31] at H
              exact absurd H (by simp)
            ·rw [if_neg c30] at H
             exact absurd H (by simp)
     ·rw [if_neg c6] at H
      have c6b0 : decide (x9_1 < (t331.size : Int)) = false := decide_eq_false c6
      clear c6
      by_cases c34 : t332.toList = ([97] : List UInt8)
      ·rw [if_pos c34] at H
       have c34b0 : (t332.toList == ([97] : List UInt8)) = true := beq_iff_eq.mpr c34
       have c34b1 : (t332.toList != ([97] : List UInt8)) = false := bne_eq_false_iff_eq.mpr c34
       clear c34
       by_cases c35 : 0 ≤ x8_1
       ·rw [if_pos c35] at H
        have c35b0 : decide (0 ≤ x8_1) = true := decide_eq_true c35
        clear c35
        by_cases c36 : x8_1 < (l1.length : Int)
        ·rw [if_pos c36] at H
         have c36b0 : decide (x8_1 < (l1.length : Int)) = true := decide_eq_true c36
         clear c36
         simp only [Option.some.injEq, Prod.mk.injEq] at H
         obtain ⟨rfl, rfl⟩ := H
         have p333 : 0 ≤ (x8_1 : Int) := xi
         have q333 : x8_1 < (l1.length : Int) := xi
         obtain ⟨ad333, e333, hx333_0⟩ := Kd.at_bool HR1.out x8_1 p333 q333
         cases e333
         replace p333 := eq_true p333
         replace q333 := eq_true q333
         go_wp2
         repeat (go_quiet (fail); try go_wp2)
         go_ret2
         exact ⟨xg, xz⟩
        ·rw [if_neg c36] at H
         exact absurd H (by simp)
       ·rw [if_neg c35] at H
        exact absurd H (by simp)
      ·rw [if_neg c34] at H
       have c34b0 : (t332.toList == ([97] : List UInt8)) = false := beq_eq_false_iff_ne.mpr c34
       have c34b1 : (t332.toList != ([97] : List UInt8)) = true := bne_iff_ne.mpr c34
       simp only [Option.some.injEq, Prod.mk.injEq] at H
       obtain ⟨rfl, rfl⟩ := H
       go_wp2
       repeat (go_quiet (fail); try go_wp2)
       go_ret2
       exact ⟨xg, xz⟩
  ·rw [if_neg c5] at H
   have c5b0 : ((l1.length : Int) == (t331.size : Int)) = false := beq_eq_false_iff_ne.mpr c5
   have c5b1 : ((l1.length : Int) != (t331.size : Int)) = true := bne_iff_ne.mpr c5
   have c5b2 : (l1.length == t331.size) = false := by first | simpa using c5 | (simp at c5 ⊢; omega)
   simp only [Option.some.injEq, Prod.mk.injEq] at H
   obtain ⟨rfl, rfl⟩ := H
   go_enter Tryz.func48, Tryz.ntmps48
   go_wp2_with ((go_at_call 49; (with_reducible refine (r13_kinds.calls k a0 t331 t332 _ (Tabs.below hT xf) A3.out).mono ?_); rintro e w' ⟨rfl, ⟨nd, rfl⟩⟩; (try first | exact ⟨rfl, _, World.drewN_drewN _ _ _⟩ | exact ⟨rfl, _, Eq.trans (World.drewN_drewN _ _ _) (congrArg (World.drewN _) (Nat.add_assoc _ _ _))⟩)))
   repeat (go_quiet (fail); try go_wp2_with (fail))
   go_ret2
   exact ⟨xg, xz⟩
end Go.Proofs.YtnodgcakmolleaaGreatDoor.PX
