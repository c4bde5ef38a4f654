/- Walked functions, by this session's program over the kit's print. -/
import Derived.Test.YtnodgcakmolleaaGreatDoorPXx0
import Derived.Test.YtnodgcakmolleaaGreatDoorXResult
namespace Go.Proofs.YtnodgcakmolleaaGreatDoor.PX
open Go.RowKit Go.Proofs.YtnodgcakmolleaaGreatDoorW.PrintWords Go.Proofs.YtnodgcakmolleaaGreatDoorW.PrintLast Go.Proofs.YtnodgcakmolleaaGreatDoorW.PrintMore
attribute [local go_sem] xm_gtr max2_int min2_int max_two min_two max_three min_three max_four min_four
set_option linter.unusedVariables false
set_option linter.unusedSimpArgs false
/- Walked functions, by this session's program over the kit's print. -/
theorem eqA32 (d : Nat) (w : World) (x0 y0 : Bool) (x1 y1 : Int) (x2 y2 : ByteArray) :
  (Op.equalIn (d + 2) 32 (.agg #[.bool x0, .int .i64 x1, .string x2]) (.agg #[.bool y0, .int .i64 y1, .string y2])).run Tryz.prog w = .ok (x0 == y0 && (x1 == y1 && (x2.toList == y2.toList))) w := by
 refine eqA_of Tryz.underlying32 (by kernel_rfl) ?_
 refine eqf_cons (by rfl) (by go_simp; rfl) (by go_simp; rfl) (by go_simp) ?_
 refine eqf_cons (by rfl) (by go_simp; rfl) (by go_simp; rfl) (by go_simp) ?_
 exact eqf_last (by rfl) (by go_simp; rfl) (by go_simp; rfl) (by go_simp)
/- Walked functions, by this session's program over the kit's print. -/
mutual
def r01_Few.l0 : Nat → List (List ByteArray) → Int → Int → Int → Int → Option (Bool)
 | 0, _, _, _, _, _ => none
 | k + 1, x0, x1, x2, x7, x8 => if x8 < (x0.length : Int) then (r01_Few.l1 k x0 x1 x2 x7 x8 0) else (some (decide ((x0.length : Int) ≤ x1)))
def r01_Few.l1 : Nat → List (List ByteArray) → Int → Int → Int → Int → Int → Option (Bool)
 | 0, _, _, _, _, _, _ => none
 | k + 1, x0, x1, x2, x7, x8, x9 => if 0 ≤ x8 then (if x8 < (x0.length : Int) then (if x9 < ((rd_L1 x0 x8).length : Int) then (if 0 ≤ x9 then (if (wrap64 ((wrap64 (x7 + 1)) + ((rdOf ByteArray.empty (rd_L1 x0 x8) x9).size : Int))) > x2 then (some false) else (r01_Few.l1 k x0 x1 x2 (wrap64 ((wrap64 (x7 + 1)) + ((rdOf ByteArray.empty (rd_L1 x0 x8) x9).size : Int))) x8 (wrap64 (x9 + 1)))) else (none)) else (r01_Few.l0 k x0 x1 x2 x7 (wrap64 (x8 + 1)))) else (none)) else (none)
end
def r01_Few.f (k : Nat) (l0 : List (List ByteArray)) (a1 : Int) (a2 : Int) : Option (Bool) := r01_Few.l0 k l0 a1 a2 0 0
theorem r01_Few.mono_l : ∀ k, (∀ y0 y1 y2 y3 y4, LeO (r01_Few.l0 k y0 y1 y2 y3 y4) (r01_Few.l0 (k + 1) y0 y1 y2 y3 y4)) ∧ (∀ y0 y1 y2 y3 y4 y5, LeO (r01_Few.l1 k y0 y1 y2 y3 y4 y5) (r01_Few.l1 (k + 1) y0 y1 y2 y3 y4 y5))
 | 0 => ⟨fun _ _ _ _ _ r h => by simp [r01_Few.l0] at h, fun _ _ _ _ _ _ r h => by simp [r01_Few.l1] at h⟩
 | k + 1 => by
  obtain ⟨ih0, ih1⟩ := r01_Few.mono_l k
  refine ⟨?_, ?_⟩
  ·intro y0 y1 y2 y3 y4
   unfold r01_Few.l0
   repeat' (with_reducible first | exact ih0 _ _ _ _ _ | exact ih1 _ _ _ _ _ _ | exact LeO.refl _ | exact LeO.none _ | refine LeO.ite ?_ ?_ | refine LeO.bind ?_ (fun _ => ?_))
  ·intro y0 y1 y2 y3 y4 y5
   unfold r01_Few.l1
   repeat' (with_reducible first | exact ih0 _ _ _ _ _ | exact ih1 _ _ _ _ _ _ | exact LeO.refl _ | exact LeO.none _ | refine LeO.ite ?_ ?_ | refine LeO.bind ?_ (fun _ => ?_))
theorem r01_Few.mono : ∀ a0 a1 a2 k, LeO (r01_Few.f k a0 a1 a2) (r01_Few.f (k + 1) a0 a1 a2) := by
 intro a0 a1 a2 k
 obtain ⟨ih0, ih1⟩ := r01_Few.mono_l k
 unfold r01_Few.f
 repeat' (with_reducible first | exact ih0 _ _ _ _ _ | exact ih1 _ _ _ _ _ _ | exact LeO.refl _ | exact LeO.none _ | refine LeO.ite ?_ ?_ | refine LeO.bind ?_ (fun _ => ?_))
set_option maxHeartbeats 8000000 in
set_option maxRecDepth 100000 in
theorem r01_Few.calls (k : Nat) (A0 : Option Addr) (c0 : Nat) (l0 : List (List ByteArray)) (a1 : Int) (a2 : Int) (r : Bool) (w : World) (hT : Tabs w) (hr0 : Kd.C (Kd.slice 9 Kd.string) w A0 l0.length l0) (hc0 : l0.length ≤ c0) (h : r01_Few.f k l0 a1 a2 = some r) :
  Calls Tryz.prog 16 #[.slice A0 l0.length c0, .int .i64 a1, .int .i64 a2] w fun e w' => e = .returned (.bool r) ∧ Drawn0 w w' := by
 have HR0 := xy hr0
 have HC0 := xy hc0
 clear hr0 hc0
 unfold r01_Few.f at h
 have H := h
 clear h
 have H' := xy H
 clear H
 go_enter Tryz.func16, Tryz.ntmps16
 go_wp2
 go_loopg [7, 8] k (fun kq v7 v8 w' => ∃ (x7_1 : Int) (x8_1 : Int), v7 = .int .i64 x7_1 ∧ v8 = .int .i64 x8_1 ∧ Aside0 (r01_Few.l0 kq l0 a1 a2 x7_1 x8_1 = some r) ∧ Aside0 (kq ≤ k) ∧ Drawn0 w w')
 case atStart => exact ⟨(0), (0), xg, xg, H', ⟨Nat.le_refl _⟩, by repeat (first | exact Drawn0.refl _ | apply Drawn0.step)⟩
 case round =>
  clear H'
  try clear c1
  try clear p2
  obtain ⟨x7_1, x8_1, rfl, rfl, HA, HK1, ⟨m1, rfl⟩⟩ := hrel
  cases gk with
  | zero => exact absurd HA.out (by simp [r01_Few.l0])
  | succ k1 =>
   have H := HA.out
   clear HA
   simp only [r01_Few.l0] at H
   by_cases c4 : x8_1 < (l0.length : Int)
   ·rw [if_pos c4] at H
    have c4b0 : decide (x8_1 < (l0.length : Int)) = true := decide_eq_true c4
    clear c4
    have H' := xy H
    clear H
    go_wp2
    go_loopg [7, 9] k1 (fun kq v7 v9 w' => ∃ (x7_2 : Int) (x9_2 : Int), v7 = .int .i64 x7_2 ∧ v9 = .int .i64 x9_2 ∧ Aside0 (r01_Few.l1 kq l0 a1 a2 x7_2 x8_1 x9_2 = some r) ∧ Aside0 (kq ≤ k1) ∧ Drawn0 w w')
    case atStart => exact ⟨(x7_1), (0), xg, xg, H', ⟨Nat.le_refl _⟩, by repeat (first | exact Drawn0.refl _ | apply Drawn0.step)⟩
    case round =>
     clear H'
     try clear c1
     try clear p2
     try clear c4
     try clear c4b0
     try clear p2
     obtain ⟨x7_2, x9_2, rfl, rfl, HA, HK2, ⟨m2, rfl⟩⟩ := hrel
     cases gk with
     | zero => exact absurd HA.out (by simp [r01_Few.l1])
     | succ k2 =>
      have H := HA.out
      clear HA
      simp only [r01_Few.l1] at H
      by_cases c5 : 0 ≤ x8_1
      ·rw [if_pos c5] at H
       have c5b0 : decide (0 ≤ x8_1) = true := decide_eq_true c5
       clear c5
       by_cases c6 : x8_1 < (l0.length : Int)
       ·rw [if_pos c6] at H
        have c6b0 : decide (x8_1 < (l0.length : Int)) = true := decide_eq_true c6
        clear c6
        by_cases c7 : x9_2 < ((rd_L1 l0 x8_1).length : Int)
        ·rw [if_pos c7] at H
         have c7b0 : decide (x9_2 < ((rd_L1 l0 x8_1).length : Int)) = true := decide_eq_true c7
         clear c7
         by_cases c8 : 0 ≤ x9_2
         ·rw [if_pos c8] at H
          have c8b0 : decide (0 ≤ x9_2) = true := decide_eq_true c8
          clear c8
          by_cases c9 : (wrap64 ((wrap64 (x7_2 + 1)) + ((rdOf ByteArray.empty (rd_L1 l0 x8_1) x9_2).size : Int))) > a2
          ·rw [if_pos c9] at H
           have c9b0 : decide (a2 < (wrap64 ((wrap64 (x7_2 + 1)) + ((rdOf ByteArray.empty (rd_L1 l0 x8_1) x9_2).size : Int)))) = true := decide_eq_true c9
           clear c9
           obtain rfl := Option.some.inj H
           have p101 : 0 ≤ (x8_1 : Int) := xi
           have q101 : x8_1 < (l0.length : Int) := xi
           obtain ⟨ad101, A101_0, c101_0, e101, hx101_0, hl101_0, hi101_0⟩ := at_L1 HR0.out x8_1 p101 q101
           cases e101
           have HR101_0 := xy hi101_0
           have HC101_0 := xy hl101_0
           clear hi101_0 hl101_0
           replace p101 := eq_true p101
           replace q101 := eq_true q101
           have p102 : 0 ≤ (x8_1 : Int) := xi
           have q102 : x8_1 < (l0.length : Int) := xi
           obtain ⟨ad102, A102_0, c102_0, e102, hx102_0, hl102_0, hi102_0⟩ := at_L1 HR0.out x8_1 p102 q102
           obtain rfl : ad101 = ad102 := (by injection e102)
           have HR102_0 := xy hi102_0
           have HC102_0 := xy hl102_0
           clear hi102_0 hl102_0
           replace p102 := eq_true p102
           replace q102 := eq_true q102
           have ea_ := Option.some.inj (hx101_0.symm.trans hx102_0)
           injection ea_ with ea_ en_ ec_
           subst ea_
           subst ec_
           clear en_
           have p103 : 0 ≤ (x9_2 : Int) := xi
           have q103 : x9_2 < ((rd_L1 l0 x8_1).length : Int) := xi
           obtain ⟨ad103, e103, hx103_0⟩ := Kd.at_string HR102_0.out x9_2 p103 q103
           cases e103
           replace p103 := eq_true p103
           replace q103 := eq_true q103
           go_wp2
           go_ret
           exact ⟨xg, xz⟩
          ·rw [if_neg c9] at H
           have c9b0 : decide (a2 < (wrap64 ((wrap64 (x7_2 + 1)) + ((rdOf ByteArray.empty (rd_L1 l0 x8_1) x9_2).size : Int)))) = false := decide_eq_false c9
           clear c9
           have H' := xy H
           clear H
           have p101 : 0 ≤ (x8_1 : Int) := xi
           have q101 : x8_1 < (l0.length : Int) := xi
           obtain ⟨ad101, A101_0, c101_0, e101, hx101_0, hl101_0, hi101_0⟩ := at_L1 HR0.out x8_1 p101 q101
           cases e101
           have HR101_0 := xy hi101_0
           have HC101_0 := xy hl101_0
           clear hi101_0 hl101_0
           replace p101 := eq_true p101
           replace q101 := eq_true q101
           have p102 : 0 ≤ (x8_1 : Int) := xi
           have q102 : x8_1 < (l0.length : Int) := xi
           obtain ⟨ad102, A102_0, c102_0, e102, hx102_0, hl102_0, hi102_0⟩ := at_L1 HR0.out x8_1 p102 q102
           obtain rfl : ad101 = ad102 := (by injection e102)
           have HR102_0 := xy hi102_0
           have HC102_0 := xy hl102_0
           clear hi102_0 hl102_0
           replace p102 := eq_true p102
           replace q102 := eq_true q102
           have ea_ := Option.some.inj (hx101_0.symm.trans hx102_0)
           injection ea_ with ea_ en_ ec_
           subst ea_
           subst ec_
           clear en_
           have p103 : 0 ≤ (x9_2 : Int) := xi
           have q103 : x9_2 < ((rd_L1 l0 x8_1).length : Int) := xi
           obtain ⟨ad103, e103, hx103_0⟩ := Kd.at_string HR102_0.out x9_2 p103 q103
           cases e103
           replace p103 := eq_true p103
           replace q103 := eq_true q103
           go_wp2
           go_roundg k2
           case measure => have := HK1.out; have := HK2.out; omega
           case rel => exact ⟨(wrap64 ((wrap64 (x7_2 + 1)) + ((rdOf ByteArray.empty (rd_L1 l0 x8_1) x9_2).size : Int))), (wrap64 (x9_2 + 1)), xg, xg, H', ⟨by have := HK1.out; have := HK2.out; omega⟩, by repeat (first | exact Drawn0.refl _ | apply Drawn0.step)⟩
         ·rw [if_neg c8] at H
          exact absurd H (by simp)
        ·rw [if_neg c7] at H
         have c7b0 : decide (x9_2 < ((rd_L1 l0 x8_1).length : Int)) = false := decide_eq_false c7
         clear c7
         have H' := xy H
         clear H
         have p101 : 0 ≤ (x8_1 : Int) := xi
         have q101 : x8_1 < (l0.length : Int) := xi
         obtain ⟨ad101, A101_0, c101_0, e101, hx101_0, hl101_0, hi101_0⟩ := at_L1 HR0.out x8_1 p101 q101
         cases e101
         have HR101_0 := xy hi101_0
         have HC101_0 := xy hl101_0
         clear hi101_0 hl101_0
         replace p101 := eq_true p101
         replace q101 := eq_true q101
         go_wp2
         go_roundg k2
         case measure => have := HK1.out; have := HK2.out; omega
         case rel => exact ⟨(x7_2), (wrap64 (x8_1 + 1)), xg, xg, H', ⟨by have := HK1.out; have := HK2.out; omega⟩, by repeat (first | exact Drawn0.refl _ | apply Drawn0.step)⟩
       ·rw [if_neg c6] at H
        exact absurd H (by simp)
      ·rw [if_neg c5] at H
       exact absurd H (by simp)
   ·rw [if_neg c4] at H
    have c4b0 : decide (x8_1 < (l0.length : Int)) = false := decide_eq_false c4
    clear c4
    obtain rfl := Option.some.inj H
    go_wp2
    go_ret
    exact ⟨xg, xz⟩
def w16_small.l0 : Nat → List (S44) → List ByteArray → Int → Option (Bool)
 | 0, _, _, _ => none
 | k + 1, x0, x1, x5 => if x5 < (x0.length : Int) then (if x5 = 250 then (some false) else (if 0 ≤ x5 then (if (((rd_T44 x0 x5).f2).size : Int) > 1100 then (some false) else (w16_small.l0 k x0 x1 (wrap64 (x5 + 1)))) else (none))) else ((r01_Few.f k (([x1] : List (List ByteArray))) 1 4000).bind fun t108 => (some t108))
def w16_small.f (k : Nat) (l0 : List (S44)) (l1 : List ByteArray) : Option (Bool) := w16_small.l0 k l0 l1 0
theorem w16_small.mono_l : ∀ k, (∀ y0 y1 y2, LeO (w16_small.l0 k y0 y1 y2) (w16_small.l0 (k + 1) y0 y1 y2))
 | 0 => fun _ _ _ r h => by simp [w16_small.l0] at h
 | k + 1 => by
  have ih0 := w16_small.mono_l k
  ·intro y0 y1 y2
   unfold w16_small.l0
   repeat' (with_reducible first | exact ih0 _ _ _ | exact r01_Few.mono _ _ _ _ | exact LeO.refl _ | exact LeO.none _ | refine LeO.ite ?_ ?_ | refine LeO.bind ?_ (fun _ => ?_))
theorem w16_small.mono : ∀ a0 a1 k, LeO (w16_small.f k a0 a1) (w16_small.f (k + 1) a0 a1) := by
 intro a0 a1 k
 have ih0 := w16_small.mono_l k
 unfold w16_small.f
 repeat' (with_reducible first | exact ih0 _ _ _ | exact r01_Few.mono _ _ _ _ | exact LeO.refl _ | exact LeO.none _ | refine LeO.ite ?_ ?_ | refine LeO.bind ?_ (fun _ => ?_))
set_option maxHeartbeats 8000000 in
set_option maxRecDepth 100000 in
theorem w16_small.calls (k : Nat) (A0 : Option Addr) (c0 : Nat) (l0 : List (S44)) (P1_ : Nat → Prop) (A1 : Option Addr) (c1 : Nat) (l1 : List ByteArray) (r : Bool) (w : World) (hT : Tabs w) (hr0 : Kd.C k44 w A0 l0.length l0) (hc0 : l0.length ≤ c0) (hs1 : Kd.V Kd.string 9 w w.heap.size (fun k_ => P1_ k_) (.slice A1 l1.length c1) l1) (h : w16_small.f k l0 l1 = some r) :
  Calls Tryz.prog 5 #[.slice A0 l0.length c0, .slice A1 l1.length c1] w fun e w' => e = .returned (.bool r) ∧ Below w.heap.size w w' := by
 have HR0 := xy hr0
 have HC0 := xy hc0
 clear hr0 hc0
 have HO1 := xy (show Kd.V Kd.string 9 w w.heap.size (fun k_ => (P1_ k_ ∨ w.heap.size ≤ k_)) (.slice A1 l1.length c1) l1 from Kd.V_mono hs1 (fun k_ hk => .inl hk))
 have HB := xy (Below.refl w.heap.size w)
 unfold w16_small.f at h
 have H := h
 clear h
 have H' := xy H
 clear H
 go_enter Tryz.func5, Tryz.ntmps5
 go_wp2
 go_loopg [5] k (fun kq v5 w' => ∃ (x5_1 : Int), v5 = .int .i64 x5_1 ∧ Aside0 (w16_small.l0 kq l0 l1 x5_1 = some r) ∧ Aside0 (kq ≤ k) ∧ Aside0 (Kd.V Kd.string 9 w' w.heap.size (fun k_ => (P1_ k_ ∨ w.heap.size ≤ k_)) (.slice A1 l1.length c1) l1) ∧ Aside0 (Below w.heap.size w w'))
 case atStart => exact ⟨(0), xg, H', ⟨Nat.le_refl _⟩, ⟨by (with_reducible repeat (first | apply Kd.V_alloc | apply Kd.V_drewN | apply Kd.V_drew)); exact HO1.out⟩, ⟨xb⟩⟩
 case round =>
  clear H'
  try clear c1
  try clear p2
  obtain ⟨x5_1, rfl, HA, HK1, HO_1, HB⟩ := hrel
  cases gk with
  | zero => exact absurd HA.out (by simp [w16_small.l0])
  | succ k1 =>
   have H := HA.out
   clear HA
   simp only [w16_small.l0] at H
   by_cases c3 : x5_1 < (l0.length : Int)
   ·rw [if_pos c3] at H
    have c3b0 : decide (x5_1 < (l0.length : Int)) = true := decide_eq_true c3
    clear c3
    by_cases c4 : x5_1 = 250
    ·rw [if_pos c4] at H
     have c4b0 : (x5_1 == 250) = true := beq_iff_eq.mpr c4
     have c4b1 : (x5_1 != 250) = false := bne_eq_false_iff_eq.mpr c4
     clear c4
     obtain rfl := Option.some.inj H
     go_wp2
     go_ret
     exact ⟨xe, xb⟩
    ·rw [if_neg c4] at H
     have c4b0 : (x5_1 == 250) = false := beq_eq_false_iff_ne.mpr c4
     have c4b1 : (x5_1 != 250) = true := bne_iff_ne.mpr c4
     by_cases c5 : 0 ≤ x5_1
     ·rw [if_pos c5] at H
      have c5b0 : decide (0 ≤ x5_1) = true := decide_eq_true c5
      clear c5
      by_cases c6 : (((rd_T44 l0 x5_1).f2).size : Int) > 1100
      ·rw [if_pos c6] at H
       have c6b0 : decide (1100 < (((rd_T44 l0 x5_1).f2).size : Int)) = true := decide_eq_true c6
       have c6b1 : decide (1100 < ((rd_T44 l0 x5_1).f2).size) = true := decide_eq_true (by omega)
       clear c6
       obtain rfl := Option.some.inj H
       have p104 : 0 ≤ (x5_1 : Int) := xi
       have q104 : x5_1 < (l0.length : Int) := xi
       obtain ⟨ad104, e104, hx104_0, hx104_1, hx104_2⟩ := at_T44 HR0.out x5_1 p104 q104
       cases e104
       replace hx104_0 := (HB.out.cell (World.block_lt_of_cell? w _ hx104_0)).trans hx104_0
       replace hx104_1 := (HB.out.cell (World.block_lt_of_cell? w _ hx104_1)).trans hx104_1
       replace hx104_2 := (HB.out.cell (World.block_lt_of_cell? w _ hx104_2)).trans hx104_2
       replace p104 := eq_true p104
       replace q104 := eq_true q104
       go_wp2
       go_ret
       exact ⟨xe, xb⟩
      ·rw [if_neg c6] at H
       have c6b0 : decide (1100 < (((rd_T44 l0 x5_1).f2).size : Int)) = false := decide_eq_false c6
       have c6b1 : decide (1100 < ((rd_T44 l0 x5_1).f2).size) = false := decide_eq_false (by omega)
       clear c6
       have H' := xy H
       clear H
       have p104 : 0 ≤ (x5_1 : Int) := xi
       have q104 : x5_1 < (l0.length : Int) := xi
       obtain ⟨ad104, e104, hx104_0, hx104_1, hx104_2⟩ := at_T44 HR0.out x5_1 p104 q104
       cases e104
       replace hx104_0 := (HB.out.cell (World.block_lt_of_cell? w _ hx104_0)).trans hx104_0
       replace hx104_1 := (HB.out.cell (World.block_lt_of_cell? w _ hx104_1)).trans hx104_1
       replace hx104_2 := (HB.out.cell (World.block_lt_of_cell? w _ hx104_2)).trans hx104_2
       replace p104 := eq_true p104
       replace q104 := eq_true q104
       go_wp2
       go_roundg k1
       case measure => have := HK1.out; omega
       case rel => exact ⟨(wrap64 (x5_1 + 1)), xg, H', ⟨by have := HK1.out; omega⟩, ⟨by (with_reducible repeat (first | apply Kd.V_alloc | apply Kd.V_drewN | apply Kd.V_drew)); exact HO_1.out⟩, ⟨xb⟩⟩
     ·rw [if_neg c5] at H
      exact absurd H (by simp)
   ·rw [if_neg c3] at H
    have c3b0 : decide (x5_1 < (l0.length : Int)) = false := decide_eq_false c3
    clear c3
    obtain ⟨y105, hy105⟩ : ∃ y_ : List (List ByteArray), y_ = (([l1] : List (List ByteArray))) := ⟨_, rfl⟩
    replace H : ((r01_Few.f k1 y105 1 4000).bind fun t108 => (some t108)) = some r := by first | (rw [hy105]; with_reducible exact H) | (have H2_ := (Option.bind_some _ _).symm.trans H; rw [hy105]; with_reducible exact H2_) | (have H2_ := (Option.bind_some _ _).symm.trans H; with_reducible exact H2_) | with_reducible exact H | (rw [hy105]; exact H) | exact H
    have Ny105 := xy hy105
    clear hy105
    replace H := xj H
    obtain ⟨t108, A70, H⟩ := H
    try dsimp only at H
    have A7 := xy A70
    clear A70
    obtain rfl := Option.some.inj H
    go_wp2_with (first | ((with_reducible refine gate_dst (N := 24) rfl ?_); (try (refine gate_guard (by rfl) ?_; dsimp only)); refine Kd.N_lit (Kd.slice 9 Kd.string) _ 24 ?hg (N' := 24) ?hd (xs := ([l1] : List (List ByteArray))) (inner := [.slice A1 l1.length c1]) (ok := (fun k_ => (P1_ k_ ∨ w.heap.size ≤ k_))) (okp := (fun k_ => (P1_ k_ ∨ w.heap.size ≤ k_))) ?hr ?hp (fun _ hk => hk) ((show ∀ k_, wr.heap.size ≤ k_ → (fun k_ => (P1_ k_ ∨ w.heap.size ≤ k_)) k_ from fun k_ hk => (.inr (Nat.le_trans (below_size xb) hk))) _ (Nat.le_refl _)) (Below.refl _ _) (Nat.le_refl _) (by simp) ?_; (case hd => rfl); (case hg => rfl); (case hr => exact xh); (case hp => exact (Reps.one (show Kd.FK (Kd.slice 9 Kd.string) _ _ l1 [.slice A1 l1.length c1] from (Kd.FK_slice_mk (Kd.V_reads' (Kd.V_mono (ok' := (fun k_ => (P1_ k_ ∨ w.heap.size ≤ k_))) (HO_1.out) (fun k_ hk => hk))).2.1 (Kd.V_F (Kd.V_mono (ok' := (fun k_ => (P1_ k_ ∨ w.heap.size ≤ k_))) (HO_1.out) (fun k_ hk => hk))))) (Reps.none _ _))); intro v106 w8 ho9 hb hg_ hnew_; clear hg_ hnew_; (first | rw [← Ny105.out] at ho9 | (simp only [Int.reduceToNat] at ho9; rw [← Ny105.out] at ho9)); replace HO_1 := xy (Kd.V_elder' (by (with_reducible repeat (first | apply Kd.V_alloc | apply Kd.V_drewN | apply Kd.V_drew)); exact HO_1.out) (Kd.N_base ho9) hb); have HO107 := xy (Kd.N_lower ho9 (below_size xb)); replace HB := xy (below_step xb hb); clear hb ho9; obtain ⟨Ao10, co10, eo10⟩ := Kd.N_slice HO107.out; subst eo10) | ((with_reducible refine gate_callee (f := 16) rfl ?_); refine goesL_ (some 25) rfl rfl Tryz.func16 (by kernel_rfl) rfl #[.slice Ao10 y105.length co10, .int .i64 1, .int .i64 4000] rfl xr ?_; (with_reducible refine (r01_Few.calls k1 _ _ y105 1 4000 t108 _ (Tabs.below hT xf) ?side1 ?side2 A7.out).mono ?_); (case side1 => repeat (first | exact (Kd.N_reads' HO107.out).2.2 | (with_reducible refine Kd.C_alloc ?_ _) | (with_reducible refine Kd.C_drewN ?_ _) | (with_reducible refine Kd.C_drew ?_))); (case side2 => exact (Kd.N_reads' HO107.out).2.1); rintro e w' ⟨rfl, ⟨nd, rfl⟩⟩; refine ⟨_, rfl, ?_⟩))
    go_ret
    exact ⟨xe, xb⟩
def value_Arity.f (a0 : Int) : Option (Int) := some (XOps.arityF a0)
theorem value_Arity.calls (a0 : Int) (r : Int) (w : World) (hT : Tabs w) (h : value_Arity.f a0 = some r) :
  Calls Tryz.prog 40 #[.int .i64 a0] w fun e w' => e = .returned (.int .i64 r) ∧ Below w.heap.size w w' := by
 obtain rfl := Option.some.inj h
 exact XOps.arity_calls a0 w
def code_isOp.f (a0 : Int) : Option (Bool) := if a0 ≥ 0 then (if a0 ≤ 3 then (some true) else (if a0 = 22 then (some true) else (if a0 = 23 then (some true) else ((value_Arity.f a0).bind fun t109 => (some (decide (t109 > 0))))))) else (if a0 = 22 then (some true) else (if a0 = 23 then (some true) else ((value_Arity.f a0).bind fun t110 => (some (decide (t110 > 0))))))
set_option maxHeartbeats 8000000 in
set_option maxRecDepth 100000 in
theorem code_isOp.calls (a0 : Int) (r : Bool) (w : World) (hT : Tabs w) (h : code_isOp.f a0 = some r) :
  Calls Tryz.prog 53 #[.int .i64 a0] w fun e w' => e = .returned (.bool r) ∧ Below w.heap.size w w' := by
 have HB := xy (Below.refl w.heap.size w)
 unfold code_isOp.f at h
 have H := h
 clear h
 by_cases c2 : a0 ≥ 0
 ·rw [if_pos c2] at H
  have c2b0 : decide (0 ≤ a0) = true := decide_eq_true c2
  clear c2
  by_cases c3 : a0 ≤ 3
  ·rw [if_pos c3] at H
   have c3b0 : decide (a0 ≤ 3) = true := decide_eq_true c3
   clear c3
   obtain rfl := Option.some.inj H
   go_enter Tryz.func53, Tryz.ntmps53
   go_wp2
   go_ret
   exact ⟨xe, xb⟩
  ·rw [if_neg c3] at H
   have c3b0 : decide (a0 ≤ 3) = false := decide_eq_false c3
   clear c3
   by_cases c4 : a0 = 22
   ·rw [if_pos c4] at H
    have c4b0 : (a0 == 22) = true := beq_iff_eq.mpr c4
    have c4b1 : (a0 != 22) = false := bne_eq_false_iff_eq.mpr c4
    clear c4
    obtain rfl := Option.some.inj H
    go_enter Tryz.func53, Tryz.ntmps53
    go_wp2
    go_ret
    exact ⟨xe, xb⟩
   ·rw [if_neg c4] at H
    have c4b0 : (a0 == 22) = false := beq_eq_false_iff_ne.mpr c4
    have c4b1 : (a0 != 22) = true := bne_iff_ne.mpr c4
    by_cases c5 : a0 = 23
    ·rw [if_pos c5] at H
     have c5b0 : (a0 == 23) = true := beq_iff_eq.mpr c5
     have c5b1 : (a0 != 23) = false := bne_eq_false_iff_eq.mpr c5
     clear c5
     obtain rfl := Option.some.inj H
     go_enter Tryz.func53, Tryz.ntmps53
     go_wp2
     go_ret
     exact ⟨xe, xb⟩
    ·rw [if_neg c5] at H
     have c5b0 : (a0 == 23) = false := beq_eq_false_iff_ne.mpr c5
     have c5b1 : (a0 != 23) = true := bne_iff_ne.mpr c5
     replace H := xj H
     obtain ⟨t109, A60, H⟩ := H
     try dsimp only at H
     have A6 := xy A60
     clear A60
     obtain rfl := Option.some.inj H
     go_enter Tryz.func53, Tryz.ntmps53
     go_wp2_with ((go_at_call 40; (with_reducible refine (value_Arity.calls a0 t109 _ (Tabs.below hT xf) A6.out).mono ?_); rintro e w7 ⟨rfl, hb⟩; replace HB := xy (below_step xb hb); (try clear hb); (try clear hb2); (try clear hk); (try clear hi)))
     go_ret
     exact ⟨xe, xb⟩
 ·rw [if_neg c2] at H
  have c2b0 : decide (0 ≤ a0) = false := decide_eq_false c2
  clear c2
  by_cases c8 : a0 = 22
  ·rw [if_pos c8] at H
   have c8b0 : (a0 == 22) = true := beq_iff_eq.mpr c8
   have c8b1 : (a0 != 22) = false := bne_eq_false_iff_eq.mpr c8
   clear c8
   obtain rfl := Option.some.inj H
   go_enter Tryz.func53, Tryz.ntmps53
   go_wp2
   go_ret
   exact ⟨xe, xb⟩
  ·rw [if_neg c8] at H
   have c8b0 : (a0 == 22) = false := beq_eq_false_iff_ne.mpr c8
   have c8b1 : (a0 != 22) = true := bne_iff_ne.mpr c8
   by_cases c9 : a0 = 23
   ·rw [if_pos c9] at H
    have c9b0 : (a0 == 23) = true := beq_iff_eq.mpr c9
    have c9b1 : (a0 != 23) = false := bne_eq_false_iff_eq.mpr c9
    clear c9
    obtain rfl := Option.some.inj H
    go_enter Tryz.func53, Tryz.ntmps53
    go_wp2
    go_ret
    exact ⟨xe, xb⟩
   ·rw [if_neg c9] at H
    have c9b0 : (a0 == 23) = false := beq_eq_false_iff_ne.mpr c9
    have c9b1 : (a0 != 23) = true := bne_iff_ne.mpr c9
    replace H := xj H
    obtain ⟨t110, A100, H⟩ := H
    try dsimp only at H
    have A10 := xy A100
    clear A100
    obtain rfl := Option.some.inj H
    go_enter Tryz.func53, Tryz.ntmps53
    go_wp2_with ((go_at_call 40; (with_reducible refine (value_Arity.calls a0 t110 _ (Tabs.below hT xf) A10.out).mono ?_); rintro e w11 ⟨rfl, hb⟩; replace HB := xy (below_step xb hb); (try clear hb); (try clear hb2); (try clear hk); (try clear hi)))
    go_ret
    exact ⟨xe, xb⟩
end Go.Proofs.YtnodgcakmolleaaGreatDoor.PX
