/- Walked functions, by this session's program over the kit's print. -/
import Derived.Test.YtialoecplmnjfaaGreatDoorPXx0
import Derived.Test.YtialoecplmnjfaaGreatDoorPXx3
import Derived.Test.YtialoecplmnjfaaGreatDoorXA
namespace Go.Proofs.YtialoecplmnjfaaGreatDoor.PX
open Go.RowKit Go.Proofs.YtialoecplmnjfaaGreatDoorW.PrintWords Go.Proofs.YtialoecplmnjfaaGreatDoorW.PrintLast Go.Proofs.YtialoecplmnjfaaGreatDoorW.PrintMore
attribute [local go_sem] xm_gtr max2_int min2_int max_two min_two max_three min_three max_four min_four
set_option linter.unusedVariables false
set_option linter.unusedSimpArgs false
/- Walked functions, by this session's program over the kit's print. -/
mutual
def mapper_Parts.j0 : Nat → List (S55) → Bool → Bool → List (S50) → List (S50) → List (S50) → Int → List (S50) → Bool → Int → ByteArray → Bool → Int → Bool → Bool → Int → Option ((List (List (S55))))
 | 0, _, _, _, _, _, _, _, _, _, _, _, _, _, _, _, _ => none
 | k + 1, x1, x16, x112000, x112001, x112002, x112003, x112004, x112005, x112006, x112007, x112008, x112009, x112010, x112011, x112012, x112013 => if x16 = true then (some ([] : List (List (S55)))) else (if 0 ≤ x112010 then (if (x112010 : Int).toNat ≤ 11728124029610 then (mapper_Parts.l0 k (List.replicate (x112010 : Int).toNat []) x1 (x1.length : Int) 0 x112000 x112001 x112002 x112003 x112004 x112005 x112006 x112007 x112008 x112009 x112010 x112011 x112012 x112013) else (none)) else (none))
def mapper_Parts.l0 : Nat → List (List (S55)) → List (S55) → Int → Int → Bool → List (S50) → List (S50) → List (S50) → Int → List (S50) → Bool → Int → ByteArray → Bool → Int → Bool → Bool → Int → Option ((List (List (S55))))
 | 0, _, _, _, _, _, _, _, _, _, _, _, _, _, _, _, _, _, _ => none
 | k + 1, x5, x20, x21, x22, x112000, x112001, x112002, x112003, x112004, x112005, x112006, x112007, x112008, x112009, x112010, x112011, x112012, x112013 => if x22 < x21 then (if 0 ≤ x22 then (if x22 < (x20.length : Int) then ((job_Part.f k x112000 x112001 x112002 x112003 x112004 x112005 x112006 x112007 x112008 x112009 x112010 x112011 x112012 x112013 ((rd_T55 x20 x22).f0)).bind fun t117 => (if 0 ≤ t117 then (if t117 < (x5.length : Int) then (if (rd_L6 x5 t117).length < 2932031007402 then (mapper_Parts.l0 k (x5.set (t117 : Int).toNat ((rd_L6 x5 t117) ++ [(⟨(rd_T55 x20 x22).f0, (⟨(rd_T55 x20 x22).f1.f0, (rd_T55 x20 x22).f1.f1, (rd_T55 x20 x22).f1.f2⟩ : S24)⟩ : S55)])) x20 x21 (wrap64 (x22 + 1)) x112000 x112001 x112002 x112003 x112004 x112005 x112006 x112007 x112008 x112009 x112010 x112011 x112012 x112013) else (none)) else (none)) else (none))) else (none)) else (none)) else (some x5)
end
def mapper_Parts.f (k : Nat) (a0_0 : Bool) (l0_1 : List (S50)) (l0_2 : List (S50)) (l0_3 : List (S50)) (a0_4 : Int) (l0_5 : List (S50)) (a0_6 : Bool) (a0_7 : Int) (a0_8 : ByteArray) (a0_9 : Bool) (a0_10 : Int) (a0_11 : Bool) (a0_12 : Bool) (a0_13 : Int) (l1 : List (S55)) : Option ((List (List (S55)))) := if a0_10 < 1 then (mapper_Parts.j0 k l1 true a0_0 l0_1 l0_2 l0_3 a0_4 l0_5 a0_6 a0_7 a0_8 a0_9 a0_10 a0_11 a0_12 a0_13) else (mapper_Parts.j0 k l1 (decide (a0_10 > 8)) a0_0 l0_1 l0_2 l0_3 a0_4 l0_5 a0_6 a0_7 a0_8 a0_9 a0_10 a0_11 a0_12 a0_13)
theorem mapper_Parts.mono_l : ∀ k, (∀ y0 y1 y2 y3 y4 y5 y6 y7 y8 y9 y10 y11 y12 y13 y14 y15, LeO (mapper_Parts.j0 k y0 y1 y2 y3 y4 y5 y6 y7 y8 y9 y10 y11 y12 y13 y14 y15) (mapper_Parts.j0 (k + 1) y0 y1 y2 y3 y4 y5 y6 y7 y8 y9 y10 y11 y12 y13 y14 y15)) ∧ (∀ y0 y1 y2 y3 y4 y5 y6 y7 y8 y9 y10 y11 y12 y13 y14 y15 y16 y17, LeO (mapper_Parts.l0 k y0 y1 y2 y3 y4 y5 y6 y7 y8 y9 y10 y11 y12 y13 y14 y15 y16 y17) (mapper_Parts.l0 (k + 1) y0 y1 y2 y3 y4 y5 y6 y7 y8 y9 y10 y11 y12 y13 y14 y15 y16 y17))
 | 0 => ⟨fun _ _ _ _ _ _ _ _ _ _ _ _ _ _ _ _ r h => by simp [mapper_Parts.j0] at h, fun _ _ _ _ _ _ _ _ _ _ _ _ _ _ _ _ _ _ r h => by simp [mapper_Parts.l0] at h⟩
 | k + 1 => by
  obtain ⟨ih0, ih1⟩ := mapper_Parts.mono_l k
  refine ⟨?_, ?_⟩
  ·intro y0 y1 y2 y3 y4 y5 y6 y7 y8 y9 y10 y11 y12 y13 y14 y15
   unfold mapper_Parts.j0
   repeat' (with_reducible first | exact ih0 _ _ _ _ _ _ _ _ _ _ _ _ _ _ _ _ | exact ih1 _ _ _ _ _ _ _ _ _ _ _ _ _ _ _ _ _ _ | exact job_Part.mono _ _ _ _ _ _ _ _ _ _ _ _ _ _ _ _ | exact LeO.refl _ | exact LeO.none _ | refine LeO.ite ?_ ?_ | refine LeO.bind ?_ (fun _ => ?_))
  ·intro y0 y1 y2 y3 y4 y5 y6 y7 y8 y9 y10 y11 y12 y13 y14 y15 y16 y17
   unfold mapper_Parts.l0
   repeat' (with_reducible first | exact ih0 _ _ _ _ _ _ _ _ _ _ _ _ _ _ _ _ | exact ih1 _ _ _ _ _ _ _ _ _ _ _ _ _ _ _ _ _ _ | exact job_Part.mono _ _ _ _ _ _ _ _ _ _ _ _ _ _ _ _ | exact LeO.refl _ | exact LeO.none _ | refine LeO.ite ?_ ?_ | refine LeO.bind ?_ (fun _ => ?_))
theorem mapper_Parts.mono : ∀ a0 a1 a2 a3 a4 a5 a6 a7 a8 a9 a10 a11 a12 a13 a14 k, LeO (mapper_Parts.f k a0 a1 a2 a3 a4 a5 a6 a7 a8 a9 a10 a11 a12 a13 a14) (mapper_Parts.f (k + 1) a0 a1 a2 a3 a4 a5 a6 a7 a8 a9 a10 a11 a12 a13 a14) := by
 intro a0 a1 a2 a3 a4 a5 a6 a7 a8 a9 a10 a11 a12 a13 a14 k
 obtain ⟨ih0, ih1⟩ := mapper_Parts.mono_l k
 unfold mapper_Parts.f
 repeat' (with_reducible first | exact ih0 _ _ _ _ _ _ _ _ _ _ _ _ _ _ _ _ | exact ih1 _ _ _ _ _ _ _ _ _ _ _ _ _ _ _ _ _ _ | exact job_Part.mono _ _ _ _ _ _ _ _ _ _ _ _ _ _ _ _ | exact LeO.refl _ | exact LeO.none _ | refine LeO.ite ?_ ?_ | refine LeO.bind ?_ (fun _ => ?_))
def mapper_Parts.T8 : Bool × List (List Nat × List Nat) := (true, [([], []), ([], []), ([], []), ([], []), ([2, 3], [2, 3]), ([4], [4]), ([], []), ([6], [6]), ([5, 7], [5, 7]), ([0, 1, 0, 1, 2, 3, 4, 5, 6, 7, 8], [0, 1]), ([9, 8, 8, 0, 1, 2, 3, 4, 5, 6, 7, 8], [8, 9])])
def mapper_Parts.B8 : List Nat := [0, 0, 0, 0, 12, 28, 0, 64, 252, 511, 1023]
theorem mapper_Parts.tab8 : rtab .any (opsOf Tryz.f8 8) = mapper_Parts.T8 := by kernel_rfl
theorem mapper_Parts.bits8 : waitsOk mapper_Parts.T8.2 mapper_Parts.B8 = true := by kernel_rfl
set_option maxHeartbeats 8000000 in
set_option maxRecDepth 100000 in
theorem mapper_Parts.calls (k : Nat) (a0_0 : Bool) (A0_1 : Option Addr) (c0_1 : Nat) (l0_1 : List (S50)) (A0_2 : Option Addr) (c0_2 : Nat) (l0_2 : List (S50)) (A0_3 : Option Addr) (c0_3 : Nat) (l0_3 : List (S50)) (a0_4 : Int) (A0_5 : Option Addr) (c0_5 : Nat) (l0_5 : List (S50)) (a0_6 : Bool) (a0_7 : Int) (a0_8 : ByteArray) (a0_9 : Bool) (a0_10 : Int) (a0_11 : Bool) (a0_12 : Bool) (a0_13 : Int) (A1 : Option Addr) (c1 : Nat) (l1 : List (S55)) (r : List (List (S55))) (w : World) (hT : Tabs w) (hr0_1 : Kd.C k50 w A0_1 l0_1.length l0_1) (hc0_1 : l0_1.length ≤ c0_1) (hr0_2 : Kd.C k50 w A0_2 l0_2.length l0_2) (hc0_2 : l0_2.length ≤ c0_2) (hr0_3 : Kd.C k50 w A0_3 l0_3.length l0_3) (hc0_3 : l0_3.length ≤ c0_3) (hr0_5 : Kd.C k50 w A0_5 l0_5.length l0_5) (hc0_5 : l0_5.length ≤ c0_5) (hr1 : Kd.C k55 w A1 l1.length l1) (hc1 : l1.length ≤ c1) (h : mapper_Parts.f k a0_0 l0_1 l0_2 l0_3 a0_4 l0_5 a0_6 a0_7 a0_8 a0_9 a0_10 a0_11 a0_12 a0_13 l1 = some r) :
  Calls Tryz.prog 8 #[.agg #[.bool a0_0, .slice A0_1 l0_1.length c0_1, .slice A0_2 l0_2.length c0_2, .slice A0_3 l0_3.length c0_3, .int .i64 a0_4, .slice A0_5 l0_5.length c0_5, .bool a0_6, .int .i64 a0_7, .string a0_8, .bool a0_9, .int .i64 a0_10, .bool a0_11, .bool a0_12, .int .i64 a0_13], .slice A1 l1.length c1] w fun e w' => ∃ v0_ : Value, e = .returned (v0_) ∧ Kd.S (Kd.slice 55 k55) 27 w' w.heap.size (fun _ => True) v0_ r ∧ Below w.heap.size w w' := by
 have hu26 := Tryz.underlying26
 have hu55 := Tryz.underlying55
 have HR0_1 := xy hr0_1
 have HC0_1 := xy hc0_1
 clear hr0_1 hc0_1
 have HR0_2 := xy hr0_2
 have HC0_2 := xy hc0_2
 clear hr0_2 hc0_2
 have HR0_3 := xy hr0_3
 have HC0_3 := xy hc0_3
 clear hr0_3 hc0_3
 have HR0_5 := xy hr0_5
 have HC0_5 := xy hc0_5
 clear hr0_5 hc0_5
 have HR1 := xy hr1
 have HC1 := xy hc1
 clear hr1 hc1
 have HB := xy (Below.refl w.heap.size w)
 unfold mapper_Parts.f at h
 have H := h
 clear h
 have HC3 := xy H
 clear H
 go_enter Tryz.func8, Tryz.ntmps8
 go_upto_region 1 with (first | ((with_reducible refine gate_dst (N := 2) rfl ?_); refine xq (N := 2) (cs := #[.bool a0_0, .slice A0_1 l0_1.length c0_1, .slice A0_2 l0_2.length c0_2, .slice A0_3 l0_3.length c0_3, .int .i64 a0_4, .slice A0_5 l0_5.length c0_5, .bool a0_6, .int .i64 a0_7, .string a0_8, .bool a0_9, .int .i64 a0_10, .bool a0_11, .bool a0_12, .int .i64 a0_13]) (t := 26) ?_; intro gb111 hg w4 hbox hb; have BK111 := xy (hbox); have GW111 := xs w hg; have GE111 := xs w hg; replace HB := xy (below_step xb hb); clear hb hbox hg))
 (try simp only [Act.put, List.setIfInBounds_toArray, List.set_cons_zero, List.set_cons_succ])
 go_cut [16] (fun v16 wc => ∃ (kq : Nat) (x16_2 : Bool), v16 = .bool x16_2 ∧ Aside0 (mapper_Parts.j0 kq l1 x16_2 a0_0 l0_1 l0_2 l0_3 a0_4 l0_5 a0_6 a0_7 a0_8 a0_9 a0_10 a0_11 a0_12 a0_13 = some r) ∧ Aside0 (kq ≤ k) ∧ Aside0 (wc.heap[gb111]? = some (.cells #[.bool a0_0, (.slice A0_1 l0_1.length c0_1), (.slice A0_2 l0_2.length c0_2), (.slice A0_3 l0_3.length c0_3), .int .i64 a0_4, (.slice A0_5 l0_5.length c0_5), .bool a0_6, .int .i64 a0_7, .string a0_8, .bool a0_9, .int .i64 a0_10, .bool a0_11, .bool a0_12, .int .i64 a0_13] 26 (0, 0))) ∧ Aside0 (Below w.heap.size w wc))
 case first =>
  have H := HC3.out
  clear HC3
  by_cases c5 : a0_10 < 1
  ·rw [if_pos c5] at H
   have c5b0 : decide (a0_10 < 1) = true := decide_eq_true c5
   clear c5
   (first | rw [c5b0] | (simp only [i64_w, i32_w]; rw [c5b0]) | skip)
   have H' := xy H
   clear H
   have hcz6_0 : w4.cell? ⟨gb111, 0, none⟩ = some (.bool a0_0) := (kc BK111.out 0).trans rfl
   have hcz6_1 : w4.cell? ⟨gb111, 1, none⟩ = some (.slice A0_1 l0_1.length c0_1) := (kc BK111.out 1).trans rfl
   have hcz6_2 : w4.cell? ⟨gb111, 2, none⟩ = some (.slice A0_2 l0_2.length c0_2) := (kc BK111.out 2).trans rfl
   have hcz6_3 : w4.cell? ⟨gb111, 3, none⟩ = some (.slice A0_3 l0_3.length c0_3) := (kc BK111.out 3).trans rfl
   have hcz6_4 : w4.cell? ⟨gb111, 4, none⟩ = some (.int .i64 a0_4) := (kc BK111.out 4).trans rfl
   have hcz6_5 : w4.cell? ⟨gb111, 5, none⟩ = some (.slice A0_5 l0_5.length c0_5) := (kc BK111.out 5).trans rfl
   have hcz6_6 : w4.cell? ⟨gb111, 6, none⟩ = some (.bool a0_6) := (kc BK111.out 6).trans rfl
   have hcz6_7 : w4.cell? ⟨gb111, 7, none⟩ = some (.int .i64 a0_7) := (kc BK111.out 7).trans rfl
   have hcz6_8 : w4.cell? ⟨gb111, 8, none⟩ = some (.string a0_8) := (kc BK111.out 8).trans rfl
   have hcz6_9 : w4.cell? ⟨gb111, 9, none⟩ = some (.bool a0_9) := (kc BK111.out 9).trans rfl
   have hcz6_10 : w4.cell? ⟨gb111, 10, none⟩ = some (.int .i64 a0_10) := (kc BK111.out 10).trans rfl
   have hcz6_11 : w4.cell? ⟨gb111, 11, none⟩ = some (.bool a0_11) := (kc BK111.out 11).trans rfl
   have hcz6_12 : w4.cell? ⟨gb111, 12, none⟩ = some (.bool a0_12) := (kc BK111.out 12).trans rfl
   have hcz6_13 : w4.cell? ⟨gb111, 13, none⟩ = some (.int .i64 a0_13) := (kc BK111.out 13).trans rfl
   have hfz6_0 := kf BK111.out 0
   have hfz6_1 := kf BK111.out 1
   have hfz6_2 := kf BK111.out 2
   have hfz6_3 := kf BK111.out 3
   have hfz6_4 := kf BK111.out 4
   have hfz6_5 := kf BK111.out 5
   have hfz6_6 := kf BK111.out 6
   have hfz6_7 := kf BK111.out 7
   have hfz6_8 := kf BK111.out 8
   have hfz6_9 := kf BK111.out 9
   have hfz6_10 := kf BK111.out 10
   have hfz6_11 := kf BK111.out 11
   have hfz6_12 := kf BK111.out 12
   have hfz6_13 := kf BK111.out 13
   go_wp2
   go_meet
   case rel => exact ⟨_, (true), xg, H', ⟨by first | omega | exact Nat.le_refl _⟩, ⟨by (with_reducible repeat (first | refine blk_drewN ?_ _ | refine blk_drew ?_ | refine blk_alloc ?_ _)); exact BK111.out⟩, ⟨xb⟩⟩
  ·rw [if_neg c5] at H
   have c5b0 : decide (a0_10 < 1) = false := decide_eq_false c5
   clear c5
   (first | rw [c5b0] | (simp only [i64_w, i32_w]; rw [c5b0]) | skip)
   have H' := xy H
   clear H
   have hcz7_0 : w4.cell? ⟨gb111, 0, none⟩ = some (.bool a0_0) := (kc BK111.out 0).trans rfl
   have hcz7_1 : w4.cell? ⟨gb111, 1, none⟩ = some (.slice A0_1 l0_1.length c0_1) := (kc BK111.out 1).trans rfl
   have hcz7_2 : w4.cell? ⟨gb111, 2, none⟩ = some (.slice A0_2 l0_2.length c0_2) := (kc BK111.out 2).trans rfl
   have hcz7_3 : w4.cell? ⟨gb111, 3, none⟩ = some (.slice A0_3 l0_3.length c0_3) := (kc BK111.out 3).trans rfl
   have hcz7_4 : w4.cell? ⟨gb111, 4, none⟩ = some (.int .i64 a0_4) := (kc BK111.out 4).trans rfl
   have hcz7_5 : w4.cell? ⟨gb111, 5, none⟩ = some (.slice A0_5 l0_5.length c0_5) := (kc BK111.out 5).trans rfl
   have hcz7_6 : w4.cell? ⟨gb111, 6, none⟩ = some (.bool a0_6) := (kc BK111.out 6).trans rfl
   have hcz7_7 : w4.cell? ⟨gb111, 7, none⟩ = some (.int .i64 a0_7) := (kc BK111.out 7).trans rfl
   have hcz7_8 : w4.cell? ⟨gb111, 8, none⟩ = some (.string a0_8) := (kc BK111.out 8).trans rfl
   have hcz7_9 : w4.cell? ⟨gb111, 9, none⟩ = some (.bool a0_9) := (kc BK111.out 9).trans rfl
   have hcz7_10 : w4.cell? ⟨gb111, 10, none⟩ = some (.int .i64 a0_10) := (kc BK111.out 10).trans rfl
   have hcz7_11 : w4.cell? ⟨gb111, 11, none⟩ = some (.bool a0_11) := (kc BK111.out 11).trans rfl
   have hcz7_12 : w4.cell? ⟨gb111, 12, none⟩ = some (.bool a0_12) := (kc BK111.out 12).trans rfl
   have hcz7_13 : w4.cell? ⟨gb111, 13, none⟩ = some (.int .i64 a0_13) := (kc BK111.out 13).trans rfl
   have hfz7_0 := kf BK111.out 0
   have hfz7_1 := kf BK111.out 1
   have hfz7_2 := kf BK111.out 2
   have hfz7_3 := kf BK111.out 3
   have hfz7_4 := kf BK111.out 4
   have hfz7_5 := kf BK111.out 5
   have hfz7_6 := kf BK111.out 6
   have hfz7_7 := kf BK111.out 7
   have hfz7_8 := kf BK111.out 8
   have hfz7_9 := kf BK111.out 9
   have hfz7_10 := kf BK111.out 10
   have hfz7_11 := kf BK111.out 11
   have hfz7_12 := kf BK111.out 12
   have hfz7_13 := kf BK111.out 13
   go_wp2
   go_meet
   case rel => exact ⟨_, (decide (a0_10 > 8)), xg, H', ⟨by first | omega | exact Nat.le_refl _⟩, ⟨by (with_reducible repeat (first | refine blk_drewN ?_ _ | refine blk_drew ?_ | refine blk_alloc ?_ _)); exact BK111.out⟩, ⟨xb⟩⟩
 case rest =>
  clear HC3
  try clear c1
  try clear p2
  try clear c5
  try clear c5b0
  try clear hcz6_0
  try clear hcz6_1
  try clear hcz6_10
  try clear hcz6_11
  try clear hcz6_12
  try clear hcz6_13
  try clear hcz6_2
  try clear hcz6_3
  try clear hcz6_4
  try clear hcz6_5
  try clear hcz6_6
  try clear hcz6_7
  try clear hcz6_8
  try clear hcz6_9
  try clear hcz7_0
  try clear hcz7_1
  try clear hcz7_10
  try clear hcz7_11
  try clear hcz7_12
  try clear hcz7_13
  try clear hcz7_2
  try clear hcz7_3
  try clear hcz7_4
  try clear hcz7_5
  try clear hcz7_6
  try clear hcz7_7
  try clear hcz7_8
  try clear hcz7_9
  try clear hfz6_0
  try clear hfz6_1
  try clear hfz6_10
  try clear hfz6_11
  try clear hfz6_12
  try clear hfz6_13
  try clear hfz6_2
  try clear hfz6_3
  try clear hfz6_4
  try clear hfz6_5
  try clear hfz6_6
  try clear hfz6_7
  try clear hfz6_8
  try clear hfz6_9
  try clear hfz7_0
  try clear hfz7_1
  try clear hfz7_10
  try clear hfz7_11
  try clear hfz7_12
  try clear hfz7_13
  try clear hfz7_2
  try clear hfz7_3
  try clear hfz7_4
  try clear hfz7_5
  try clear hfz7_6
  try clear hfz7_7
  try clear hfz7_8
  try clear hfz7_9
  obtain ⟨kq, x16_2, rfl, HA, HJ2, BK111, HB⟩ := hcut
  cases kq with
  | zero => exact absurd HA.out (by simp [mapper_Parts.j0])
  | succ kj2 =>
   have H := HA.out
   clear HA
   simp only [mapper_Parts.j0] at H
   by_cases c8 : x16_2 = true
   ·subst c8
    rw [if_pos rfl] at H
    obtain rfl := Option.some.inj H
    go_wp2
    go_ret
    exact ⟨_, by first | rfl | (simp [errW_none, errW_some] <;> rfl) | (simp [*, errW_none, errW_some] <;> rfl), by first | exact Kd.S_nil _ _ _ _ _ | exact Kd.N_nil _ _ _ _ _ | exact Kd.V_nil _ _ _ _ _ | exact Kd.Q_nil _ _ _ _ _ | exact Kd.R_nil _ _ _ _ _, xb⟩
   ·replace c8 := Bool.eq_false_iff.mpr c8
    subst c8
    rw [if_neg (show ¬ (false = true) by decide)] at H
    by_cases c9 : 0 ≤ a0_10
    ·rw [if_pos c9] at H
     have c9b0 := eq_true c9
     have c9b1 : decide (0 ≤ a0_10) = true := decide_eq_true c9
     clear c9
     by_cases c10 : (a0_10 : Int).toNat ≤ 11728124029610
     ·rw [if_pos c10] at H
      have c10b0 := eq_true c10
      have c10b1 : decide ((a0_10 : Int).toNat ≤ 11728124029610) = true := decide_eq_true c10
      clear c10
      obtain ⟨y112, hy112⟩ : ∃ y_ : List (List (S55)), y_ = (List.replicate (a0_10 : Int).toNat []) := ⟨_, rfl⟩
      replace H : (mapper_Parts.l0 kj2 y112 l1 (l1.length : Int) 0 a0_0 l0_1 l0_2 l0_3 a0_4 l0_5 a0_6 a0_7 a0_8 a0_9 a0_10 a0_11 a0_12 a0_13) = some r := by first | (rw [hy112]; with_reducible exact H) | (have H2_ := (Option.bind_some _ _).symm.trans H; rw [hy112]; with_reducible exact H2_) | (have H2_ := (Option.bind_some _ _).symm.trans H; with_reducible exact H2_) | with_reducible exact H | (rw [hy112]; exact H) | exact H
      have Ny112 := xy hy112
      clear hy112
      have H' := xy H
      clear H
      have hcz11_0 : wc.cell? ⟨gb111, 0, none⟩ = some (.bool a0_0) := (kc BK111.out 0).trans rfl
      have hcz11_1 : wc.cell? ⟨gb111, 1, none⟩ = some (.slice A0_1 l0_1.length c0_1) := (kc BK111.out 1).trans rfl
      have hcz11_2 : wc.cell? ⟨gb111, 2, none⟩ = some (.slice A0_2 l0_2.length c0_2) := (kc BK111.out 2).trans rfl
      have hcz11_3 : wc.cell? ⟨gb111, 3, none⟩ = some (.slice A0_3 l0_3.length c0_3) := (kc BK111.out 3).trans rfl
      have hcz11_4 : wc.cell? ⟨gb111, 4, none⟩ = some (.int .i64 a0_4) := (kc BK111.out 4).trans rfl
      have hcz11_5 : wc.cell? ⟨gb111, 5, none⟩ = some (.slice A0_5 l0_5.length c0_5) := (kc BK111.out 5).trans rfl
      have hcz11_6 : wc.cell? ⟨gb111, 6, none⟩ = some (.bool a0_6) := (kc BK111.out 6).trans rfl
      have hcz11_7 : wc.cell? ⟨gb111, 7, none⟩ = some (.int .i64 a0_7) := (kc BK111.out 7).trans rfl
      have hcz11_8 : wc.cell? ⟨gb111, 8, none⟩ = some (.string a0_8) := (kc BK111.out 8).trans rfl
      have hcz11_9 : wc.cell? ⟨gb111, 9, none⟩ = some (.bool a0_9) := (kc BK111.out 9).trans rfl
      have hcz11_10 : wc.cell? ⟨gb111, 10, none⟩ = some (.int .i64 a0_10) := (kc BK111.out 10).trans rfl
      have hcz11_11 : wc.cell? ⟨gb111, 11, none⟩ = some (.bool a0_11) := (kc BK111.out 11).trans rfl
      have hcz11_12 : wc.cell? ⟨gb111, 12, none⟩ = some (.bool a0_12) := (kc BK111.out 12).trans rfl
      have hcz11_13 : wc.cell? ⟨gb111, 13, none⟩ = some (.int .i64 a0_13) := (kc BK111.out 13).trans rfl
      have hfz11_0 := kf BK111.out 0
      have hfz11_1 := kf BK111.out 1
      have hfz11_2 := kf BK111.out 2
      have hfz11_3 := kf BK111.out 3
      have hfz11_4 := kf BK111.out 4
      have hfz11_5 := kf BK111.out 5
      have hfz11_6 := kf BK111.out 6
      have hfz11_7 := kf BK111.out 7
      have hfz11_8 := kf BK111.out 8
      have hfz11_9 := kf BK111.out 9
      have hfz11_10 := kf BK111.out 10
      have hfz11_11 := kf BK111.out 11
      have hfz11_12 := kf BK111.out 12
      have hfz11_13 := kf BK111.out 13
      go_wp2_with (first | ((with_reducible refine gate_dst (N := 19) rfl ?_); refine Kd.S_make (Kd.slice 55 k55) _ 27 rfl (N := 19) rfl 31 _ _ rfl a0_10 rfl rfl Tryz.underlying31 (.slice none 0 0) 24 info27 rfl (by decide) (by omega) [] (ok := fun _ => True) (okp := fun _ => True) ⟨_, rfl, Kd.R_nil _ _ _ _ _⟩ (fun _ hk => hk) trivial xi (Nat.le_trans (Nat.mul_le_mul_right _ (xi : a0_10.toNat ≤ 11728124029610)) (by omega)) (Below.refl _ _) (Nat.le_refl _) ?_; intro v113 w12 ho13 hb hg_ hnew_; clear hg_ hnew_; (first | rw [← Ny112.out] at ho13 | (simp only [Int.reduceToNat] at ho13; rw [← Ny112.out] at ho13)); have HO114 := xy (Kd.S_lower ho13 (below_size xb)); replace BK111 := xd BK111.out hb; replace HB := xy (below_step xb hb); clear hb ho13))
      go_loopg [22] kj2 (fun kq v22 w' => ∃ (x5_2 : List (List (S55))) (x22_2 : Int), v22 = .int .i64 x22_2 ∧ Aside0 (mapper_Parts.l0 kq x5_2 l1 (l1.length : Int) x22_2 a0_0 l0_1 l0_2 l0_3 a0_4 l0_5 a0_6 a0_7 a0_8 a0_9 a0_10 a0_11 a0_12 a0_13 = some r) ∧ Aside0 (kq ≤ kj2) ∧ Aside0 (Kd.S (Kd.slice 55 k55) 27 w' w.heap.size (fun _ => True) v113 x5_2) ∧ Aside0 (w'.heap[gb111]? = some (.cells #[.bool a0_0, (.slice A0_1 l0_1.length c0_1), (.slice A0_2 l0_2.length c0_2), (.slice A0_3 l0_3.length c0_3), .int .i64 a0_4, (.slice A0_5 l0_5.length c0_5), .bool a0_6, .int .i64 a0_7, .string a0_8, .bool a0_9, .int .i64 a0_10, .bool a0_11, .bool a0_12, .int .i64 a0_13] 26 (0, 0))) ∧ Aside0 (Below w.heap.size w w'))
      case atStart => exact ⟨(y112), (0), xg, H', ⟨Nat.le_refl _⟩, ⟨by (with_reducible repeat (first | apply Kd.S_alloc | apply Kd.S_drewN | apply Kd.S_drew)); exact HO114.out⟩, ⟨by (with_reducible repeat (first | refine blk_drewN ?_ _ | refine blk_drew ?_ | refine blk_alloc ?_ _)); exact BK111.out⟩, ⟨xb⟩⟩
      case round =>
       clear H'
       try clear c1
       try clear p2
       try clear c5
       try clear c5b0
       try clear c8
       try clear c9
       try clear c9b0
       try clear c9b1
       try clear c10
       try clear c10b0
       try clear c10b1
       try clear hcz11_0
       try clear hcz11_1
       try clear hcz11_10
       try clear hcz11_11
       try clear hcz11_12
       try clear hcz11_13
       try clear hcz11_2
       try clear hcz11_3
       try clear hcz11_4
       try clear hcz11_5
       try clear hcz11_6
       try clear hcz11_7
       try clear hcz11_8
       try clear hcz11_9
       try clear hcz6_0
       try clear hcz6_1
       try clear hcz6_10
       try clear hcz6_11
       try clear hcz6_12
       try clear hcz6_13
       try clear hcz6_2
       try clear hcz6_3
       try clear hcz6_4
       try clear hcz6_5
       try clear hcz6_6
       try clear hcz6_7
       try clear hcz6_8
       try clear hcz6_9
       try clear hcz7_0
       try clear hcz7_1
       try clear hcz7_10
       try clear hcz7_11
       try clear hcz7_12
       try clear hcz7_13
       try clear hcz7_2
       try clear hcz7_3
       try clear hcz7_4
       try clear hcz7_5
       try clear hcz7_6
       try clear hcz7_7
       try clear hcz7_8
       try clear hcz7_9
       try clear hfz11_0
       try clear hfz11_1
       try clear hfz11_10
       try clear hfz11_11
       try clear hfz11_12
       try clear hfz11_13
       try clear hfz11_2
       try clear hfz11_3
       try clear hfz11_4
       try clear hfz11_5
       try clear hfz11_6
       try clear hfz11_7
       try clear hfz11_8
       try clear hfz11_9
       try clear hfz6_0
       try clear hfz6_1
       try clear hfz6_10
       try clear hfz6_11
       try clear hfz6_12
       try clear hfz6_13
       try clear hfz6_2
       try clear hfz6_3
       try clear hfz6_4
       try clear hfz6_5
       try clear hfz6_6
       try clear hfz6_7
       try clear hfz6_8
       try clear hfz6_9
       try clear hfz7_0
       try clear hfz7_1
       try clear hfz7_10
       try clear hfz7_11
       try clear hfz7_12
       try clear hfz7_13
       try clear hfz7_2
       try clear hfz7_3
       try clear hfz7_4
       try clear hfz7_5
       try clear hfz7_6
       try clear hfz7_7
       try clear hfz7_8
       try clear hfz7_9
       try clear p2
       obtain ⟨x5_2, x22_2, rfl, HA, HK2, HO_5, BK111, HB⟩ := hrel
       cases gk with
       | zero => exact absurd HA.out (by simp [mapper_Parts.l0])
       | succ k2 =>
        have H := HA.out
        clear HA
        simp only [mapper_Parts.l0] at H
        by_cases c14 : x22_2 < (l1.length : Int)
        ·rw [if_pos c14] at H
         have c14b0 : decide (x22_2 < (l1.length : Int)) = true := decide_eq_true c14
         clear c14
         by_cases c15 : 0 ≤ x22_2
         ·rw [if_pos c15] at H
          have c15b0 : decide (0 ≤ x22_2) = true := decide_eq_true c15
          clear c15
          by_cases c16 : x22_2 < (l1.length : Int)
          ·rw [if_pos c16] at H
           have c16b0 : decide (x22_2 < (l1.length : Int)) = true := decide_eq_true c16
           clear c16
           replace H := xj H
           obtain ⟨t117, A170, H⟩ := H
           try dsimp only at H
           have A17 := xy A170
           clear A170
           by_cases c18 : 0 ≤ t117
           ·rw [if_pos c18] at H
            have c18b0 : decide (0 ≤ t117) = true := decide_eq_true c18
            clear c18
            by_cases c19 : t117 < (x5_2.length : Int)
            ·rw [if_pos c19] at H
             have c19b0 : decide (t117 < (x5_2.length : Int)) = true := decide_eq_true c19
             clear c19
             by_cases c20 : (rd_L6 x5_2 t117).length < 2932031007402
             ·rw [if_pos c20] at H
              have LMc20 := xy c20
              clear c20
              obtain ⟨y119, hy119⟩ : ∃ y_ : List (S55), y_ = ((rd_L6 x5_2 t117) ++ [(⟨(rd_T55 l1 x22_2).f0, (⟨(rd_T55 l1 x22_2).f1.f0, (rd_T55 l1 x22_2).f1.f1, (rd_T55 l1 x22_2).f1.f2⟩ : S24)⟩ : S55)]) := ⟨_, rfl⟩
              replace H : (mapper_Parts.l0 k2 (x5_2.set (t117 : Int).toNat y119) l1 (l1.length : Int) (wrap64 (x22_2 + 1)) a0_0 l0_1 l0_2 l0_3 a0_4 l0_5 a0_6 a0_7 a0_8 a0_9 a0_10 a0_11 a0_12 a0_13) = some r := by first | (rw [hy119]; with_reducible exact H) | (have H2_ := (Option.bind_some _ _).symm.trans H; rw [hy119]; with_reducible exact H2_) | (have H2_ := (Option.bind_some _ _).symm.trans H; with_reducible exact H2_) | with_reducible exact H | (rw [hy119]; exact H) | exact H
              have Ny119 := xy hy119
              clear hy119
              obtain ⟨y122, hy122⟩ : ∃ y_ : List (List (S55)), y_ = (x5_2.set (t117 : Int).toNat y119) := ⟨_, rfl⟩
              replace H : (mapper_Parts.l0 k2 y122 l1 (l1.length : Int) (wrap64 (x22_2 + 1)) a0_0 l0_1 l0_2 l0_3 a0_4 l0_5 a0_6 a0_7 a0_8 a0_9 a0_10 a0_11 a0_12 a0_13) = some r := by first | (rw [hy122]; with_reducible exact H) | (have H2_ := (Option.bind_some _ _).symm.trans H; rw [hy122]; with_reducible exact H2_) | (have H2_ := (Option.bind_some _ _).symm.trans H; with_reducible exact H2_) | with_reducible exact H | (rw [hy122]; exact H) | exact H
              have Ny122 := xy hy122
              clear hy122
              have H' := xy H
              clear H
              have p115 : 0 ≤ (x22_2 : Int) := xi
              have q115 : x22_2 < (l1.length : Int) := xi
              obtain ⟨ad115, e115, hx115_0, hx115_1, hx115_2, hx115_3⟩ := at_T55 HR1.out x22_2 p115 q115
              cases e115
              replace hx115_0 := (HB.out.cell (World.block_lt_of_cell? w _ hx115_0)).trans hx115_0
              replace hx115_1 := (HB.out.cell (World.block_lt_of_cell? w _ hx115_1)).trans hx115_1
              replace hx115_2 := (HB.out.cell (World.block_lt_of_cell? w _ hx115_2)).trans hx115_2
              replace hx115_3 := (HB.out.cell (World.block_lt_of_cell? w _ hx115_3)).trans hx115_3
              replace p115 := eq_true p115
              replace q115 := eq_true q115
              try go_wp2_with (first | ((with_reducible refine gate_dst (N := 7) rfl ?_); refine xq (N := 7) (cs := #[.string (⟨#[]⟩ : ByteArray), .bool false, .int .i64 0, .string (⟨#[]⟩ : ByteArray)]) (t := 55) ?_; intro gb116 hg w22 hbox hb; replace HO_5 := xy (Kd.S_below (Kd.S_elderB (by (with_reducible repeat (first | apply Kd.S_alloc | apply Kd.S_drewN | apply Kd.S_drew)); exact HO_5.out) gb116 (Nat.le_of_eq hg.symm)) hb); have BK116 := xy (hbox); have GW116 := xs w hg; have GE116 := xs w hg; replace HB := xy (below_step xb hb); have NB111_116 := xn hg BK111.out; have NB116_111 := xp hg BK111.out; replace BK111 := xd BK111.out hb; clear hb hbox hg; have hnb23 := NB116_111.out; have hnc23 := NB111_116.out; have hcz24_0 : w22.cell? ⟨gb116, 0, none⟩ = some (.string (⟨#[]⟩ : ByteArray)) := (kc BK116.out 0).trans rfl; have hcz24_1 : w22.cell? ⟨gb116, 1, none⟩ = some (.bool false) := (kc BK116.out 1).trans rfl; have hcz24_2 : w22.cell? ⟨gb116, 2, none⟩ = some (.int .i64 0) := (kc BK116.out 2).trans rfl; have hcz24_3 : w22.cell? ⟨gb116, 3, none⟩ = some (.string (⟨#[]⟩ : ByteArray)) := (kc BK116.out 3).trans rfl; have hfz24_0 := kf BK116.out 0; have hfz24_1 := kf BK116.out 1; have hfz24_2 := kf BK116.out 2; have hfz24_3 := kf BK116.out 3; have hcz25_0 : w22.cell? ⟨gb111, 0, none⟩ = some (.bool a0_0) := (kc BK111.out 0).trans rfl; have hcz25_1 : w22.cell? ⟨gb111, 1, none⟩ = some (.slice A0_1 l0_1.length c0_1) := (kc BK111.out 1).trans rfl; have hcz25_2 : w22.cell? ⟨gb111, 2, none⟩ = some (.slice A0_2 l0_2.length c0_2) := (kc BK111.out 2).trans rfl; have hcz25_3 : w22.cell? ⟨gb111, 3, none⟩ = some (.slice A0_3 l0_3.length c0_3) := (kc BK111.out 3).trans rfl; have hcz25_4 : w22.cell? ⟨gb111, 4, none⟩ = some (.int .i64 a0_4) := (kc BK111.out 4).trans rfl; have hcz25_5 : w22.cell? ⟨gb111, 5, none⟩ = some (.slice A0_5 l0_5.length c0_5) := (kc BK111.out 5).trans rfl; have hcz25_6 : w22.cell? ⟨gb111, 6, none⟩ = some (.bool a0_6) := (kc BK111.out 6).trans rfl; have hcz25_7 : w22.cell? ⟨gb111, 7, none⟩ = some (.int .i64 a0_7) := (kc BK111.out 7).trans rfl; have hcz25_8 : w22.cell? ⟨gb111, 8, none⟩ = some (.string a0_8) := (kc BK111.out 8).trans rfl; have hcz25_9 : w22.cell? ⟨gb111, 9, none⟩ = some (.bool a0_9) := (kc BK111.out 9).trans rfl; have hcz25_10 : w22.cell? ⟨gb111, 10, none⟩ = some (.int .i64 a0_10) := (kc BK111.out 10).trans rfl; have hcz25_11 : w22.cell? ⟨gb111, 11, none⟩ = some (.bool a0_11) := (kc BK111.out 11).trans rfl; have hcz25_12 : w22.cell? ⟨gb111, 12, none⟩ = some (.bool a0_12) := (kc BK111.out 12).trans rfl; have hcz25_13 : w22.cell? ⟨gb111, 13, none⟩ = some (.int .i64 a0_13) := (kc BK111.out 13).trans rfl; have hfz25_0 := kf BK111.out 0; have hfz25_1 := kf BK111.out 1; have hfz25_2 := kf BK111.out 2; have hfz25_3 := kf BK111.out 3; have hfz25_4 := kf BK111.out 4; have hfz25_5 := kf BK111.out 5; have hfz25_6 := kf BK111.out 6; have hfz25_7 := kf BK111.out 7; have hfz25_8 := kf BK111.out 8; have hfz25_9 := kf BK111.out 9; have hfz25_10 := kf BK111.out 10; have hfz25_11 := kf BK111.out 11; have hfz25_12 := kf BK111.out 12; have hfz25_13 := kf BK111.out 13) | ((with_reducible refine gate_callee (f := 18) rfl ?_); refine goesL_ (some 29) rfl rfl Tryz.func18 (by kernel_rfl) rfl #[.agg #[.bool a0_0, .slice A0_1 l0_1.length c0_1, .slice A0_2 l0_2.length c0_2, .slice A0_3 l0_3.length c0_3, .int .i64 a0_4, .slice A0_5 l0_5.length c0_5, .bool a0_6, .int .i64 a0_7, .string a0_8, .bool a0_9, .int .i64 a0_10, .bool a0_11, .bool a0_12, .int .i64 a0_13], .string ((rd_T55 l1 x22_2).f0)] rfl xr ?_; (with_reducible refine (job_Part.calls k2 a0_0 _ _ l0_1 _ _ l0_2 _ _ l0_3 a0_4 _ _ l0_5 a0_6 a0_7 a0_8 a0_9 a0_10 a0_11 a0_12 a0_13 ((rd_T55 l1 x22_2).f0) t117 _ (Tabs.below hT xf) ?side1 ?side2 ?side3 ?side4 ?side5 ?side6 ?side7 ?side8 A17.out).mono ?_); (case side1 => exact Kd.C_below HR0_1.out xb); (case side2 => exact HC0_1.out); (case side3 => exact Kd.C_below HR0_2.out xb); (case side4 => exact HC0_2.out); (case side5 => exact Kd.C_below HR0_3.out xb); (case side6 => exact HC0_3.out); (case side7 => exact Kd.C_below HR0_5.out xb); (case side8 => exact HC0_5.out); rintro e w26 ⟨rfl, hb⟩; refine ⟨_, rfl, ?_⟩; replace HO_5 := xy (Kd.S_below (by (with_reducible repeat (first | apply Kd.S_alloc | apply Kd.S_drewN | apply Kd.S_drew)); exact (Kd.S_mono (Kd.S_far (p := ⟨gb116, 3, none⟩) (Kd.S_far (p := ⟨gb116, 2, none⟩) (Kd.S_far (p := ⟨gb116, 1, none⟩) (Kd.S_far (p := ⟨gb116, 0, none⟩) (Kd.S_mono HO_5.out (fun k_ hk => (⟨hk, hk.2⟩ : _ ∧ k_ ≠ gb116))) (fun _ hk => hk.2) (.string ((rd_T55 l1 x22_2).f0))) (fun _ hk => hk.2) (.bool ((rd_T55 l1 x22_2).f1.f0))) (fun _ hk => hk.2) (.int .i64 ((rd_T55 l1 x22_2).f1.f1))) (fun _ hk => hk.2) (.string ((rd_T55 l1 x22_2).f1.f2))) (fun _ h_ => h_.1))) hb); replace BK111 := xy (blk_below (g := gb111) (o := .cells #[.bool a0_0, .slice A0_1 l0_1.length c0_1, .slice A0_2 l0_2.length c0_2, .slice A0_3 l0_3.length c0_3, .int .i64 a0_4, .slice A0_5 l0_5.length c0_5, .bool a0_6, .int .i64 a0_7, .string a0_8, .bool a0_9, .int .i64 a0_10, .bool a0_11, .bool a0_12, .int .i64 a0_13] 26 (0, 0)) (by repeat (first | (with_reducible first | exact BK111.out | refine blk_drewN ?_ _ | refine blk_drew ?_ | refine blk_alloc ?_ _) | refine blk_far ?_ NB111_116.out _ | exact BK111.out)) hb); replace BK116 := xy (blk_below (g := gb116) (o := .cells #[.string ((rd_T55 l1 x22_2).f0), .bool ((rd_T55 l1 x22_2).f1.f0), .int .i64 ((rd_T55 l1 x22_2).f1.f1), .string ((rd_T55 l1 x22_2).f1.f2)] 55 (0, 0)) (by (with_reducible repeat (first | refine blk_drewN ?_ _ | refine blk_drew ?_ | refine blk_alloc ?_ _)); refine blk_put (cs := #[.string ((rd_T55 l1 x22_2).f0), .bool ((rd_T55 l1 x22_2).f1.f0), .int .i64 ((rd_T55 l1 x22_2).f1.f1), .string (⟨#[]⟩ : ByteArray)]) ?_ 3 _ rfl; (with_reducible repeat (first | refine blk_drewN ?_ _ | refine blk_drew ?_ | refine blk_alloc ?_ _)); refine blk_put (cs := #[.string ((rd_T55 l1 x22_2).f0), .bool ((rd_T55 l1 x22_2).f1.f0), .int .i64 0, .string (⟨#[]⟩ : ByteArray)]) ?_ 2 _ rfl; (with_reducible repeat (first | refine blk_drewN ?_ _ | refine blk_drew ?_ | refine blk_alloc ?_ _)); refine blk_put (cs := #[.string ((rd_T55 l1 x22_2).f0), .bool false, .int .i64 0, .string (⟨#[]⟩ : ByteArray)]) ?_ 1 _ rfl; (with_reducible repeat (first | refine blk_drewN ?_ _ | refine blk_drew ?_ | refine blk_alloc ?_ _)); refine blk_put (cs := #[.string (⟨#[]⟩ : ByteArray), .bool false, .int .i64 0, .string (⟨#[]⟩ : ByteArray)]) ?_ 0 _ rfl; (with_reducible repeat (first | refine blk_drewN ?_ _ | refine blk_drew ?_ | refine blk_alloc ?_ _)); exact BK116.out) hb); replace HB := xy (below_step xb hb); (try clear hb); (try clear hb2); (try clear hk); (try clear hi)))
              replace HO_5 := xy (Kd.S_drew HO_5.out)
              replace BK111 := xy (blk_drew BK111.out)
              replace BK116 := xy (blk_drew BK116.out)
              replace HB := xy (below_drew1 HB.out)
              obtain ⟨Ao28, co28, eo28⟩ := Kd.S_slice HO_5.out
              (first | subst eo28 | (injection eo28 with f1_ f2_ f3_; have f4_ := f1_.symm; have f5_ := f3_.symm; clear f1_ f2_ f3_; subst f4_; subst f5_))
              have p118 : 0 ≤ (t117 : Int) := xi
              have q118 : t117 < (x5_2.length : Int) := xi
              obtain ⟨ad118, A118_0, c118_0, e118, hx118_0, hl118_0, hi118_0⟩ := at_L6 (Kd.S_reads' HO_5.out).2.2 t117 p118 q118
              cases e118
              obtain ⟨ce118, hce118, hMe118, hcc118⟩ := Kd.S_get HO_5.out [] t117 p118 (by first | exact q118 | exact xi | (have e_ := (Kd.S_reads' HO_5.out).1; omega))
              obtain ⟨ve118_0, rfl, ge118_0⟩ := hMe118
              have hv118_0 := hcc118 0 _ rfl
              rw [Nat.add_zero, show ((Kd.slice 55 k55)).sz = 1 from rfl, Nat.mul_one] at hv118_0
              replace hv118_0 := Option.some.inj (hv118_0.symm.trans hx118_0)
              rw [hv118_0] at ge118_0
              have HL118_0 := xy (show Kd.R k55 55 _ _ _ _ (rd_L6 x5_2 t117) from ge118_0)
              clear hv118_0 ge118_0
              have HX118_0 := xy hx118_0
              clear hcc118 hce118
              have HR118_0 := xy hi118_0
              have HC118_0 := xy hl118_0
              clear hi118_0 hl118_0
              replace p118 := eq_true p118
              replace q118 := eq_true q118
              have n_ := xy (Kd.S_mono (ok' := (fun k_ => k_ ≠ gb116)) HO_5.out (fun k_ hk => hk.2))
              clear HO_5
              have HO_5 := n_
              clear n_
              obtain ⟨go29, co29, eo29, gb29, gl29, cl29, HG29⟩ := Kd.S_form HO_5.out (by have h_ : (t117 : Int) < ((x5_2.length : Int) : Int) := xi; have h2_ : 0 ≤ (t117 : Int) := xi; omega)
              (first | cases eo29 | (injection eo29 with ea_ en_ ec_; (first | subst ea_ | (injection ea_ with ea_; subst ea_)); subst ec_; clear en_))
              have GB29 := xy gb29
              have GG29 := xy HG29
              clear gb29 gl29 HG29
              (first | simp only [add_plain] at hx118_0 | skip)
              obtain ⟨oki29, ce29, hcl29, hM29, hcc29, _, _, hH29⟩ := Kd.S_elem HO_5.out [] (t117 : Int) xi (by have h_ : (t117 : Int) < ((x5_2.length : Int) : Int) := xi; first | exact h_ | (have e_ := (Kd.S_reads' HO_5.out).1; omega) | simpa using h_)
              obtain ⟨ve29_0, rfl, ge29_0⟩ := hM29
              have hv29 := hcc29 0 _ rfl
              have hX29 := HX118_0.out
              (try simp only [add_plain] at hX29)
              (try simp only [Nat.add_zero] at hv29)
              (try rw [show ((Kd.slice 55 k55)).sz = 1 from rfl, Nat.mul_one] at hv29)
              replace hv29 := Option.some.inj (hv29.symm.trans hX29)
              subst hv29
              clear hX29 hcc29 hcl29
              have UU29 := xy (show Kd.R k55 55 _ w.heap.size oki29 (.slice A118_0 (rd_L6 x5_2 t117).length c118_0) (rd_L6 x5_2 t117) from ge29_0)
              have HH29 := xy hH29
              have HN29 := xy (Kd.S_reads' HO_5.out).1
              clear hH29 ge29_0
              refine start_ (n := 11) (S := fun w' => w'.cell? ⟨gb116, 0, none⟩ = some (.string ((rd_T55 l1 x22_2).f0)) ∧ w'.cell? ⟨gb116, 1, none⟩ = some (.bool ((rd_T55 l1 x22_2).f1.f0)) ∧ w'.cell? ⟨gb116, 2, none⟩ = some (.int .i64 ((rd_T55 l1 x22_2).f1.f1)) ∧ w'.cell? ⟨gb116, 3, none⟩ = some (.string ((rd_T55 l1 x22_2).f1.f2)) ∧ w'.cell? ⟨go29, (t117).toNat, none⟩ = some (.slice A118_0 (rd_L6 x5_2 t117).length c118_0)) (ds := [10]) #[false, false, false, false, false, false, false, false, false, false, false] (by kernel_rfl) rfl rfl ⟨(kc BK116.out 0).trans rfl, (kc BK116.out 1).trans rfl, (kc BK116.out 2).trans rfl, (kc BK116.out 3).trans rfl, hx118_0⟩ (fun hHeld => ?_); refine with_tabW mapper_Parts.tab8 mapper_Parts.bits8 (fun HT_ HW_ => ?_)
              generalize w26.drew = w27 at HO_5 BK111 BK116 HB GG29 HH29 HL118_0 HR118_0 HX118_0 UU29 hx118_0 hHeld ⊢
              refine yz 0 (some 30) (bs 11 1) HT_.out (h := ?_)
              refine yz 1 (some 31) (bs 11 3) HT_.out (h := ?_)
              refine yz 2 (some 32) (bs 11 7) HT_.out (h := ?_)
              refine yz 3 (some 33) (bs 11 15) HT_.out (h := ?_)
              refine yz 4 (some 34) (bs 11 31) HT_.out (h := ?_)
              refine yt 5 (some 35) (bs 11 63) HT_.out HW_.out hHeld (h := ?_)
              refine yt 6 (some 36) (bs 11 127) HT_.out HW_.out hHeld (h := ?_)
              refine one_ (i := 7) (N := some 37) #[true, true, true, true, true, true, true, true, false, false, false] rfl rfl (one_of HT_.out (by kernel_rfl)) (by decide) (fun K hK => ?_)
              refine value_ (w1 := ?_) (v := ?_) (by rfl) rfl ?_ ?_
              rotate_left 2
              ·go_simp
               constructor
               ·rfl
               ·rfl
              refine hK.out _ _ ⟨(blk_cell (blk_alloc BK116.out _) 0).trans rfl, (blk_cell (blk_alloc BK116.out _) 1).trans rfl, (blk_cell (blk_alloc BK116.out _) 2).trans rfl, (blk_cell (blk_alloc BK116.out _) 3).trans rfl, (World.cell?_alloc_lt _ _ _ (World.block_lt_of_cell? _ _ (hHeld.2.2.2.2))).trans (hHeld.2.2.2.2)⟩ (fun hHeld => ?_)
              clear hK K
              refine norm_ (a' := ?_) ?_ ?_
              rotate_left
              ·show Act.put _ (some 37) _ = _
               simp only [Act.put, List.setIfInBounds_toArray, List.set_cons_zero, List.set_cons_succ, i64_w, i32_w]
               rfl
              refine one_ (i := 8) (N := some 38) #[true, true, true, true, true, true, true, true, true, false, false] rfl rfl (one_of HT_.out (by kernel_rfl)) (by decide) (fun K hK => ?_)
              refine Kd.R_append_step k55 (w0 := w) w.heap.size (by rfl) (.tmp 35) (.tmp 37) 27 55 (.agg #[(.string ⟨#[]⟩), (.bool false), (.int .i64 0), (.string ⟨#[]⟩)]) 48 rfl Tryz.underlying27 info55 rfl (by decide) (by omega) (.slice A118_0 (rd_L6 x5_2 t117).length c118_0) (rd_L6 x5_2 t117) (⟨(rd_T55 l1 x22_2).f0, (⟨(rd_T55 l1 x22_2).f1.f0, (rd_T55 l1 x22_2).f1.f1, (rd_T55 l1 x22_2).f1.f2⟩ : S24)⟩ : S55) [.string ((rd_T55 l1 x22_2).f0), .bool ((rd_T55 l1 x22_2).f1.f0), .int .i64 ((rd_T55 l1 x22_2).f1.f1), .string ((rd_T55 l1 x22_2).f1.f2)] (fun k_ => oki29 k_ ∨ ((fun k_ => k_ ≠ gb116)) k_ ∧ w27.heap.size ≤ k_) (fun _ => False) rfl rfl ?aP (fun _ hk => hk.elim) ?aF ?aO ?aB ?aS ?aL ?_
              (case aP => exact k55_mkM _ _ _ (⟨(rd_T55 l1 x22_2).f0, (⟨(rd_T55 l1 x22_2).f1.f0, (rd_T55 l1 x22_2).f1.f1, (rd_T55 l1 x22_2).f1.f2⟩ : S24)⟩ : S55))
              (case aB => exact xb)
              (case aF => exact (fun k_ hk => .inr ⟨Kd.freshB (g := gb116) (o := .cells #[.string ((rd_T55 l1 x22_2).f0), .bool ((rd_T55 l1 x22_2).f1.f0), .int .i64 ((rd_T55 l1 x22_2).f1.f1), .string ((rd_T55 l1 x22_2).f1.f2)] 55 (0, 0)) (xk BK116.out) k_ hk, hk⟩))
              (case aO => exact (by (with_reducible repeat (first | apply Kd.R_alloc | apply Kd.R_drewN | apply Kd.R_drew)); exact Kd.R_mono UU29.out (fun _ hk => .inl hk)))
              (case aS => exact (below_size xb))
              (case aL => have := LMc20.out; omega)
              intro v120 w30 ho hb hg hat
              (first | have HS4_ := cell_grown hg (hHeld.2.2.2.2) (by first | (rw [add_block]; exact (fun e_ => ((HL118_0.out.1 _ e_.symm).2) rfl)) | (show some (Addr.add _ _).block ≠ _; rw [add_block]; exact (fun e_ => ((HL118_0.out.1 _ e_.symm).2) rfl)) | exact (fun e_ => ((HL118_0.out.1 _ e_.symm).2) rfl)) | have HS4_ := cell_grown hg (cell_unalloc (hHeld.2.2.2.2) (by first | (rw [add_block]; exact Kd.S_lt HO_5.out _ rfl) | (show (Addr.add _ _).block < _; rw [add_block]; exact Kd.S_lt HO_5.out _ rfl) | exact Kd.S_lt HO_5.out _ rfl)) (by first | (rw [add_block]; exact (fun e_ => ((HL118_0.out.1 _ e_.symm).2) rfl)) | (show some (Addr.add _ _).block ≠ _; rw [add_block]; exact (fun e_ => ((HL118_0.out.1 _ e_.symm).2) rfl)) | exact (fun e_ => ((HL118_0.out.1 _ e_.symm).2) rfl)))
              rw [← Ny119.out] at ho
              replace BK111 := xy (blk_grown (g := gb111) (o := .cells #[.bool a0_0, .slice A0_1 l0_1.length c0_1, .slice A0_2 l0_2.length c0_2, .slice A0_3 l0_3.length c0_3, .int .i64 a0_4, .slice A0_5 l0_5.length c0_5, .bool a0_6, .int .i64 a0_7, .string a0_8, .bool a0_9, .int .i64 a0_10, .bool a0_11, .bool a0_12, .int .i64 a0_13] 26 (0, 0)) (xk BK111.out) hg (Kd.R_ne HL118_0.out BK111.out (by decide)))
              replace BK116 := xy (blk_grown (g := gb116) (o := .cells #[.string ((rd_T55 l1 x22_2).f0), .bool ((rd_T55 l1 x22_2).f1.f0), .int .i64 ((rd_T55 l1 x22_2).f1.f1), .string ((rd_T55 l1 x22_2).f1.f2)] 55 (0, 0)) (xk BK116.out) hg (Kd.R_away HL118_0.out (fun _ hk => hk.1.2)))
              replace HB := xy (hb)
              replace HH29 := xy (Kd.H_grown (Kd.H_widen (by repeat (first | exact HH29.out | refine Kd.H_alloc ?_ _ | refine Kd.H_drewN ?_ _ | refine Kd.H_drew ?_))) hg (fun k_ e_ => .inl (UU29.out.1 k_ e_)))
              have HO121 := xy (ho)
              clear HO_5 UU29 HL118_0
              clear ho hb hg hat
              have p21 : 0 ≤ (t117 : Int) := xi
              have q21 : (t117 : Int) < ((x5_2.length : Int) : Int) := xi
              replace p21 := eq_true p21
              replace q21 := eq_true q21
              obtain ⟨Ao33, co33, eo33⟩ := Kd.R_slice HO121.out
              (first | subst eo33 | (injection eo33 with f1_ f2_ f3_; have f4_ := f1_.symm; have f5_ := f3_.symm; clear f1_ f2_ f3_; subst f4_; subst f5_))
              obtain ⟨_, _, hraw31, _, _, hcc31, _⟩ := Kd.H_raw HH29.out xi (by have h_ : (t117 : Int) < ((x5_2.length : Int) : Int) := xi; first | exact h_ | (have e_ := (HN29.out); omega) | simpa using h_)
              obtain ⟨_, hfr31⟩ := Kd.H_at HH29.out xi (by have h_ : (t117 : Int) < ((x5_2.length : Int) : Int) := xi; first | exact h_ | (have e_ := (HN29.out); omega) | simpa using h_)
              have hx31_0 := hcc31 0 _ rfl
              have hf31_0 := hfr31 0
              (try simp only [Nat.add_zero] at hx31_0 hf31_0)
              (try rw [show ((Kd.slice 55 k55)).sz = 1 from rfl, Nat.mul_one] at hx31_0)
              (try rw [show ((Kd.slice 55 k55)).sz = 1 from rfl, Nat.mul_one] at hf31_0)
              have HP31 := Kd.S_seg0 HH29.out xi (by have h_ : (t117 : Int) < ((x5_2.length : Int) : Int) := xi; first | exact h_ | (have e_ := (HN29.out); omega) | simpa using h_) (seg := [.slice Ao33 y119.length co33]) (j := 0) (show 1 ≤ 1 from by decide) (x' := y119) (Kd.M_row HO121.out) (fun _ hk => hk)
              (try simp only [show ((Kd.slice 55 k55)).sz = 1 from rfl, Nat.mul_one, Nat.add_zero] at HP31)
              clear hcc31 hfr31
              have HNB111_go29 := xy (show gb111 ≠ go29 from by have h_ := Kd.R_ne hraw31 BK111.out (by decide); intro e_; exact h_ (by rw [e_]; rfl))
              have HNB116_go29 := xy (show gb116 ≠ go29 from by have h_ := Kd.R_ne hraw31 BK116.out (by decide); intro e_; exact h_ (by rw [e_]; rfl))
              have HS31 := HP31.1
              rw [← Ny122.out] at HS31
              have HQ31 := xy HS31
              obtain ⟨_, hgg31⟩ := Kd.R_typed hraw31 go29 rfl
              have GG31_ := xy hgg31
              clear HP31 HS31 hgg31
              refine hK.out _ _ ⟨(kc BK116.out 0).trans rfl, (kc BK116.out 1).trans rfl, (kc BK116.out 2).trans rfl, (kc BK116.out 3).trans rfl, HS4_⟩ (fun hHeld => ?_)
              clear hK K
              refine norm_ (a' := ?_) ?_ ?_
              rotate_left
              ·show Act.put _ (some 38) _ = _
               simp only [Act.put, List.setIfInBounds_toArray, List.set_cons_zero, List.set_cons_succ, i64_w, i32_w]
               rfl
              refine yz 9 (some 39) (bs 11 1023) HT_.out (h := ?_)
              refine last_ (i := 10) (N := none) #[true, true, true, true, true, true, true, true, true, true, true] rfl rfl (one_of HT_.out (by kernel_rfl)) (by decide) (fun K hK => ?_)
              refine skip_ (w1 := ?_) (by rfl) rfl ?_ ?_
              rotate_left
              ·go_simp
               rfl
              refine hK.out _ _ ?_
              clear hK K
              refine done_ (done_of HT_.out (by kernel_rfl)) ?_
              try go_wp2
              go_roundg k2
              case measure => have := HJ2.out; have := HK2.out; omega
              case rel => exact ⟨(y122), (wrap64 (x22_2 + 1)), xg, H', ⟨by have := HJ2.out; have := HK2.out; omega⟩, ⟨by (with_reducible repeat (first | apply Kd.S_alloc | apply Kd.S_drewN | apply Kd.S_drew)); exact Kd.S_mono HQ31.out (fun _ hk => trivial)⟩, ⟨by repeat (first | (with_reducible first | exact BK111.out | refine blk_drewN ?_ _ | refine blk_drew ?_ | refine blk_alloc ?_ _) | refine blk_far ?_ HNB111_go29.out _ | exact BK111.out)⟩, ⟨by repeat (first | (with_reducible first | exact HB.out | apply below_alloc | apply pw_below_drewN | apply below_drew1 | refine below_set ?_ GB29.out | refine below_set ?_ GE111.out | refine below_set ?_ GE116.out) | exact HB.out)⟩⟩
             ·rw [if_neg c20] at H
              exact absurd H (by simp)
            ·rw [if_neg c19] at H
             exact absurd H (by simp)
           ·rw [if_neg c18] at H
            exact absurd H (by simp)
          ·rw [if_neg c16] at H
           exact absurd H (by simp)
         ·rw [if_neg c15] at H
          exact absurd H (by simp)
        ·rw [if_neg c14] at H
         have c14b0 : decide (x22_2 < (l1.length : Int)) = false := decide_eq_false c14
         clear c14
         obtain rfl := Option.some.inj H
         go_wp2
         go_ret
         exact ⟨_, by first | rfl | (simp [errW_none, errW_some] <;> rfl) | (simp [*, errW_none, errW_some] <;> rfl), by (with_reducible repeat (first | apply Kd.S_alloc | apply Kd.S_drewN | apply Kd.S_drew)); exact HO_5.out, xb⟩
     ·rw [if_neg c10] at H
      exact absurd H (by simp)
    ·rw [if_neg c9] at H
     exact absurd H (by simp)
/- Walked functions, by this session's program over the kit's print. -/
def api_Rec_string.f (l0 : List ByteArray) : Option (List ByteArray) := if l0.length ≤ 8796093022208 then some l0 else none
theorem api_Rec_string.calls (A0 : Option Addr) (c0 : Nat) (l0 : List ByteArray) (r : List ByteArray) (w : World) (hT : Tabs w) (hr0 : Kd.C Kd.string w A0 l0.length l0) (hc0 : l0.length ≤ c0) (h : api_Rec_string.f l0 = some r) :
  Calls Tryz.prog 20 #[.slice A0 l0.length c0] w fun e w' => ∃ v0_ : Value, e = .returned (v0_) ∧ Kd.R Kd.string 9 w' w.heap.size (fun _ => True) v0_ r ∧ Below w.heap.size w w' := by
 unfold api_Rec_string.f at h
 by_cases hq : l0.length ≤ 8796093022208
 ·rw [if_pos hq] at h
  obtain rfl := Option.some.inj h
  exact (XClone.clone_calls A0 c0 l0 w hr0 (by omega)).mono fun e w1 ⟨v, he, ho, hb⟩ => ⟨v, he, Kd.R_of_own ho (fun _ _ => trivial), hb⟩
 ·rw [if_neg hq] at h
  cases h
def field_Words.f (a0 : ByteArray) : Option (List ByteArray) := if a0.size ≤ 4294967296 then some (Lib.goFieldsP XWords.blankR a0) else none
theorem field_Words.calls (a0 : ByteArray) (r : List ByteArray) (w : World) (hT : Tabs w) (h : field_Words.f a0 = some r) :
  Calls Tryz.prog 21 #[.string a0] w fun e w' => ∃ v0_ : Value, e = .returned (v0_) ∧ Kd.R Kd.string 9 w' w.heap.size (fun _ => True) v0_ r ∧ Below w.heap.size w w' := by
 unfold field_Words.f at h
 by_cases hq : a0.size ≤ 4294967296
 ·rw [if_pos hq] at h
  obtain rfl := Option.some.inj h
  refine (XWords.words_calls a0 w hq).mono ?_
  rintro e w' ⟨A, rfl, hown, hb⟩
  exact ⟨_, rfl, Kd.R_of_own hown (fun _ _ => trivial), hb⟩
 ·rw [if_neg hq] at h
  cases h
def strconv_Itoa.f (a0 : Int) : Option (ByteArray) := if -9223372036854775808 ≤ a0 ∧ a0 ≤ 9223372036854775807 then some ⟨(Lib.itoa a0).toArray⟩ else none
theorem strconv_Itoa.calls (a0 : Int) (r : ByteArray) (w : World) (hT : Tabs w) (h : strconv_Itoa.f a0 = some r) :
  Calls Tryz.prog 22 #[.int .i64 a0] w fun e w' => e = .returned (.string r) ∧ Below w.heap.size w w' := by
 unfold strconv_Itoa.f at h
 by_cases hq : -9223372036854775808 ≤ a0 ∧ a0 ≤ 9223372036854775807
 ·rw [if_pos hq] at h
  obtain rfl := Option.some.inj h
  refine (Any.strconv_Itoa Tryz.laysM171 a0 hq.1 hq.2 w hT.pow10).mono ?_
  rintro e w' ⟨rfl, k, os, rfl⟩
  exact ⟨rfl, Lib.below_grow _ _ (Nat.le_refl _) _ _⟩
 ·rw [if_neg hq] at h
  cases h
def mapper_See.l0 : Nat → List (List ByteArray) → List ByteArray → Int → Int → Option ((List (List ByteArray)))
 | 0, _, _, _, _ => none
 | k + 1, x5, x20, x21, x22 => if x22 < x21 then (if 0 ≤ x22 then (if x22 < (x20.length : Int) then ((strconv_Itoa.f x22).bind fun t135 => (if x5.length < 5864062014805 then (mapper_See.l0 k (x5 ++ [(([rdOf ByteArray.empty x20 x22, t135] : List ByteArray))]) x20 x21 (wrap64 (x22 + 1))) else (none))) else (none)) else (none)) else (some x5)
def mapper_See.f (k : Nat) (a0_0 : Bool) (l0_1 : List (S50)) (l0_2 : List (S50)) (l0_3 : List (S50)) (a0_4 : Int) (l0_5 : List (S50)) (a0_6 : Bool) (a0_7 : Int) (a0_8 : ByteArray) (a0_9 : Bool) (a0_10 : Int) (a0_11 : Bool) (a0_12 : Bool) (a0_13 : Int) (l1 : List ByteArray) : Option ((List (List ByteArray))) := if a0_0 = true then (if (l1.length : Int) = 0 then (some ([] : List (List ByteArray))) else (if 0 < (l1.length : Int) then ((field_Words.f (rdOf ByteArray.empty l1 0)).bind fun t131 => (mapper_See.l0 k ([] : List (List ByteArray)) t131 (t131.length : Int) 0)) else (none))) else ((api_Rec_string.f l1).bind fun t124 => (some (([t124] : List (List ByteArray)))))
theorem mapper_See.mono_l : ∀ k, (∀ y0 y1 y2 y3, LeO (mapper_See.l0 k y0 y1 y2 y3) (mapper_See.l0 (k + 1) y0 y1 y2 y3))
 | 0 => fun _ _ _ _ r h => by simp [mapper_See.l0] at h
 | k + 1 => by
  have ih0 := mapper_See.mono_l k
  ·intro y0 y1 y2 y3
   unfold mapper_See.l0
   repeat' (with_reducible first | exact ih0 _ _ _ _ | exact LeO.refl _ | exact LeO.none _ | refine LeO.ite ?_ ?_ | refine LeO.bind ?_ (fun _ => ?_))
theorem mapper_See.mono : ∀ a0 a1 a2 a3 a4 a5 a6 a7 a8 a9 a10 a11 a12 a13 a14 k, LeO (mapper_See.f k a0 a1 a2 a3 a4 a5 a6 a7 a8 a9 a10 a11 a12 a13 a14) (mapper_See.f (k + 1) a0 a1 a2 a3 a4 a5 a6 a7 a8 a9 a10 a11 a12 a13 a14) := by
 intro a0 a1 a2 a3 a4 a5 a6 a7 a8 a9 a10 a11 a12 a13 a14 k
 have ih0 := mapper_See.mono_l k
 unfold mapper_See.f
 repeat' (with_reducible first | exact ih0 _ _ _ _ | exact LeO.refl _ | exact LeO.none _ | refine LeO.ite ?_ ?_ | refine LeO.bind ?_ (fun _ => ?_))
set_option maxHeartbeats 8000000 in
set_option maxRecDepth 100000 in
theorem mapper_See.calls (k : Nat) (a0_0 : Bool) (A0_1 : Option Addr) (c0_1 : Nat) (l0_1 : List (S50)) (A0_2 : Option Addr) (c0_2 : Nat) (l0_2 : List (S50)) (A0_3 : Option Addr) (c0_3 : Nat) (l0_3 : List (S50)) (a0_4 : Int) (A0_5 : Option Addr) (c0_5 : Nat) (l0_5 : List (S50)) (a0_6 : Bool) (a0_7 : Int) (a0_8 : ByteArray) (a0_9 : Bool) (a0_10 : Int) (a0_11 : Bool) (a0_12 : Bool) (a0_13 : Int) (A1 : Option Addr) (c1 : Nat) (l1 : List ByteArray) (r : List (List ByteArray)) (w : World) (hT : Tabs w) (hr0_1 : Kd.C k50 w A0_1 l0_1.length l0_1) (hc0_1 : l0_1.length ≤ c0_1) (hr0_2 : Kd.C k50 w A0_2 l0_2.length l0_2) (hc0_2 : l0_2.length ≤ c0_2) (hr0_3 : Kd.C k50 w A0_3 l0_3.length l0_3) (hc0_3 : l0_3.length ≤ c0_3) (hr0_5 : Kd.C k50 w A0_5 l0_5.length l0_5) (hc0_5 : l0_5.length ≤ c0_5) (hr1 : Kd.C Kd.string w A1 l1.length l1) (hc1 : l1.length ≤ c1) (h : mapper_See.f k a0_0 l0_1 l0_2 l0_3 a0_4 l0_5 a0_6 a0_7 a0_8 a0_9 a0_10 a0_11 a0_12 a0_13 l1 = some r) :
  Calls Tryz.prog 14 #[.agg #[.bool a0_0, .slice A0_1 l0_1.length c0_1, .slice A0_2 l0_2.length c0_2, .slice A0_3 l0_3.length c0_3, .int .i64 a0_4, .slice A0_5 l0_5.length c0_5, .bool a0_6, .int .i64 a0_7, .string a0_8, .bool a0_9, .int .i64 a0_10, .bool a0_11, .bool a0_12, .int .i64 a0_13], .slice A1 l1.length c1] w fun e w' => ∃ v0_ : Value, e = .returned (v0_) ∧ Kd.N (Kd.slice 9 Kd.string) 45 w' w.heap.size (fun k_ => (w.heap.size ≤ k_)) v0_ r ∧ Below w.heap.size w w' := by
 have hu26 := Tryz.underlying26
 have HR0_1 := xy hr0_1
 have HC0_1 := xy hc0_1
 clear hr0_1 hc0_1
 have HR0_2 := xy hr0_2
 have HC0_2 := xy hc0_2
 clear hr0_2 hc0_2
 have HR0_3 := xy hr0_3
 have HC0_3 := xy hc0_3
 clear hr0_3 hc0_3
 have HR0_5 := xy hr0_5
 have HC0_5 := xy hc0_5
 clear hr0_5 hc0_5
 have HR1 := xy hr1
 have HC1 := xy hc1
 clear hr1 hc1
 have HB := xy (Below.refl w.heap.size w)
 unfold mapper_See.f at h
 have H := h
 clear h
 by_cases c3 : a0_0 = true
 ·subst c3
  rw [if_pos rfl] at H
  by_cases c4 : (l1.length : Int) = 0
  ·rw [if_pos c4] at H
   have c4b0 : ((l1.length : Int) == 0) = true := beq_iff_eq.mpr c4
   have c4b1 : ((l1.length : Int) != 0) = false := bne_eq_false_iff_eq.mpr c4
   clear c4
   obtain rfl := Option.some.inj H
   go_enter Tryz.func14, Tryz.ntmps14
   go_wp2_with (first | ((with_reducible refine gate_dst (N := 2) rfl ?_); refine xq (N := 2) (cs := #[.bool true, .slice A0_1 l0_1.length c0_1, .slice A0_2 l0_2.length c0_2, .slice A0_3 l0_3.length c0_3, .int .i64 a0_4, .slice A0_5 l0_5.length c0_5, .bool a0_6, .int .i64 a0_7, .string a0_8, .bool a0_9, .int .i64 a0_10, .bool a0_11, .bool a0_12, .int .i64 a0_13]) (t := 26) ?_; intro gb123 hg w5 hbox hb; have BK123 := xy (hbox); have GW123 := xs w hg; have GE123 := xs w hg; replace HB := xy (below_step xb hb); clear hb hbox hg; have hcz6_0 : w5.cell? ⟨gb123, 0, none⟩ = some (.bool true) := (kc BK123.out 0).trans rfl; have hcz6_1 : w5.cell? ⟨gb123, 1, none⟩ = some (.slice A0_1 l0_1.length c0_1) := (kc BK123.out 1).trans rfl; have hcz6_2 : w5.cell? ⟨gb123, 2, none⟩ = some (.slice A0_2 l0_2.length c0_2) := (kc BK123.out 2).trans rfl; have hcz6_3 : w5.cell? ⟨gb123, 3, none⟩ = some (.slice A0_3 l0_3.length c0_3) := (kc BK123.out 3).trans rfl; have hcz6_4 : w5.cell? ⟨gb123, 4, none⟩ = some (.int .i64 a0_4) := (kc BK123.out 4).trans rfl; have hcz6_5 : w5.cell? ⟨gb123, 5, none⟩ = some (.slice A0_5 l0_5.length c0_5) := (kc BK123.out 5).trans rfl; have hcz6_6 : w5.cell? ⟨gb123, 6, none⟩ = some (.bool a0_6) := (kc BK123.out 6).trans rfl; have hcz6_7 : w5.cell? ⟨gb123, 7, none⟩ = some (.int .i64 a0_7) := (kc BK123.out 7).trans rfl; have hcz6_8 : w5.cell? ⟨gb123, 8, none⟩ = some (.string a0_8) := (kc BK123.out 8).trans rfl; have hcz6_9 : w5.cell? ⟨gb123, 9, none⟩ = some (.bool a0_9) := (kc BK123.out 9).trans rfl; have hcz6_10 : w5.cell? ⟨gb123, 10, none⟩ = some (.int .i64 a0_10) := (kc BK123.out 10).trans rfl; have hcz6_11 : w5.cell? ⟨gb123, 11, none⟩ = some (.bool a0_11) := (kc BK123.out 11).trans rfl; have hcz6_12 : w5.cell? ⟨gb123, 12, none⟩ = some (.bool a0_12) := (kc BK123.out 12).trans rfl; have hcz6_13 : w5.cell? ⟨gb123, 13, none⟩ = some (.int .i64 a0_13) := (kc BK123.out 13).trans rfl; have hfz6_0 := kf BK123.out 0; have hfz6_1 := kf BK123.out 1; have hfz6_2 := kf BK123.out 2; have hfz6_3 := kf BK123.out 3; have hfz6_4 := kf BK123.out 4; have hfz6_5 := kf BK123.out 5; have hfz6_6 := kf BK123.out 6; have hfz6_7 := kf BK123.out 7; have hfz6_8 := kf BK123.out 8; have hfz6_9 := kf BK123.out 9; have hfz6_10 := kf BK123.out 10; have hfz6_11 := kf BK123.out 11; have hfz6_12 := kf BK123.out 12; have hfz6_13 := kf BK123.out 13))
   go_ret
   exact ⟨_, by first | rfl | (simp [errW_none, errW_some] <;> rfl) | (simp [*, errW_none, errW_some] <;> rfl), by first | exact Kd.S_nil _ _ _ _ _ | exact Kd.N_nil _ _ _ _ _ | exact Kd.V_nil _ _ _ _ _ | exact Kd.Q_nil _ _ _ _ _ | exact Kd.R_nil _ _ _ _ _, xb⟩
  ·rw [if_neg c4] at H
   have c4b0 : ((l1.length : Int) == 0) = false := beq_eq_false_iff_ne.mpr c4
   have c4b1 : ((l1.length : Int) != 0) = true := bne_iff_ne.mpr c4
   have c4b2 : ¬ (l1 = []) := fun h_ => c4 (by rw [h_]; rfl)
   by_cases c7 : 0 < (l1.length : Int)
   ·rw [if_pos c7] at H
    have c7b0 : decide (0 < (l1.length : Int)) = true := decide_eq_true c7
    have c7b1 : decide (0 < l1.length) = true := decide_eq_true (by omega)
    clear c7
    replace H := xj H
    obtain ⟨t131, A80, H⟩ := H
    try dsimp only at H
    have A8 := xy A80
    clear A80
    have H' := xy H
    clear H
    go_enter Tryz.func14, Tryz.ntmps14
    go_wp2_with (first | ((with_reducible refine gate_dst (N := 2) rfl ?_); refine xq (N := 2) (cs := #[.bool true, .slice A0_1 l0_1.length c0_1, .slice A0_2 l0_2.length c0_2, .slice A0_3 l0_3.length c0_3, .int .i64 a0_4, .slice A0_5 l0_5.length c0_5, .bool a0_6, .int .i64 a0_7, .string a0_8, .bool a0_9, .int .i64 a0_10, .bool a0_11, .bool a0_12, .int .i64 a0_13]) (t := 26) ?_; intro gb123 hg w9 hbox hb; have BK123 := xy (hbox); have GW123 := xs w hg; have GE123 := xs w hg; replace HB := xy (below_step xb hb); clear hb hbox hg; have hcz10_0 : w9.cell? ⟨gb123, 0, none⟩ = some (.bool true) := (kc BK123.out 0).trans rfl; have hcz10_1 : w9.cell? ⟨gb123, 1, none⟩ = some (.slice A0_1 l0_1.length c0_1) := (kc BK123.out 1).trans rfl; have hcz10_2 : w9.cell? ⟨gb123, 2, none⟩ = some (.slice A0_2 l0_2.length c0_2) := (kc BK123.out 2).trans rfl; have hcz10_3 : w9.cell? ⟨gb123, 3, none⟩ = some (.slice A0_3 l0_3.length c0_3) := (kc BK123.out 3).trans rfl; have hcz10_4 : w9.cell? ⟨gb123, 4, none⟩ = some (.int .i64 a0_4) := (kc BK123.out 4).trans rfl; have hcz10_5 : w9.cell? ⟨gb123, 5, none⟩ = some (.slice A0_5 l0_5.length c0_5) := (kc BK123.out 5).trans rfl; have hcz10_6 : w9.cell? ⟨gb123, 6, none⟩ = some (.bool a0_6) := (kc BK123.out 6).trans rfl; have hcz10_7 : w9.cell? ⟨gb123, 7, none⟩ = some (.int .i64 a0_7) := (kc BK123.out 7).trans rfl; have hcz10_8 : w9.cell? ⟨gb123, 8, none⟩ = some (.string a0_8) := (kc BK123.out 8).trans rfl; have hcz10_9 : w9.cell? ⟨gb123, 9, none⟩ = some (.bool a0_9) := (kc BK123.out 9).trans rfl; have hcz10_10 : w9.cell? ⟨gb123, 10, none⟩ = some (.int .i64 a0_10) := (kc BK123.out 10).trans rfl; have hcz10_11 : w9.cell? ⟨gb123, 11, none⟩ = some (.bool a0_11) := (kc BK123.out 11).trans rfl; have hcz10_12 : w9.cell? ⟨gb123, 12, none⟩ = some (.bool a0_12) := (kc BK123.out 12).trans rfl; have hcz10_13 : w9.cell? ⟨gb123, 13, none⟩ = some (.int .i64 a0_13) := (kc BK123.out 13).trans rfl; have hfz10_0 := kf BK123.out 0; have hfz10_1 := kf BK123.out 1; have hfz10_2 := kf BK123.out 2; have hfz10_3 := kf BK123.out 3; have hfz10_4 := kf BK123.out 4; have hfz10_5 := kf BK123.out 5; have hfz10_6 := kf BK123.out 6; have hfz10_7 := kf BK123.out 7; have hfz10_8 := kf BK123.out 8; have hfz10_9 := kf BK123.out 9; have hfz10_10 := kf BK123.out 10; have hfz10_11 := kf BK123.out 11; have hfz10_12 := kf BK123.out 12; have hfz10_13 := kf BK123.out 13; have p130 : 0 ≤ (0 : Int) := (by omega); have q130 : 0 < (l1.length : Int) := xi; obtain ⟨ad130, e130, hx130_0⟩ := Kd.at_string HR1.out 0 p130 q130; cases e130; have qi130 : (0 < l1.length) = True := eq_true (by omega); (try rw [show ((0 : Int)).toNat = 0 from rfl] at hx130_0); (try rw [Addr.add_zero'] at hx130_0); replace hx130_0 := (HB.out.cell (World.block_lt_of_cell? w _ hx130_0)).trans hx130_0; replace p130 := eq_true p130; replace q130 := eq_true q130) | ((with_reducible refine gate_callee (f := 21) rfl ?_); refine goesL_ (some 20) rfl rfl Tryz.func21 (by kernel_rfl) rfl #[.string (rdOf ByteArray.empty l1 0)] rfl xr ?_; (with_reducible refine (field_Words.calls (rdOf ByteArray.empty l1 0) t131 _ (Tabs.below hT xf) A8.out).mono ?_); rintro e w11 ⟨v132, rfl, ho0, hb⟩; refine ⟨_, rfl, ?_⟩; have HO133 := xy (Kd.R_lower (Kd.R_newM (M := fun k_ => (w.heap.size ≤ k_)) ho0 (below_size xb) (fun k_ h_ => h_)) (below_size xb)); replace BK123 := xd BK123.out hb; replace HB := xy (below_step xb hb); (try clear hb); (try clear hb2); (try clear hk); (try clear hi); (try clear ho0); obtain ⟨Ao12, co12, eo12⟩ := Kd.R_slice HO133.out; subst eo12))
    go_loopg [5, 22] k (fun kq v5 v22 w' => ∃ (x5_1 : List (List ByteArray)) (x22_1 : Int), v22 = .int .i64 x22_1 ∧ Aside0 (mapper_See.l0 kq x5_1 t131 (t131.length : Int) x22_1 = some r) ∧ Aside0 (kq ≤ k) ∧ Aside0 (Kd.N (Kd.slice 9 Kd.string) 45 w' w.heap.size (fun k_ => (w.heap.size ≤ k_) ∧ some k_ ≠ ((.slice Ao12 t131.length co12) : Value).ownBlock ∧ k_ ≠ gb123) v5 x5_1) ∧ Aside0 (Kd.R Kd.string 9 w' w.heap.size (fun k_ => (w.heap.size ≤ k_)) (.slice Ao12 t131.length co12) t131) ∧ Aside0 (w'.heap[gb123]? = some (.cells #[.bool true, (.slice A0_1 l0_1.length c0_1), (.slice A0_2 l0_2.length c0_2), (.slice A0_3 l0_3.length c0_3), .int .i64 a0_4, (.slice A0_5 l0_5.length c0_5), .bool a0_6, .int .i64 a0_7, .string a0_8, .bool a0_9, .int .i64 a0_10, .bool a0_11, .bool a0_12, .int .i64 a0_13] 26 (0, 0))) ∧ Aside0 (Below w.heap.size w w'))
    case atStart => exact ⟨(([] : List (List ByteArray))), (0), xg, H', ⟨Nat.le_refl _⟩, ⟨by first | exact Kd.S_nil _ _ _ _ _ | exact Kd.N_nil _ _ _ _ _ | exact Kd.V_nil _ _ _ _ _ | exact Kd.Q_nil _ _ _ _ _ | exact Kd.R_nil _ _ _ _ _⟩, ⟨by (with_reducible repeat (first | apply Kd.R_alloc | apply Kd.R_drewN | apply Kd.R_drew)); exact Kd.R_mono HO133.out (fun _ hk => hk.1)⟩, ⟨by (with_reducible repeat (first | refine blk_drewN ?_ _ | refine blk_drew ?_ | refine blk_alloc ?_ _)); exact BK123.out⟩, ⟨xb⟩⟩
    case round =>
     clear H'
     try clear c1
     try clear p1
     try clear q1
     try clear hx1
     try clear qi1
     try clear c2
     try clear p2
     try clear c3
     try clear c4
     try clear c4b0
     try clear c4b1
     try clear c4b2
     try clear c7
     try clear c7b0
     try clear c7b1
     try clear hcz10_0
     try clear hcz10_1
     try clear hcz10_10
     try clear hcz10_11
     try clear hcz10_12
     try clear hcz10_13
     try clear hcz10_2
     try clear hcz10_3
     try clear hcz10_4
     try clear hcz10_5
     try clear hcz10_6
     try clear hcz10_7
     try clear hcz10_8
     try clear hcz10_9
     try clear hcz6_0
     try clear hcz6_1
     try clear hcz6_10
     try clear hcz6_11
     try clear hcz6_12
     try clear hcz6_13
     try clear hcz6_2
     try clear hcz6_3
     try clear hcz6_4
     try clear hcz6_5
     try clear hcz6_6
     try clear hcz6_7
     try clear hcz6_8
     try clear hcz6_9
     try clear hfz10_0
     try clear hfz10_1
     try clear hfz10_10
     try clear hfz10_11
     try clear hfz10_12
     try clear hfz10_13
     try clear hfz10_2
     try clear hfz10_3
     try clear hfz10_4
     try clear hfz10_5
     try clear hfz10_6
     try clear hfz10_7
     try clear hfz10_8
     try clear hfz10_9
     try clear hfz6_0
     try clear hfz6_1
     try clear hfz6_10
     try clear hfz6_11
     try clear hfz6_12
     try clear hfz6_13
     try clear hfz6_2
     try clear hfz6_3
     try clear hfz6_4
     try clear hfz6_5
     try clear hfz6_6
     try clear hfz6_7
     try clear hfz6_8
     try clear hfz6_9
     try clear hx130_0
     try clear p130
     try clear q130
     obtain ⟨x5_1, x22_1, rfl, HA, HK1, HO_5, HO_20, BK123, HB⟩ := hrel
     cases gk with
     | zero => exact absurd HA.out (by simp [mapper_See.l0])
     | succ k1 =>
      have H := HA.out
      clear HA
      simp only [mapper_See.l0] at H
      by_cases c13 : x22_1 < (t131.length : Int)
      ·rw [if_pos c13] at H
       have c13b0 : decide (x22_1 < (t131.length : Int)) = true := decide_eq_true c13
       clear c13
       by_cases c14 : 0 ≤ x22_1
       ·rw [if_pos c14] at H
        have c14b0 : decide (0 ≤ x22_1) = true := decide_eq_true c14
        clear c14
        by_cases c15 : x22_1 < (t131.length : Int)
        ·rw [if_pos c15] at H
         have c15b0 : decide (x22_1 < (t131.length : Int)) = true := decide_eq_true c15
         clear c15
         replace H := xj H
         obtain ⟨t135, A160, H⟩ := H
         try dsimp only at H
         have A16 := xy A160
         clear A160
         obtain ⟨y136, hy136⟩ : ∃ y_ : List ByteArray, y_ = (([rdOf ByteArray.empty t131 x22_1, t135] : List ByteArray)) := ⟨_, rfl⟩
         replace H : (if x5_1.length < 5864062014805 then (mapper_See.l0 k1 (x5_1 ++ [y136]) t131 (t131.length : Int) (wrap64 (x22_1 + 1))) else (none)) = some r := by first | (rw [hy136]; with_reducible exact H) | (have H2_ := (Option.bind_some _ _).symm.trans H; rw [hy136]; with_reducible exact H2_) | (have H2_ := (Option.bind_some _ _).symm.trans H; with_reducible exact H2_) | with_reducible exact H | (rw [hy136]; exact H) | exact H
         have Ny136 := xy hy136
         clear hy136
         by_cases c17 : x5_1.length < 5864062014805
         ·rw [if_pos c17] at H
          have LMc17 := xy c17
          clear c17
          obtain ⟨y139, hy139⟩ : ∃ y_ : List (List ByteArray), y_ = (x5_1 ++ [y136]) := ⟨_, rfl⟩
          replace H : (mapper_See.l0 k1 y139 t131 (t131.length : Int) (wrap64 (x22_1 + 1))) = some r := by first | (rw [hy139]; with_reducible exact H) | (have H2_ := (Option.bind_some _ _).symm.trans H; rw [hy139]; with_reducible exact H2_) | (have H2_ := (Option.bind_some _ _).symm.trans H; with_reducible exact H2_) | with_reducible exact H | (rw [hy139]; exact H) | exact H
          have Ny139 := xy hy139
          clear hy139
          have H' := xy H
          clear H
          have p134 : 0 ≤ (x22_1 : Int) := xi
          have q134 : x22_1 < (t131.length : Int) := xi
          obtain ⟨ad134, e134, hx134_0⟩ := Kd.at_string (Kd.R_reads' HO_20.out).2.2 x22_1 p134 q134
          cases e134
          replace p134 := eq_true p134
          replace q134 := eq_true q134
          go_wp2_with (first | ((with_reducible refine gate_callee (f := 22) rfl ?_); refine goesL_ (some 30) rfl rfl Tryz.func22 (by kernel_rfl) rfl #[.int .i64 x22_1] rfl xr ?_; (with_reducible refine (strconv_Itoa.calls x22_1 t135 _ (Tabs.below hT xf) A16.out).mono ?_); rintro e w18 ⟨rfl, hb⟩; refine ⟨_, rfl, ?_⟩; replace HO_5 := xy (Kd.N_below (by (with_reducible repeat (first | apply Kd.N_alloc | apply Kd.N_drewN | apply Kd.N_drew)); exact HO_5.out) hb); replace HO_20 := xy (Kd.R_below (xo HO_20.out) hb); replace BK123 := xd BK123.out hb; replace HB := xy (below_step xb hb); (try clear hb); (try clear hb2); (try clear hk); (try clear hi)) | ((with_reducible refine gate_dst (N := 31) rfl ?_); refine Kd.R_lit Kd.string _ 9 ?hg (N := 31) ?hd (xs := ([rdOf ByteArray.empty t131 x22_1, t135] : List ByteArray)) (inner := [.string (rdOf ByteArray.empty t131 x22_1), .string t135]) (ok := fun _ => True) (okp := fun _ => True) ?hr ?hp (fun _ hk => hk) trivial (Below.refl _ _) (Nat.le_refl _) (by simp) ?_; (case hd => rfl); (case hg => rfl); (case hr => exact xh); (case hp => exact (Reps.one (show Kd.M Kd.string _ _ _ (rdOf ByteArray.empty t131 x22_1) [.string (rdOf ByteArray.empty t131 x22_1)] from rfl) (Reps.one (show Kd.M Kd.string _ _ _ t135 [.string t135] from rfl) (Reps.none _ _)))); intro v137 w19 ho20 hb hg_ hnew_; clear hg_ hnew_; (first | rw [← Ny136.out] at ho20 | (simp only [Int.reduceToNat] at ho20; rw [← Ny136.out] at ho20)); replace HO_5 := xy (Kd.N_elder' (by (with_reducible repeat (first | apply Kd.N_alloc | apply Kd.N_drewN | apply Kd.N_drew)); exact HO_5.out) (Kd.R_base ho20) hb); have HO138 := xy (Kd.R_lower (Kd.R_new' (Kd.R_newM (M := fun k_ => (w.heap.size ≤ k_)) ho20 (below_size xb) (fun k_ h_ => h_)) (Kd.R_lt (xo HO_20.out))) (below_size xb)); replace HO_20 := xy (Kd.R_elder' (xo HO_20.out) (Kd.R_base ho20) hb); replace BK123 := xd BK123.out hb; replace HB := xy (below_step xb hb); clear hb ho20; obtain ⟨Ao22, co22, eo22⟩ := Kd.R_slice HO138.out; subst eo22) | ((with_reducible refine gate_builtin (b := .append) (xs := #[.tmp 27, .tmp 32]) rfl ?_); at_builtin; refine Kd.N_append (Kd.slice 9 Kd.string) (w0 := w) w.heap.size rfl (.tmp 27) (.tmp 32) 41 45 (.slice none 0 0) 24 rfl Tryz.underlying41 info45 rfl (by decide) (by omega) u5 x5_1 y136 [.slice Ao22 y136.length co22] (fun k_ => (w.heap.size ≤ k_) ∧ some k_ ≠ (.slice (some ad134) t131.length co12 : Value).ownBlock ∧ k_ ≠ gb123) (fun k_ => ((fun k_ => (w.heap.size ≤ k_) ∧ some k_ ≠ (.slice (some ad134) t131.length co12 : Value).ownBlock ∧ k_ ≠ gb123)) k_ ∧ some k_ ≠ (u5 : Value).ownBlock) rfl rfl ?aP (fun _ hk => hk) ?aF ?aO ?aB ?aS ?aL ?_; (case aP => exact (Kd.FK_slice_mk (Kd.R_reads' (Kd.R_mono (ok' := (fun k_ => ((fun k_ => (w.heap.size ≤ k_) ∧ some k_ ≠ (.slice (some ad134) t131.length co12 : Value).ownBlock ∧ k_ ≠ gb123)) k_ ∧ some k_ ≠ (u5 : Value).ownBlock)) (Kd.R_types (Kd.R_apart' (HO138.out) (Kd.N_typed HO_5.out) (by decide)) BK123.out (by decide)) (fun k_ hk => ⟨⟨hk.1.1.1.1, ⟨hk.1.1.2, hk.2⟩⟩, hk.1.2⟩))).2.1 (Kd.R_F (Kd.R_mono (ok' := (fun k_ => ((fun k_ => (w.heap.size ≤ k_) ∧ some k_ ≠ (.slice (some ad134) t131.length co12 : Value).ownBlock ∧ k_ ≠ gb123)) k_ ∧ some k_ ≠ (u5 : Value).ownBlock)) (Kd.R_types (Kd.R_apart' (HO138.out) (Kd.N_typed HO_5.out) (by decide)) BK123.out (by decide)) (fun k_ hk => ⟨⟨hk.1.1.1.1, ⟨hk.1.1.2, hk.2⟩⟩, hk.1.2⟩))))); (case aB => exact xb); (case aF => exact (fun k_ hk => ⟨(Nat.le_trans (below_size xb) hk), Kd.fresh' (Kd.R_lt (xo HO_20.out)) k_ hk, Kd.freshB (g := gb123) (o := .cells #[.bool true, .slice A0_1 l0_1.length c0_1, .slice A0_2 l0_2.length c0_2, .slice A0_3 l0_3.length c0_3, .int .i64 a0_4, .slice A0_5 l0_5.length c0_5, .bool a0_6, .int .i64 a0_7, .string a0_8, .bool a0_9, .int .i64 a0_10, .bool a0_11, .bool a0_12, .int .i64 a0_13] 26 (0, 0)) (xk BK123.out) k_ hk⟩)); (case aO => exact (by (with_reducible repeat (first | apply Kd.N_alloc | apply Kd.N_drewN | apply Kd.N_drew)); exact Kd.N_mono HO_5.out (fun _ hk => ⟨hk.1.1, ⟨hk.1.2.1, hk.1.2.2⟩⟩))); (case aS => exact (below_size xb)); (case aL => have := LMc17.out; omega); intro v140 w21 ho hb hg hat; rw [← Ny139.out] at ho; replace HO_20 := xy (Kd.R_over' (xo HO_20.out) (Kd.N_typed (by (with_reducible repeat (first | apply Kd.N_alloc | apply Kd.N_drewN | apply Kd.N_drew)); exact HO_5.out)) (by decide) hg); replace BK123 := xy (blk_grown (g := gb123) (o := .cells #[.bool true, .slice A0_1 l0_1.length c0_1, .slice A0_2 l0_2.length c0_2, .slice A0_3 l0_3.length c0_3, .int .i64 a0_4, .slice A0_5 l0_5.length c0_5, .bool a0_6, .int .i64 a0_7, .string a0_8, .bool a0_9, .int .i64 a0_10, .bool a0_11, .bool a0_12, .int .i64 a0_13] 26 (0, 0)) (xk BK123.out) hg (Kd.N_ne HO_5.out BK123.out (by decide))); replace HB := xy (hb); have HO141 := xy (ho); clear HO_5 HO138; clear ho hb hg hat))
          go_roundg k1
          case measure => have := HK1.out; omega
          case rel => exact ⟨(y139), (wrap64 (x22_1 + 1)), xg, H', ⟨by have := HK1.out; omega⟩, ⟨by (with_reducible repeat (first | apply Kd.N_alloc | apply Kd.N_drewN | apply Kd.N_drew)); exact HO141.out⟩, ⟨by (with_reducible repeat (first | apply Kd.R_alloc | apply Kd.R_drewN | apply Kd.R_drew)); exact Kd.R_mono HO_20.out (fun _ hk => hk.1)⟩, ⟨by (with_reducible repeat (first | refine blk_drewN ?_ _ | refine blk_drew ?_ | refine blk_alloc ?_ _)); exact BK123.out⟩, ⟨xb⟩⟩
         ·rw [if_neg c17] at H
          exact absurd H (by simp)
        ·rw [if_neg c15] at H
         exact absurd H (by simp)
       ·rw [if_neg c14] at H
        exact absurd H (by simp)
      ·rw [if_neg c13] at H
       have c13b0 : decide (x22_1 < (t131.length : Int)) = false := decide_eq_false c13
       clear c13
       obtain rfl := Option.some.inj H
       go_wp2
       go_ret
       exact ⟨_, by first | rfl | (simp [errW_none, errW_some] <;> rfl) | (simp [*, errW_none, errW_some] <;> rfl), by (with_reducible repeat (first | apply Kd.N_alloc | apply Kd.N_drewN | apply Kd.N_drew)); exact Kd.N_mono HO_5.out (fun _ hk => hk.1), xb⟩
   ·rw [if_neg c7] at H
    exact absurd H (by simp)
 ·replace c3 := Bool.eq_false_iff.mpr c3
  subst c3
  rw [if_neg (show ¬ (false = true) by decide)] at H
  replace H := xj H
  obtain ⟨t124, A230, H⟩ := H
  try dsimp only at H
  have A23 := xy A230
  clear A230
  obtain ⟨y127, hy127⟩ : ∃ y_ : List (List ByteArray), y_ = (([t124] : List (List ByteArray))) := ⟨_, rfl⟩
  replace H : (some y127) = some r := by first | (rw [hy127]; with_reducible exact H) | (have H2_ := (Option.bind_some _ _).symm.trans H; rw [hy127]; with_reducible exact H2_) | (have H2_ := (Option.bind_some _ _).symm.trans H; with_reducible exact H2_) | with_reducible exact H | (rw [hy127]; exact H) | exact H
  have Ny127 := xy hy127
  clear hy127
  obtain rfl := Option.some.inj H
  go_enter Tryz.func14, Tryz.ntmps14
  go_wp2_with (first | ((with_reducible refine gate_dst (N := 2) rfl ?_); refine xq (N := 2) (cs := #[.bool false, .slice A0_1 l0_1.length c0_1, .slice A0_2 l0_2.length c0_2, .slice A0_3 l0_3.length c0_3, .int .i64 a0_4, .slice A0_5 l0_5.length c0_5, .bool a0_6, .int .i64 a0_7, .string a0_8, .bool a0_9, .int .i64 a0_10, .bool a0_11, .bool a0_12, .int .i64 a0_13]) (t := 26) ?_; intro gb123 hg w24 hbox hb; have BK123 := xy (hbox); have GW123 := xs w hg; have GE123 := xs w hg; replace HB := xy (below_step xb hb); clear hb hbox hg; have hcz25_0 : w24.cell? ⟨gb123, 0, none⟩ = some (.bool false) := (kc BK123.out 0).trans rfl; have hcz25_1 : w24.cell? ⟨gb123, 1, none⟩ = some (.slice A0_1 l0_1.length c0_1) := (kc BK123.out 1).trans rfl; have hcz25_2 : w24.cell? ⟨gb123, 2, none⟩ = some (.slice A0_2 l0_2.length c0_2) := (kc BK123.out 2).trans rfl; have hcz25_3 : w24.cell? ⟨gb123, 3, none⟩ = some (.slice A0_3 l0_3.length c0_3) := (kc BK123.out 3).trans rfl; have hcz25_4 : w24.cell? ⟨gb123, 4, none⟩ = some (.int .i64 a0_4) := (kc BK123.out 4).trans rfl; have hcz25_5 : w24.cell? ⟨gb123, 5, none⟩ = some (.slice A0_5 l0_5.length c0_5) := (kc BK123.out 5).trans rfl; have hcz25_6 : w24.cell? ⟨gb123, 6, none⟩ = some (.bool a0_6) := (kc BK123.out 6).trans rfl; have hcz25_7 : w24.cell? ⟨gb123, 7, none⟩ = some (.int .i64 a0_7) := (kc BK123.out 7).trans rfl; have hcz25_8 : w24.cell? ⟨gb123, 8, none⟩ = some (.string a0_8) := (kc BK123.out 8).trans rfl; have hcz25_9 : w24.cell? ⟨gb123, 9, none⟩ = some (.bool a0_9) := (kc BK123.out 9).trans rfl; have hcz25_10 : w24.cell? ⟨gb123, 10, none⟩ = some (.int .i64 a0_10) := (kc BK123.out 10).trans rfl; have hcz25_11 : w24.cell? ⟨gb123, 11, none⟩ = some (.bool a0_11) := (kc BK123.out 11).trans rfl; have hcz25_12 : w24.cell? ⟨gb123, 12, none⟩ = some (.bool a0_12) := (kc BK123.out 12).trans rfl; have hcz25_13 : w24.cell? ⟨gb123, 13, none⟩ = some (.int .i64 a0_13) := (kc BK123.out 13).trans rfl; have hfz25_0 := kf BK123.out 0; have hfz25_1 := kf BK123.out 1; have hfz25_2 := kf BK123.out 2; have hfz25_3 := kf BK123.out 3; have hfz25_4 := kf BK123.out 4; have hfz25_5 := kf BK123.out 5; have hfz25_6 := kf BK123.out 6; have hfz25_7 := kf BK123.out 7; have hfz25_8 := kf BK123.out 8; have hfz25_9 := kf BK123.out 9; have hfz25_10 := kf BK123.out 10; have hfz25_11 := kf BK123.out 11; have hfz25_12 := kf BK123.out 12; have hfz25_13 := kf BK123.out 13) | ((with_reducible refine gate_callee (f := 20) rfl ?_); refine goesL_ (some 12) rfl rfl Tryz.func20 (by kernel_rfl) rfl #[.slice A1 l1.length c1] rfl xr ?_; (with_reducible refine (api_Rec_string.calls _ _ l1 t124 _ (Tabs.below hT xf) ?side1 ?side2 A23.out).mono ?_); (case side1 => exact Kd.C_below HR1.out xb); (case side2 => exact HC1.out); rintro e w26 ⟨v125, rfl, ho0, hb⟩; refine ⟨_, rfl, ?_⟩; have HO126 := xy (Kd.R_lower (Kd.R_newM (M := fun k_ => (w.heap.size ≤ k_)) ho0 (below_size xb) (fun k_ h_ => h_)) (below_size xb)); replace BK123 := xd BK123.out hb; replace HB := xy (below_step xb hb); (try clear hb); (try clear hb2); (try clear hk); (try clear hi); (try clear ho0); obtain ⟨Ao27, co27, eo27⟩ := Kd.R_slice HO126.out; subst eo27) | ((with_reducible refine gate_dst (N := 13) rfl ?_); refine Kd.N_lit (Kd.slice 9 Kd.string) _ 45 ?hg (N' := 13) ?hd (xs := ([t124] : List (List ByteArray))) (inner := [.slice Ao27 t124.length co27]) (ok := (fun k_ => (w.heap.size ≤ k_) ∧ k_ ≠ gb123)) (okp := (fun k_ => (w.heap.size ≤ k_) ∧ k_ ≠ gb123)) ?hr ?hp (fun _ hk => hk) ((show ∀ k_, w26.heap.size ≤ k_ → (fun k_ => (w.heap.size ≤ k_) ∧ k_ ≠ gb123) k_ from fun k_ hk => ⟨(Nat.le_trans (below_size xb) hk), Kd.freshB (g := gb123) (o := .cells #[.bool false, .slice A0_1 l0_1.length c0_1, .slice A0_2 l0_2.length c0_2, .slice A0_3 l0_3.length c0_3, .int .i64 a0_4, .slice A0_5 l0_5.length c0_5, .bool a0_6, .int .i64 a0_7, .string a0_8, .bool a0_9, .int .i64 a0_10, .bool a0_11, .bool a0_12, .int .i64 a0_13] 26 (0, 0)) (xk BK123.out) k_ hk⟩) _ (Nat.le_refl _)) (Below.refl _ _) (Nat.le_refl _) (by simp) ?_; (case hd => rfl); (case hg => rfl); (case hr => exact xh); (case hp => exact (Reps.one (show Kd.FK (Kd.slice 9 Kd.string) _ _ t124 [.slice Ao27 t124.length co27] from (Kd.FK_slice_mk (Kd.R_reads' (Kd.R_mono (ok' := (fun k_ => (w.heap.size ≤ k_) ∧ k_ ≠ gb123)) (Kd.R_types (HO126.out) BK123.out (by decide)) (fun k_ hk => ⟨hk.1.1, hk.2⟩))).2.1 (Kd.R_F (Kd.R_mono (ok' := (fun k_ => (w.heap.size ≤ k_) ∧ k_ ≠ gb123)) (Kd.R_types (HO126.out) BK123.out (by decide)) (fun k_ hk => ⟨hk.1.1, hk.2⟩))))) (Reps.none _ _))); intro v128 w28 ho29 hb hg_ hnew_; clear hg_ hnew_; (first | rw [← Ny127.out] at ho29 | (simp only [Int.reduceToNat] at ho29; rw [← Ny127.out] at ho29)); have HO129 := xy (Kd.N_lower ho29 (below_size xb)); replace BK123 := xd BK123.out hb; replace HB := xy (below_step xb hb); clear HO126; clear hb ho29))
  go_ret
  exact ⟨_, by first | rfl | (simp [errW_none, errW_some] <;> rfl) | (simp [*, errW_none, errW_some] <;> rfl), by (with_reducible repeat (first | apply Kd.N_alloc | apply Kd.N_drewN | apply Kd.N_drew)); exact Kd.N_mono HO129.out (fun _ hk => hk.1), xb⟩
def value_Num.f (a0 : Int) : Option (Bool × Int × ByteArray) := some (false, a0, (⟨#[]⟩ : ByteArray))
set_option maxHeartbeats 8000000 in
set_option maxRecDepth 100000 in
theorem value_Num.calls (a0 : Int) (r1 : Bool) (r2 : Int) (r3 : ByteArray) (w : World) (hT : Tabs w) (h : value_Num.f a0 = some (r1, r2, r3)) :
  Calls Tryz.prog 31 #[.int .i64 a0] w fun e w' => e = .returned (.agg #[.bool r1, .int .i64 r2, .string r3]) ∧ Below w.heap.size w w' := by
 have hu24 := Tryz.underlying24
 have HB := xy (Below.refl w.heap.size w)
 unfold value_Num.f at h
 have H := h
 clear h
 simp only [Option.some.injEq, Prod.mk.injEq] at H
 obtain ⟨rfl, rfl, rfl⟩ := H
 go_enter Tryz.func31, Tryz.ntmps31
 go_wp2_with (((with_reducible refine gate_dst (N := 2) rfl ?_); refine xq (N := 2) (cs := #[.bool false, .int .i64 0, .string (⟨#[]⟩ : ByteArray)]) (t := 24) ?_; intro gb142 hg w2 hbox hb; have BK142 := xy (hbox); have GW142 := xs w hg; have GE142 := xs w hg; replace HB := xy (below_step xb hb); clear hb hbox hg; have hcz3_0 : w2.cell? ⟨gb142, 0, none⟩ = some (.bool false) := (kc BK142.out 0).trans rfl; have hcz3_1 : w2.cell? ⟨gb142, 1, none⟩ = some (.int .i64 0) := (kc BK142.out 1).trans rfl; have hcz3_2 : w2.cell? ⟨gb142, 2, none⟩ = some (.string (⟨#[]⟩ : ByteArray)) := (kc BK142.out 2).trans rfl; have hfz3_0 := kf BK142.out 0; have hfz3_1 := kf BK142.out 1; have hfz3_2 := kf BK142.out 2))
 refine bodyPost_ret (results_cell_row rfl _ _ gb142 24 #[.bool false, .int .i64 a0, .string (⟨#[]⟩ : ByteArray)] (0, 0) _ rfl (kp BK142.out) Tryz.underlying24 rfl (by kernel_rfl)) rfl ?_
 exact ⟨xe, xb⟩
def value_Arity.f (a0 : Int) : Option (Int) := some (XOps.arityF a0)
theorem value_Arity.calls (a0 : Int) (r : Int) (w : World) (hT : Tabs w) (h : value_Arity.f a0 = some r) :
  Calls Tryz.prog 63 #[.int .i64 a0] w fun e w' => e = .returned (.int .i64 r) ∧ Below w.heap.size w w' := by
 obtain rfl := Option.some.inj h
 exact XOps.arity_calls a0 w
def code_isOp.f (a0 : Int) : Option (Bool) := if a0 ≥ 0 then (if a0 ≤ 3 then (some true) else (if a0 = 22 then (some true) else (if a0 = 23 then (some true) else ((value_Arity.f a0).bind fun t143 => (some (decide (t143 > 0))))))) else (if a0 = 22 then (some true) else (if a0 = 23 then (some true) else ((value_Arity.f a0).bind fun t144 => (some (decide (t144 > 0))))))
set_option maxHeartbeats 8000000 in
set_option maxRecDepth 100000 in
theorem code_isOp.calls (a0 : Int) (r : Bool) (w : World) (hT : Tabs w) (h : code_isOp.f a0 = some r) :
  Calls Tryz.prog 61 #[.int .i64 a0] w fun e w' => e = .returned (.bool r) ∧ Below w.heap.size w w' := by
 have HB := xy (Below.refl w.heap.size w)
 unfold code_isOp.f at h
 have H := h
 clear h
 by_cases c2 : a0 ≥ 0
 ·rw [if_pos c2] at H
  have c2b0 : decide (0 ≤ a0) = true := decide_eq_true c2
  clear c2
  by_cases c3 : a0 ≤ 3
  ·rw [if_pos c3] at H
   have c3b0 : decide (a0 ≤ 3) = true := decide_eq_true c3
   clear c3
   obtain rfl := Option.some.inj H
   go_enter Tryz.func61, Tryz.ntmps61
   go_wp2
   go_ret
   exact ⟨xe, xb⟩
  ·rw [if_neg c3] at H
   have c3b0 : decide (a0 ≤ 3) = false := decide_eq_false c3
   clear c3
   by_cases c4 : a0 = 22
   ·rw [if_pos c4] at H
    have c4b0 : (a0 == 22) = true := beq_iff_eq.mpr c4
    have c4b1 : (a0 != 22) = false := bne_eq_false_iff_eq.mpr c4
    clear c4
    obtain rfl := Option.some.inj H
    go_enter Tryz.func61, Tryz.ntmps61
    go_wp2
    go_ret
    exact ⟨xe, xb⟩
   ·rw [if_neg c4] at H
    have c4b0 : (a0 == 22) = false := beq_eq_false_iff_ne.mpr c4
    have c4b1 : (a0 != 22) = true := bne_iff_ne.mpr c4
    by_cases c5 : a0 = 23
    ·rw [if_pos c5] at H
     have c5b0 : (a0 == 23) = true := beq_iff_eq.mpr c5
     have c5b1 : (a0 != 23) = false := bne_eq_false_iff_eq.mpr c5
     clear c5
     obtain rfl := Option.some.inj H
     go_enter Tryz.func61, Tryz.ntmps61
     go_wp2
     go_ret
     exact ⟨xe, xb⟩
    ·rw [if_neg c5] at H
     have c5b0 : (a0 == 23) = false := beq_eq_false_iff_ne.mpr c5
     have c5b1 : (a0 != 23) = true := bne_iff_ne.mpr c5
     replace H := xj H
     obtain ⟨t143, A60, H⟩ := H
     try dsimp only at H
     have A6 := xy A60
     clear A60
     obtain rfl := Option.some.inj H
     go_enter Tryz.func61, Tryz.ntmps61
     go_wp2_with ((go_at_call 63; (with_reducible refine (value_Arity.calls a0 t143 _ (Tabs.below hT xf) A6.out).mono ?_); rintro e w7 ⟨rfl, hb⟩; replace HB := xy (below_step xb hb); (try clear hb); (try clear hb2); (try clear hk); (try clear hi)))
     go_ret
     exact ⟨xe, xb⟩
 ·rw [if_neg c2] at H
  have c2b0 : decide (0 ≤ a0) = false := decide_eq_false c2
  clear c2
  by_cases c8 : a0 = 22
  ·rw [if_pos c8] at H
   have c8b0 : (a0 == 22) = true := beq_iff_eq.mpr c8
   have c8b1 : (a0 != 22) = false := bne_eq_false_iff_eq.mpr c8
   clear c8
   obtain rfl := Option.some.inj H
   go_enter Tryz.func61, Tryz.ntmps61
   go_wp2
   go_ret
   exact ⟨xe, xb⟩
  ·rw [if_neg c8] at H
   have c8b0 : (a0 == 22) = false := beq_eq_false_iff_ne.mpr c8
   have c8b1 : (a0 != 22) = true := bne_iff_ne.mpr c8
   by_cases c9 : a0 = 23
   ·rw [if_pos c9] at H
    have c9b0 : (a0 == 23) = true := beq_iff_eq.mpr c9
    have c9b1 : (a0 != 23) = false := bne_eq_false_iff_eq.mpr c9
    clear c9
    obtain rfl := Option.some.inj H
    go_enter Tryz.func61, Tryz.ntmps61
    go_wp2
    go_ret
    exact ⟨xe, xb⟩
   ·rw [if_neg c9] at H
    have c9b0 : (a0 == 23) = false := beq_eq_false_iff_ne.mpr c9
    have c9b1 : (a0 != 23) = true := bne_iff_ne.mpr c9
    replace H := xj H
    obtain ⟨t144, A100, H⟩ := H
    try dsimp only at H
    have A10 := xy A100
    clear A100
    obtain rfl := Option.some.inj H
    go_enter Tryz.func61, Tryz.ntmps61
    go_wp2_with ((go_at_call 63; (with_reducible refine (value_Arity.calls a0 t144 _ (Tabs.below hT xf) A10.out).mono ?_); rintro e w11 ⟨rfl, hb⟩; replace HB := xy (below_step xb hb); (try clear hb); (try clear hb2); (try clear hk); (try clear hi)))
    go_ret
    exact ⟨xe, xb⟩
/- Walked functions, by this session's program over the kit's print. -/
theorem eqA24 (d : Nat) (w : World) (x0 y0 : Bool) (x1 y1 : Int) (x2 y2 : ByteArray) :
  (Op.equalIn (d + 2) 24 (.agg #[.bool x0, .int .i64 x1, .string x2]) (.agg #[.bool y0, .int .i64 y1, .string y2])).run Tryz.prog w = .ok (x0 == y0 && (x1 == y1 && (x2.toList == y2.toList))) w := by
 refine eqA_of Tryz.underlying24 (by kernel_rfl) ?_
 refine eqf_cons (by rfl) (by go_simp; rfl) (by go_simp; rfl) (by go_simp) ?_
 refine eqf_cons (by rfl) (by go_simp; rfl) (by go_simp; rfl) (by go_simp) ?_
 exact eqf_last (by rfl) (by go_simp; rfl) (by go_simp; rfl) (by go_simp)
end Go.Proofs.YtialoecplmnjfaaGreatDoor.PX
