/- Walked functions, by this session's program over the kit's print. -/
import Derived.Test.YtialoecplmnjfaaGreatDoorPXx0
import Derived.Test.YtialoecplmnjfaaGreatDoorPXx14
import Derived.Test.YtialoecplmnjfaaGreatDoorPXx5
namespace Go.Proofs.YtialoecplmnjfaaGreatDoor.PX
open Go.RowKit Go.Proofs.YtialoecplmnjfaaGreatDoorW.PrintWords Go.Proofs.YtialoecplmnjfaaGreatDoorW.PrintLast Go.Proofs.YtialoecplmnjfaaGreatDoorW.PrintMore
attribute [local go_sem] xm_gtr max2_int min2_int max_two min_two max_three min_three max_four min_four
set_option linter.unusedVariables false
set_option linter.unusedSimpArgs false
/- Walked functions, by this session's program over the kit's print. -/
mutual
def r18_Parts.j0 : Nat → List (S58) → List (List (S58)) → Bool → Bool → List (S50) → List (S50) → List (S50) → Int → List (S50) → Bool → Int → ByteArray → Bool → Int → Bool → Bool → Int → Option ((List (List (S58))))
 | 0, _, _, _, _, _, _, _, _, _, _, _, _, _, _, _, _, _ => none
 | k + 1, x1, x5, x17, x279000, x279001, x279002, x279003, x279004, x279005, x279006, x279007, x279008, x279009, x279010, x279011, x279012, x279013 => if x17 = true then (some x5) else (r18_Parts.l0 k x1 x5 0 x279000 x279001 x279002 x279003 x279004 x279005 x279006 x279007 x279008 x279009 x279010 x279011 x279012 x279013)
def r18_Parts.l0 : Nat → List (S58) → List (List (S58)) → Int → Bool → List (S50) → List (S50) → List (S50) → Int → List (S50) → Bool → Int → ByteArray → Bool → Int → Bool → Bool → Int → Option ((List (List (S58))))
 | 0, _, _, _, _, _, _, _, _, _, _, _, _, _, _, _, _, _ => none
 | k + 1, x1, x5, x6, x279000, x279001, x279002, x279003, x279004, x279005, x279006, x279007, x279008, x279009, x279010, x279011, x279012, x279013 => if x6 < x279010 then (r18_Parts.l1 k x1 x5 x6 (([] : List (S58))) 0 x279000 x279001 x279002 x279003 x279004 x279005 x279006 x279007 x279008 x279009 x279010 x279011 x279012 x279013) else (some x5)
def r18_Parts.l1 : Nat → List (S58) → List (List (S58)) → Int → List (S58) → Int → Bool → List (S50) → List (S50) → List (S50) → Int → List (S50) → Bool → Int → ByteArray → Bool → Int → Bool → Bool → Int → Option ((List (List (S58))))
 | 0, _, _, _, _, _, _, _, _, _, _, _, _, _, _, _, _, _, _, _ => none
 | k + 1, x1, x5, x6, x7, x8, x279000, x279001, x279002, x279003, x279004, x279005, x279006, x279007, x279008, x279009, x279010, x279011, x279012, x279013 => if x8 < (x1.length : Int) then (if 0 ≤ x8 then ((r17_Part.f k x279000 x279001 x279002 x279003 x279004 x279005 x279006 x279007 x279008 x279009 x279010 x279011 x279012 x279013 ((rd_T58 x1 x8).f0)).bind fun t286 => (if t286 = x6 then (if x7.length < 2932031007402 then (r18_Parts.l1 k x1 x5 x6 (x7 ++ [(⟨(rd_T58 x1 x8).f0, (⟨(rd_T58 x1 x8).f1.f0, (rd_T58 x1 x8).f1.f1, (rd_T58 x1 x8).f1.f2⟩ : S24)⟩ : S58)]) (wrap64 (x8 + 1)) x279000 x279001 x279002 x279003 x279004 x279005 x279006 x279007 x279008 x279009 x279010 x279011 x279012 x279013) else (none)) else (r18_Parts.l1 k x1 x5 x6 x7 (wrap64 (x8 + 1)) x279000 x279001 x279002 x279003 x279004 x279005 x279006 x279007 x279008 x279009 x279010 x279011 x279012 x279013))) else (none)) else (if x5.length < 5864062014805 then (r18_Parts.l0 k x1 (x5 ++ [x7]) (wrap64 (x6 + 1)) x279000 x279001 x279002 x279003 x279004 x279005 x279006 x279007 x279008 x279009 x279010 x279011 x279012 x279013) else (none))
end
def r18_Parts.f (k : Nat) (a0_0 : Bool) (l0_1 : List (S50)) (l0_2 : List (S50)) (l0_3 : List (S50)) (a0_4 : Int) (l0_5 : List (S50)) (a0_6 : Bool) (a0_7 : Int) (a0_8 : ByteArray) (a0_9 : Bool) (a0_10 : Int) (a0_11 : Bool) (a0_12 : Bool) (a0_13 : Int) (l1 : List (S58)) : Option ((List (List (S58)))) := (some (([] : List (List (S58))) : List (List (S58)))).bind fun y279 => (if a0_10 < 1 then (r18_Parts.j0 k l1 y279 true a0_0 l0_1 l0_2 l0_3 a0_4 l0_5 a0_6 a0_7 a0_8 a0_9 a0_10 a0_11 a0_12 a0_13) else (r18_Parts.j0 k l1 y279 (decide (a0_10 > 8)) a0_0 l0_1 l0_2 l0_3 a0_4 l0_5 a0_6 a0_7 a0_8 a0_9 a0_10 a0_11 a0_12 a0_13))
theorem r18_Parts.mono_l : ∀ k, (∀ y0 y1 y2 y3 y4 y5 y6 y7 y8 y9 y10 y11 y12 y13 y14 y15 y16, LeO (r18_Parts.j0 k y0 y1 y2 y3 y4 y5 y6 y7 y8 y9 y10 y11 y12 y13 y14 y15 y16) (r18_Parts.j0 (k + 1) y0 y1 y2 y3 y4 y5 y6 y7 y8 y9 y10 y11 y12 y13 y14 y15 y16)) ∧ (∀ y0 y1 y2 y3 y4 y5 y6 y7 y8 y9 y10 y11 y12 y13 y14 y15 y16, LeO (r18_Parts.l0 k y0 y1 y2 y3 y4 y5 y6 y7 y8 y9 y10 y11 y12 y13 y14 y15 y16) (r18_Parts.l0 (k + 1) y0 y1 y2 y3 y4 y5 y6 y7 y8 y9 y10 y11 y12 y13 y14 y15 y16)) ∧ (∀ y0 y1 y2 y3 y4 y5 y6 y7 y8 y9 y10 y11 y12 y13 y14 y15 y16 y17 y18, LeO (r18_Parts.l1 k y0 y1 y2 y3 y4 y5 y6 y7 y8 y9 y10 y11 y12 y13 y14 y15 y16 y17 y18) (r18_Parts.l1 (k + 1) y0 y1 y2 y3 y4 y5 y6 y7 y8 y9 y10 y11 y12 y13 y14 y15 y16 y17 y18))
 | 0 => ⟨fun _ _ _ _ _ _ _ _ _ _ _ _ _ _ _ _ _ r h => by simp [r18_Parts.j0] at h, fun _ _ _ _ _ _ _ _ _ _ _ _ _ _ _ _ _ r h => by simp [r18_Parts.l0] at h, fun _ _ _ _ _ _ _ _ _ _ _ _ _ _ _ _ _ _ _ r h => by simp [r18_Parts.l1] at h⟩
 | k + 1 => by
  obtain ⟨ih0, ih1, ih2⟩ := r18_Parts.mono_l k
  refine ⟨?_, ?_, ?_⟩
  ·intro y0 y1 y2 y3 y4 y5 y6 y7 y8 y9 y10 y11 y12 y13 y14 y15 y16
   unfold r18_Parts.j0
   repeat' (with_reducible first | exact ih0 _ _ _ _ _ _ _ _ _ _ _ _ _ _ _ _ _ | exact ih1 _ _ _ _ _ _ _ _ _ _ _ _ _ _ _ _ _ | exact ih2 _ _ _ _ _ _ _ _ _ _ _ _ _ _ _ _ _ _ _ | exact r17_Part.mono _ _ _ _ _ _ _ _ _ _ _ _ _ _ _ _ | exact LeO.refl _ | exact LeO.none _ | refine LeO.ite ?_ ?_ | refine LeO.bind ?_ (fun _ => ?_))
  ·intro y0 y1 y2 y3 y4 y5 y6 y7 y8 y9 y10 y11 y12 y13 y14 y15 y16
   unfold r18_Parts.l0
   repeat' (with_reducible first | exact ih0 _ _ _ _ _ _ _ _ _ _ _ _ _ _ _ _ _ | exact ih1 _ _ _ _ _ _ _ _ _ _ _ _ _ _ _ _ _ | exact ih2 _ _ _ _ _ _ _ _ _ _ _ _ _ _ _ _ _ _ _ | exact r17_Part.mono _ _ _ _ _ _ _ _ _ _ _ _ _ _ _ _ | exact LeO.refl _ | exact LeO.none _ | refine LeO.ite ?_ ?_ | refine LeO.bind ?_ (fun _ => ?_))
  ·intro y0 y1 y2 y3 y4 y5 y6 y7 y8 y9 y10 y11 y12 y13 y14 y15 y16 y17 y18
   unfold r18_Parts.l1
   repeat' (with_reducible first | exact ih0 _ _ _ _ _ _ _ _ _ _ _ _ _ _ _ _ _ | exact ih1 _ _ _ _ _ _ _ _ _ _ _ _ _ _ _ _ _ | exact ih2 _ _ _ _ _ _ _ _ _ _ _ _ _ _ _ _ _ _ _ | exact r17_Part.mono _ _ _ _ _ _ _ _ _ _ _ _ _ _ _ _ | exact LeO.refl _ | exact LeO.none _ | refine LeO.ite ?_ ?_ | refine LeO.bind ?_ (fun _ => ?_))
theorem r18_Parts.mono : ∀ a0 a1 a2 a3 a4 a5 a6 a7 a8 a9 a10 a11 a12 a13 a14 k, LeO (r18_Parts.f k a0 a1 a2 a3 a4 a5 a6 a7 a8 a9 a10 a11 a12 a13 a14) (r18_Parts.f (k + 1) a0 a1 a2 a3 a4 a5 a6 a7 a8 a9 a10 a11 a12 a13 a14) := by
 intro a0 a1 a2 a3 a4 a5 a6 a7 a8 a9 a10 a11 a12 a13 a14 k
 obtain ⟨ih0, ih1, ih2⟩ := r18_Parts.mono_l k
 unfold r18_Parts.f
 repeat' (with_reducible first | exact ih0 _ _ _ _ _ _ _ _ _ _ _ _ _ _ _ _ _ | exact ih1 _ _ _ _ _ _ _ _ _ _ _ _ _ _ _ _ _ | exact ih2 _ _ _ _ _ _ _ _ _ _ _ _ _ _ _ _ _ _ _ | exact r17_Part.mono _ _ _ _ _ _ _ _ _ _ _ _ _ _ _ _ | exact LeO.refl _ | exact LeO.none _ | refine LeO.ite ?_ ?_ | refine LeO.bind ?_ (fun _ => ?_))
def r18_Parts.T11 : Bool × List (List Nat × List Nat) := (true, [([], []), ([], []), ([], []), ([1, 2], [1, 2]), ([3], [3]), ([4], [4]), ([0, 5], [0, 5]), ([], []), ([6, 7], [6, 7])])
def r18_Parts.B11 : List Nat := [0, 0, 0, 6, 14, 30, 63, 0, 255]
theorem r18_Parts.tab11 : rtab .any (opsOf Tryz.f9 11) = r18_Parts.T11 := by kernel_rfl
theorem r18_Parts.bits11 : waitsOk r18_Parts.T11.2 r18_Parts.B11 = true := by kernel_rfl
set_option maxHeartbeats 8000000 in
set_option maxRecDepth 100000 in
theorem r18_Parts.calls (k : Nat) (a0_0 : Bool) (A0_1 : Option Addr) (c0_1 : Nat) (l0_1 : List (S50)) (A0_2 : Option Addr) (c0_2 : Nat) (l0_2 : List (S50)) (A0_3 : Option Addr) (c0_3 : Nat) (l0_3 : List (S50)) (a0_4 : Int) (A0_5 : Option Addr) (c0_5 : Nat) (l0_5 : List (S50)) (a0_6 : Bool) (a0_7 : Int) (a0_8 : ByteArray) (a0_9 : Bool) (a0_10 : Int) (a0_11 : Bool) (a0_12 : Bool) (a0_13 : Int) (A1 : Option Addr) (c1 : Nat) (l1 : List (S58)) (r : List (List (S58))) (w : World) (hT : Tabs w) (hr0_1 : Kd.C k50 w A0_1 l0_1.length l0_1) (hc0_1 : l0_1.length ≤ c0_1) (hr0_2 : Kd.C k50 w A0_2 l0_2.length l0_2) (hc0_2 : l0_2.length ≤ c0_2) (hr0_3 : Kd.C k50 w A0_3 l0_3.length l0_3) (hc0_3 : l0_3.length ≤ c0_3) (hr0_5 : Kd.C k50 w A0_5 l0_5.length l0_5) (hc0_5 : l0_5.length ≤ c0_5) (hr1 : Kd.C k58 w A1 l1.length l1) (hc1 : l1.length ≤ c1) (h : r18_Parts.f k a0_0 l0_1 l0_2 l0_3 a0_4 l0_5 a0_6 a0_7 a0_8 a0_9 a0_10 a0_11 a0_12 a0_13 l1 = some r) :
  Calls Tryz.prog 9 #[.agg #[.bool a0_0, .slice A0_1 l0_1.length c0_1, .slice A0_2 l0_2.length c0_2, .slice A0_3 l0_3.length c0_3, .int .i64 a0_4, .slice A0_5 l0_5.length c0_5, .bool a0_6, .int .i64 a0_7, .string a0_8, .bool a0_9, .int .i64 a0_10, .bool a0_11, .bool a0_12, .int .i64 a0_13], .slice A1 l1.length c1] w fun e w' => ∃ v0_ : Value, e = .returned (v0_) ∧ Kd.S (Kd.slice 58 k58) 37 w' w.heap.size (fun _ => True) v0_ r ∧ Below w.heap.size w w' := by
 have hu35 := Tryz.underlying35
 have hu58 := Tryz.underlying58
 have HR0_1 := xy hr0_1
 have HC0_1 := xy hc0_1
 clear hr0_1 hc0_1
 have HR0_2 := xy hr0_2
 have HC0_2 := xy hc0_2
 clear hr0_2 hc0_2
 have HR0_3 := xy hr0_3
 have HC0_3 := xy hc0_3
 clear hr0_3 hc0_3
 have HR0_5 := xy hr0_5
 have HC0_5 := xy hc0_5
 clear hr0_5 hc0_5
 have HR1 := xy hr1
 have HC1 := xy hc1
 clear hr1 hc1
 have HB := xy (Below.refl w.heap.size w)
 unfold r18_Parts.f at h
 have H := h
 clear h
 obtain ⟨y279, hy279⟩ : ∃ y_ : List (List (S58)), y_ = (([] : List (List (S58)))) := ⟨_, rfl⟩
 replace H : (if a0_10 < 1 then (r18_Parts.j0 k l1 y279 true a0_0 l0_1 l0_2 l0_3 a0_4 l0_5 a0_6 a0_7 a0_8 a0_9 a0_10 a0_11 a0_12 a0_13) else (r18_Parts.j0 k l1 y279 (decide (a0_10 > 8)) a0_0 l0_1 l0_2 l0_3 a0_4 l0_5 a0_6 a0_7 a0_8 a0_9 a0_10 a0_11 a0_12 a0_13)) = some r := by first | (rw [hy279]; with_reducible exact H) | (have H2_ := (Option.bind_some _ _).symm.trans H; rw [hy279]; with_reducible exact H2_) | (have H2_ := (Option.bind_some _ _).symm.trans H; with_reducible exact H2_) | with_reducible exact H | (rw [hy279]; exact H) | exact H
 have Ny279 := xy hy279
 clear hy279
 have HC3 := xy H
 clear H
 go_enter Tryz.func9, Tryz.ntmps9
 go_upto_region 2 with (first | ((with_reducible refine gate_dst (N := 2) rfl ?_); refine xq (N := 2) (cs := #[.bool a0_0, .slice A0_1 l0_1.length c0_1, .slice A0_2 l0_2.length c0_2, .slice A0_3 l0_3.length c0_3, .int .i64 a0_4, .slice A0_5 l0_5.length c0_5, .bool a0_6, .int .i64 a0_7, .string a0_8, .bool a0_9, .int .i64 a0_10, .bool a0_11, .bool a0_12, .int .i64 a0_13]) (t := 35) ?_; intro gb278 hg w4 hbox hb; have BK278 := xy (hbox); have GW278 := xs w hg; have GE278 := xs w hg; replace HB := xy (below_step xb hb); clear hb hbox hg) | ((with_reducible refine gate_dst (N := 9) rfl ?_); refine Kd.S_lit (Kd.slice 58 k58) _ 37 ?hg (N := 9) ?hd (xs := ([] : List (List (S58)))) (inner := []) (ok := fun _ => True) (okp := fun _ => True) ?hr ?hp (fun _ hk => hk) trivial (Below.refl _ _) (Nat.le_refl _) (by simp) ?_; (case hd => rfl); (case hg => rfl); (case hr => exact xh); (case hp => exact (Reps.none _ _)); intro v280 w5 ho6 hb hg_ hnew_; clear hg_ hnew_; (first | rw [← Ny279.out] at ho6 | (simp only [Int.reduceToNat] at ho6; rw [← Ny279.out] at ho6)); have HO281 := xy (Kd.S_lower ho6 (below_size xb)); replace BK278 := xd BK278.out hb; replace HB := xy (below_step xb hb); clear hb ho6))
 (try simp only [Act.put, List.setIfInBounds_toArray, List.set_cons_zero, List.set_cons_succ])
 go_cut [17] (fun v17 wc => ∃ (kq : Nat) (x17_2 : Bool), v17 = .bool x17_2 ∧ Aside0 (r18_Parts.j0 kq l1 y279 x17_2 a0_0 l0_1 l0_2 l0_3 a0_4 l0_5 a0_6 a0_7 a0_8 a0_9 a0_10 a0_11 a0_12 a0_13 = some r) ∧ Aside0 (kq ≤ k) ∧ Aside0 (Kd.S (Kd.slice 58 k58) 37 wc w.heap.size (fun _ => True) v280 y279) ∧ Aside0 (wc.heap[gb278]? = some (.cells #[.bool a0_0, (.slice A0_1 l0_1.length c0_1), (.slice A0_2 l0_2.length c0_2), (.slice A0_3 l0_3.length c0_3), .int .i64 a0_4, (.slice A0_5 l0_5.length c0_5), .bool a0_6, .int .i64 a0_7, .string a0_8, .bool a0_9, .int .i64 a0_10, .bool a0_11, .bool a0_12, .int .i64 a0_13] 35 (0, 0))) ∧ Aside0 (Below w.heap.size w wc))
 case first =>
  have H := HC3.out
  clear HC3
  by_cases c7 : a0_10 < 1
  ·rw [if_pos c7] at H
   have c7b0 : decide (a0_10 < 1) = true := decide_eq_true c7
   clear c7
   (first | rw [c7b0] | (simp only [i64_w, i32_w]; rw [c7b0]) | skip)
   have H' := xy H
   clear H
   have hcz8_0 : w5.cell? ⟨gb278, 0, none⟩ = some (.bool a0_0) := (kc BK278.out 0).trans rfl
   have hcz8_1 : w5.cell? ⟨gb278, 1, none⟩ = some (.slice A0_1 l0_1.length c0_1) := (kc BK278.out 1).trans rfl
   have hcz8_2 : w5.cell? ⟨gb278, 2, none⟩ = some (.slice A0_2 l0_2.length c0_2) := (kc BK278.out 2).trans rfl
   have hcz8_3 : w5.cell? ⟨gb278, 3, none⟩ = some (.slice A0_3 l0_3.length c0_3) := (kc BK278.out 3).trans rfl
   have hcz8_4 : w5.cell? ⟨gb278, 4, none⟩ = some (.int .i64 a0_4) := (kc BK278.out 4).trans rfl
   have hcz8_5 : w5.cell? ⟨gb278, 5, none⟩ = some (.slice A0_5 l0_5.length c0_5) := (kc BK278.out 5).trans rfl
   have hcz8_6 : w5.cell? ⟨gb278, 6, none⟩ = some (.bool a0_6) := (kc BK278.out 6).trans rfl
   have hcz8_7 : w5.cell? ⟨gb278, 7, none⟩ = some (.int .i64 a0_7) := (kc BK278.out 7).trans rfl
   have hcz8_8 : w5.cell? ⟨gb278, 8, none⟩ = some (.string a0_8) := (kc BK278.out 8).trans rfl
   have hcz8_9 : w5.cell? ⟨gb278, 9, none⟩ = some (.bool a0_9) := (kc BK278.out 9).trans rfl
   have hcz8_10 : w5.cell? ⟨gb278, 10, none⟩ = some (.int .i64 a0_10) := (kc BK278.out 10).trans rfl
   have hcz8_11 : w5.cell? ⟨gb278, 11, none⟩ = some (.bool a0_11) := (kc BK278.out 11).trans rfl
   have hcz8_12 : w5.cell? ⟨gb278, 12, none⟩ = some (.bool a0_12) := (kc BK278.out 12).trans rfl
   have hcz8_13 : w5.cell? ⟨gb278, 13, none⟩ = some (.int .i64 a0_13) := (kc BK278.out 13).trans rfl
   have hfz8_0 := kf BK278.out 0
   have hfz8_1 := kf BK278.out 1
   have hfz8_2 := kf BK278.out 2
   have hfz8_3 := kf BK278.out 3
   have hfz8_4 := kf BK278.out 4
   have hfz8_5 := kf BK278.out 5
   have hfz8_6 := kf BK278.out 6
   have hfz8_7 := kf BK278.out 7
   have hfz8_8 := kf BK278.out 8
   have hfz8_9 := kf BK278.out 9
   have hfz8_10 := kf BK278.out 10
   have hfz8_11 := kf BK278.out 11
   have hfz8_12 := kf BK278.out 12
   have hfz8_13 := kf BK278.out 13
   go_wp2
   go_meet
   case rel => exact ⟨_, (true), xg, H', ⟨by first | omega | exact Nat.le_refl _⟩, ⟨by (with_reducible repeat (first | apply Kd.S_alloc | apply Kd.S_drewN | apply Kd.S_drew)); exact HO281.out⟩, ⟨by (with_reducible repeat (first | refine blk_drewN ?_ _ | refine blk_drew ?_ | refine blk_alloc ?_ _)); exact BK278.out⟩, ⟨xb⟩⟩
  ·rw [if_neg c7] at H
   have c7b0 : decide (a0_10 < 1) = false := decide_eq_false c7
   clear c7
   (first | rw [c7b0] | (simp only [i64_w, i32_w]; rw [c7b0]) | skip)
   have H' := xy H
   clear H
   have hcz9_0 : w5.cell? ⟨gb278, 0, none⟩ = some (.bool a0_0) := (kc BK278.out 0).trans rfl
   have hcz9_1 : w5.cell? ⟨gb278, 1, none⟩ = some (.slice A0_1 l0_1.length c0_1) := (kc BK278.out 1).trans rfl
   have hcz9_2 : w5.cell? ⟨gb278, 2, none⟩ = some (.slice A0_2 l0_2.length c0_2) := (kc BK278.out 2).trans rfl
   have hcz9_3 : w5.cell? ⟨gb278, 3, none⟩ = some (.slice A0_3 l0_3.length c0_3) := (kc BK278.out 3).trans rfl
   have hcz9_4 : w5.cell? ⟨gb278, 4, none⟩ = some (.int .i64 a0_4) := (kc BK278.out 4).trans rfl
   have hcz9_5 : w5.cell? ⟨gb278, 5, none⟩ = some (.slice A0_5 l0_5.length c0_5) := (kc BK278.out 5).trans rfl
   have hcz9_6 : w5.cell? ⟨gb278, 6, none⟩ = some (.bool a0_6) := (kc BK278.out 6).trans rfl
   have hcz9_7 : w5.cell? ⟨gb278, 7, none⟩ = some (.int .i64 a0_7) := (kc BK278.out 7).trans rfl
   have hcz9_8 : w5.cell? ⟨gb278, 8, none⟩ = some (.string a0_8) := (kc BK278.out 8).trans rfl
   have hcz9_9 : w5.cell? ⟨gb278, 9, none⟩ = some (.bool a0_9) := (kc BK278.out 9).trans rfl
   have hcz9_10 : w5.cell? ⟨gb278, 10, none⟩ = some (.int .i64 a0_10) := (kc BK278.out 10).trans rfl
   have hcz9_11 : w5.cell? ⟨gb278, 11, none⟩ = some (.bool a0_11) := (kc BK278.out 11).trans rfl
   have hcz9_12 : w5.cell? ⟨gb278, 12, none⟩ = some (.bool a0_12) := (kc BK278.out 12).trans rfl
   have hcz9_13 : w5.cell? ⟨gb278, 13, none⟩ = some (.int .i64 a0_13) := (kc BK278.out 13).trans rfl
   have hfz9_0 := kf BK278.out 0
   have hfz9_1 := kf BK278.out 1
   have hfz9_2 := kf BK278.out 2
   have hfz9_3 := kf BK278.out 3
   have hfz9_4 := kf BK278.out 4
   have hfz9_5 := kf BK278.out 5
   have hfz9_6 := kf BK278.out 6
   have hfz9_7 := kf BK278.out 7
   have hfz9_8 := kf BK278.out 8
   have hfz9_9 := kf BK278.out 9
   have hfz9_10 := kf BK278.out 10
   have hfz9_11 := kf BK278.out 11
   have hfz9_12 := kf BK278.out 12
   have hfz9_13 := kf BK278.out 13
   go_wp2
   go_meet
   case rel => exact ⟨_, (decide (a0_10 > 8)), xg, H', ⟨by first | omega | exact Nat.le_refl _⟩, ⟨by (with_reducible repeat (first | apply Kd.S_alloc | apply Kd.S_drewN | apply Kd.S_drew)); exact HO281.out⟩, ⟨by (with_reducible repeat (first | refine blk_drewN ?_ _ | refine blk_drew ?_ | refine blk_alloc ?_ _)); exact BK278.out⟩, ⟨xb⟩⟩
 case rest =>
  clear HC3
  try clear c1
  try clear p2
  try clear c7
  try clear c7b0
  try clear c9
  try clear hcz8_0
  try clear hcz8_1
  try clear hcz8_10
  try clear hcz8_11
  try clear hcz8_12
  try clear hcz8_13
  try clear hcz8_2
  try clear hcz8_3
  try clear hcz8_4
  try clear hcz8_5
  try clear hcz8_6
  try clear hcz8_7
  try clear hcz8_8
  try clear hcz8_9
  try clear hcz9_0
  try clear hcz9_1
  try clear hcz9_10
  try clear hcz9_11
  try clear hcz9_12
  try clear hcz9_13
  try clear hcz9_2
  try clear hcz9_3
  try clear hcz9_4
  try clear hcz9_5
  try clear hcz9_6
  try clear hcz9_7
  try clear hcz9_8
  try clear hcz9_9
  try clear hfz8_0
  try clear hfz8_1
  try clear hfz8_10
  try clear hfz8_11
  try clear hfz8_12
  try clear hfz8_13
  try clear hfz8_2
  try clear hfz8_3
  try clear hfz8_4
  try clear hfz8_5
  try clear hfz8_6
  try clear hfz8_7
  try clear hfz8_8
  try clear hfz8_9
  try clear hfz9_0
  try clear hfz9_1
  try clear hfz9_10
  try clear hfz9_11
  try clear hfz9_12
  try clear hfz9_13
  try clear hfz9_2
  try clear hfz9_3
  try clear hfz9_4
  try clear hfz9_5
  try clear hfz9_6
  try clear hfz9_7
  try clear hfz9_8
  try clear hfz9_9
  obtain ⟨kq, x17_2, rfl, HA, HJ2, HO_5, BK278, HB⟩ := hcut
  cases kq with
  | zero => exact absurd HA.out (by simp [r18_Parts.j0])
  | succ kj2 =>
   have H := HA.out
   clear HA
   simp only [r18_Parts.j0] at H
   by_cases c10 : x17_2 = true
   ·subst c10
    rw [if_pos rfl] at H
    obtain rfl := Option.some.inj H
    go_wp2
    go_ret
    exact ⟨_, by first | rfl | (simp [errW_none, errW_some] <;> rfl) | (simp [*, errW_none, errW_some] <;> rfl), by (with_reducible repeat (first | apply Kd.S_alloc | apply Kd.S_drewN | apply Kd.S_drew)); exact HO_5.out, xb⟩
   ·replace c10 := Bool.eq_false_iff.mpr c10
    subst c10
    rw [if_neg (show ¬ (false = true) by decide)] at H
    have H' := xy H
    clear H
    go_wp2
    go_loopg [5, 6] kj2 (fun kq v5 v6 w' => ∃ (x5_2 : List (List (S58))) (x6_2 : Int), v6 = .int .i64 x6_2 ∧ Aside0 (r18_Parts.l0 kq l1 x5_2 x6_2 a0_0 l0_1 l0_2 l0_3 a0_4 l0_5 a0_6 a0_7 a0_8 a0_9 a0_10 a0_11 a0_12 a0_13 = some r) ∧ Aside0 (kq ≤ kj2) ∧ Aside0 (Kd.S (Kd.slice 58 k58) 37 w' w.heap.size (fun _ => True) v5 x5_2) ∧ Aside0 (w'.heap[gb278]? = some (.cells #[.bool a0_0, (.slice A0_1 l0_1.length c0_1), (.slice A0_2 l0_2.length c0_2), (.slice A0_3 l0_3.length c0_3), .int .i64 a0_4, (.slice A0_5 l0_5.length c0_5), .bool a0_6, .int .i64 a0_7, .string a0_8, .bool a0_9, .int .i64 a0_10, .bool a0_11, .bool a0_12, .int .i64 a0_13] 35 (0, 0))) ∧ Aside0 (Below w.heap.size w w'))
    case atStart => exact ⟨(y279), (0), xg, H', ⟨Nat.le_refl _⟩, ⟨by (with_reducible repeat (first | apply Kd.S_alloc | apply Kd.S_drewN | apply Kd.S_drew)); exact HO_5.out⟩, ⟨by (with_reducible repeat (first | refine blk_drewN ?_ _ | refine blk_drew ?_ | refine blk_alloc ?_ _)); exact BK278.out⟩, ⟨xb⟩⟩
    case round =>
     clear H'
     try clear c1
     try clear p2
     try clear c7
     try clear c7b0
     try clear c9
     try clear c10
     try clear hcz8_0
     try clear hcz8_1
     try clear hcz8_10
     try clear hcz8_11
     try clear hcz8_12
     try clear hcz8_13
     try clear hcz8_2
     try clear hcz8_3
     try clear hcz8_4
     try clear hcz8_5
     try clear hcz8_6
     try clear hcz8_7
     try clear hcz8_8
     try clear hcz8_9
     try clear hcz9_0
     try clear hcz9_1
     try clear hcz9_10
     try clear hcz9_11
     try clear hcz9_12
     try clear hcz9_13
     try clear hcz9_2
     try clear hcz9_3
     try clear hcz9_4
     try clear hcz9_5
     try clear hcz9_6
     try clear hcz9_7
     try clear hcz9_8
     try clear hcz9_9
     try clear hfz8_0
     try clear hfz8_1
     try clear hfz8_10
     try clear hfz8_11
     try clear hfz8_12
     try clear hfz8_13
     try clear hfz8_2
     try clear hfz8_3
     try clear hfz8_4
     try clear hfz8_5
     try clear hfz8_6
     try clear hfz8_7
     try clear hfz8_8
     try clear hfz8_9
     try clear hfz9_0
     try clear hfz9_1
     try clear hfz9_10
     try clear hfz9_11
     try clear hfz9_12
     try clear hfz9_13
     try clear hfz9_2
     try clear hfz9_3
     try clear hfz9_4
     try clear hfz9_5
     try clear hfz9_6
     try clear hfz9_7
     try clear hfz9_8
     try clear hfz9_9
     try clear p2
     obtain ⟨x5_2, x6_2, rfl, HA, HK2, HO_5, BK278, HB⟩ := hrel
     cases gk with
     | zero => exact absurd HA.out (by simp [r18_Parts.l0])
     | succ k2 =>
      have H := HA.out
      clear HA
      simp only [r18_Parts.l0] at H
      by_cases c11 : x6_2 < a0_10
      ·rw [if_pos c11] at H
       have c11b0 : decide (x6_2 < a0_10) = true := decide_eq_true c11
       clear c11
       obtain ⟨y282, hy282⟩ : ∃ y_ : List (S58), y_ = (([] : List (S58))) := ⟨_, rfl⟩
       replace H : (r18_Parts.l1 k2 l1 x5_2 x6_2 y282 0 a0_0 l0_1 l0_2 l0_3 a0_4 l0_5 a0_6 a0_7 a0_8 a0_9 a0_10 a0_11 a0_12 a0_13) = some r := by first | (rw [hy282]; with_reducible exact H) | (have H2_ := (Option.bind_some _ _).symm.trans H; rw [hy282]; with_reducible exact H2_) | (have H2_ := (Option.bind_some _ _).symm.trans H; with_reducible exact H2_) | with_reducible exact H | (rw [hy282]; exact H) | exact H
       have Ny282 := xy hy282
       clear hy282
       have H' := xy H
       clear H
       have hcz12_0 : wr.cell? ⟨gb278, 0, none⟩ = some (.bool a0_0) := (kc BK278.out 0).trans rfl
       have hcz12_1 : wr.cell? ⟨gb278, 1, none⟩ = some (.slice A0_1 l0_1.length c0_1) := (kc BK278.out 1).trans rfl
       have hcz12_2 : wr.cell? ⟨gb278, 2, none⟩ = some (.slice A0_2 l0_2.length c0_2) := (kc BK278.out 2).trans rfl
       have hcz12_3 : wr.cell? ⟨gb278, 3, none⟩ = some (.slice A0_3 l0_3.length c0_3) := (kc BK278.out 3).trans rfl
       have hcz12_4 : wr.cell? ⟨gb278, 4, none⟩ = some (.int .i64 a0_4) := (kc BK278.out 4).trans rfl
       have hcz12_5 : wr.cell? ⟨gb278, 5, none⟩ = some (.slice A0_5 l0_5.length c0_5) := (kc BK278.out 5).trans rfl
       have hcz12_6 : wr.cell? ⟨gb278, 6, none⟩ = some (.bool a0_6) := (kc BK278.out 6).trans rfl
       have hcz12_7 : wr.cell? ⟨gb278, 7, none⟩ = some (.int .i64 a0_7) := (kc BK278.out 7).trans rfl
       have hcz12_8 : wr.cell? ⟨gb278, 8, none⟩ = some (.string a0_8) := (kc BK278.out 8).trans rfl
       have hcz12_9 : wr.cell? ⟨gb278, 9, none⟩ = some (.bool a0_9) := (kc BK278.out 9).trans rfl
       have hcz12_10 : wr.cell? ⟨gb278, 10, none⟩ = some (.int .i64 a0_10) := (kc BK278.out 10).trans rfl
       have hcz12_11 : wr.cell? ⟨gb278, 11, none⟩ = some (.bool a0_11) := (kc BK278.out 11).trans rfl
       have hcz12_12 : wr.cell? ⟨gb278, 12, none⟩ = some (.bool a0_12) := (kc BK278.out 12).trans rfl
       have hcz12_13 : wr.cell? ⟨gb278, 13, none⟩ = some (.int .i64 a0_13) := (kc BK278.out 13).trans rfl
       have hfz12_0 := kf BK278.out 0
       have hfz12_1 := kf BK278.out 1
       have hfz12_2 := kf BK278.out 2
       have hfz12_3 := kf BK278.out 3
       have hfz12_4 := kf BK278.out 4
       have hfz12_5 := kf BK278.out 5
       have hfz12_6 := kf BK278.out 6
       have hfz12_7 := kf BK278.out 7
       have hfz12_8 := kf BK278.out 8
       have hfz12_9 := kf BK278.out 9
       have hfz12_10 := kf BK278.out 10
       have hfz12_11 := kf BK278.out 11
       have hfz12_12 := kf BK278.out 12
       have hfz12_13 := kf BK278.out 13
       go_wp2_with (first | ((with_reducible refine gate_dst (N := 25) rfl ?_); refine Kd.R_lit k58 _ 58 ?hg (N := 25) ?hd (xs := ([] : List (S58))) (inner := []) (ok := fun _ => True) (okp := fun _ => True) ?hr ?hp (fun _ hk => hk) trivial (Below.refl _ _) (Nat.le_refl _) (by simp) ?_; (case hd => rfl); (case hg => rfl); (case hr => exact xh); (case hp => exact (Reps.none _ _)); intro v283 w13 ho14 hb hg_ hnew_; clear hg_ hnew_; (first | rw [← Ny282.out] at ho14 | (simp only [Int.reduceToNat] at ho14; rw [← Ny282.out] at ho14)); replace HO_5 := xy (Kd.S_elder' (by (with_reducible repeat (first | apply Kd.S_alloc | apply Kd.S_drewN | apply Kd.S_drew)); exact HO_5.out) (Kd.R_base ho14) hb); have HO284 := xy (Kd.R_lower ho14 (below_size xb)); replace BK278 := xd BK278.out hb; replace HB := xy (below_step xb hb); clear hb ho14))
       go_loopg [7, 8] k2 (fun kq v7 v8 w' => ∃ (x7_3 : List (S58)) (x8_3 : Int), v8 = .int .i64 x8_3 ∧ Aside0 (r18_Parts.l1 kq l1 x5_2 x6_2 x7_3 x8_3 a0_0 l0_1 l0_2 l0_3 a0_4 l0_5 a0_6 a0_7 a0_8 a0_9 a0_10 a0_11 a0_12 a0_13 = some r) ∧ Aside0 (kq ≤ k2) ∧ Aside0 (Kd.S (Kd.slice 58 k58) 37 w' w.heap.size (fun k_ => some k_ ≠ (v7 : Value).ownBlock) u5 x5_2) ∧ Aside0 (Kd.R k58 58 w' w.heap.size (fun _ => True) v7 x7_3) ∧ Aside0 (w'.heap[gb278]? = some (.cells #[.bool a0_0, (.slice A0_1 l0_1.length c0_1), (.slice A0_2 l0_2.length c0_2), (.slice A0_3 l0_3.length c0_3), .int .i64 a0_4, (.slice A0_5 l0_5.length c0_5), .bool a0_6, .int .i64 a0_7, .string a0_8, .bool a0_9, .int .i64 a0_10, .bool a0_11, .bool a0_12, .int .i64 a0_13] 35 (0, 0))) ∧ Aside0 (Below w.heap.size w w'))
       case atStart => exact ⟨(y282), (0), xg, H', ⟨Nat.le_refl _⟩, ⟨by (with_reducible repeat (first | apply Kd.S_alloc | apply Kd.S_drewN | apply Kd.S_drew)); exact Kd.S_mono HO_5.out (fun _ hk => hk.2)⟩, ⟨by (with_reducible repeat (first | apply Kd.R_alloc | apply Kd.R_drewN | apply Kd.R_drew)); exact HO284.out⟩, ⟨by (with_reducible repeat (first | refine blk_drewN ?_ _ | refine blk_drew ?_ | refine blk_alloc ?_ _)); exact BK278.out⟩, ⟨xb⟩⟩
       case round =>
        clear H'
        try clear c1
        try clear p2
        try clear c7
        try clear c7b0
        try clear c9
        try clear c10
        try clear c11
        try clear c11b0
        try clear hcz12_0
        try clear hcz12_1
        try clear hcz12_10
        try clear hcz12_11
        try clear hcz12_12
        try clear hcz12_13
        try clear hcz12_2
        try clear hcz12_3
        try clear hcz12_4
        try clear hcz12_5
        try clear hcz12_6
        try clear hcz12_7
        try clear hcz12_8
        try clear hcz12_9
        try clear hcz8_0
        try clear hcz8_1
        try clear hcz8_10
        try clear hcz8_11
        try clear hcz8_12
        try clear hcz8_13
        try clear hcz8_2
        try clear hcz8_3
        try clear hcz8_4
        try clear hcz8_5
        try clear hcz8_6
        try clear hcz8_7
        try clear hcz8_8
        try clear hcz8_9
        try clear hcz9_0
        try clear hcz9_1
        try clear hcz9_10
        try clear hcz9_11
        try clear hcz9_12
        try clear hcz9_13
        try clear hcz9_2
        try clear hcz9_3
        try clear hcz9_4
        try clear hcz9_5
        try clear hcz9_6
        try clear hcz9_7
        try clear hcz9_8
        try clear hcz9_9
        try clear hfz12_0
        try clear hfz12_1
        try clear hfz12_10
        try clear hfz12_11
        try clear hfz12_12
        try clear hfz12_13
        try clear hfz12_2
        try clear hfz12_3
        try clear hfz12_4
        try clear hfz12_5
        try clear hfz12_6
        try clear hfz12_7
        try clear hfz12_8
        try clear hfz12_9
        try clear hfz8_0
        try clear hfz8_1
        try clear hfz8_10
        try clear hfz8_11
        try clear hfz8_12
        try clear hfz8_13
        try clear hfz8_2
        try clear hfz8_3
        try clear hfz8_4
        try clear hfz8_5
        try clear hfz8_6
        try clear hfz8_7
        try clear hfz8_8
        try clear hfz8_9
        try clear hfz9_0
        try clear hfz9_1
        try clear hfz9_10
        try clear hfz9_11
        try clear hfz9_12
        try clear hfz9_13
        try clear hfz9_2
        try clear hfz9_3
        try clear hfz9_4
        try clear hfz9_5
        try clear hfz9_6
        try clear hfz9_7
        try clear hfz9_8
        try clear hfz9_9
        try clear p2
        obtain ⟨x7_3, x8_3, rfl, HA, HK3, HO_5, HO_7, BK278, HB⟩ := hrel
        cases gk with
        | zero => exact absurd HA.out (by simp [r18_Parts.l1])
        | succ k3 =>
         have H := HA.out
         clear HA
         simp only [r18_Parts.l1] at H
         by_cases c15 : x8_3 < (l1.length : Int)
         ·rw [if_pos c15] at H
          have c15b0 : decide (x8_3 < (l1.length : Int)) = true := decide_eq_true c15
          clear c15
          by_cases c16 : 0 ≤ x8_3
          ·rw [if_pos c16] at H
           have c16b0 : decide (0 ≤ x8_3) = true := decide_eq_true c16
           clear c16
           replace H := xj H
           obtain ⟨t286, A170, H⟩ := H
           try dsimp only at H
           have A17 := xy A170
           clear A170
           by_cases c18 : t286 = x6_2
           ·rw [if_pos c18] at H
            have c18b0 : (t286 == x6_2) = true := beq_iff_eq.mpr c18
            have c18b1 : (t286 != x6_2) = false := bne_eq_false_iff_eq.mpr c18
            clear c18
            by_cases c19 : x7_3.length < 2932031007402
            ·rw [if_pos c19] at H
             have LMc19 := xy c19
             clear c19
             obtain ⟨y288, hy288⟩ : ∃ y_ : List (S58), y_ = (x7_3 ++ [(⟨(rd_T58 l1 x8_3).f0, (⟨(rd_T58 l1 x8_3).f1.f0, (rd_T58 l1 x8_3).f1.f1, (rd_T58 l1 x8_3).f1.f2⟩ : S24)⟩ : S58)]) := ⟨_, rfl⟩
             replace H : (r18_Parts.l1 k3 l1 x5_2 x6_2 y288 (wrap64 (x8_3 + 1)) a0_0 l0_1 l0_2 l0_3 a0_4 l0_5 a0_6 a0_7 a0_8 a0_9 a0_10 a0_11 a0_12 a0_13) = some r := by first | (rw [hy288]; with_reducible exact H) | (have H2_ := (Option.bind_some _ _).symm.trans H; rw [hy288]; with_reducible exact H2_) | (have H2_ := (Option.bind_some _ _).symm.trans H; with_reducible exact H2_) | with_reducible exact H | (rw [hy288]; exact H) | exact H
             have Ny288 := xy hy288
             clear hy288
             have H' := xy H
             clear H
             try go_wp2
             replace HO_5 := xy (Kd.S_drew HO_5.out)
             replace HO_7 := xy (Kd.R_drew HO_7.out)
             replace BK278 := xy (blk_drew BK278.out)
             replace HB := xy (below_drew1 HB.out)
             have p285 : 0 ≤ (x8_3 : Int) := xi
             have q285 : x8_3 < (l1.length : Int) := xi
             obtain ⟨ad285, e285, hx285_0, hx285_1, hx285_2, hx285_3⟩ := at_T58 HR1.out x8_3 p285 q285
             have hw285_3 := hx285_3
             have hw285_2 := hx285_2
             have hw285_1 := hx285_1
             have hw285_0 := hx285_0
             cases e285
             replace hx285_0 := (HB.out.cell (World.block_lt_of_cell? w _ hx285_0)).trans hx285_0
             replace hx285_1 := (HB.out.cell (World.block_lt_of_cell? w _ hx285_1)).trans hx285_1
             replace hx285_2 := (HB.out.cell (World.block_lt_of_cell? w _ hx285_2)).trans hx285_2
             replace hx285_3 := (HB.out.cell (World.block_lt_of_cell? w _ hx285_3)).trans hx285_3
             replace p285 := eq_true p285
             replace q285 := eq_true q285
             refine start_ (n := 9) (S := fun w' => w'.cell? ⟨gb278, 0, none⟩ = some (.bool a0_0) ∧ w'.cell? ⟨gb278, 1, none⟩ = some (.slice A0_1 l0_1.length c0_1) ∧ w'.cell? ⟨gb278, 2, none⟩ = some (.slice A0_2 l0_2.length c0_2) ∧ w'.cell? ⟨gb278, 3, none⟩ = some (.slice A0_3 l0_3.length c0_3) ∧ w'.cell? ⟨gb278, 4, none⟩ = some (.int .i64 a0_4) ∧ w'.cell? ⟨gb278, 5, none⟩ = some (.slice A0_5 l0_5.length c0_5) ∧ w'.cell? ⟨gb278, 6, none⟩ = some (.bool a0_6) ∧ w'.cell? ⟨gb278, 7, none⟩ = some (.int .i64 a0_7) ∧ w'.cell? ⟨gb278, 8, none⟩ = some (.string a0_8) ∧ w'.cell? ⟨gb278, 9, none⟩ = some (.bool a0_9) ∧ w'.cell? ⟨gb278, 10, none⟩ = some (.int .i64 a0_10) ∧ w'.cell? ⟨gb278, 11, none⟩ = some (.bool a0_11) ∧ w'.cell? ⟨gb278, 12, none⟩ = some (.bool a0_12) ∧ w'.cell? ⟨gb278, 13, none⟩ = some (.int .i64 a0_13) ∧ w'.cell? (ad285.add ((x8_3).toNat * 4)) = some (.string ((rd_T58 l1 x8_3).f0)) ∧ w'.cell? ⟨(ad285.add ((x8_3).toNat * 4)).block, (ad285.add ((x8_3).toNat * 4)).off + 1, none⟩ = some (.bool ((rd_T58 l1 x8_3).f1.f0)) ∧ w'.cell? ⟨(ad285.add ((x8_3).toNat * 4)).block, (ad285.add ((x8_3).toNat * 4)).off + 2, none⟩ = some (.int .i64 ((rd_T58 l1 x8_3).f1.f1)) ∧ w'.cell? ⟨(ad285.add ((x8_3).toNat * 4)).block, (ad285.add ((x8_3).toNat * 4)).off + 3, none⟩ = some (.string ((rd_T58 l1 x8_3).f1.f2))) (ds := []) #[false, false, false, false, false, false, false, false, false] (by kernel_rfl) rfl rfl ⟨(kc BK278.out 0).trans rfl, (kc BK278.out 1).trans rfl, (kc BK278.out 2).trans rfl, (kc BK278.out 3).trans rfl, (kc BK278.out 4).trans rfl, (kc BK278.out 5).trans rfl, (kc BK278.out 6).trans rfl, (kc BK278.out 7).trans rfl, (kc BK278.out 8).trans rfl, (kc BK278.out 9).trans rfl, (kc BK278.out 10).trans rfl, (kc BK278.out 11).trans rfl, (kc BK278.out 12).trans rfl, (kc BK278.out 13).trans rfl, ((HB.out.cell (World.block_lt_of_cell? w _ hw285_0)).trans hw285_0), ((HB.out.cell (World.block_lt_of_cell? w _ hw285_1)).trans hw285_1), ((HB.out.cell (World.block_lt_of_cell? w _ hw285_2)).trans hw285_2), ((HB.out.cell (World.block_lt_of_cell? w _ hw285_3)).trans hw285_3)⟩ (fun hHeld => ?_); refine with_tabW r18_Parts.tab11 r18_Parts.bits11 (fun HT_ HW_ => ?_)
             generalize wr.drew = w20 at HO_5 HO_7 BK278 HB hx285_0 hx285_1 hx285_2 hx285_3 hHeld ⊢
             refine yz 1 (some 33) (bs 9 2) HT_.out (h := ?_)
             refine yz 2 (some 34) (bs 9 6) HT_.out (h := ?_)
             refine yz 3 (some 35) (bs 9 14) HT_.out (h := ?_)
             refine yz 4 (some 36) (bs 9 30) HT_.out (h := ?_)
             refine yz 7 (some 39) (bs 9 158) HT_.out (h := ?_)
             refine yt 0 (some 32) (bs 9 159) HT_.out HW_.out hHeld (h := ?_)
             refine yt 5 (some 37) (bs 9 191) HT_.out HW_.out hHeld (h := ?_)
             refine one_ (i := 6) (N := some 38) #[true, true, true, true, true, true, true, true, false] rfl rfl (one_of HT_.out (by kernel_rfl)) (by decide) (fun K hK => ?_)
             refine goes_ Tryz.func19 (by kernel_rfl) rfl #[.agg #[.bool a0_0, .slice A0_1 l0_1.length c0_1, .slice A0_2 l0_2.length c0_2, .slice A0_3 l0_3.length c0_3, .int .i64 a0_4, .slice A0_5 l0_5.length c0_5, .bool a0_6, .int .i64 a0_7, .string a0_8, .bool a0_9, .int .i64 a0_10, .bool a0_11, .bool a0_12, .int .i64 a0_13], .string ((rd_T58 l1 x8_3).f0)] (by rfl) rfl rfl xr ?_
             with_reducible refine (r17_Part.calls k3 a0_0 _ _ l0_1 _ _ l0_2 _ _ l0_3 a0_4 _ _ l0_5 a0_6 a0_7 a0_8 a0_9 a0_10 a0_11 a0_12 a0_13 ((rd_T58 l1 x8_3).f0) t286 _ (Tabs.below hT xf) ?side1 ?side2 ?side3 ?side4 ?side5 ?side6 ?side7 ?side8 A17.out).mono ?_
             (case side1 => exact Kd.C_below HR0_1.out xb)
             (case side2 => exact HC0_1.out)
             (case side3 => exact Kd.C_below HR0_2.out xb)
             (case side4 => exact HC0_2.out)
             (case side5 => exact Kd.C_below HR0_3.out xb)
             (case side6 => exact HC0_3.out)
             (case side7 => exact Kd.C_below HR0_5.out xb)
             (case side8 => exact HC0_5.out)
             rintro e w21 ⟨rfl, hb⟩
             refine ⟨_, rfl, ?_⟩
             replace HO_5 := xy (Kd.S_below (by (with_reducible repeat (first | apply Kd.S_alloc | apply Kd.S_drewN | apply Kd.S_drew)); exact HO_5.out) hb)
             replace HO_7 := xy (Kd.R_below (xo HO_7.out) hb)
             replace BK278 := xd BK278.out hb
             replace HB := xy (below_step xb hb)
             (try clear hb)
             (try clear hb2)
             (try clear hk)
             (try clear hi)
             refine hK.out _ _ ⟨(kc BK278.out 0).trans rfl, (kc BK278.out 1).trans rfl, (kc BK278.out 2).trans rfl, (kc BK278.out 3).trans rfl, (kc BK278.out 4).trans rfl, (kc BK278.out 5).trans rfl, (kc BK278.out 6).trans rfl, (kc BK278.out 7).trans rfl, (kc BK278.out 8).trans rfl, (kc BK278.out 9).trans rfl, (kc BK278.out 10).trans rfl, (kc BK278.out 11).trans rfl, (kc BK278.out 12).trans rfl, (kc BK278.out 13).trans rfl, ((HB.out.cell (World.block_lt_of_cell? w _ hw285_0)).trans hw285_0), ((HB.out.cell (World.block_lt_of_cell? w _ hw285_1)).trans hw285_1), ((HB.out.cell (World.block_lt_of_cell? w _ hw285_2)).trans hw285_2), ((HB.out.cell (World.block_lt_of_cell? w _ hw285_3)).trans hw285_3)⟩ (fun hHeld => ?_)
             clear hK K
             refine norm_ (a' := ?_) ?_ ?_
             rotate_left
             ·show Act.put _ (some 38) _ = _
              simp only [Act.put, List.setIfInBounds_toArray, List.set_cons_zero, List.set_cons_succ, i64_w, i32_w]
              rfl
             refine yz 8 (some 40) (bs 9 511) HT_.out (h := ?_)
             refine done_ (done_of HT_.out (by kernel_rfl)) ?_
             have p287 : 0 ≤ (x8_3 : Int) := xi
             have q287 : x8_3 < (l1.length : Int) := xi
             obtain ⟨ad287, e287, hx287_0, hx287_1, hx287_2, hx287_3⟩ := at_T58 HR1.out x8_3 p287 q287
             obtain rfl : ad285 = ad287 := (by injection e287)
             replace hx287_0 := (HB.out.cell (World.block_lt_of_cell? w _ hx287_0)).trans hx287_0
             replace hx287_1 := (HB.out.cell (World.block_lt_of_cell? w _ hx287_1)).trans hx287_1
             replace hx287_2 := (HB.out.cell (World.block_lt_of_cell? w _ hx287_2)).trans hx287_2
             replace hx287_3 := (HB.out.cell (World.block_lt_of_cell? w _ hx287_3)).trans hx287_3
             replace p287 := eq_true p287
             replace q287 := eq_true q287
             try go_wp2_with (first | ((with_reducible refine gate_builtin (b := .append) (xs := #[.tmp 41, .tmp 46]) rfl ?_); at_builtin; refine Kd.R_append k58 (w0 := w) w.heap.size rfl (.tmp 41) (.tmp 46) 37 58 (.agg #[(.string ⟨#[]⟩), (.bool false), (.int .i64 0), (.string ⟨#[]⟩)]) 48 rfl Tryz.underlying37 info58 rfl (by decide) (by omega) u7 x7_3 (⟨(rd_T58 l1 x8_3).f0, (⟨(rd_T58 l1 x8_3).f1.f0, (rd_T58 l1 x8_3).f1.f1, (rd_T58 l1 x8_3).f1.f2⟩ : S24)⟩ : S58) [.string ((rd_T58 l1 x8_3).f0), .bool ((rd_T58 l1 x8_3).f1.f0), .int .i64 ((rd_T58 l1 x8_3).f1.f1), .string ((rd_T58 l1 x8_3).f1.f2)] (fun _ => True) (fun _ => False) rfl rfl ?aP (fun _ hk => hk.elim) ?aF ?aO ?aB ?aS ?aL ?_; (case aP => exact k58_mkM _ _ _ (⟨(rd_T58 l1 x8_3).f0, (⟨(rd_T58 l1 x8_3).f1.f0, (rd_T58 l1 x8_3).f1.f1, (rd_T58 l1 x8_3).f1.f2⟩ : S24)⟩ : S58)); (case aB => exact xb); (case aF => exact (fun _ _ => trivial)); (case aO => exact (xo HO_7.out)); (case aS => exact (below_size xb)); (case aL => have := LMc19.out; omega); intro v289 w22 ho hb hg hat; rw [← Ny288.out] at ho; replace HO_5 := xy (Kd.S_after (ok := (fun _ => True)) (by (with_reducible repeat (first | apply Kd.S_alloc | apply Kd.S_drewN | apply Kd.S_drew)); exact Kd.S_mono HO_5.out (fun _ hk => ⟨trivial, hk⟩)) hg hat); replace BK278 := xy (blk_grown (g := gb278) (o := .cells #[.bool a0_0, .slice A0_1 l0_1.length c0_1, .slice A0_2 l0_2.length c0_2, .slice A0_3 l0_3.length c0_3, .int .i64 a0_4, .slice A0_5 l0_5.length c0_5, .bool a0_6, .int .i64 a0_7, .string a0_8, .bool a0_9, .int .i64 a0_10, .bool a0_11, .bool a0_12, .int .i64 a0_13] 35 (0, 0)) (xk BK278.out) hg (Kd.R_ne HO_7.out BK278.out (by decide))); replace HB := xy (hb); have HO290 := xy (ho); clear HO_7; clear ho hb hg hat))
             go_roundg k3
             case measure => have := HJ2.out; have := HK2.out; have := HK3.out; omega
             case rel => exact ⟨(y288), (wrap64 (x8_3 + 1)), xg, H', ⟨by have := HJ2.out; have := HK2.out; have := HK3.out; omega⟩, ⟨by (with_reducible repeat (first | apply Kd.S_alloc | apply Kd.S_drewN | apply Kd.S_drew)); exact Kd.S_mono HO_5.out (fun _ hk => hk.2)⟩, ⟨by (with_reducible repeat (first | apply Kd.R_alloc | apply Kd.R_drewN | apply Kd.R_drew)); exact HO290.out⟩, ⟨by (with_reducible repeat (first | refine blk_drewN ?_ _ | refine blk_drew ?_ | refine blk_alloc ?_ _)); exact BK278.out⟩, ⟨xb⟩⟩
            ·rw [if_neg c19] at H
             exact absurd H (by simp)
           ·rw [if_neg c18] at H
            have c18b0 : (t286 == x6_2) = false := beq_eq_false_iff_ne.mpr c18
            have c18b1 : (t286 != x6_2) = true := bne_iff_ne.mpr c18
            have H' := xy H
            clear H
            try go_wp2
            replace HO_5 := xy (Kd.S_drew HO_5.out)
            replace HO_7 := xy (Kd.R_drew HO_7.out)
            replace BK278 := xy (blk_drew BK278.out)
            replace HB := xy (below_drew1 HB.out)
            have p285 : 0 ≤ (x8_3 : Int) := xi
            have q285 : x8_3 < (l1.length : Int) := xi
            obtain ⟨ad285, e285, hx285_0, hx285_1, hx285_2, hx285_3⟩ := at_T58 HR1.out x8_3 p285 q285
            have hw285_3 := hx285_3
            have hw285_2 := hx285_2
            have hw285_1 := hx285_1
            have hw285_0 := hx285_0
            cases e285
            replace hx285_0 := (HB.out.cell (World.block_lt_of_cell? w _ hx285_0)).trans hx285_0
            replace hx285_1 := (HB.out.cell (World.block_lt_of_cell? w _ hx285_1)).trans hx285_1
            replace hx285_2 := (HB.out.cell (World.block_lt_of_cell? w _ hx285_2)).trans hx285_2
            replace hx285_3 := (HB.out.cell (World.block_lt_of_cell? w _ hx285_3)).trans hx285_3
            replace p285 := eq_true p285
            replace q285 := eq_true q285
            refine start_ (n := 9) (S := fun w' => w'.cell? ⟨gb278, 0, none⟩ = some (.bool a0_0) ∧ w'.cell? ⟨gb278, 1, none⟩ = some (.slice A0_1 l0_1.length c0_1) ∧ w'.cell? ⟨gb278, 2, none⟩ = some (.slice A0_2 l0_2.length c0_2) ∧ w'.cell? ⟨gb278, 3, none⟩ = some (.slice A0_3 l0_3.length c0_3) ∧ w'.cell? ⟨gb278, 4, none⟩ = some (.int .i64 a0_4) ∧ w'.cell? ⟨gb278, 5, none⟩ = some (.slice A0_5 l0_5.length c0_5) ∧ w'.cell? ⟨gb278, 6, none⟩ = some (.bool a0_6) ∧ w'.cell? ⟨gb278, 7, none⟩ = some (.int .i64 a0_7) ∧ w'.cell? ⟨gb278, 8, none⟩ = some (.string a0_8) ∧ w'.cell? ⟨gb278, 9, none⟩ = some (.bool a0_9) ∧ w'.cell? ⟨gb278, 10, none⟩ = some (.int .i64 a0_10) ∧ w'.cell? ⟨gb278, 11, none⟩ = some (.bool a0_11) ∧ w'.cell? ⟨gb278, 12, none⟩ = some (.bool a0_12) ∧ w'.cell? ⟨gb278, 13, none⟩ = some (.int .i64 a0_13) ∧ w'.cell? (ad285.add ((x8_3).toNat * 4)) = some (.string ((rd_T58 l1 x8_3).f0)) ∧ w'.cell? ⟨(ad285.add ((x8_3).toNat * 4)).block, (ad285.add ((x8_3).toNat * 4)).off + 1, none⟩ = some (.bool ((rd_T58 l1 x8_3).f1.f0)) ∧ w'.cell? ⟨(ad285.add ((x8_3).toNat * 4)).block, (ad285.add ((x8_3).toNat * 4)).off + 2, none⟩ = some (.int .i64 ((rd_T58 l1 x8_3).f1.f1)) ∧ w'.cell? ⟨(ad285.add ((x8_3).toNat * 4)).block, (ad285.add ((x8_3).toNat * 4)).off + 3, none⟩ = some (.string ((rd_T58 l1 x8_3).f1.f2))) (ds := []) #[false, false, false, false, false, false, false, false, false] (by kernel_rfl) rfl rfl ⟨(kc BK278.out 0).trans rfl, (kc BK278.out 1).trans rfl, (kc BK278.out 2).trans rfl, (kc BK278.out 3).trans rfl, (kc BK278.out 4).trans rfl, (kc BK278.out 5).trans rfl, (kc BK278.out 6).trans rfl, (kc BK278.out 7).trans rfl, (kc BK278.out 8).trans rfl, (kc BK278.out 9).trans rfl, (kc BK278.out 10).trans rfl, (kc BK278.out 11).trans rfl, (kc BK278.out 12).trans rfl, (kc BK278.out 13).trans rfl, ((HB.out.cell (World.block_lt_of_cell? w _ hw285_0)).trans hw285_0), ((HB.out.cell (World.block_lt_of_cell? w _ hw285_1)).trans hw285_1), ((HB.out.cell (World.block_lt_of_cell? w _ hw285_2)).trans hw285_2), ((HB.out.cell (World.block_lt_of_cell? w _ hw285_3)).trans hw285_3)⟩ (fun hHeld => ?_); refine with_tabW r18_Parts.tab11 r18_Parts.bits11 (fun HT_ HW_ => ?_)
            generalize wr.drew = w23 at HO_5 HO_7 BK278 HB hx285_0 hx285_1 hx285_2 hx285_3 hHeld ⊢
            refine yz 1 (some 33) (bs 9 2) HT_.out (h := ?_)
            refine yz 2 (some 34) (bs 9 6) HT_.out (h := ?_)
            refine yz 3 (some 35) (bs 9 14) HT_.out (h := ?_)
            refine yz 4 (some 36) (bs 9 30) HT_.out (h := ?_)
            refine yz 7 (some 39) (bs 9 158) HT_.out (h := ?_)
            refine yt 0 (some 32) (bs 9 159) HT_.out HW_.out hHeld (h := ?_)
            refine yt 5 (some 37) (bs 9 191) HT_.out HW_.out hHeld (h := ?_)
            refine one_ (i := 6) (N := some 38) #[true, true, true, true, true, true, true, true, false] rfl rfl (one_of HT_.out (by kernel_rfl)) (by decide) (fun K hK => ?_)
            refine goes_ Tryz.func19 (by kernel_rfl) rfl #[.agg #[.bool a0_0, .slice A0_1 l0_1.length c0_1, .slice A0_2 l0_2.length c0_2, .slice A0_3 l0_3.length c0_3, .int .i64 a0_4, .slice A0_5 l0_5.length c0_5, .bool a0_6, .int .i64 a0_7, .string a0_8, .bool a0_9, .int .i64 a0_10, .bool a0_11, .bool a0_12, .int .i64 a0_13], .string ((rd_T58 l1 x8_3).f0)] (by rfl) rfl rfl xr ?_
            with_reducible refine (r17_Part.calls k3 a0_0 _ _ l0_1 _ _ l0_2 _ _ l0_3 a0_4 _ _ l0_5 a0_6 a0_7 a0_8 a0_9 a0_10 a0_11 a0_12 a0_13 ((rd_T58 l1 x8_3).f0) t286 _ (Tabs.below hT xf) ?side1 ?side2 ?side3 ?side4 ?side5 ?side6 ?side7 ?side8 A17.out).mono ?_
            (case side1 => exact Kd.C_below HR0_1.out xb)
            (case side2 => exact HC0_1.out)
            (case side3 => exact Kd.C_below HR0_2.out xb)
            (case side4 => exact HC0_2.out)
            (case side5 => exact Kd.C_below HR0_3.out xb)
            (case side6 => exact HC0_3.out)
            (case side7 => exact Kd.C_below HR0_5.out xb)
            (case side8 => exact HC0_5.out)
            rintro e w24 ⟨rfl, hb⟩
            refine ⟨_, rfl, ?_⟩
            replace HO_5 := xy (Kd.S_below (by (with_reducible repeat (first | apply Kd.S_alloc | apply Kd.S_drewN | apply Kd.S_drew)); exact HO_5.out) hb)
            replace HO_7 := xy (Kd.R_below (xo HO_7.out) hb)
            replace BK278 := xd BK278.out hb
            replace HB := xy (below_step xb hb)
            (try clear hb)
            (try clear hb2)
            (try clear hk)
            (try clear hi)
            refine hK.out _ _ ⟨(kc BK278.out 0).trans rfl, (kc BK278.out 1).trans rfl, (kc BK278.out 2).trans rfl, (kc BK278.out 3).trans rfl, (kc BK278.out 4).trans rfl, (kc BK278.out 5).trans rfl, (kc BK278.out 6).trans rfl, (kc BK278.out 7).trans rfl, (kc BK278.out 8).trans rfl, (kc BK278.out 9).trans rfl, (kc BK278.out 10).trans rfl, (kc BK278.out 11).trans rfl, (kc BK278.out 12).trans rfl, (kc BK278.out 13).trans rfl, ((HB.out.cell (World.block_lt_of_cell? w _ hw285_0)).trans hw285_0), ((HB.out.cell (World.block_lt_of_cell? w _ hw285_1)).trans hw285_1), ((HB.out.cell (World.block_lt_of_cell? w _ hw285_2)).trans hw285_2), ((HB.out.cell (World.block_lt_of_cell? w _ hw285_3)).trans hw285_3)⟩ (fun hHeld => ?_)
            clear hK K
            refine norm_ (a' := ?_) ?_ ?_
            rotate_left
            ·show Act.put _ (some 38) _ = _
             simp only [Act.put, List.setIfInBounds_toArray, List.set_cons_zero, List.set_cons_succ, i64_w, i32_w]
             rfl
            refine yz 8 (some 40) (bs 9 511) HT_.out (h := ?_)
            refine done_ (done_of HT_.out (by kernel_rfl)) ?_
            try go_wp2
            go_roundg k3
            case measure => have := HJ2.out; have := HK2.out; have := HK3.out; omega
            case rel => exact ⟨(x7_3), (wrap64 (x8_3 + 1)), xg, H', ⟨by have := HJ2.out; have := HK2.out; have := HK3.out; omega⟩, ⟨by (with_reducible repeat (first | apply Kd.S_alloc | apply Kd.S_drewN | apply Kd.S_drew)); exact HO_5.out⟩, ⟨by (with_reducible repeat (first | apply Kd.R_alloc | apply Kd.R_drewN | apply Kd.R_drew)); exact HO_7.out⟩, ⟨by (with_reducible repeat (first | refine blk_drewN ?_ _ | refine blk_drew ?_ | refine blk_alloc ?_ _)); exact BK278.out⟩, ⟨xb⟩⟩
          ·rw [if_neg c16] at H
           exact absurd H (by simp)
         ·rw [if_neg c15] at H
          have c15b0 : decide (x8_3 < (l1.length : Int)) = false := decide_eq_false c15
          clear c15
          by_cases c25 : x5_2.length < 5864062014805
          ·rw [if_pos c25] at H
           have LMc25 := xy c25
           clear c25
           obtain ⟨y291, hy291⟩ : ∃ y_ : List (List (S58)), y_ = (x5_2 ++ [x7_3]) := ⟨_, rfl⟩
           replace H : (r18_Parts.l0 k3 l1 y291 (wrap64 (x6_2 + 1)) a0_0 l0_1 l0_2 l0_3 a0_4 l0_5 a0_6 a0_7 a0_8 a0_9 a0_10 a0_11 a0_12 a0_13) = some r := by first | (rw [hy291]; with_reducible exact H) | (have H2_ := (Option.bind_some _ _).symm.trans H; rw [hy291]; with_reducible exact H2_) | (have H2_ := (Option.bind_some _ _).symm.trans H; with_reducible exact H2_) | with_reducible exact H | (rw [hy291]; exact H) | exact H
           have Ny291 := xy hy291
           clear hy291
           have H' := xy H
           clear H
           obtain ⟨Ao27, co27, eo27⟩ := Kd.R_slice HO_7.out
           subst eo27
           go_wp2_with (first | ((with_reducible refine gate_builtin (b := .append) (xs := #[.tmp 48, .tmp 50]) rfl ?_); at_builtin; refine Kd.S_append (Kd.slice 58 k58) (w0 := w) w.heap.size rfl (.tmp 48) (.tmp 50) 33 37 (.slice none 0 0) 24 rfl Tryz.underlying33 info37 rfl (by decide) (by omega) u5 x5_2 x7_3 [.slice Ao27 x7_3.length co27] (fun _ => True) (fun k_ => some k_ = (.slice Ao27 x7_3.length co27 : Value).ownBlock) rfl rfl ?aP (fun k_ hk_ => ((Kd.R_mono (ok' := fun k_ => ((fun _ => True)) k_ ∧ some k_ ≠ (u5 : Value).ownBlock) (Kd.R_apart' (HO_7.out) (Kd.S_typed HO_5.out) (by decide)) (fun k_ hk => ⟨trivial, hk.2⟩))).1 k_ hk_.symm) ?aF ?aO ?aB ?aS ?aL ?_; (case aP => exact Kd.M_row (Kd.R_mono (Kd.R_tight rfl (Kd.R_mono (ok' := fun k_ => ((fun _ => True)) k_ ∧ some k_ ≠ (u5 : Value).ownBlock) (Kd.R_apart' (HO_7.out) (Kd.S_typed HO_5.out) (by decide)) (fun k_ hk => ⟨trivial, hk.2⟩))) (fun _ h_ => h_))); (case aB => exact xb); (case aF => exact (fun _ _ => trivial)); (case aO => exact (by (with_reducible repeat (first | apply Kd.S_alloc | apply Kd.S_drewN | apply Kd.S_drew)); exact Kd.S_mono HO_5.out (fun k_ hk => ⟨trivial, fun e_ => hk e_⟩))); (case aS => exact (below_size xb)); (case aL => have := LMc25.out; omega); intro v292 w26 ho hb hg hat; rw [← Ny291.out] at ho; replace BK278 := xy (blk_grown (g := gb278) (o := .cells #[.bool a0_0, .slice A0_1 l0_1.length c0_1, .slice A0_2 l0_2.length c0_2, .slice A0_3 l0_3.length c0_3, .int .i64 a0_4, .slice A0_5 l0_5.length c0_5, .bool a0_6, .int .i64 a0_7, .string a0_8, .bool a0_9, .int .i64 a0_10, .bool a0_11, .bool a0_12, .int .i64 a0_13] 35 (0, 0)) (xk BK278.out) hg (Kd.S_ne HO_5.out BK278.out (by decide))); replace HB := xy (hb); have HO293 := xy (ho); clear HO_5 HO_7; clear ho hb hg hat))
           go_roundg k3
           case measure => have := HJ2.out; have := HK2.out; have := HK3.out; omega
           case rel => exact ⟨(y291), (wrap64 (x6_2 + 1)), xg, H', ⟨by have := HJ2.out; have := HK2.out; have := HK3.out; omega⟩, ⟨by (with_reducible repeat (first | apply Kd.S_alloc | apply Kd.S_drewN | apply Kd.S_drew)); exact HO293.out⟩, ⟨by (with_reducible repeat (first | refine blk_drewN ?_ _ | refine blk_drew ?_ | refine blk_alloc ?_ _)); exact BK278.out⟩, ⟨xb⟩⟩
          ·rw [if_neg c25] at H
           exact absurd H (by simp)
      ·rw [if_neg c11] at H
       have c11b0 : decide (x6_2 < a0_10) = false := decide_eq_false c11
       clear c11
       obtain rfl := Option.some.inj H
       have hcz28_0 : wr.cell? ⟨gb278, 0, none⟩ = some (.bool a0_0) := (kc BK278.out 0).trans rfl
       have hcz28_1 : wr.cell? ⟨gb278, 1, none⟩ = some (.slice A0_1 l0_1.length c0_1) := (kc BK278.out 1).trans rfl
       have hcz28_2 : wr.cell? ⟨gb278, 2, none⟩ = some (.slice A0_2 l0_2.length c0_2) := (kc BK278.out 2).trans rfl
       have hcz28_3 : wr.cell? ⟨gb278, 3, none⟩ = some (.slice A0_3 l0_3.length c0_3) := (kc BK278.out 3).trans rfl
       have hcz28_4 : wr.cell? ⟨gb278, 4, none⟩ = some (.int .i64 a0_4) := (kc BK278.out 4).trans rfl
       have hcz28_5 : wr.cell? ⟨gb278, 5, none⟩ = some (.slice A0_5 l0_5.length c0_5) := (kc BK278.out 5).trans rfl
       have hcz28_6 : wr.cell? ⟨gb278, 6, none⟩ = some (.bool a0_6) := (kc BK278.out 6).trans rfl
       have hcz28_7 : wr.cell? ⟨gb278, 7, none⟩ = some (.int .i64 a0_7) := (kc BK278.out 7).trans rfl
       have hcz28_8 : wr.cell? ⟨gb278, 8, none⟩ = some (.string a0_8) := (kc BK278.out 8).trans rfl
       have hcz28_9 : wr.cell? ⟨gb278, 9, none⟩ = some (.bool a0_9) := (kc BK278.out 9).trans rfl
       have hcz28_10 : wr.cell? ⟨gb278, 10, none⟩ = some (.int .i64 a0_10) := (kc BK278.out 10).trans rfl
       have hcz28_11 : wr.cell? ⟨gb278, 11, none⟩ = some (.bool a0_11) := (kc BK278.out 11).trans rfl
       have hcz28_12 : wr.cell? ⟨gb278, 12, none⟩ = some (.bool a0_12) := (kc BK278.out 12).trans rfl
       have hcz28_13 : wr.cell? ⟨gb278, 13, none⟩ = some (.int .i64 a0_13) := (kc BK278.out 13).trans rfl
       have hfz28_0 := kf BK278.out 0
       have hfz28_1 := kf BK278.out 1
       have hfz28_2 := kf BK278.out 2
       have hfz28_3 := kf BK278.out 3
       have hfz28_4 := kf BK278.out 4
       have hfz28_5 := kf BK278.out 5
       have hfz28_6 := kf BK278.out 6
       have hfz28_7 := kf BK278.out 7
       have hfz28_8 := kf BK278.out 8
       have hfz28_9 := kf BK278.out 9
       have hfz28_10 := kf BK278.out 10
       have hfz28_11 := kf BK278.out 11
       have hfz28_12 := kf BK278.out 12
       have hfz28_13 := kf BK278.out 13
       go_wp2
       go_ret
       exact ⟨_, by first | rfl | (simp [errW_none, errW_some] <;> rfl) | (simp [*, errW_none, errW_some] <;> rfl), by (with_reducible repeat (first | apply Kd.S_alloc | apply Kd.S_drewN | apply Kd.S_drew)); exact HO_5.out, xb⟩
/- Walked functions, by this session's program over the kit's print. -/
theorem eqA58 (d : Nat) (w : World) (x0 y0 : ByteArray) (x1 y1 : Bool) (x2 y2 : Int) (x3 y3 : ByteArray) :
  (Op.equalIn (d + 3) 58 (.agg #[.string x0, .bool x1, .int .i64 x2, .string x3]) (.agg #[.string y0, .bool y1, .int .i64 y2, .string y3])).run Tryz.prog w = .ok (x0.toList == y0.toList && ((x1 == y1 && (x2 == y2 && (x3.toList == y3.toList))))) w := by
 refine eqA_of Tryz.underlying58 (by kernel_rfl) ?_
 refine eqf_cons (by rfl) (by go_simp; rfl) (by go_simp; rfl) (by go_simp) ?_
 exact eqf_last (by rfl) (by go_simp) (by go_simp) (eqA24 (d + 0) w _ _ _ _ _ _)
end Go.Proofs.YtialoecplmnjfaaGreatDoor.PX
