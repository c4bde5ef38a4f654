/- Walked functions, by this session's program over the kit's print. -/
import Derived.Test.YtebofnoljebakaaGreatDoorPXx0
import Derived.Test.YtebofnoljebakaaGreatDoorPXx12
import Derived.Test.YtebofnoljebakaaGreatDoorPXx17
namespace Go.Proofs.YtebofnoljebakaaGreatDoor.PX
open Go.RowKit Go.Proofs.YtebofnoljebakaaGreatDoorW.PrintWords Go.Proofs.YtebofnoljebakaaGreatDoorW.PrintLast Go.Proofs.YtebofnoljebakaaGreatDoorW.PrintMore
attribute [local go_sem] xm_gtr max2_int min2_int max_two min_two max_three min_three max_four min_four
set_option linter.unusedVariables false
set_option linter.unusedSimpArgs false
/- Walked functions, by this session's program over the kit's print. -/
def r17_written.f (k : Nat) (a0 : ByteArray) : Option (Int) := (r13_Text.f a0).bind fun bt425 => ((r13_Do.f k 18 (([(⟨bt425.1, bt425.2.1, bt425.2.2⟩ : S24)] : List (S24)))).bind fun bt431 => (some bt431.2.1))
theorem r17_written.mono : ∀ a0 k, LeO (r17_written.f k a0) (r17_written.f (k + 1) a0) := by
 intro a0 k
 unfold r17_written.f
 repeat' (with_reducible first | exact r13_Do.mono _ _ _ | exact LeO.refl _ | exact LeO.none _ | refine LeO.ite ?_ ?_ | refine LeO.bind ?_ (fun _ => ?_))
set_option maxHeartbeats 8000000 in
set_option maxRecDepth 100000 in
theorem r17_written.calls (k : Nat) (a0 : ByteArray) (r : Int) (w : World) (hT : Tabs w) (h : r17_written.f k a0 = some r) :
  Calls Tryz.prog 40 #[.string a0] w fun e w' => e = .returned (.int .i64 r) ∧ Below w.heap.size w w' := by
 have hu24 := Tryz.underlying24
 have HB := xy (Below.refl w.heap.size w)
 unfold r17_written.f at h
 have H := h
 clear h
 replace H := xj H
 obtain ⟨⟨t425, t426, t427⟩, A20, H⟩ := H
 try dsimp only at H
 have A2 := xy A20
 clear A20
 obtain ⟨y428, hy428⟩ : ∃ y_ : List (S24), y_ = (([(⟨t425, t426, t427⟩ : S24)] : List (S24))) := ⟨_, rfl⟩
 replace H : ((r13_Do.f k 18 y428).bind fun bt431 => (some bt431.2.1)) = some r := by first | (rw [hy428]; with_reducible exact H) | (have H2_ := (Option.bind_some _ _).symm.trans H; rw [hy428]; with_reducible exact H2_) | (have H2_ := (Option.bind_some _ _).symm.trans H; with_reducible exact H2_) | with_reducible exact H | (rw [hy428]; exact H) | exact H
 have Ny428 := xy hy428
 clear hy428
 replace H := xj H
 obtain ⟨⟨t431, t432, t433, t434⟩, A30, H⟩ := H
 try dsimp only at H
 have A3 := xy A30
 clear A30
 obtain rfl := Option.some.inj H
 go_enter Tryz.func40, Tryz.ntmps40
 go_wp2_with (first | ((with_reducible refine gate_callee (f := 48) rfl ?_); refine goesL_ (some 7) rfl rfl Tryz.func48 (by kernel_rfl) rfl #[.string a0] rfl xr ?_; (with_reducible refine (r13_Text.calls a0 t425 t426 t427 _ (Tabs.below hT xf) A2.out).mono ?_); rintro e w4 ⟨rfl, hb⟩; refine ⟨_, rfl, ?_⟩; replace HB := xy (below_step xb hb); (try clear hb); (try clear hb2); (try clear hk); (try clear hi)) | ((with_reducible refine gate_dst (N := 8) rfl ?_); refine Kd.R_lit k24 _ 24 ?hg (N := 8) ?hd (xs := ([(⟨t425, t426, t427⟩ : S24)] : List (S24))) (inner := [.bool t425, .int .i64 t426, .string t427]) (ok := fun _ => True) (okp := fun _ => True) ?hr ?hp (fun _ hk => hk) trivial (Below.refl _ _) (Nat.le_refl _) (by simp) ?_; (case hd => rfl); (case hg => rfl); (case hr => exact xh); (case hp => exact (Reps.c3 (show Kd.M k24 _ _ _ (⟨t425, t426, t427⟩ : S24) [.bool t425, .int .i64 t426, .string t427] from (k24_mkM _ _ _ (⟨t425, t426, t427⟩ : S24) )) (Reps.none _ _))); intro v429 w5 ho6 hb hg_ hnew_; clear hg_ hnew_; (first | rw [← Ny428.out] at ho6 | (simp only [Int.reduceToNat] at ho6; rw [← Ny428.out] at ho6)); have HO430 := xy (Kd.R_lower ho6 (below_size xb)); replace HB := xy (below_step xb hb); clear hb ho6; obtain ⟨Ao7, co7, eo7⟩ := Kd.R_slice HO430.out; subst eo7) | ((with_reducible refine gate_callee (f := 47) rfl ?_); refine goesL_ (some 9) rfl rfl Tryz.func47 (by kernel_rfl) rfl #[.int .i64 18, .slice Ao7 y428.length co7] rfl xr ?_; (with_reducible refine (r13_Do.calls k 18 _ _ y428 t431 t432 t433 t434 _ (Tabs.below hT xf) ?side1 ?side2 A3.out).mono ?_); (case side1 => repeat (first | exact (Kd.R_reads' HO430.out).2.2 | (with_reducible refine Kd.C_alloc ?_ _) | (with_reducible refine Kd.C_drewN ?_ _) | (with_reducible refine Kd.C_drew ?_))); (case side2 => exact (Kd.R_reads' HO430.out).2.1); rintro e w8 ⟨rfl, hb⟩; refine ⟨_, rfl, ?_⟩; replace HO430 := xy (Kd.R_below (xo HO430.out) hb); replace HB := xy (below_step xb hb); (try clear hb); (try clear hb2); (try clear hk); (try clear hi)) | ((with_reducible refine gate_dst (N := 3) rfl ?_); refine xq (N := 3) (cs := #[.bool false, .int .i64 0, .string (⟨#[]⟩ : ByteArray)]) (t := 24) ?_; intro gb435 hg w9 hbox hb; replace HO430 := xy (Kd.R_below (Kd.R_elderB (xo HO430.out) gb435 (Nat.le_of_eq hg.symm)) hb); have BK435 := xy (hbox); have GW435 := xs w hg; have GE435 := xs w hg; replace HB := xy (below_step xb hb); clear hb hbox hg; have hcz10_0 : w9.cell? ⟨gb435, 0, none⟩ = some (.bool false) := (kc BK435.out 0).trans rfl; have hcz10_1 : w9.cell? ⟨gb435, 1, none⟩ = some (.int .i64 0) := (kc BK435.out 1).trans rfl; have hcz10_2 : w9.cell? ⟨gb435, 2, none⟩ = some (.string (⟨#[]⟩ : ByteArray)) := (kc BK435.out 2).trans rfl; have hfz10_0 := kf BK435.out 0; have hfz10_1 := kf BK435.out 1; have hfz10_2 := kf BK435.out 2))
 go_ret
 exact ⟨xe, xb⟩
def r17_Ahead.j0 : Nat → ByteArray → ByteArray → Bool → Bool → Bool → List (S81) → List (S81) → List (S81) → Int → List (S81) → Bool → Int → ByteArray → Bool → Int → Bool → Bool → Int → Option (Bool)
 | 0, _, _, _, _, _, _, _, _, _, _, _, _, _, _, _, _, _, _ => none
 | k + 1, x1, x2, x7, x22, x437000, x437001, x437002, x437003, x437004, x437005, x437006, x437007, x437008, x437009, x437010, x437011, x437012, x437013 => if x22 = true then ((r17_written.f k x1).bind fun t439 => ((r17_written.f k x2).bind fun t440 => (some ((decide (t439 < t440)) != x437011)))) else (some (x7 != x437011))
def r17_Ahead.f (k : Nat) (a0_0 : Bool) (l0_1 : List (S81)) (l0_2 : List (S81)) (l0_3 : List (S81)) (a0_4 : Int) (l0_5 : List (S81)) (a0_6 : Bool) (a0_7 : Int) (a0_8 : ByteArray) (a0_9 : Bool) (a0_10 : Int) (a0_11 : Bool) (a0_12 : Bool) (a0_13 : Int) (a1 : ByteArray) (a2 : ByteArray) : Option (Bool) := if a1.toList = a2.toList then (some false) else (if a0_12 = true then ((r17_written.f k a1).bind fun t437 => ((r17_written.f k a2).bind fun t438 => (r17_Ahead.j0 k a1 a2 (Op.bytesLess a1.toList a2.toList) (t437 != t438) a0_0 l0_1 l0_2 l0_3 a0_4 l0_5 a0_6 a0_7 a0_8 a0_9 a0_10 a0_11 a0_12 a0_13))) else (r17_Ahead.j0 k a1 a2 (Op.bytesLess a1.toList a2.toList) false a0_0 l0_1 l0_2 l0_3 a0_4 l0_5 a0_6 a0_7 a0_8 a0_9 a0_10 a0_11 a0_12 a0_13))
theorem r17_Ahead.mono_l : ∀ k, (∀ y0 y1 y2 y3 y4 y5 y6 y7 y8 y9 y10 y11 y12 y13 y14 y15 y16 y17, LeO (r17_Ahead.j0 k y0 y1 y2 y3 y4 y5 y6 y7 y8 y9 y10 y11 y12 y13 y14 y15 y16 y17) (r17_Ahead.j0 (k + 1) y0 y1 y2 y3 y4 y5 y6 y7 y8 y9 y10 y11 y12 y13 y14 y15 y16 y17))
 | 0 => fun _ _ _ _ _ _ _ _ _ _ _ _ _ _ _ _ _ _ r h => by simp [r17_Ahead.j0] at h
 | k + 1 => by
  have ih0 := r17_Ahead.mono_l k
  ·intro y0 y1 y2 y3 y4 y5 y6 y7 y8 y9 y10 y11 y12 y13 y14 y15 y16 y17
   unfold r17_Ahead.j0
   repeat' (with_reducible first | exact ih0 _ _ _ _ _ _ _ _ _ _ _ _ _ _ _ _ _ _ | exact r17_written.mono _ _ | exact LeO.refl _ | exact LeO.none _ | refine LeO.ite ?_ ?_ | refine LeO.bind ?_ (fun _ => ?_))
theorem r17_Ahead.mono : ∀ a0 a1 a2 a3 a4 a5 a6 a7 a8 a9 a10 a11 a12 a13 a14 a15 k, LeO (r17_Ahead.f k a0 a1 a2 a3 a4 a5 a6 a7 a8 a9 a10 a11 a12 a13 a14 a15) (r17_Ahead.f (k + 1) a0 a1 a2 a3 a4 a5 a6 a7 a8 a9 a10 a11 a12 a13 a14 a15) := by
 intro a0 a1 a2 a3 a4 a5 a6 a7 a8 a9 a10 a11 a12 a13 a14 a15 k
 have ih0 := r17_Ahead.mono_l k
 unfold r17_Ahead.f
 repeat' (with_reducible first | exact ih0 _ _ _ _ _ _ _ _ _ _ _ _ _ _ _ _ _ _ | exact r17_written.mono _ _ | exact LeO.refl _ | exact LeO.none _ | refine LeO.ite ?_ ?_ | refine LeO.bind ?_ (fun _ => ?_))
set_option maxHeartbeats 8000000 in
set_option maxRecDepth 100000 in
theorem r17_Ahead.calls (k : Nat) (a0_0 : Bool) (A0_1 : Option Addr) (c0_1 : Nat) (l0_1 : List (S81)) (A0_2 : Option Addr) (c0_2 : Nat) (l0_2 : List (S81)) (A0_3 : Option Addr) (c0_3 : Nat) (l0_3 : List (S81)) (a0_4 : Int) (A0_5 : Option Addr) (c0_5 : Nat) (l0_5 : List (S81)) (a0_6 : Bool) (a0_7 : Int) (a0_8 : ByteArray) (a0_9 : Bool) (a0_10 : Int) (a0_11 : Bool) (a0_12 : Bool) (a0_13 : Int) (a1 : ByteArray) (a2 : ByteArray) (r : Bool) (w : World) (hT : Tabs w) (hr0_1 : Kd.C k81 w A0_1 l0_1.length l0_1) (hc0_1 : l0_1.length ≤ c0_1) (hr0_2 : Kd.C k81 w A0_2 l0_2.length l0_2) (hc0_2 : l0_2.length ≤ c0_2) (hr0_3 : Kd.C k81 w A0_3 l0_3.length l0_3) (hc0_3 : l0_3.length ≤ c0_3) (hr0_5 : Kd.C k81 w A0_5 l0_5.length l0_5) (hc0_5 : l0_5.length ≤ c0_5) (h : r17_Ahead.f k a0_0 l0_1 l0_2 l0_3 a0_4 l0_5 a0_6 a0_7 a0_8 a0_9 a0_10 a0_11 a0_12 a0_13 a1 a2 = some r) :
  Calls Tryz.prog 34 #[.agg #[.bool a0_0, .slice A0_1 l0_1.length c0_1, .slice A0_2 l0_2.length c0_2, .slice A0_3 l0_3.length c0_3, .int .i64 a0_4, .slice A0_5 l0_5.length c0_5, .bool a0_6, .int .i64 a0_7, .string a0_8, .bool a0_9, .int .i64 a0_10, .bool a0_11, .bool a0_12, .int .i64 a0_13], .string a1, .string a2] w fun e w' => e = .returned (.bool r) ∧ Below w.heap.size w w' := by
 have hu45 := Tryz.underlying45
 have HR0_1 := xy hr0_1
 have HC0_1 := xy hc0_1
 clear hr0_1 hc0_1
 have HR0_2 := xy hr0_2
 have HC0_2 := xy hc0_2
 clear hr0_2 hc0_2
 have HR0_3 := xy hr0_3
 have HC0_3 := xy hc0_3
 clear hr0_3 hc0_3
 have HR0_5 := xy hr0_5
 have HC0_5 := xy hc0_5
 clear hr0_5 hc0_5
 have HB := xy (Below.refl w.heap.size w)
 unfold r17_Ahead.f at h
 have H := h
 clear h
 by_cases c4 : a1.toList = a2.toList
 ·rw [if_pos c4] at H
  have c4b0 : (a1.toList == a2.toList) = true := beq_iff_eq.mpr c4
  have c4b1 : (a1.toList != a2.toList) = false := bne_eq_false_iff_eq.mpr c4
  clear c4
  obtain rfl := Option.some.inj H
  go_enter Tryz.func34, Tryz.ntmps34
  go_wp2_with (((with_reducible refine gate_dst (N := 3) rfl ?_); refine xq (N := 3) (cs := #[.bool a0_0, .slice A0_1 l0_1.length c0_1, .slice A0_2 l0_2.length c0_2, .slice A0_3 l0_3.length c0_3, .int .i64 a0_4, .slice A0_5 l0_5.length c0_5, .bool a0_6, .int .i64 a0_7, .string a0_8, .bool a0_9, .int .i64 a0_10, .bool a0_11, .bool a0_12, .int .i64 a0_13]) (t := 45) ?_; intro gb436 hg w5 hbox hb; have BK436 := xy (hbox); have GW436 := xs w hg; have GE436 := xs w hg; replace HB := xy (below_step xb hb); clear hb hbox hg))
  go_ret
  exact ⟨xe, xb⟩
 ·rw [if_neg c4] at H
  have c4b0 : (a1.toList == a2.toList) = false := beq_eq_false_iff_ne.mpr c4
  have c4b1 : (a1.toList != a2.toList) = true := bne_iff_ne.mpr c4
  have HC6 := xy H
  clear H
  go_enter Tryz.func34, Tryz.ntmps34
  go_upto_region 4 with (((with_reducible refine gate_dst (N := 3) rfl ?_); refine xq (N := 3) (cs := #[.bool a0_0, .slice A0_1 l0_1.length c0_1, .slice A0_2 l0_2.length c0_2, .slice A0_3 l0_3.length c0_3, .int .i64 a0_4, .slice A0_5 l0_5.length c0_5, .bool a0_6, .int .i64 a0_7, .string a0_8, .bool a0_9, .int .i64 a0_10, .bool a0_11, .bool a0_12, .int .i64 a0_13]) (t := 45) ?_; intro gb436 hg w7 hbox hb; have BK436 := xy (hbox); have GW436 := xs w hg; have GE436 := xs w hg; replace HB := xy (below_step xb hb); clear hb hbox hg))
  (try simp only [Act.put, List.setIfInBounds_toArray, List.set_cons_zero, List.set_cons_succ])
  go_cut [22] (fun v22 wc => ∃ (kq : Nat) (x22_5 : Bool), v22 = .bool x22_5 ∧ Aside0 (r17_Ahead.j0 kq a1 a2 (Op.bytesLess a1.toList a2.toList) x22_5 a0_0 l0_1 l0_2 l0_3 a0_4 l0_5 a0_6 a0_7 a0_8 a0_9 a0_10 a0_11 a0_12 a0_13 = some r) ∧ Aside0 (kq ≤ k) ∧ Aside0 (wc.heap[gb436]? = some (.cells #[.bool a0_0, (.slice A0_1 l0_1.length c0_1), (.slice A0_2 l0_2.length c0_2), (.slice A0_3 l0_3.length c0_3), .int .i64 a0_4, (.slice A0_5 l0_5.length c0_5), .bool a0_6, .int .i64 a0_7, .string a0_8, .bool a0_9, .int .i64 a0_10, .bool a0_11, .bool a0_12, .int .i64 a0_13] 45 (0, 0))) ∧ Aside0 (Below w.heap.size w wc))
  case first =>
   have H := HC6.out
   clear HC6
   by_cases c8 : a0_12 = true
   ·subst c8
    rw [if_pos rfl] at H
    replace H := xj H
    obtain ⟨t437, A90, H⟩ := H
    try dsimp only at H
    have A9 := xy A90
    clear A90
    replace H := xj H
    obtain ⟨t438, A100, H⟩ := H
    try dsimp only at H
    have A10 := xy A100
    clear A100
    have H' := xy H
    clear H
    have hcz11_0 : w7.cell? ⟨gb436, 0, none⟩ = some (.bool a0_0) := (kc BK436.out 0).trans rfl
    have hcz11_1 : w7.cell? ⟨gb436, 1, none⟩ = some (.slice A0_1 l0_1.length c0_1) := (kc BK436.out 1).trans rfl
    have hcz11_2 : w7.cell? ⟨gb436, 2, none⟩ = some (.slice A0_2 l0_2.length c0_2) := (kc BK436.out 2).trans rfl
    have hcz11_3 : w7.cell? ⟨gb436, 3, none⟩ = some (.slice A0_3 l0_3.length c0_3) := (kc BK436.out 3).trans rfl
    have hcz11_4 : w7.cell? ⟨gb436, 4, none⟩ = some (.int .i64 a0_4) := (kc BK436.out 4).trans rfl
    have hcz11_5 : w7.cell? ⟨gb436, 5, none⟩ = some (.slice A0_5 l0_5.length c0_5) := (kc BK436.out 5).trans rfl
    have hcz11_6 : w7.cell? ⟨gb436, 6, none⟩ = some (.bool a0_6) := (kc BK436.out 6).trans rfl
    have hcz11_7 : w7.cell? ⟨gb436, 7, none⟩ = some (.int .i64 a0_7) := (kc BK436.out 7).trans rfl
    have hcz11_8 : w7.cell? ⟨gb436, 8, none⟩ = some (.string a0_8) := (kc BK436.out 8).trans rfl
    have hcz11_9 : w7.cell? ⟨gb436, 9, none⟩ = some (.bool a0_9) := (kc BK436.out 9).trans rfl
    have hcz11_10 : w7.cell? ⟨gb436, 10, none⟩ = some (.int .i64 a0_10) := (kc BK436.out 10).trans rfl
    have hcz11_11 : w7.cell? ⟨gb436, 11, none⟩ = some (.bool a0_11) := (kc BK436.out 11).trans rfl
    have hcz11_12 : w7.cell? ⟨gb436, 12, none⟩ = some (.bool true) := (kc BK436.out 12).trans rfl
    have hcz11_13 : w7.cell? ⟨gb436, 13, none⟩ = some (.int .i64 a0_13) := (kc BK436.out 13).trans rfl
    have hfz11_0 := kf BK436.out 0
    have hfz11_1 := kf BK436.out 1
    have hfz11_2 := kf BK436.out 2
    have hfz11_3 := kf BK436.out 3
    have hfz11_4 := kf BK436.out 4
    have hfz11_5 := kf BK436.out 5
    have hfz11_6 := kf BK436.out 6
    have hfz11_7 := kf BK436.out 7
    have hfz11_8 := kf BK436.out 8
    have hfz11_9 := kf BK436.out 9
    have hfz11_10 := kf BK436.out 10
    have hfz11_11 := kf BK436.out 11
    have hfz11_12 := kf BK436.out 12
    have hfz11_13 := kf BK436.out 13
    go_wp2_with (first | (go_at_call 40; (with_reducible refine (r17_written.calls k a1 t437 _ (Tabs.below hT xf) A9.out).mono ?_); rintro e w12 ⟨rfl, hb⟩; replace BK436 := xd BK436.out hb; replace HB := xy (below_step xb hb); (try clear hb); (try clear hb2); (try clear hk); (try clear hi)) | (go_at_call 40; (with_reducible refine (r17_written.calls k a2 t438 _ (Tabs.below hT xf) A10.out).mono ?_); rintro e w13 ⟨rfl, hb⟩; replace BK436 := xd BK436.out hb; replace HB := xy (below_step xb hb); (try clear hb); (try clear hb2); (try clear hk); (try clear hi)))
    go_meet
    case rel => exact ⟨_, ((t437 != t438)), xg, H', ⟨by first | omega | exact Nat.le_refl _⟩, ⟨by (with_reducible repeat (first | refine blk_drewN ?_ _ | refine blk_drew ?_ | refine blk_alloc ?_ _)); exact BK436.out⟩, ⟨xb⟩⟩
   ·replace c8 := Bool.eq_false_iff.mpr c8
    subst c8
    rw [if_neg (show ¬ (false = true) by decide)] at H
    have H' := xy H
    clear H
    have hcz14_0 : w7.cell? ⟨gb436, 0, none⟩ = some (.bool a0_0) := (kc BK436.out 0).trans rfl
    have hcz14_1 : w7.cell? ⟨gb436, 1, none⟩ = some (.slice A0_1 l0_1.length c0_1) := (kc BK436.out 1).trans rfl
    have hcz14_2 : w7.cell? ⟨gb436, 2, none⟩ = some (.slice A0_2 l0_2.length c0_2) := (kc BK436.out 2).trans rfl
    have hcz14_3 : w7.cell? ⟨gb436, 3, none⟩ = some (.slice A0_3 l0_3.length c0_3) := (kc BK436.out 3).trans rfl
    have hcz14_4 : w7.cell? ⟨gb436, 4, none⟩ = some (.int .i64 a0_4) := (kc BK436.out 4).trans rfl
    have hcz14_5 : w7.cell? ⟨gb436, 5, none⟩ = some (.slice A0_5 l0_5.length c0_5) := (kc BK436.out 5).trans rfl
    have hcz14_6 : w7.cell? ⟨gb436, 6, none⟩ = some (.bool a0_6) := (kc BK436.out 6).trans rfl
    have hcz14_7 : w7.cell? ⟨gb436, 7, none⟩ = some (.int .i64 a0_7) := (kc BK436.out 7).trans rfl
    have hcz14_8 : w7.cell? ⟨gb436, 8, none⟩ = some (.string a0_8) := (kc BK436.out 8).trans rfl
    have hcz14_9 : w7.cell? ⟨gb436, 9, none⟩ = some (.bool a0_9) := (kc BK436.out 9).trans rfl
    have hcz14_10 : w7.cell? ⟨gb436, 10, none⟩ = some (.int .i64 a0_10) := (kc BK436.out 10).trans rfl
    have hcz14_11 : w7.cell? ⟨gb436, 11, none⟩ = some (.bool a0_11) := (kc BK436.out 11).trans rfl
    have hcz14_12 : w7.cell? ⟨gb436, 12, none⟩ = some (.bool false) := (kc BK436.out 12).trans rfl
    have hcz14_13 : w7.cell? ⟨gb436, 13, none⟩ = some (.int .i64 a0_13) := (kc BK436.out 13).trans rfl
    have hfz14_0 := kf BK436.out 0
    have hfz14_1 := kf BK436.out 1
    have hfz14_2 := kf BK436.out 2
    have hfz14_3 := kf BK436.out 3
    have hfz14_4 := kf BK436.out 4
    have hfz14_5 := kf BK436.out 5
    have hfz14_6 := kf BK436.out 6
    have hfz14_7 := kf BK436.out 7
    have hfz14_8 := kf BK436.out 8
    have hfz14_9 := kf BK436.out 9
    have hfz14_10 := kf BK436.out 10
    have hfz14_11 := kf BK436.out 11
    have hfz14_12 := kf BK436.out 12
    have hfz14_13 := kf BK436.out 13
    go_wp2
    go_meet
    case rel => exact ⟨_, (false), xg, H', ⟨by first | omega | exact Nat.le_refl _⟩, ⟨by (with_reducible repeat (first | refine blk_drewN ?_ _ | refine blk_drew ?_ | refine blk_alloc ?_ _)); exact BK436.out⟩, ⟨xb⟩⟩
  case rest =>
   clear HC6
   try clear p2
   try clear c3
   try clear c4
   try clear c4b0
   try clear c4b1
   try clear c8
   try clear hcz11_0
   try clear hcz11_1
   try clear hcz11_10
   try clear hcz11_11
   try clear hcz11_12
   try clear hcz11_13
   try clear hcz11_2
   try clear hcz11_3
   try clear hcz11_4
   try clear hcz11_5
   try clear hcz11_6
   try clear hcz11_7
   try clear hcz11_8
   try clear hcz11_9
   try clear hcz14_0
   try clear hcz14_1
   try clear hcz14_10
   try clear hcz14_11
   try clear hcz14_12
   try clear hcz14_13
   try clear hcz14_2
   try clear hcz14_3
   try clear hcz14_4
   try clear hcz14_5
   try clear hcz14_6
   try clear hcz14_7
   try clear hcz14_8
   try clear hcz14_9
   try clear hfz11_0
   try clear hfz11_1
   try clear hfz11_10
   try clear hfz11_11
   try clear hfz11_12
   try clear hfz11_13
   try clear hfz11_2
   try clear hfz11_3
   try clear hfz11_4
   try clear hfz11_5
   try clear hfz11_6
   try clear hfz11_7
   try clear hfz11_8
   try clear hfz11_9
   try clear hfz14_0
   try clear hfz14_1
   try clear hfz14_10
   try clear hfz14_11
   try clear hfz14_12
   try clear hfz14_13
   try clear hfz14_2
   try clear hfz14_3
   try clear hfz14_4
   try clear hfz14_5
   try clear hfz14_6
   try clear hfz14_7
   try clear hfz14_8
   try clear hfz14_9
   obtain ⟨kq, x22_5, rfl, HA, HJ5, BK436, HB⟩ := hcut
   cases kq with
   | zero => exact absurd HA.out (by simp [r17_Ahead.j0])
   | succ kj5 =>
    have H := HA.out
    clear HA
    simp only [r17_Ahead.j0] at H
    by_cases c15 : x22_5 = true
    ·subst c15
     rw [if_pos rfl] at H
     replace H := xj H
     obtain ⟨t439, A160, H⟩ := H
     try dsimp only at H
     have A16 := xy A160
     clear A160
     replace H := xj H
     obtain ⟨t440, A170, H⟩ := H
     try dsimp only at H
     have A17 := xy A170
     clear A170
     obtain rfl := Option.some.inj H
     go_wp2_with (first | ((with_reducible refine gate_callee (f := 40) rfl ?_); refine goesL_ (some 24) rfl rfl Tryz.func40 (by kernel_rfl) rfl #[.string a1] rfl xr ?_; (with_reducible refine (r17_written.calls kj5 a1 t439 _ (Tabs.below hT xf) A16.out).mono ?_); rintro e w18 ⟨rfl, hb⟩; refine ⟨_, rfl, ?_⟩; replace BK436 := xd BK436.out hb; replace HB := xy (below_step xb hb); (try clear hb); (try clear hb2); (try clear hk); (try clear hi)) | ((with_reducible refine gate_callee (f := 40) rfl ?_); refine goesL_ (some 26) rfl rfl Tryz.func40 (by kernel_rfl) rfl #[.string a2] rfl xr ?_; (with_reducible refine (r17_written.calls kj5 a2 t440 _ (Tabs.below hT xf) A17.out).mono ?_); rintro e w19 ⟨rfl, hb⟩; refine ⟨_, rfl, ?_⟩; replace BK436 := xd BK436.out hb; replace HB := xy (below_step xb hb); (try clear hb); (try clear hb2); (try clear hk); (try clear hi); have hcz20_0 : w19.cell? ⟨gb436, 0, none⟩ = some (.bool a0_0) := (kc BK436.out 0).trans rfl; have hcz20_1 : w19.cell? ⟨gb436, 1, none⟩ = some (.slice A0_1 l0_1.length c0_1) := (kc BK436.out 1).trans rfl; have hcz20_2 : w19.cell? ⟨gb436, 2, none⟩ = some (.slice A0_2 l0_2.length c0_2) := (kc BK436.out 2).trans rfl; have hcz20_3 : w19.cell? ⟨gb436, 3, none⟩ = some (.slice A0_3 l0_3.length c0_3) := (kc BK436.out 3).trans rfl; have hcz20_4 : w19.cell? ⟨gb436, 4, none⟩ = some (.int .i64 a0_4) := (kc BK436.out 4).trans rfl; have hcz20_5 : w19.cell? ⟨gb436, 5, none⟩ = some (.slice A0_5 l0_5.length c0_5) := (kc BK436.out 5).trans rfl; have hcz20_6 : w19.cell? ⟨gb436, 6, none⟩ = some (.bool a0_6) := (kc BK436.out 6).trans rfl; have hcz20_7 : w19.cell? ⟨gb436, 7, none⟩ = some (.int .i64 a0_7) := (kc BK436.out 7).trans rfl; have hcz20_8 : w19.cell? ⟨gb436, 8, none⟩ = some (.string a0_8) := (kc BK436.out 8).trans rfl; have hcz20_9 : w19.cell? ⟨gb436, 9, none⟩ = some (.bool a0_9) := (kc BK436.out 9).trans rfl; have hcz20_10 : w19.cell? ⟨gb436, 10, none⟩ = some (.int .i64 a0_10) := (kc BK436.out 10).trans rfl; have hcz20_11 : w19.cell? ⟨gb436, 11, none⟩ = some (.bool a0_11) := (kc BK436.out 11).trans rfl; have hcz20_12 : w19.cell? ⟨gb436, 12, none⟩ = some (.bool a0_12) := (kc BK436.out 12).trans rfl; have hcz20_13 : w19.cell? ⟨gb436, 13, none⟩ = some (.int .i64 a0_13) := (kc BK436.out 13).trans rfl; have hfz20_0 := kf BK436.out 0; have hfz20_1 := kf BK436.out 1; have hfz20_2 := kf BK436.out 2; have hfz20_3 := kf BK436.out 3; have hfz20_4 := kf BK436.out 4; have hfz20_5 := kf BK436.out 5; have hfz20_6 := kf BK436.out 6; have hfz20_7 := kf BK436.out 7; have hfz20_8 := kf BK436.out 8; have hfz20_9 := kf BK436.out 9; have hfz20_10 := kf BK436.out 10; have hfz20_11 := kf BK436.out 11; have hfz20_12 := kf BK436.out 12; have hfz20_13 := kf BK436.out 13))
     go_ret
     exact ⟨xe, xb⟩
    ·replace c15 := Bool.eq_false_iff.mpr c15
     subst c15
     rw [if_neg (show ¬ (false = true) by decide)] at H
     obtain rfl := Option.some.inj H
     have hcz21_0 : wc.cell? ⟨gb436, 0, none⟩ = some (.bool a0_0) := (kc BK436.out 0).trans rfl
     have hcz21_1 : wc.cell? ⟨gb436, 1, none⟩ = some (.slice A0_1 l0_1.length c0_1) := (kc BK436.out 1).trans rfl
     have hcz21_2 : wc.cell? ⟨gb436, 2, none⟩ = some (.slice A0_2 l0_2.length c0_2) := (kc BK436.out 2).trans rfl
     have hcz21_3 : wc.cell? ⟨gb436, 3, none⟩ = some (.slice A0_3 l0_3.length c0_3) := (kc BK436.out 3).trans rfl
     have hcz21_4 : wc.cell? ⟨gb436, 4, none⟩ = some (.int .i64 a0_4) := (kc BK436.out 4).trans rfl
     have hcz21_5 : wc.cell? ⟨gb436, 5, none⟩ = some (.slice A0_5 l0_5.length c0_5) := (kc BK436.out 5).trans rfl
     have hcz21_6 : wc.cell? ⟨gb436, 6, none⟩ = some (.bool a0_6) := (kc BK436.out 6).trans rfl
     have hcz21_7 : wc.cell? ⟨gb436, 7, none⟩ = some (.int .i64 a0_7) := (kc BK436.out 7).trans rfl
     have hcz21_8 : wc.cell? ⟨gb436, 8, none⟩ = some (.string a0_8) := (kc BK436.out 8).trans rfl
     have hcz21_9 : wc.cell? ⟨gb436, 9, none⟩ = some (.bool a0_9) := (kc BK436.out 9).trans rfl
     have hcz21_10 : wc.cell? ⟨gb436, 10, none⟩ = some (.int .i64 a0_10) := (kc BK436.out 10).trans rfl
     have hcz21_11 : wc.cell? ⟨gb436, 11, none⟩ = some (.bool a0_11) := (kc BK436.out 11).trans rfl
     have hcz21_12 : wc.cell? ⟨gb436, 12, none⟩ = some (.bool a0_12) := (kc BK436.out 12).trans rfl
     have hcz21_13 : wc.cell? ⟨gb436, 13, none⟩ = some (.int .i64 a0_13) := (kc BK436.out 13).trans rfl
     have hfz21_0 := kf BK436.out 0
     have hfz21_1 := kf BK436.out 1
     have hfz21_2 := kf BK436.out 2
     have hfz21_3 := kf BK436.out 3
     have hfz21_4 := kf BK436.out 4
     have hfz21_5 := kf BK436.out 5
     have hfz21_6 := kf BK436.out 6
     have hfz21_7 := kf BK436.out 7
     have hfz21_8 := kf BK436.out 8
     have hfz21_9 := kf BK436.out 9
     have hfz21_10 := kf BK436.out 10
     have hfz21_11 := kf BK436.out 11
     have hfz21_12 := kf BK436.out 12
     have hfz21_13 := kf BK436.out 13
     go_wp2
     go_ret
     exact ⟨xe, xb⟩
/- Walked functions, by this session's program over the kit's print. -/
mutual
def r19_Sort.l0 : Nat → List (S74) → List (S74) → Int → Bool → List (S81) → List (S81) → List (S81) → Int → List (S81) → Bool → Int → ByteArray → Bool → Int → Bool → Bool → Int → Option ((List (S74)))
 | 0, _, _, _, _, _, _, _, _, _, _, _, _, _, _, _, _, _ => none
 | k + 1, x1, x5, x6, x442000, x442001, x442002, x442003, x442004, x442005, x442006, x442007, x442008, x442009, x442010, x442011, x442012, x442013 => if x6 < (x1.length : Int) then (r19_Sort.l1 k x1 x5 x6 (([] : List (S74))) false 0 x442000 x442001 x442002 x442003 x442004 x442005 x442006 x442007 x442008 x442009 x442010 x442011 x442012 x442013) else (some x5)
def r19_Sort.l1 : Nat → List (S74) → List (S74) → Int → List (S74) → Bool → Int → Bool → List (S81) → List (S81) → List (S81) → Int → List (S81) → Bool → Int → ByteArray → Bool → Int → Bool → Bool → Int → Option ((List (S74)))
 | 0, _, _, _, _, _, _, _, _, _, _, _, _, _, _, _, _, _, _, _, _ => none
 | k + 1, x1, x5, x6, x7, x8, x9, x442000, x442001, x442002, x442003, x442004, x442005, x442006, x442007, x442008, x442009, x442010, x442011, x442012, x442013 => if x9 < (x5.length : Int) then (if x8 = true then (if 0 ≤ x9 then (if x7.length < 2932031007402 then (r19_Sort.l1 k x1 x5 x6 (x7 ++ [(⟨(rd_T74 x5 x9).f0, (⟨(rd_T74 x5 x9).f1.f0, (rd_T74 x5 x9).f1.f1, (rd_T74 x5 x9).f1.f2⟩ : S24)⟩ : S74)]) x8 (wrap64 (x9 + 1)) x442000 x442001 x442002 x442003 x442004 x442005 x442006 x442007 x442008 x442009 x442010 x442011 x442012 x442013) else (none)) else (none)) else (if 0 ≤ x6 then (if x6 < (x1.length : Int) then (if 0 ≤ x9 then ((r17_Ahead.f k x442000 x442001 x442002 x442003 x442004 x442005 x442006 x442007 x442008 x442009 x442010 x442011 x442012 x442013 ((rd_T74 x1 x6).f0) ((rd_T74 x5 x9).f0)).bind fun t454 => (if t454 = true then (if x7.length < 2932031007402 then ((some (x7 ++ [(⟨(rd_T74 x1 x6).f0, (⟨(rd_T74 x1 x6).f1.f0, (rd_T74 x1 x6).f1.f1, (rd_T74 x1 x6).f1.f2⟩ : S24)⟩ : S74)] : List (S74))).bind fun y456 => (if y456.length < 2932031007402 then (r19_Sort.l1 k x1 x5 x6 (y456 ++ [(⟨(rd_T74 x5 x9).f0, (⟨(rd_T74 x5 x9).f1.f0, (rd_T74 x5 x9).f1.f1, (rd_T74 x5 x9).f1.f2⟩ : S24)⟩ : S74)]) true (wrap64 (x9 + 1)) x442000 x442001 x442002 x442003 x442004 x442005 x442006 x442007 x442008 x442009 x442010 x442011 x442012 x442013) else (none))) else (none)) else (if x7.length < 2932031007402 then (r19_Sort.l1 k x1 x5 x6 (x7 ++ [(⟨(rd_T74 x5 x9).f0, (⟨(rd_T74 x5 x9).f1.f0, (rd_T74 x5 x9).f1.f1, (rd_T74 x5 x9).f1.f2⟩ : S24)⟩ : S74)]) x8 (wrap64 (x9 + 1)) x442000 x442001 x442002 x442003 x442004 x442005 x442006 x442007 x442008 x442009 x442010 x442011 x442012 x442013) else (none)))) else (none)) else (none)) else (none))) else (if x8 = true then (r19_Sort.l0 k x1 x7 (wrap64 (x6 + 1)) x442000 x442001 x442002 x442003 x442004 x442005 x442006 x442007 x442008 x442009 x442010 x442011 x442012 x442013) else (if 0 ≤ x6 then (if x6 < (x1.length : Int) then (if x7.length < 2932031007402 then (r19_Sort.l0 k x1 (x7 ++ [(⟨(rd_T74 x1 x6).f0, (⟨(rd_T74 x1 x6).f1.f0, (rd_T74 x1 x6).f1.f1, (rd_T74 x1 x6).f1.f2⟩ : S24)⟩ : S74)]) (wrap64 (x6 + 1)) x442000 x442001 x442002 x442003 x442004 x442005 x442006 x442007 x442008 x442009 x442010 x442011 x442012 x442013) else (none)) else (none)) else (none)))
end
def r19_Sort.f (k : Nat) (a0_0 : Bool) (l0_1 : List (S81)) (l0_2 : List (S81)) (l0_3 : List (S81)) (a0_4 : Int) (l0_5 : List (S81)) (a0_6 : Bool) (a0_7 : Int) (a0_8 : ByteArray) (a0_9 : Bool) (a0_10 : Int) (a0_11 : Bool) (a0_12 : Bool) (a0_13 : Int) (l1 : List (S74)) : Option ((List (S74))) := r19_Sort.l0 k l1 (([] : List (S74))) 0 a0_0 l0_1 l0_2 l0_3 a0_4 l0_5 a0_6 a0_7 a0_8 a0_9 a0_10 a0_11 a0_12 a0_13
theorem r19_Sort.mono_l : ∀ k, (∀ y0 y1 y2 y3 y4 y5 y6 y7 y8 y9 y10 y11 y12 y13 y14 y15 y16, LeO (r19_Sort.l0 k y0 y1 y2 y3 y4 y5 y6 y7 y8 y9 y10 y11 y12 y13 y14 y15 y16) (r19_Sort.l0 (k + 1) y0 y1 y2 y3 y4 y5 y6 y7 y8 y9 y10 y11 y12 y13 y14 y15 y16)) ∧ (∀ y0 y1 y2 y3 y4 y5 y6 y7 y8 y9 y10 y11 y12 y13 y14 y15 y16 y17 y18 y19, LeO (r19_Sort.l1 k y0 y1 y2 y3 y4 y5 y6 y7 y8 y9 y10 y11 y12 y13 y14 y15 y16 y17 y18 y19) (r19_Sort.l1 (k + 1) y0 y1 y2 y3 y4 y5 y6 y7 y8 y9 y10 y11 y12 y13 y14 y15 y16 y17 y18 y19))
 | 0 => ⟨fun _ _ _ _ _ _ _ _ _ _ _ _ _ _ _ _ _ r h => by simp [r19_Sort.l0] at h, fun _ _ _ _ _ _ _ _ _ _ _ _ _ _ _ _ _ _ _ _ r h => by simp [r19_Sort.l1] at h⟩
 | k + 1 => by
  obtain ⟨ih0, ih1⟩ := r19_Sort.mono_l k
  refine ⟨?_, ?_⟩
  ·intro y0 y1 y2 y3 y4 y5 y6 y7 y8 y9 y10 y11 y12 y13 y14 y15 y16
   unfold r19_Sort.l0
   repeat' (with_reducible first | exact ih0 _ _ _ _ _ _ _ _ _ _ _ _ _ _ _ _ _ | exact ih1 _ _ _ _ _ _ _ _ _ _ _ _ _ _ _ _ _ _ _ _ | exact r17_Ahead.mono _ _ _ _ _ _ _ _ _ _ _ _ _ _ _ _ _ | exact LeO.refl _ | exact LeO.none _ | refine LeO.ite ?_ ?_ | refine LeO.bind ?_ (fun _ => ?_))
  ·intro y0 y1 y2 y3 y4 y5 y6 y7 y8 y9 y10 y11 y12 y13 y14 y15 y16 y17 y18 y19
   unfold r19_Sort.l1
   repeat' (with_reducible first | exact ih0 _ _ _ _ _ _ _ _ _ _ _ _ _ _ _ _ _ | exact ih1 _ _ _ _ _ _ _ _ _ _ _ _ _ _ _ _ _ _ _ _ | exact r17_Ahead.mono _ _ _ _ _ _ _ _ _ _ _ _ _ _ _ _ _ | exact LeO.refl _ | exact LeO.none _ | refine LeO.ite ?_ ?_ | refine LeO.bind ?_ (fun _ => ?_))
theorem r19_Sort.mono : ∀ a0 a1 a2 a3 a4 a5 a6 a7 a8 a9 a10 a11 a12 a13 a14 k, LeO (r19_Sort.f k a0 a1 a2 a3 a4 a5 a6 a7 a8 a9 a10 a11 a12 a13 a14) (r19_Sort.f (k + 1) a0 a1 a2 a3 a4 a5 a6 a7 a8 a9 a10 a11 a12 a13 a14) := by
 intro a0 a1 a2 a3 a4 a5 a6 a7 a8 a9 a10 a11 a12 a13 a14 k
 obtain ⟨ih0, ih1⟩ := r19_Sort.mono_l k
 unfold r19_Sort.f
 repeat' (with_reducible first | exact ih0 _ _ _ _ _ _ _ _ _ _ _ _ _ _ _ _ _ | exact ih1 _ _ _ _ _ _ _ _ _ _ _ _ _ _ _ _ _ _ _ _ | exact r17_Ahead.mono _ _ _ _ _ _ _ _ _ _ _ _ _ _ _ _ _ | exact LeO.refl _ | exact LeO.none _ | refine LeO.ite ?_ ?_ | refine LeO.bind ?_ (fun _ => ?_))
def r19_Sort.T10 : Bool × List (List Nat × List Nat) := (true, [([], []), ([0], [0]), ([1], [1]), ([2], [2]), ([2], [2]), ([2], [2]), ([4, 5, 2], [2, 4, 5]), ([6, 2], [2, 6]), ([7, 2], [2, 7]), ([2], [2]), ([2], [2]), ([9, 10, 2], [2, 9, 10]), ([11, 2], [2, 11]), ([12, 2], [2, 12]), ([3, 8, 13, 2, 2], [2, 3, 8, 13]), ([2, 14], [2, 14])])
def r19_Sort.B10 : List Nat := [0, 1, 3, 7, 7, 7, 55, 119, 247, 7, 7, 1543, 3591, 7687, 16383, 32767]
theorem r19_Sort.tab10 : rtab .any (opsOf Tryz.f16 10) = r19_Sort.T10 := by kernel_rfl
theorem r19_Sort.bits10 : waitsOk r19_Sort.T10.2 r19_Sort.B10 = true := by kernel_rfl
set_option maxHeartbeats 8000000 in
set_option maxRecDepth 100000 in
theorem r19_Sort.calls (k : Nat) (a0_0 : Bool) (A0_1 : Option Addr) (c0_1 : Nat) (l0_1 : List (S81)) (A0_2 : Option Addr) (c0_2 : Nat) (l0_2 : List (S81)) (A0_3 : Option Addr) (c0_3 : Nat) (l0_3 : List (S81)) (a0_4 : Int) (A0_5 : Option Addr) (c0_5 : Nat) (l0_5 : List (S81)) (a0_6 : Bool) (a0_7 : Int) (a0_8 : ByteArray) (a0_9 : Bool) (a0_10 : Int) (a0_11 : Bool) (a0_12 : Bool) (a0_13 : Int) (A1 : Option Addr) (c1 : Nat) (l1 : List (S74)) (r : List (S74)) (w : World) (hT : Tabs w) (hr0_1 : Kd.C k81 w A0_1 l0_1.length l0_1) (hc0_1 : l0_1.length ≤ c0_1) (hr0_2 : Kd.C k81 w A0_2 l0_2.length l0_2) (hc0_2 : l0_2.length ≤ c0_2) (hr0_3 : Kd.C k81 w A0_3 l0_3.length l0_3) (hc0_3 : l0_3.length ≤ c0_3) (hr0_5 : Kd.C k81 w A0_5 l0_5.length l0_5) (hc0_5 : l0_5.length ≤ c0_5) (hr1 : Kd.C k74 w A1 l1.length l1) (hc1 : l1.length ≤ c1) (h : r19_Sort.f k a0_0 l0_1 l0_2 l0_3 a0_4 l0_5 a0_6 a0_7 a0_8 a0_9 a0_10 a0_11 a0_12 a0_13 l1 = some r) :
  Calls Tryz.prog 16 #[.agg #[.bool a0_0, .slice A0_1 l0_1.length c0_1, .slice A0_2 l0_2.length c0_2, .slice A0_3 l0_3.length c0_3, .int .i64 a0_4, .slice A0_5 l0_5.length c0_5, .bool a0_6, .int .i64 a0_7, .string a0_8, .bool a0_9, .int .i64 a0_10, .bool a0_11, .bool a0_12, .int .i64 a0_13], .slice A1 l1.length c1] w fun e w' => ∃ v0_ : Value, e = .returned (v0_) ∧ Kd.R k74 74 w' w.heap.size (fun _ => True) v0_ r ∧ Below w.heap.size w w' := by
 have hu45 := Tryz.underlying45
 have hu74 := Tryz.underlying74
 have HR0_1 := xy hr0_1
 have HC0_1 := xy hc0_1
 clear hr0_1 hc0_1
 have HR0_2 := xy hr0_2
 have HC0_2 := xy hc0_2
 clear hr0_2 hc0_2
 have HR0_3 := xy hr0_3
 have HC0_3 := xy hc0_3
 clear hr0_3 hc0_3
 have HR0_5 := xy hr0_5
 have HC0_5 := xy hc0_5
 clear hr0_5 hc0_5
 have HR1 := xy hr1
 have HC1 := xy hc1
 clear hr1 hc1
 have HB := xy (Below.refl w.heap.size w)
 unfold r19_Sort.f at h
 have H := h
 clear h
 obtain ⟨y442, hy442⟩ : ∃ y_ : List (S74), y_ = (([] : List (S74))) := ⟨_, rfl⟩
 replace H : (r19_Sort.l0 k l1 y442 0 a0_0 l0_1 l0_2 l0_3 a0_4 l0_5 a0_6 a0_7 a0_8 a0_9 a0_10 a0_11 a0_12 a0_13) = some r := by first | (rw [hy442]; with_reducible exact H) | (have H2_ := (Option.bind_some _ _).symm.trans H; rw [hy442]; with_reducible exact H2_) | (have H2_ := (Option.bind_some _ _).symm.trans H; with_reducible exact H2_) | with_reducible exact H | (rw [hy442]; exact H) | exact H
 have Ny442 := xy hy442
 clear hy442
 have H' := xy H
 clear H
 go_enter Tryz.func16, Tryz.ntmps16
 go_wp2_with (first | ((with_reducible refine gate_dst (N := 2) rfl ?_); refine xq (N := 2) (cs := #[.bool a0_0, .slice A0_1 l0_1.length c0_1, .slice A0_2 l0_2.length c0_2, .slice A0_3 l0_3.length c0_3, .int .i64 a0_4, .slice A0_5 l0_5.length c0_5, .bool a0_6, .int .i64 a0_7, .string a0_8, .bool a0_9, .int .i64 a0_10, .bool a0_11, .bool a0_12, .int .i64 a0_13]) (t := 45) ?_; intro gb441 hg w3 hbox hb; have BK441 := xy (hbox); have GW441 := xs w hg; have GE441 := xs w hg; replace HB := xy (below_step xb hb); clear hb hbox hg) | ((with_reducible refine gate_dst (N := 10) rfl ?_); refine Kd.R_lit k74 _ 74 ?hg (N := 10) ?hd (xs := ([] : List (S74))) (inner := []) (ok := fun _ => True) (okp := fun _ => True) ?hr ?hp (fun _ hk => hk) trivial (Below.refl _ _) (Nat.le_refl _) (by simp) ?_; (case hd => rfl); (case hg => rfl); (case hr => exact xh); (case hp => exact (Reps.none _ _)); intro v443 w4 ho5 hb hg_ hnew_; clear hg_ hnew_; (first | rw [← Ny442.out] at ho5 | (simp only [Int.reduceToNat] at ho5; rw [← Ny442.out] at ho5)); have HO444 := xy (Kd.R_lower ho5 (below_size xb)); replace BK441 := xd BK441.out hb; replace HB := xy (below_step xb hb); clear hb ho5))
 go_loopg [5, 6] k (fun kq v5 v6 w' => ∃ (x5_1 : List (S74)) (x6_1 : Int), v6 = .int .i64 x6_1 ∧ Aside0 (r19_Sort.l0 kq l1 x5_1 x6_1 a0_0 l0_1 l0_2 l0_3 a0_4 l0_5 a0_6 a0_7 a0_8 a0_9 a0_10 a0_11 a0_12 a0_13 = some r) ∧ Aside0 (kq ≤ k) ∧ Aside0 (Kd.R k74 74 w' w.heap.size (fun _ => True) v5 x5_1) ∧ Aside0 (w'.heap[gb441]? = some (.cells #[.bool a0_0, (.slice A0_1 l0_1.length c0_1), (.slice A0_2 l0_2.length c0_2), (.slice A0_3 l0_3.length c0_3), .int .i64 a0_4, (.slice A0_5 l0_5.length c0_5), .bool a0_6, .int .i64 a0_7, .string a0_8, .bool a0_9, .int .i64 a0_10, .bool a0_11, .bool a0_12, .int .i64 a0_13] 45 (0, 0))) ∧ Aside0 (Below w.heap.size w w'))
 case atStart => exact ⟨(y442), (0), xg, H', ⟨Nat.le_refl _⟩, ⟨by (with_reducible repeat (first | apply Kd.R_alloc | apply Kd.R_drewN | apply Kd.R_drew)); exact HO444.out⟩, ⟨by (with_reducible repeat (first | refine blk_drewN ?_ _ | refine blk_drew ?_ | refine blk_alloc ?_ _)); exact BK441.out⟩, ⟨xb⟩⟩
 case round =>
  clear H'
  try clear c1
  try clear p2
  obtain ⟨x5_1, x6_1, rfl, HA, HK1, HO_5, BK441, HB⟩ := hrel
  cases gk with
  | zero => exact absurd HA.out (by simp [r19_Sort.l0])
  | succ k1 =>
   have H := HA.out
   clear HA
   simp only [r19_Sort.l0] at H
   by_cases c6 : x6_1 < (l1.length : Int)
   ·rw [if_pos c6] at H
    have c6b0 : decide (x6_1 < (l1.length : Int)) = true := decide_eq_true c6
    clear c6
    obtain ⟨y445, hy445⟩ : ∃ y_ : List (S74), y_ = (([] : List (S74))) := ⟨_, rfl⟩
    replace H : (r19_Sort.l1 k1 l1 x5_1 x6_1 y445 false 0 a0_0 l0_1 l0_2 l0_3 a0_4 l0_5 a0_6 a0_7 a0_8 a0_9 a0_10 a0_11 a0_12 a0_13) = some r := by first | (rw [hy445]; with_reducible exact H) | (have H2_ := (Option.bind_some _ _).symm.trans H; rw [hy445]; with_reducible exact H2_) | (have H2_ := (Option.bind_some _ _).symm.trans H; with_reducible exact H2_) | with_reducible exact H | (rw [hy445]; exact H) | exact H
    have Ny445 := xy hy445
    clear hy445
    have H' := xy H
    clear H
    go_wp2_with (((with_reducible refine gate_dst (N := 17) rfl ?_); refine Kd.R_lit k74 _ 74 ?hg (N := 17) ?hd (xs := ([] : List (S74))) (inner := []) (ok := fun _ => True) (okp := fun _ => True) ?hr ?hp (fun _ hk => hk) trivial (Below.refl _ _) (Nat.le_refl _) (by simp) ?_; (case hd => rfl); (case hg => rfl); (case hr => exact xh); (case hp => exact (Reps.none _ _)); intro v446 w7 ho8 hb hg_ hnew_; clear hg_ hnew_; (first | rw [← Ny445.out] at ho8 | (simp only [Int.reduceToNat] at ho8; rw [← Ny445.out] at ho8)); have HO447 := xy (Kd.R_lower (Kd.R_new' ho8 (Kd.R_lt (xo HO_5.out))) (below_size xb)); replace HO_5 := xy (Kd.R_elder' (xo HO_5.out) (Kd.R_base ho8) hb); replace BK441 := xd BK441.out hb; replace HB := xy (below_step xb hb); clear hb ho8))
    go_loopg [7, 8, 9] k1 (fun kq v7 v8 v9 w' => ∃ (x7_2 : List (S74)) (x8_2 : Bool) (x9_2 : Int), v8 = .bool x8_2 ∧ v9 = .int .i64 x9_2 ∧ Aside0 (r19_Sort.l1 kq l1 x5_1 x6_1 x7_2 x8_2 x9_2 a0_0 l0_1 l0_2 l0_3 a0_4 l0_5 a0_6 a0_7 a0_8 a0_9 a0_10 a0_11 a0_12 a0_13 = some r) ∧ Aside0 (kq ≤ k1) ∧ Aside0 (Kd.R k74 74 w' w.heap.size (fun k_ => some k_ ≠ (v7 : Value).ownBlock) u5 x5_1) ∧ Aside0 (Kd.R k74 74 w' w.heap.size (fun k_ => some k_ ≠ (u5 : Value).ownBlock) v7 x7_2) ∧ Aside0 (w'.heap[gb441]? = some (.cells #[.bool a0_0, (.slice A0_1 l0_1.length c0_1), (.slice A0_2 l0_2.length c0_2), (.slice A0_3 l0_3.length c0_3), .int .i64 a0_4, (.slice A0_5 l0_5.length c0_5), .bool a0_6, .int .i64 a0_7, .string a0_8, .bool a0_9, .int .i64 a0_10, .bool a0_11, .bool a0_12, .int .i64 a0_13] 45 (0, 0))) ∧ Aside0 (Below w.heap.size w w'))
    case atStart => exact ⟨(y445), (false), (0), xg, xg, H', ⟨Nat.le_refl _⟩, ⟨by (with_reducible repeat (first | apply Kd.R_alloc | apply Kd.R_drewN | apply Kd.R_drew)); exact Kd.R_mono HO_5.out (fun _ hk => hk.2)⟩, ⟨by (with_reducible repeat (first | apply Kd.R_alloc | apply Kd.R_drewN | apply Kd.R_drew)); exact Kd.R_mono HO447.out (fun _ hk => hk.2)⟩, ⟨by (with_reducible repeat (first | refine blk_drewN ?_ _ | refine blk_drew ?_ | refine blk_alloc ?_ _)); exact BK441.out⟩, ⟨xb⟩⟩
    case round =>
     clear H'
     try clear c1
     try clear p2
     try clear c6
     try clear c6b0
     try clear p2
     obtain ⟨x7_2, x8_2, x9_2, rfl, rfl, HA, HK2, HO_5, HO_7, BK441, HB⟩ := hrel
     cases gk with
     | zero => exact absurd HA.out (by simp [r19_Sort.l1])
     | succ k2 =>
      have H := HA.out
      clear HA
      simp only [r19_Sort.l1] at H
      by_cases c9 : x9_2 < (x5_1.length : Int)
      ·rw [if_pos c9] at H
       have c9b0 : decide (x9_2 < (x5_1.length : Int)) = true := decide_eq_true c9
       clear c9
       by_cases c10 : x8_2 = true
       ·subst c10
        rw [if_pos rfl] at H
        by_cases c11 : 0 ≤ x9_2
        ·rw [if_pos c11] at H
         have c11b0 : decide (0 ≤ x9_2) = true := decide_eq_true c11
         clear c11
         by_cases c12 : x7_2.length < 2932031007402
         ·rw [if_pos c12] at H
          have LMc12 := xy c12
          clear c12
          obtain ⟨y449, hy449⟩ : ∃ y_ : List (S74), y_ = (x7_2 ++ [(⟨(rd_T74 x5_1 x9_2).f0, (⟨(rd_T74 x5_1 x9_2).f1.f0, (rd_T74 x5_1 x9_2).f1.f1, (rd_T74 x5_1 x9_2).f1.f2⟩ : S24)⟩ : S74)]) := ⟨_, rfl⟩
          replace H : (r19_Sort.l1 k2 l1 x5_1 x6_1 y449 true (wrap64 (x9_2 + 1)) a0_0 l0_1 l0_2 l0_3 a0_4 l0_5 a0_6 a0_7 a0_8 a0_9 a0_10 a0_11 a0_12 a0_13) = some r := by first | (rw [hy449]; with_reducible exact H) | (have H2_ := (Option.bind_some _ _).symm.trans H; rw [hy449]; with_reducible exact H2_) | (have H2_ := (Option.bind_some _ _).symm.trans H; with_reducible exact H2_) | with_reducible exact H | (rw [hy449]; exact H) | exact H
          have Ny449 := xy hy449
          clear hy449
          have H' := xy H
          clear H
          obtain ⟨Ao13, co13, eo13⟩ := Kd.R_slice HO_5.out
          subst eo13
          try go_wp2
          replace HO_5 := xy (Kd.R_drew HO_5.out)
          replace HO_7 := xy (Kd.R_drew HO_7.out)
          replace BK441 := xy (blk_drew BK441.out)
          replace HB := xy (below_drew1 HB.out)
          refine start_ (n := 16) (S := fun w' => True) (ds := []) #[false, false, false, false, false, false, false, false, false, false, false, false, false, false, false, false] (by kernel_rfl) rfl rfl trivial (fun hHeld => ?_); refine with_tabW r19_Sort.tab10 r19_Sort.bits10 (fun HT_ HW_ => ?_)
          generalize wr.drew = w14 at HO_5 HO_7 BK441 HB hHeld ⊢
          refine yz 0 (some 24) (bs 16 1) HT_.out (h := ?_)
          refine yz 1 (some 25) (bs 16 3) HT_.out (h := ?_)
          refine yz 2 (some 26) (bs 16 7) HT_.out (h := ?_)
          refine yu 3 (some 27) (bs 16 15) HT_.out (h := ?_)
          refine yu 4 (some 28) (bs 16 31) HT_.out (h := ?_)
          refine yu 5 (some 29) (bs 16 63) HT_.out (h := ?_)
          refine yu 6 (some 30) (bs 16 127) HT_.out (h := ?_)
          refine yu 7 (some 31) (bs 16 255) HT_.out (h := ?_)
          refine yu 8 (some 32) (bs 16 511) HT_.out (h := ?_)
          refine yu 9 (some 33) (bs 16 1023) HT_.out (h := ?_)
          refine yu 10 (some 34) (bs 16 2047) HT_.out (h := ?_)
          refine yu 11 (some 35) (bs 16 4095) HT_.out (h := ?_)
          refine yu 12 (some 36) (bs 16 8191) HT_.out (h := ?_)
          refine yu 13 (some 37) (bs 16 16383) HT_.out (h := ?_)
          refine yu 14 (some 38) (bs 16 32767) HT_.out (h := ?_)
          refine yz 15 (some 39) (bs 16 65535) HT_.out (h := ?_)
          refine done_ (done_of HT_.out (by kernel_rfl)) ?_
          have p448 : 0 ≤ (x9_2 : Int) := xi
          have q448 : x9_2 < (x5_1.length : Int) := xi
          obtain ⟨ad448, e448, hx448_0, hx448_1, hx448_2, hx448_3⟩ := at_T74 (Kd.R_reads' HO_5.out).2.2 x9_2 p448 q448
          cases e448
          replace p448 := eq_true p448
          replace q448 := eq_true q448
          try go_wp2_with (((with_reducible refine gate_builtin (b := .append) (xs := #[.tmp 47, .tmp 52]) rfl ?_); at_builtin; refine Kd.R_append k74 (w0 := w) w.heap.size rfl (.tmp 47) (.tmp 52) 34 74 (.agg #[(.string ⟨#[]⟩), (.bool false), (.int .i64 0), (.string ⟨#[]⟩)]) 48 rfl Tryz.underlying34 info74 rfl (by decide) (by omega) u7 x7_2 (⟨(rd_T74 x5_1 x9_2).f0, (⟨(rd_T74 x5_1 x9_2).f1.f0, (rd_T74 x5_1 x9_2).f1.f1, (rd_T74 x5_1 x9_2).f1.f2⟩ : S24)⟩ : S74) [.string ((rd_T74 x5_1 x9_2).f0), .bool ((rd_T74 x5_1 x9_2).f1.f0), .int .i64 ((rd_T74 x5_1 x9_2).f1.f1), .string ((rd_T74 x5_1 x9_2).f1.f2)] (fun k_ => some k_ ≠ (.slice (some ad448) x5_1.length co13 : Value).ownBlock) (fun _ => False) rfl rfl ?aP (fun _ hk => hk.elim) ?aF ?aO ?aB ?aS ?aL ?_; (case aP => exact k74_mkM _ _ _ (⟨(rd_T74 x5_1 x9_2).f0, (⟨(rd_T74 x5_1 x9_2).f1.f0, (rd_T74 x5_1 x9_2).f1.f1, (rd_T74 x5_1 x9_2).f1.f2⟩ : S24)⟩ : S74)); (case aB => exact xb); (case aF => exact (fun k_ hk => Kd.fresh' (Kd.R_lt (xo HO_5.out)) k_ hk)); (case aO => exact (xo HO_7.out)); (case aS => exact (below_size xb)); (case aL => have := LMc12.out; omega); intro v450 w15 ho hb hg hat; rw [← Ny449.out] at ho; replace HO_5 := xy (Kd.R_after (ok := (fun _ => True)) (by (with_reducible repeat (first | apply Kd.R_alloc | apply Kd.R_drewN | apply Kd.R_drew)); exact Kd.R_mono HO_5.out (fun _ hk => ⟨trivial, hk⟩)) hg hat); replace BK441 := xy (blk_grown (g := gb441) (o := .cells #[.bool a0_0, .slice A0_1 l0_1.length c0_1, .slice A0_2 l0_2.length c0_2, .slice A0_3 l0_3.length c0_3, .int .i64 a0_4, .slice A0_5 l0_5.length c0_5, .bool a0_6, .int .i64 a0_7, .string a0_8, .bool a0_9, .int .i64 a0_10, .bool a0_11, .bool a0_12, .int .i64 a0_13] 45 (0, 0)) (xk BK441.out) hg (Kd.R_ne HO_7.out BK441.out (by decide))); replace HB := xy (hb); have HO451 := xy (ho); clear HO_7; clear ho hb hg hat))
          go_roundg k2
          case measure => have := HK1.out; have := HK2.out; omega
          case rel => exact ⟨(y449), (true), (wrap64 (x9_2 + 1)), xg, xg, H', ⟨by have := HK1.out; have := HK2.out; omega⟩, ⟨by (with_reducible repeat (first | apply Kd.R_alloc | apply Kd.R_drewN | apply Kd.R_drew)); exact Kd.R_mono HO_5.out (fun _ hk => hk.2)⟩, ⟨by (with_reducible repeat (first | apply Kd.R_alloc | apply Kd.R_drewN | apply Kd.R_drew)); exact HO451.out⟩, ⟨by (with_reducible repeat (first | refine blk_drewN ?_ _ | refine blk_drew ?_ | refine blk_alloc ?_ _)); exact BK441.out⟩, ⟨xb⟩⟩
         ·rw [if_neg c12] at H
          exact absurd H (by simp)
        ·rw [if_neg c11] at H
         exact absurd H (by simp)
       ·replace c10 := Bool.eq_false_iff.mpr c10
        subst c10
        rw [if_neg (show ¬ (false = true) by decide)] at H
        by_cases c16 : 0 ≤ x6_1
        ·rw [if_pos c16] at H
         have c16b0 : decide (0 ≤ x6_1) = true := decide_eq_true c16
         clear c16
         by_cases c17 : x6_1 < (l1.length : Int)
         ·rw [if_pos c17] at H
          have c17b0 : decide (x6_1 < (l1.length : Int)) = true := decide_eq_true c17
          clear c17
          by_cases c18 : 0 ≤ x9_2
          ·rw [if_pos c18] at H
           have c18b0 : decide (0 ≤ x9_2) = true := decide_eq_true c18
           clear c18
           replace H := xj H
           obtain ⟨t454, A190, H⟩ := H
           try dsimp only at H
           have A19 := xy A190
           clear A190
           by_cases c20 : t454 = true
           ·subst c20
            rw [if_pos rfl] at H
            by_cases c21 : x7_2.length < 2932031007402
            ·rw [if_pos c21] at H
             have LMc21 := xy c21
             clear c21
             obtain ⟨y456, hy456⟩ : ∃ y_ : List (S74), y_ = (x7_2 ++ [(⟨(rd_T74 l1 x6_1).f0, (⟨(rd_T74 l1 x6_1).f1.f0, (rd_T74 l1 x6_1).f1.f1, (rd_T74 l1 x6_1).f1.f2⟩ : S24)⟩ : S74)]) := ⟨_, rfl⟩
             replace H : (if y456.length < 2932031007402 then (r19_Sort.l1 k2 l1 x5_1 x6_1 (y456 ++ [(⟨(rd_T74 x5_1 x9_2).f0, (⟨(rd_T74 x5_1 x9_2).f1.f0, (rd_T74 x5_1 x9_2).f1.f1, (rd_T74 x5_1 x9_2).f1.f2⟩ : S24)⟩ : S74)]) true (wrap64 (x9_2 + 1)) a0_0 l0_1 l0_2 l0_3 a0_4 l0_5 a0_6 a0_7 a0_8 a0_9 a0_10 a0_11 a0_12 a0_13) else (none)) = some r := by first | (rw [hy456]; with_reducible exact H) | (have H2_ := (Option.bind_some _ _).symm.trans H; rw [hy456]; with_reducible exact H2_) | (have H2_ := (Option.bind_some _ _).symm.trans H; with_reducible exact H2_) | with_reducible exact H | (rw [hy456]; exact H) | exact H
             have Ny456 := xy hy456
             clear hy456
             by_cases c22 : y456.length < 2932031007402
             ·rw [if_pos c22] at H
              have LMc22 := xy c22
              clear c22
              obtain ⟨y460, hy460⟩ : ∃ y_ : List (S74), y_ = (y456 ++ [(⟨(rd_T74 x5_1 x9_2).f0, (⟨(rd_T74 x5_1 x9_2).f1.f0, (rd_T74 x5_1 x9_2).f1.f1, (rd_T74 x5_1 x9_2).f1.f2⟩ : S24)⟩ : S74)]) := ⟨_, rfl⟩
              replace H : (r19_Sort.l1 k2 l1 x5_1 x6_1 y460 true (wrap64 (x9_2 + 1)) a0_0 l0_1 l0_2 l0_3 a0_4 l0_5 a0_6 a0_7 a0_8 a0_9 a0_10 a0_11 a0_12 a0_13) = some r := by first | (rw [hy460]; with_reducible exact H) | (have H2_ := (Option.bind_some _ _).symm.trans H; rw [hy460]; with_reducible exact H2_) | (have H2_ := (Option.bind_some _ _).symm.trans H; with_reducible exact H2_) | with_reducible exact H | (rw [hy460]; exact H) | exact H
              have Ny460 := xy hy460
              clear hy460
              have H' := xy H
              clear H
              obtain ⟨Ao23, co23, eo23⟩ := Kd.R_slice HO_5.out
              subst eo23
              try go_wp2
              replace HO_5 := xy (Kd.R_drew HO_5.out)
              replace HO_7 := xy (Kd.R_drew HO_7.out)
              replace BK441 := xy (blk_drew BK441.out)
              replace HB := xy (below_drew1 HB.out)
              have p452 : 0 ≤ (x6_1 : Int) := xi
              have q452 : x6_1 < (l1.length : Int) := xi
              obtain ⟨ad452, e452, hx452_0, hx452_1, hx452_2, hx452_3⟩ := at_T74 HR1.out x6_1 p452 q452
              have hw452_3 := hx452_3
              have hw452_2 := hx452_2
              have hw452_1 := hx452_1
              have hw452_0 := hx452_0
              cases e452
              replace hx452_0 := (HB.out.cell (World.block_lt_of_cell? w _ hx452_0)).trans hx452_0
              replace hx452_1 := (HB.out.cell (World.block_lt_of_cell? w _ hx452_1)).trans hx452_1
              replace hx452_2 := (HB.out.cell (World.block_lt_of_cell? w _ hx452_2)).trans hx452_2
              replace hx452_3 := (HB.out.cell (World.block_lt_of_cell? w _ hx452_3)).trans hx452_3
              replace p452 := eq_true p452
              replace q452 := eq_true q452
              have p453 : 0 ≤ (x9_2 : Int) := xi
              have q453 : x9_2 < (x5_1.length : Int) := xi
              obtain ⟨ad453, e453, hx453_0, hx453_1, hx453_2, hx453_3⟩ := at_T74 (Kd.R_reads' HO_5.out).2.2 x9_2 p453 q453
              cases e453
              replace p453 := eq_true p453
              replace q453 := eq_true q453
              refine start_ (n := 16) (S := fun w' => w'.cell? ⟨gb441, 0, none⟩ = some (.bool a0_0) ∧ w'.cell? ⟨gb441, 1, none⟩ = some (.slice A0_1 l0_1.length c0_1) ∧ w'.cell? ⟨gb441, 2, none⟩ = some (.slice A0_2 l0_2.length c0_2) ∧ w'.cell? ⟨gb441, 3, none⟩ = some (.slice A0_3 l0_3.length c0_3) ∧ w'.cell? ⟨gb441, 4, none⟩ = some (.int .i64 a0_4) ∧ w'.cell? ⟨gb441, 5, none⟩ = some (.slice A0_5 l0_5.length c0_5) ∧ w'.cell? ⟨gb441, 6, none⟩ = some (.bool a0_6) ∧ w'.cell? ⟨gb441, 7, none⟩ = some (.int .i64 a0_7) ∧ w'.cell? ⟨gb441, 8, none⟩ = some (.string a0_8) ∧ w'.cell? ⟨gb441, 9, none⟩ = some (.bool a0_9) ∧ w'.cell? ⟨gb441, 10, none⟩ = some (.int .i64 a0_10) ∧ w'.cell? ⟨gb441, 11, none⟩ = some (.bool a0_11) ∧ w'.cell? ⟨gb441, 12, none⟩ = some (.bool a0_12) ∧ w'.cell? ⟨gb441, 13, none⟩ = some (.int .i64 a0_13) ∧ w'.cell? (ad452.add ((x6_1).toNat * 4)) = some (.string ((rd_T74 l1 x6_1).f0)) ∧ w'.cell? ⟨(ad452.add ((x6_1).toNat * 4)).block, (ad452.add ((x6_1).toNat * 4)).off + 1, none⟩ = some (.bool ((rd_T74 l1 x6_1).f1.f0)) ∧ w'.cell? ⟨(ad452.add ((x6_1).toNat * 4)).block, (ad452.add ((x6_1).toNat * 4)).off + 2, none⟩ = some (.int .i64 ((rd_T74 l1 x6_1).f1.f1)) ∧ w'.cell? ⟨(ad452.add ((x6_1).toNat * 4)).block, (ad452.add ((x6_1).toNat * 4)).off + 3, none⟩ = some (.string ((rd_T74 l1 x6_1).f1.f2)) ∧ w'.cell? (ad453.add ((x9_2).toNat * 4)) = some (.string ((rd_T74 x5_1 x9_2).f0)) ∧ w'.cell? ⟨(ad453.add ((x9_2).toNat * 4)).block, (ad453.add ((x9_2).toNat * 4)).off + 1, none⟩ = some (.bool ((rd_T74 x5_1 x9_2).f1.f0)) ∧ w'.cell? ⟨(ad453.add ((x9_2).toNat * 4)).block, (ad453.add ((x9_2).toNat * 4)).off + 2, none⟩ = some (.int .i64 ((rd_T74 x5_1 x9_2).f1.f1)) ∧ w'.cell? ⟨(ad453.add ((x9_2).toNat * 4)).block, (ad453.add ((x9_2).toNat * 4)).off + 3, none⟩ = some (.string ((rd_T74 x5_1 x9_2).f1.f2))) (ds := []) #[false, false, false, false, false, false, false, false, false, false, false, false, false, false, false, false] (by kernel_rfl) rfl rfl ⟨(kc BK441.out 0).trans rfl, (kc BK441.out 1).trans rfl, (kc BK441.out 2).trans rfl, (kc BK441.out 3).trans rfl, (kc BK441.out 4).trans rfl, (kc BK441.out 5).trans rfl, (kc BK441.out 6).trans rfl, (kc BK441.out 7).trans rfl, (kc BK441.out 8).trans rfl, (kc BK441.out 9).trans rfl, (kc BK441.out 10).trans rfl, (kc BK441.out 11).trans rfl, (kc BK441.out 12).trans rfl, (kc BK441.out 13).trans rfl, ((HB.out.cell (World.block_lt_of_cell? w _ hw452_0)).trans hw452_0), ((HB.out.cell (World.block_lt_of_cell? w _ hw452_1)).trans hw452_1), ((HB.out.cell (World.block_lt_of_cell? w _ hw452_2)).trans hw452_2), ((HB.out.cell (World.block_lt_of_cell? w _ hw452_3)).trans hw452_3), hx453_0, hx453_1, hx453_2, hx453_3⟩ (fun hHeld => ?_); refine with_tabW r19_Sort.tab10 r19_Sort.bits10 (fun HT_ HW_ => ?_)
              generalize wr.drew = w24 at HO_5 HO_7 BK441 HB hx452_0 hx452_1 hx452_2 hx452_3 hx453_0 hx453_1 hx453_2 hx453_3 hHeld ⊢
              refine yz 0 (some 24) (bs 16 1) HT_.out (h := ?_)
              refine yz 1 (some 25) (bs 16 3) HT_.out (h := ?_)
              refine yz 2 (some 26) (bs 16 7) HT_.out (h := ?_)
              refine yz 4 (some 28) (bs 16 23) HT_.out (h := ?_)
              refine yz 5 (some 29) (bs 16 55) HT_.out (h := ?_)
              refine yz 6 (some 30) (bs 16 119) HT_.out (h := ?_)
              refine yz 7 (some 31) (bs 16 247) HT_.out (h := ?_)
              refine yz 9 (some 33) (bs 16 759) HT_.out (h := ?_)
              refine yz 10 (some 34) (bs 16 1783) HT_.out (h := ?_)
              refine yz 11 (some 35) (bs 16 3831) HT_.out (h := ?_)
              refine yz 12 (some 36) (bs 16 7927) HT_.out (h := ?_)
              refine yt 3 (some 27) (bs 16 7935) HT_.out HW_.out hHeld (h := ?_)
              refine yt 8 (some 32) (bs 16 8191) HT_.out HW_.out hHeld (h := ?_)
              refine yt 13 (some 37) (bs 16 16383) HT_.out HW_.out hHeld (h := ?_)
              refine one_ (i := 14) (N := some 38) #[true, true, true, true, true, true, true, true, true, true, true, true, true, true, true, false] rfl rfl (one_of HT_.out (by kernel_rfl)) (by decide) (fun K hK => ?_)
              refine goes_ Tryz.func34 (by kernel_rfl) rfl #[.agg #[.bool a0_0, .slice A0_1 l0_1.length c0_1, .slice A0_2 l0_2.length c0_2, .slice A0_3 l0_3.length c0_3, .int .i64 a0_4, .slice A0_5 l0_5.length c0_5, .bool a0_6, .int .i64 a0_7, .string a0_8, .bool a0_9, .int .i64 a0_10, .bool a0_11, .bool a0_12, .int .i64 a0_13], .string ((rd_T74 l1 x6_1).f0), .string ((rd_T74 x5_1 x9_2).f0)] (by rfl) rfl rfl xr ?_
              with_reducible refine (r17_Ahead.calls k2 a0_0 _ _ l0_1 _ _ l0_2 _ _ l0_3 a0_4 _ _ l0_5 a0_6 a0_7 a0_8 a0_9 a0_10 a0_11 a0_12 a0_13 ((rd_T74 l1 x6_1).f0) ((rd_T74 x5_1 x9_2).f0) true _ (Tabs.below hT xf) ?side1 ?side2 ?side3 ?side4 ?side5 ?side6 ?side7 ?side8 A19.out).mono ?_
              (case side1 => exact Kd.C_below HR0_1.out xb)
              (case side2 => exact HC0_1.out)
              (case side3 => exact Kd.C_below HR0_2.out xb)
              (case side4 => exact HC0_2.out)
              (case side5 => exact Kd.C_below HR0_3.out xb)
              (case side6 => exact HC0_3.out)
              (case side7 => exact Kd.C_below HR0_5.out xb)
              (case side8 => exact HC0_5.out)
              rintro e w25 ⟨rfl, hb⟩
              have HS18_ := (hb.cell (World.block_lt_of_cell? _ _ (hHeld.2.2.2.2.2.2.2.2.2.2.2.2.2.2.2.2.2.2.1))).trans (hHeld.2.2.2.2.2.2.2.2.2.2.2.2.2.2.2.2.2.2.1)
              have HS19_ := (hb.cell (World.block_lt_of_cell? _ _ (hHeld.2.2.2.2.2.2.2.2.2.2.2.2.2.2.2.2.2.2.2.1))).trans (hHeld.2.2.2.2.2.2.2.2.2.2.2.2.2.2.2.2.2.2.2.1)
              have HS20_ := (hb.cell (World.block_lt_of_cell? _ _ (hHeld.2.2.2.2.2.2.2.2.2.2.2.2.2.2.2.2.2.2.2.2.1))).trans (hHeld.2.2.2.2.2.2.2.2.2.2.2.2.2.2.2.2.2.2.2.2.1)
              have HS21_ := (hb.cell (World.block_lt_of_cell? _ _ (hHeld.2.2.2.2.2.2.2.2.2.2.2.2.2.2.2.2.2.2.2.2.2))).trans (hHeld.2.2.2.2.2.2.2.2.2.2.2.2.2.2.2.2.2.2.2.2.2)
              refine ⟨_, rfl, ?_⟩
              replace HO_5 := xy (Kd.R_below (xo HO_5.out) hb)
              replace HO_7 := xy (Kd.R_below (xo HO_7.out) hb)
              replace BK441 := xd BK441.out hb
              replace HB := xy (below_step xb hb)
              (try clear hb)
              (try clear hb2)
              (try clear hk)
              (try clear hi)
              refine hK.out _ _ ⟨(kc BK441.out 0).trans rfl, (kc BK441.out 1).trans rfl, (kc BK441.out 2).trans rfl, (kc BK441.out 3).trans rfl, (kc BK441.out 4).trans rfl, (kc BK441.out 5).trans rfl, (kc BK441.out 6).trans rfl, (kc BK441.out 7).trans rfl, (kc BK441.out 8).trans rfl, (kc BK441.out 9).trans rfl, (kc BK441.out 10).trans rfl, (kc BK441.out 11).trans rfl, (kc BK441.out 12).trans rfl, (kc BK441.out 13).trans rfl, ((HB.out.cell (World.block_lt_of_cell? w _ hw452_0)).trans hw452_0), ((HB.out.cell (World.block_lt_of_cell? w _ hw452_1)).trans hw452_1), ((HB.out.cell (World.block_lt_of_cell? w _ hw452_2)).trans hw452_2), ((HB.out.cell (World.block_lt_of_cell? w _ hw452_3)).trans hw452_3), HS18_, HS19_, HS20_, HS21_⟩ (fun hHeld => ?_)
              clear hK K
              refine norm_ (a' := ?_) ?_ ?_
              rotate_left
              ·show Act.put _ (some 38) _ = _
               simp only [Act.put, List.setIfInBounds_toArray, List.set_cons_zero, List.set_cons_succ, i64_w, i32_w]
               rfl
              refine yz 15 (some 39) (bs 16 65535) HT_.out (h := ?_)
              refine done_ (done_of HT_.out (by kernel_rfl)) ?_
              have p455 : 0 ≤ (x6_1 : Int) := xi
              have q455 : x6_1 < (l1.length : Int) := xi
              obtain ⟨ad455, e455, hx455_0, hx455_1, hx455_2, hx455_3⟩ := at_T74 HR1.out x6_1 p455 q455
              obtain rfl : ad452 = ad455 := (by injection e455)
              replace hx455_0 := (HB.out.cell (World.block_lt_of_cell? w _ hx455_0)).trans hx455_0
              replace hx455_1 := (HB.out.cell (World.block_lt_of_cell? w _ hx455_1)).trans hx455_1
              replace hx455_2 := (HB.out.cell (World.block_lt_of_cell? w _ hx455_2)).trans hx455_2
              replace hx455_3 := (HB.out.cell (World.block_lt_of_cell? w _ hx455_3)).trans hx455_3
              replace p455 := eq_true p455
              replace q455 := eq_true q455
              try go_wp2_with (first | ((with_reducible refine gate_builtin (b := .append) (xs := #[.tmp 40, .tmp 45]) rfl ?_); at_builtin; refine Kd.R_append k74 (w0 := w) w.heap.size rfl (.tmp 40) (.tmp 45) 34 74 (.agg #[(.string ⟨#[]⟩), (.bool false), (.int .i64 0), (.string ⟨#[]⟩)]) 48 rfl Tryz.underlying34 info74 rfl (by decide) (by omega) u7 x7_2 (⟨(rd_T74 l1 x6_1).f0, (⟨(rd_T74 l1 x6_1).f1.f0, (rd_T74 l1 x6_1).f1.f1, (rd_T74 l1 x6_1).f1.f2⟩ : S24)⟩ : S74) [.string ((rd_T74 l1 x6_1).f0), .bool ((rd_T74 l1 x6_1).f1.f0), .int .i64 ((rd_T74 l1 x6_1).f1.f1), .string ((rd_T74 l1 x6_1).f1.f2)] (fun k_ => some k_ ≠ (.slice (some ad453) x5_1.length co23 : Value).ownBlock) (fun _ => False) rfl rfl ?aP (fun _ hk => hk.elim) ?aF ?aO ?aB ?aS ?aL ?_; (case aP => exact k74_mkM _ _ _ (⟨(rd_T74 l1 x6_1).f0, (⟨(rd_T74 l1 x6_1).f1.f0, (rd_T74 l1 x6_1).f1.f1, (rd_T74 l1 x6_1).f1.f2⟩ : S24)⟩ : S74)); (case aB => exact xb); (case aF => exact (fun k_ hk => Kd.fresh' (Kd.R_lt (xo HO_5.out)) k_ hk)); (case aO => exact (xo HO_7.out)); (case aS => exact (below_size xb)); (case aL => have := LMc21.out; omega); intro v457 w26 ho hb hg hat; rw [← Ny456.out] at ho; replace HO_5 := xy (Kd.R_after (ok := (fun _ => True)) (by (with_reducible repeat (first | apply Kd.R_alloc | apply Kd.R_drewN | apply Kd.R_drew)); exact Kd.R_mono HO_5.out (fun _ hk => ⟨trivial, hk⟩)) hg hat); replace BK441 := xy (blk_grown (g := gb441) (o := .cells #[.bool a0_0, .slice A0_1 l0_1.length c0_1, .slice A0_2 l0_2.length c0_2, .slice A0_3 l0_3.length c0_3, .int .i64 a0_4, .slice A0_5 l0_5.length c0_5, .bool a0_6, .int .i64 a0_7, .string a0_8, .bool a0_9, .int .i64 a0_10, .bool a0_11, .bool a0_12, .int .i64 a0_13] 45 (0, 0)) (xk BK441.out) hg (Kd.R_ne HO_7.out BK441.out (by decide))); replace HB := xy (hb); have HO458 := xy (ho); clear HO_7; clear ho hb hg hat; have p459 : 0 ≤ (x9_2 : Int) := xi; have q459 : x9_2 < (x5_1.length : Int) := xi; obtain ⟨ad459, e459, hx459_0, hx459_1, hx459_2, hx459_3⟩ := at_T74 (Kd.R_reads' HO_5.out).2.2 x9_2 p459 q459; obtain rfl : ad453 = ad459 := (by injection e459); replace p459 := eq_true p459; replace q459 := eq_true q459) | ((with_reducible refine gate_builtin (b := .append) (xs := #[.tmp 47, .tmp 52]) rfl ?_); at_builtin; refine Kd.R_append k74 (w0 := w) w.heap.size rfl (.tmp 47) (.tmp 52) 34 74 (.agg #[(.string ⟨#[]⟩), (.bool false), (.int .i64 0), (.string ⟨#[]⟩)]) 48 rfl Tryz.underlying34 info74 rfl (by decide) (by omega) v457 y456 (⟨(rd_T74 x5_1 x9_2).f0, (⟨(rd_T74 x5_1 x9_2).f1.f0, (rd_T74 x5_1 x9_2).f1.f1, (rd_T74 x5_1 x9_2).f1.f2⟩ : S24)⟩ : S74) [.string ((rd_T74 x5_1 x9_2).f0), .bool ((rd_T74 x5_1 x9_2).f1.f0), .int .i64 ((rd_T74 x5_1 x9_2).f1.f1), .string ((rd_T74 x5_1 x9_2).f1.f2)] (fun k_ => some k_ ≠ (.slice (some ad453) x5_1.length co23 : Value).ownBlock) (fun _ => False) rfl rfl ?aP (fun _ hk => hk.elim) ?aF ?aO ?aB ?aS ?aL ?_; (case aP => exact k74_mkM _ _ _ (⟨(rd_T74 x5_1 x9_2).f0, (⟨(rd_T74 x5_1 x9_2).f1.f0, (rd_T74 x5_1 x9_2).f1.f1, (rd_T74 x5_1 x9_2).f1.f2⟩ : S24)⟩ : S74)); (case aB => exact xb); (case aF => exact (fun k_ hk => Kd.fresh' (Kd.R_lt (xo HO_5.out)) k_ hk)); (case aO => exact (xo HO458.out)); (case aS => exact (below_size xb)); (case aL => have := LMc22.out; omega); intro v461 w27 ho hb hg hat; rw [← Ny460.out] at ho; replace HO_5 := xy (Kd.R_after (ok := (fun _ => True)) (xo HO_5.out) hg hat); replace BK441 := xy (blk_grown (g := gb441) (o := .cells #[.bool a0_0, .slice A0_1 l0_1.length c0_1, .slice A0_2 l0_2.length c0_2, .slice A0_3 l0_3.length c0_3, .int .i64 a0_4, .slice A0_5 l0_5.length c0_5, .bool a0_6, .int .i64 a0_7, .string a0_8, .bool a0_9, .int .i64 a0_10, .bool a0_11, .bool a0_12, .int .i64 a0_13] 45 (0, 0)) (xk BK441.out) hg (Kd.R_ne HO458.out BK441.out (by decide))); replace HB := xy (hb); have HO462 := xy (ho); clear HO458; clear ho hb hg hat))
              go_roundg k2
              case measure => have := HK1.out; have := HK2.out; omega
              case rel => exact ⟨(y460), (true), (wrap64 (x9_2 + 1)), xg, xg, H', ⟨by have := HK1.out; have := HK2.out; omega⟩, ⟨by (with_reducible repeat (first | apply Kd.R_alloc | apply Kd.R_drewN | apply Kd.R_drew)); exact Kd.R_mono HO_5.out (fun _ hk => hk.2)⟩, ⟨by (with_reducible repeat (first | apply Kd.R_alloc | apply Kd.R_drewN | apply Kd.R_drew)); exact HO462.out⟩, ⟨by (with_reducible repeat (first | refine blk_drewN ?_ _ | refine blk_drew ?_ | refine blk_alloc ?_ _)); exact BK441.out⟩, ⟨xb⟩⟩
             ·rw [if_neg c22] at H
              exact absurd H (by simp)
            ·rw [if_neg c21] at H
             exact absurd H (by simp)
           ·replace c20 := Bool.eq_false_iff.mpr c20
            subst c20
            rw [if_neg (show ¬ (false = true) by decide)] at H
            by_cases c28 : x7_2.length < 2932031007402
            ·rw [if_pos c28] at H
             have LMc28 := xy c28
             clear c28
             obtain ⟨y464, hy464⟩ : ∃ y_ : List (S74), y_ = (x7_2 ++ [(⟨(rd_T74 x5_1 x9_2).f0, (⟨(rd_T74 x5_1 x9_2).f1.f0, (rd_T74 x5_1 x9_2).f1.f1, (rd_T74 x5_1 x9_2).f1.f2⟩ : S24)⟩ : S74)]) := ⟨_, rfl⟩
             replace H : (r19_Sort.l1 k2 l1 x5_1 x6_1 y464 false (wrap64 (x9_2 + 1)) a0_0 l0_1 l0_2 l0_3 a0_4 l0_5 a0_6 a0_7 a0_8 a0_9 a0_10 a0_11 a0_12 a0_13) = some r := by first | (rw [hy464]; with_reducible exact H) | (have H2_ := (Option.bind_some _ _).symm.trans H; rw [hy464]; with_reducible exact H2_) | (have H2_ := (Option.bind_some _ _).symm.trans H; with_reducible exact H2_) | with_reducible exact H | (rw [hy464]; exact H) | exact H
             have Ny464 := xy hy464
             clear hy464
             have H' := xy H
             clear H
             obtain ⟨Ao29, co29, eo29⟩ := Kd.R_slice HO_5.out
             subst eo29
             try go_wp2
             replace HO_5 := xy (Kd.R_drew HO_5.out)
             replace HO_7 := xy (Kd.R_drew HO_7.out)
             replace BK441 := xy (blk_drew BK441.out)
             replace HB := xy (below_drew1 HB.out)
             have p452 : 0 ≤ (x6_1 : Int) := xi
             have q452 : x6_1 < (l1.length : Int) := xi
             obtain ⟨ad452, e452, hx452_0, hx452_1, hx452_2, hx452_3⟩ := at_T74 HR1.out x6_1 p452 q452
             have hw452_3 := hx452_3
             have hw452_2 := hx452_2
             have hw452_1 := hx452_1
             have hw452_0 := hx452_0
             cases e452
             replace hx452_0 := (HB.out.cell (World.block_lt_of_cell? w _ hx452_0)).trans hx452_0
             replace hx452_1 := (HB.out.cell (World.block_lt_of_cell? w _ hx452_1)).trans hx452_1
             replace hx452_2 := (HB.out.cell (World.block_lt_of_cell? w _ hx452_2)).trans hx452_2
             replace hx452_3 := (HB.out.cell (World.block_lt_of_cell? w _ hx452_3)).trans hx452_3
             replace p452 := eq_true p452
             replace q452 := eq_true q452
             have p453 : 0 ≤ (x9_2 : Int) := xi
             have q453 : x9_2 < (x5_1.length : Int) := xi
             obtain ⟨ad453, e453, hx453_0, hx453_1, hx453_2, hx453_3⟩ := at_T74 (Kd.R_reads' HO_5.out).2.2 x9_2 p453 q453
             cases e453
             replace p453 := eq_true p453
             replace q453 := eq_true q453
             refine start_ (n := 16) (S := fun w' => w'.cell? ⟨gb441, 0, none⟩ = some (.bool a0_0) ∧ w'.cell? ⟨gb441, 1, none⟩ = some (.slice A0_1 l0_1.length c0_1) ∧ w'.cell? ⟨gb441, 2, none⟩ = some (.slice A0_2 l0_2.length c0_2) ∧ w'.cell? ⟨gb441, 3, none⟩ = some (.slice A0_3 l0_3.length c0_3) ∧ w'.cell? ⟨gb441, 4, none⟩ = some (.int .i64 a0_4) ∧ w'.cell? ⟨gb441, 5, none⟩ = some (.slice A0_5 l0_5.length c0_5) ∧ w'.cell? ⟨gb441, 6, none⟩ = some (.bool a0_6) ∧ w'.cell? ⟨gb441, 7, none⟩ = some (.int .i64 a0_7) ∧ w'.cell? ⟨gb441, 8, none⟩ = some (.string a0_8) ∧ w'.cell? ⟨gb441, 9, none⟩ = some (.bool a0_9) ∧ w'.cell? ⟨gb441, 10, none⟩ = some (.int .i64 a0_10) ∧ w'.cell? ⟨gb441, 11, none⟩ = some (.bool a0_11) ∧ w'.cell? ⟨gb441, 12, none⟩ = some (.bool a0_12) ∧ w'.cell? ⟨gb441, 13, none⟩ = some (.int .i64 a0_13) ∧ w'.cell? (ad452.add ((x6_1).toNat * 4)) = some (.string ((rd_T74 l1 x6_1).f0)) ∧ w'.cell? ⟨(ad452.add ((x6_1).toNat * 4)).block, (ad452.add ((x6_1).toNat * 4)).off + 1, none⟩ = some (.bool ((rd_T74 l1 x6_1).f1.f0)) ∧ w'.cell? ⟨(ad452.add ((x6_1).toNat * 4)).block, (ad452.add ((x6_1).toNat * 4)).off + 2, none⟩ = some (.int .i64 ((rd_T74 l1 x6_1).f1.f1)) ∧ w'.cell? ⟨(ad452.add ((x6_1).toNat * 4)).block, (ad452.add ((x6_1).toNat * 4)).off + 3, none⟩ = some (.string ((rd_T74 l1 x6_1).f1.f2)) ∧ w'.cell? (ad453.add ((x9_2).toNat * 4)) = some (.string ((rd_T74 x5_1 x9_2).f0)) ∧ w'.cell? ⟨(ad453.add ((x9_2).toNat * 4)).block, (ad453.add ((x9_2).toNat * 4)).off + 1, none⟩ = some (.bool ((rd_T74 x5_1 x9_2).f1.f0)) ∧ w'.cell? ⟨(ad453.add ((x9_2).toNat * 4)).block, (ad453.add ((x9_2).toNat * 4)).off + 2, none⟩ = some (.int .i64 ((rd_T74 x5_1 x9_2).f1.f1)) ∧ w'.cell? ⟨(ad453.add ((x9_2).toNat * 4)).block, (ad453.add ((x9_2).toNat * 4)).off + 3, none⟩ = some (.string ((rd_T74 x5_1 x9_2).f1.f2))) (ds := []) #[false, false, false, false, false, false, false, false, false, false, false, false, false, false, false, false] (by kernel_rfl) rfl rfl ⟨(kc BK441.out 0).trans rfl, (kc BK441.out 1).trans rfl, (kc BK441.out 2).trans rfl, (kc BK441.out 3).trans rfl, (kc BK441.out 4).trans rfl, (kc BK441.out 5).trans rfl, (kc BK441.out 6).trans rfl, (kc BK441.out 7).trans rfl, (kc BK441.out 8).trans rfl, (kc BK441.out 9).trans rfl, (kc BK441.out 10).trans rfl, (kc BK441.out 11).trans rfl, (kc BK441.out 12).trans rfl, (kc BK441.out 13).trans rfl, ((HB.out.cell (World.block_lt_of_cell? w _ hw452_0)).trans hw452_0), ((HB.out.cell (World.block_lt_of_cell? w _ hw452_1)).trans hw452_1), ((HB.out.cell (World.block_lt_of_cell? w _ hw452_2)).trans hw452_2), ((HB.out.cell (World.block_lt_of_cell? w _ hw452_3)).trans hw452_3), hx453_0, hx453_1, hx453_2, hx453_3⟩ (fun hHeld => ?_); refine with_tabW r19_Sort.tab10 r19_Sort.bits10 (fun HT_ HW_ => ?_)
             generalize wr.drew = w30 at HO_5 HO_7 BK441 HB hx452_0 hx452_1 hx452_2 hx452_3 hx453_0 hx453_1 hx453_2 hx453_3 hHeld ⊢
             refine yz 0 (some 24) (bs 16 1) HT_.out (h := ?_)
             refine yz 1 (some 25) (bs 16 3) HT_.out (h := ?_)
             refine yz 2 (some 26) (bs 16 7) HT_.out (h := ?_)
             refine yz 4 (some 28) (bs 16 23) HT_.out (h := ?_)
             refine yz 5 (some 29) (bs 16 55) HT_.out (h := ?_)
             refine yz 6 (some 30) (bs 16 119) HT_.out (h := ?_)
             refine yz 7 (some 31) (bs 16 247) HT_.out (h := ?_)
             refine yz 9 (some 33) (bs 16 759) HT_.out (h := ?_)
             refine yz 10 (some 34) (bs 16 1783) HT_.out (h := ?_)
             refine yz 11 (some 35) (bs 16 3831) HT_.out (h := ?_)
             refine yz 12 (some 36) (bs 16 7927) HT_.out (h := ?_)
             refine yt 3 (some 27) (bs 16 7935) HT_.out HW_.out hHeld (h := ?_)
             refine yt 8 (some 32) (bs 16 8191) HT_.out HW_.out hHeld (h := ?_)
             refine yt 13 (some 37) (bs 16 16383) HT_.out HW_.out hHeld (h := ?_)
             refine one_ (i := 14) (N := some 38) #[true, true, true, true, true, true, true, true, true, true, true, true, true, true, true, false] rfl rfl (one_of HT_.out (by kernel_rfl)) (by decide) (fun K hK => ?_)
             refine goes_ Tryz.func34 (by kernel_rfl) rfl #[.agg #[.bool a0_0, .slice A0_1 l0_1.length c0_1, .slice A0_2 l0_2.length c0_2, .slice A0_3 l0_3.length c0_3, .int .i64 a0_4, .slice A0_5 l0_5.length c0_5, .bool a0_6, .int .i64 a0_7, .string a0_8, .bool a0_9, .int .i64 a0_10, .bool a0_11, .bool a0_12, .int .i64 a0_13], .string ((rd_T74 l1 x6_1).f0), .string ((rd_T74 x5_1 x9_2).f0)] (by rfl) rfl rfl xr ?_
             with_reducible refine (r17_Ahead.calls k2 a0_0 _ _ l0_1 _ _ l0_2 _ _ l0_3 a0_4 _ _ l0_5 a0_6 a0_7 a0_8 a0_9 a0_10 a0_11 a0_12 a0_13 ((rd_T74 l1 x6_1).f0) ((rd_T74 x5_1 x9_2).f0) false _ (Tabs.below hT xf) ?side1 ?side2 ?side3 ?side4 ?side5 ?side6 ?side7 ?side8 A19.out).mono ?_
             (case side1 => exact Kd.C_below HR0_1.out xb)
             (case side2 => exact HC0_1.out)
             (case side3 => exact Kd.C_below HR0_2.out xb)
             (case side4 => exact HC0_2.out)
             (case side5 => exact Kd.C_below HR0_3.out xb)
             (case side6 => exact HC0_3.out)
             (case side7 => exact Kd.C_below HR0_5.out xb)
             (case side8 => exact HC0_5.out)
             rintro e w31 ⟨rfl, hb⟩
             have HS18_ := (hb.cell (World.block_lt_of_cell? _ _ (hHeld.2.2.2.2.2.2.2.2.2.2.2.2.2.2.2.2.2.2.1))).trans (hHeld.2.2.2.2.2.2.2.2.2.2.2.2.2.2.2.2.2.2.1)
             have HS19_ := (hb.cell (World.block_lt_of_cell? _ _ (hHeld.2.2.2.2.2.2.2.2.2.2.2.2.2.2.2.2.2.2.2.1))).trans (hHeld.2.2.2.2.2.2.2.2.2.2.2.2.2.2.2.2.2.2.2.1)
             have HS20_ := (hb.cell (World.block_lt_of_cell? _ _ (hHeld.2.2.2.2.2.2.2.2.2.2.2.2.2.2.2.2.2.2.2.2.1))).trans (hHeld.2.2.2.2.2.2.2.2.2.2.2.2.2.2.2.2.2.2.2.2.1)
             have HS21_ := (hb.cell (World.block_lt_of_cell? _ _ (hHeld.2.2.2.2.2.2.2.2.2.2.2.2.2.2.2.2.2.2.2.2.2))).trans (hHeld.2.2.2.2.2.2.2.2.2.2.2.2.2.2.2.2.2.2.2.2.2)
             refine ⟨_, rfl, ?_⟩
             replace HO_5 := xy (Kd.R_below (xo HO_5.out) hb)
             replace HO_7 := xy (Kd.R_below (xo HO_7.out) hb)
             replace BK441 := xd BK441.out hb
             replace HB := xy (below_step xb hb)
             (try clear hb)
             (try clear hb2)
             (try clear hk)
             (try clear hi)
             refine hK.out _ _ ⟨(kc BK441.out 0).trans rfl, (kc BK441.out 1).trans rfl, (kc BK441.out 2).trans rfl, (kc BK441.out 3).trans rfl, (kc BK441.out 4).trans rfl, (kc BK441.out 5).trans rfl, (kc BK441.out 6).trans rfl, (kc BK441.out 7).trans rfl, (kc BK441.out 8).trans rfl, (kc BK441.out 9).trans rfl, (kc BK441.out 10).trans rfl, (kc BK441.out 11).trans rfl, (kc BK441.out 12).trans rfl, (kc BK441.out 13).trans rfl, ((HB.out.cell (World.block_lt_of_cell? w _ hw452_0)).trans hw452_0), ((HB.out.cell (World.block_lt_of_cell? w _ hw452_1)).trans hw452_1), ((HB.out.cell (World.block_lt_of_cell? w _ hw452_2)).trans hw452_2), ((HB.out.cell (World.block_lt_of_cell? w _ hw452_3)).trans hw452_3), HS18_, HS19_, HS20_, HS21_⟩ (fun hHeld => ?_)
             clear hK K
             refine norm_ (a' := ?_) ?_ ?_
             rotate_left
             ·show Act.put _ (some 38) _ = _
              simp only [Act.put, List.setIfInBounds_toArray, List.set_cons_zero, List.set_cons_succ, i64_w, i32_w]
              rfl
             refine yz 15 (some 39) (bs 16 65535) HT_.out (h := ?_)
             refine done_ (done_of HT_.out (by kernel_rfl)) ?_
             have p463 : 0 ≤ (x9_2 : Int) := xi
             have q463 : x9_2 < (x5_1.length : Int) := xi
             obtain ⟨ad463, e463, hx463_0, hx463_1, hx463_2, hx463_3⟩ := at_T74 (Kd.R_reads' HO_5.out).2.2 x9_2 p463 q463
             obtain rfl : ad453 = ad463 := (by injection e463)
             replace p463 := eq_true p463
             replace q463 := eq_true q463
             try go_wp2_with (((with_reducible refine gate_builtin (b := .append) (xs := #[.tmp 47, .tmp 52]) rfl ?_); at_builtin; refine Kd.R_append k74 (w0 := w) w.heap.size rfl (.tmp 47) (.tmp 52) 34 74 (.agg #[(.string ⟨#[]⟩), (.bool false), (.int .i64 0), (.string ⟨#[]⟩)]) 48 rfl Tryz.underlying34 info74 rfl (by decide) (by omega) u7 x7_2 (⟨(rd_T74 x5_1 x9_2).f0, (⟨(rd_T74 x5_1 x9_2).f1.f0, (rd_T74 x5_1 x9_2).f1.f1, (rd_T74 x5_1 x9_2).f1.f2⟩ : S24)⟩ : S74) [.string ((rd_T74 x5_1 x9_2).f0), .bool ((rd_T74 x5_1 x9_2).f1.f0), .int .i64 ((rd_T74 x5_1 x9_2).f1.f1), .string ((rd_T74 x5_1 x9_2).f1.f2)] (fun k_ => some k_ ≠ (.slice (some ad453) x5_1.length co29 : Value).ownBlock) (fun _ => False) rfl rfl ?aP (fun _ hk => hk.elim) ?aF ?aO ?aB ?aS ?aL ?_; (case aP => exact k74_mkM _ _ _ (⟨(rd_T74 x5_1 x9_2).f0, (⟨(rd_T74 x5_1 x9_2).f1.f0, (rd_T74 x5_1 x9_2).f1.f1, (rd_T74 x5_1 x9_2).f1.f2⟩ : S24)⟩ : S74)); (case aB => exact xb); (case aF => exact (fun k_ hk => Kd.fresh' (Kd.R_lt (xo HO_5.out)) k_ hk)); (case aO => exact (xo HO_7.out)); (case aS => exact (below_size xb)); (case aL => have := LMc28.out; omega); intro v465 w32 ho hb hg hat; rw [← Ny464.out] at ho; replace HO_5 := xy (Kd.R_after (ok := (fun _ => True)) (by (with_reducible repeat (first | apply Kd.R_alloc | apply Kd.R_drewN | apply Kd.R_drew)); exact Kd.R_mono HO_5.out (fun _ hk => ⟨trivial, hk⟩)) hg hat); replace BK441 := xy (blk_grown (g := gb441) (o := .cells #[.bool a0_0, .slice A0_1 l0_1.length c0_1, .slice A0_2 l0_2.length c0_2, .slice A0_3 l0_3.length c0_3, .int .i64 a0_4, .slice A0_5 l0_5.length c0_5, .bool a0_6, .int .i64 a0_7, .string a0_8, .bool a0_9, .int .i64 a0_10, .bool a0_11, .bool a0_12, .int .i64 a0_13] 45 (0, 0)) (xk BK441.out) hg (Kd.R_ne HO_7.out BK441.out (by decide))); replace HB := xy (hb); have HO466 := xy (ho); clear HO_7; clear ho hb hg hat))
             go_roundg k2
             case measure => have := HK1.out; have := HK2.out; omega
             case rel => exact ⟨(y464), (false), (wrap64 (x9_2 + 1)), xg, xg, H', ⟨by have := HK1.out; have := HK2.out; omega⟩, ⟨by (with_reducible repeat (first | apply Kd.R_alloc | apply Kd.R_drewN | apply Kd.R_drew)); exact Kd.R_mono HO_5.out (fun _ hk => hk.2)⟩, ⟨by (with_reducible repeat (first | apply Kd.R_alloc | apply Kd.R_drewN | apply Kd.R_drew)); exact HO466.out⟩, ⟨by (with_reducible repeat (first | refine blk_drewN ?_ _ | refine blk_drew ?_ | refine blk_alloc ?_ _)); exact BK441.out⟩, ⟨xb⟩⟩
            ·rw [if_neg c28] at H
             exact absurd H (by simp)
          ·rw [if_neg c18] at H
           exact absurd H (by simp)
         ·rw [if_neg c17] at H
          exact absurd H (by simp)
        ·rw [if_neg c16] at H
         exact absurd H (by simp)
      ·rw [if_neg c9] at H
       have c9b0 : decide (x9_2 < (x5_1.length : Int)) = false := decide_eq_false c9
       clear c9
       by_cases c33 : x8_2 = true
       ·subst c33
        rw [if_pos rfl] at H
        have H' := xy H
        clear H
        obtain ⟨Ao34, co34, eo34⟩ := Kd.R_slice HO_5.out
        subst eo34
        go_wp2
        go_roundg k2
        case measure => have := HK1.out; have := HK2.out; omega
        case rel => exact ⟨(x7_2), (wrap64 (x6_1 + 1)), xg, H', ⟨by have := HK1.out; have := HK2.out; omega⟩, ⟨by (with_reducible repeat (first | apply Kd.R_alloc | apply Kd.R_drewN | apply Kd.R_drew)); exact Kd.R_mono HO_7.out (fun _ hk => trivial)⟩, ⟨by (with_reducible repeat (first | refine blk_drewN ?_ _ | refine blk_drew ?_ | refine blk_alloc ?_ _)); exact BK441.out⟩, ⟨xb⟩⟩
       ·replace c33 := Bool.eq_false_iff.mpr c33
        subst c33
        rw [if_neg (show ¬ (false = true) by decide)] at H
        by_cases c35 : 0 ≤ x6_1
        ·rw [if_pos c35] at H
         have c35b0 : decide (0 ≤ x6_1) = true := decide_eq_true c35
         clear c35
         by_cases c36 : x6_1 < (l1.length : Int)
         ·rw [if_pos c36] at H
          have c36b0 : decide (x6_1 < (l1.length : Int)) = true := decide_eq_true c36
          clear c36
          by_cases c37 : x7_2.length < 2932031007402
          ·rw [if_pos c37] at H
           have LMc37 := xy c37
           clear c37
           obtain ⟨y468, hy468⟩ : ∃ y_ : List (S74), y_ = (x7_2 ++ [(⟨(rd_T74 l1 x6_1).f0, (⟨(rd_T74 l1 x6_1).f1.f0, (rd_T74 l1 x6_1).f1.f1, (rd_T74 l1 x6_1).f1.f2⟩ : S24)⟩ : S74)]) := ⟨_, rfl⟩
           replace H : (r19_Sort.l0 k2 l1 y468 (wrap64 (x6_1 + 1)) a0_0 l0_1 l0_2 l0_3 a0_4 l0_5 a0_6 a0_7 a0_8 a0_9 a0_10 a0_11 a0_12 a0_13) = some r := by first | (rw [hy468]; with_reducible exact H) | (have H2_ := (Option.bind_some _ _).symm.trans H; rw [hy468]; with_reducible exact H2_) | (have H2_ := (Option.bind_some _ _).symm.trans H; with_reducible exact H2_) | with_reducible exact H | (rw [hy468]; exact H) | exact H
           have Ny468 := xy hy468
           clear hy468
           have H' := xy H
           clear H
           obtain ⟨Ao38, co38, eo38⟩ := Kd.R_slice HO_5.out
           subst eo38
           have p467 : 0 ≤ (x6_1 : Int) := xi
           have q467 : x6_1 < (l1.length : Int) := xi
           obtain ⟨ad467, e467, hx467_0, hx467_1, hx467_2, hx467_3⟩ := at_T74 HR1.out x6_1 p467 q467
           cases e467
           replace hx467_0 := (HB.out.cell (World.block_lt_of_cell? w _ hx467_0)).trans hx467_0
           replace hx467_1 := (HB.out.cell (World.block_lt_of_cell? w _ hx467_1)).trans hx467_1
           replace hx467_2 := (HB.out.cell (World.block_lt_of_cell? w _ hx467_2)).trans hx467_2
           replace hx467_3 := (HB.out.cell (World.block_lt_of_cell? w _ hx467_3)).trans hx467_3
           replace p467 := eq_true p467
           replace q467 := eq_true q467
           go_wp2_with (((with_reducible refine gate_builtin (b := .append) (xs := #[.tmp 56, .tmp 61]) rfl ?_); at_builtin; refine Kd.R_append k74 (w0 := w) w.heap.size rfl (.tmp 56) (.tmp 61) 34 74 (.agg #[(.string ⟨#[]⟩), (.bool false), (.int .i64 0), (.string ⟨#[]⟩)]) 48 rfl Tryz.underlying34 info74 rfl (by decide) (by omega) u7 x7_2 (⟨(rd_T74 l1 x6_1).f0, (⟨(rd_T74 l1 x6_1).f1.f0, (rd_T74 l1 x6_1).f1.f1, (rd_T74 l1 x6_1).f1.f2⟩ : S24)⟩ : S74) [.string ((rd_T74 l1 x6_1).f0), .bool ((rd_T74 l1 x6_1).f1.f0), .int .i64 ((rd_T74 l1 x6_1).f1.f1), .string ((rd_T74 l1 x6_1).f1.f2)] (fun k_ => some k_ ≠ (.slice Ao38 x5_1.length co38 : Value).ownBlock) (fun _ => False) rfl rfl ?aP (fun _ hk => hk.elim) ?aF ?aO ?aB ?aS ?aL ?_; (case aP => exact k74_mkM _ _ _ (⟨(rd_T74 l1 x6_1).f0, (⟨(rd_T74 l1 x6_1).f1.f0, (rd_T74 l1 x6_1).f1.f1, (rd_T74 l1 x6_1).f1.f2⟩ : S24)⟩ : S74)); (case aB => exact xb); (case aF => exact (fun k_ hk => Kd.fresh' (Kd.R_lt (xo HO_5.out)) k_ hk)); (case aO => exact (xo HO_7.out)); (case aS => exact (below_size xb)); (case aL => have := LMc37.out; omega); intro v469 w39 ho hb hg hat; rw [← Ny468.out] at ho; replace HO_5 := xy (Kd.R_after (ok := (fun _ => True)) (by (with_reducible repeat (first | apply Kd.R_alloc | apply Kd.R_drewN | apply Kd.R_drew)); exact Kd.R_mono HO_5.out (fun _ hk => ⟨trivial, hk⟩)) hg hat); replace BK441 := xy (blk_grown (g := gb441) (o := .cells #[.bool a0_0, .slice A0_1 l0_1.length c0_1, .slice A0_2 l0_2.length c0_2, .slice A0_3 l0_3.length c0_3, .int .i64 a0_4, .slice A0_5 l0_5.length c0_5, .bool a0_6, .int .i64 a0_7, .string a0_8, .bool a0_9, .int .i64 a0_10, .bool a0_11, .bool a0_12, .int .i64 a0_13] 45 (0, 0)) (xk BK441.out) hg (Kd.R_ne HO_7.out BK441.out (by decide))); replace HB := xy (hb); have HO470 := xy (ho); clear HO_7; clear ho hb hg hat))
           go_roundg k2
           case measure => have := HK1.out; have := HK2.out; omega
           case rel => exact ⟨(y468), (wrap64 (x6_1 + 1)), xg, H', ⟨by have := HK1.out; have := HK2.out; omega⟩, ⟨by (with_reducible repeat (first | apply Kd.R_alloc | apply Kd.R_drewN | apply Kd.R_drew)); exact Kd.R_mono HO470.out (fun _ hk => trivial)⟩, ⟨by (with_reducible repeat (first | refine blk_drewN ?_ _ | refine blk_drew ?_ | refine blk_alloc ?_ _)); exact BK441.out⟩, ⟨xb⟩⟩
          ·rw [if_neg c37] at H
           exact absurd H (by simp)
         ·rw [if_neg c36] at H
          exact absurd H (by simp)
        ·rw [if_neg c35] at H
         exact absurd H (by simp)
   ·rw [if_neg c6] at H
    have c6b0 : decide (x6_1 < (l1.length : Int)) = false := decide_eq_false c6
    clear c6
    obtain rfl := Option.some.inj H
    go_wp2
    go_ret
    exact ⟨_, by first | rfl | (simp [errW_none, errW_some] <;> rfl) | (simp [*, errW_none, errW_some] <;> rfl), by (with_reducible repeat (first | apply Kd.R_alloc | apply Kd.R_drewN | apply Kd.R_drew)); exact HO_5.out, xb⟩
/- Walked functions, by this session's program over the kit's print. -/
def r19_Weight.l0 : Nat → List (S74) → Int → Int → Option (Int)
 | 0, _, _, _ => none
 | k + 1, x0, x3, x4 => if x4 < (x0.length : Int) then (if 0 ≤ x4 then (r19_Weight.l0 k x0 (wrap64 ((wrap64 ((wrap64 (x3 + (((rd_T74 x0 x4).f0).size : Int))) + (((rd_T74 x0 x4).f1.f2).size : Int))) + 16)) (wrap64 (x4 + 1))) else (none)) else (some x3)
def r19_Weight.f (k : Nat) (l0 : List (S74)) : Option (Int) := r19_Weight.l0 k l0 0 0
theorem r19_Weight.mono_l : ∀ k, (∀ y0 y1 y2, LeO (r19_Weight.l0 k y0 y1 y2) (r19_Weight.l0 (k + 1) y0 y1 y2))
 | 0 => fun _ _ _ r h => by simp [r19_Weight.l0] at h
 | k + 1 => by
  have ih0 := r19_Weight.mono_l k
  ·intro y0 y1 y2
   unfold r19_Weight.l0
   repeat' (with_reducible first | exact ih0 _ _ _ | exact LeO.refl _ | exact LeO.none _ | refine LeO.ite ?_ ?_ | refine LeO.bind ?_ (fun _ => ?_))
theorem r19_Weight.mono : ∀ a0 k, LeO (r19_Weight.f k a0) (r19_Weight.f (k + 1) a0) := by
 intro a0 k
 have ih0 := r19_Weight.mono_l k
 unfold r19_Weight.f
 repeat' (with_reducible first | exact ih0 _ _ _ | exact LeO.refl _ | exact LeO.none _ | refine LeO.ite ?_ ?_ | refine LeO.bind ?_ (fun _ => ?_))
set_option maxHeartbeats 8000000 in
set_option maxRecDepth 100000 in
theorem r19_Weight.calls (k : Nat) (A0 : Option Addr) (c0 : Nat) (l0 : List (S74)) (r : Int) (w : World) (hT : Tabs w) (hr0 : Kd.C k74 w A0 l0.length l0) (hc0 : l0.length ≤ c0) (h : r19_Weight.f k l0 = some r) :
  Calls Tryz.prog 20 #[.slice A0 l0.length c0] w fun e w' => e = .returned (.int .i64 r) ∧ Drawn0 w w' := by
 have HR0 := xy hr0
 have HC0 := xy hc0
 clear hr0 hc0
 unfold r19_Weight.f at h
 have H := h
 clear h
 have H' := xy H
 clear H
 go_enter Tryz.func20, Tryz.ntmps20
 go_wp2
 repeat (go_quiet (fail); try go_wp2)
 go_loopg [3, 4] k (fun kq v3 v4 w' => ∃ (x3_1 : Int) (x4_1 : Int), v3 = .int .i64 x3_1 ∧ v4 = .int .i64 x4_1 ∧ Aside0 (r19_Weight.l0 kq l0 x3_1 x4_1 = some r) ∧ Aside0 (kq ≤ k) ∧ Drawn0 w w')
 case atStart => exact ⟨(0), (0), xg, xg, H', ⟨Nat.le_refl _⟩, by repeat (first | exact Drawn0.refl _ | apply Drawn0.step)⟩
 case round =>
  clear H'
  obtain ⟨x3_1, x4_1, rfl, rfl, HA, HK1, ⟨m1, rfl⟩⟩ := hrel
  cases gk with
  | zero => exact absurd HA.out (by simp [r19_Weight.l0])
  | succ k1 =>
   have H := HA.out
   clear HA
   simp only [r19_Weight.l0] at H
   by_cases c2 : x4_1 < (l0.length : Int)
   ·rw [if_pos c2] at H
    have c2b0 : decide (x4_1 < (l0.length : Int)) = true := decide_eq_true c2
    clear c2
    by_cases c3 : 0 ≤ x4_1
    ·rw [if_pos c3] at H
     have c3b0 : decide (0 ≤ x4_1) = true := decide_eq_true c3
     clear c3
     have H' := xy H
     clear H
     have p471 : 0 ≤ (x4_1 : Int) := xi
     have q471 : x4_1 < (l0.length : Int) := xi
     obtain ⟨ad471, e471, hx471_0, hx471_1, hx471_2, hx471_3⟩ := at_T74 HR0.out x4_1 p471 q471
     cases e471
     replace p471 := eq_true p471
     replace q471 := eq_true q471
     have p472 : 0 ≤ (x4_1 : Int) := xi
     have q472 : x4_1 < (l0.length : Int) := xi
     obtain ⟨ad472, e472, hx472_0, hx472_1, hx472_2, hx472_3⟩ := at_T74 HR0.out x4_1 p472 q472
     obtain rfl : ad471 = ad472 := (by injection e472)
     replace p472 := eq_true p472
     replace q472 := eq_true q472
     go_wp2
     repeat (go_quiet (fail); try go_wp2)
     go_roundg k1
     case measure => have := HK1.out; omega
     case rel => exact ⟨(wrap64 ((wrap64 ((wrap64 (x3_1 + (((rd_T74 l0 x4_1).f0).size : Int))) + (((rd_T74 l0 x4_1).f1.f2).size : Int))) + 16)), (wrap64 (x4_1 + 1)), xg, xg, H', ⟨by have := HK1.out; omega⟩, by repeat (first | exact Drawn0.refl _ | apply Drawn0.step)⟩
    ·rw [if_neg c3] at H
     exact absurd H (by simp)
   ·rw [if_neg c2] at H
    have c2b0 : decide (x4_1 < (l0.length : Int)) = false := decide_eq_false c2
    clear c2
    obtain rfl := Option.some.inj H
    go_wp2
    repeat (go_quiet (fail); try go_wp2)
    go_ret
    exact ⟨xg, xz⟩
end Go.Proofs.YtebofnoljebakaaGreatDoor.PX
