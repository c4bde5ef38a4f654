/- Walked functions, by this session's program over the kit's print. -/
import Derived.Test.YtebofnoljebakaaGreatDoorPXx0
import Derived.Test.YtebofnoljebakaaGreatDoorPXx12
import Derived.Test.YtebofnoljebakaaGreatDoorPXx17
namespace Go.Proofs.YtebofnoljebakaaGreatDoor.PX
open Go.RowKit Go.Proofs.YtebofnoljebakaaGreatDoorW.PrintWords Go.Proofs.YtebofnoljebakaaGreatDoorW.PrintLast Go.Proofs.YtebofnoljebakaaGreatDoorW.PrintMore
attribute [local go_sem] xm_gtr max2_int min2_int max_two min_two max_three min_three max_four min_four
set_option linter.unusedVariables false
set_option linter.unusedSimpArgs false
/- Walked functions, by this session's program over the kit's print. -/
def r17_written.f (k : Nat) (a0 : ByteArray) : Option (Int) := (r13_Text.f a0).bind fun bt423 => ((r13_Do.f k 18 (([(⟨bt423.1, bt423.2.1, bt423.2.2⟩ : S24)] : List (S24)))).bind fun bt429 => (some bt429.2.1))
theorem r17_written.mono : ∀ a0 k, LeO (r17_written.f k a0) (r17_written.f (k + 1) a0) := by
 intro a0 k
 unfold r17_written.f
 repeat' (with_reducible first | exact r13_Do.mono _ _ _ | exact LeO.refl _ | exact LeO.none _ | refine LeO.ite ?_ ?_ | refine LeO.bind ?_ (fun _ => ?_))
set_option maxHeartbeats 8000000 in
set_option maxRecDepth 100000 in
theorem r17_written.calls (k : Nat) (a0 : ByteArray) (r : Int) (w : World) (hT : Tabs w) (h : r17_written.f k a0 = some r) :
  Calls Tryz.prog 40 #[.string a0] w fun e w' => e = .returned (.int .i64 r) ∧ Below w.heap.size w w' := by
 have hu24 := Tryz.underlying24
 have HB := xy (Below.refl w.heap.size w)
 unfold r17_written.f at h
 have H := h
 clear h
 replace H := xj H
 obtain ⟨⟨t423, t424, t425⟩, A20, H⟩ := H
 try dsimp only at H
 have A2 := xy A20
 clear A20
 obtain ⟨y426, hy426⟩ : ∃ y_ : List (S24), y_ = (([(⟨t423, t424, t425⟩ : S24)] : List (S24))) := ⟨_, rfl⟩
 replace H : ((r13_Do.f k 18 y426).bind fun bt429 => (some bt429.2.1)) = some r := by first | (rw [hy426]; with_reducible exact H) | (have H2_ := (Option.bind_some _ _).symm.trans H; rw [hy426]; with_reducible exact H2_) | (have H2_ := (Option.bind_some _ _).symm.trans H; with_reducible exact H2_) | with_reducible exact H | (rw [hy426]; exact H) | exact H
 have Ny426 := xy hy426
 clear hy426
 replace H := xj H
 obtain ⟨⟨t429, t430, t431, t432⟩, A30, H⟩ := H
 try dsimp only at H
 have A3 := xy A30
 clear A30
 obtain rfl := Option.some.inj H
 go_enter Tryz.func40, Tryz.ntmps40
 go_wp2_with (first | ((with_reducible refine gate_callee (f := 48) rfl ?_); refine goesL_ (some 7) rfl rfl Tryz.func48 (by kernel_rfl) rfl #[.string a0] rfl xr ?_; (with_reducible refine (r13_Text.calls a0 t423 t424 t425 _ (Tabs.below hT xf) A2.out).mono ?_); rintro e w4 ⟨rfl, hb⟩; refine ⟨_, rfl, ?_⟩; replace HB := xy (below_step xb hb); (try clear hb); (try clear hb2); (try clear hk); (try clear hi)) | ((with_reducible refine gate_dst (N := 8) rfl ?_); refine Kd.R_lit k24 _ 24 ?hg (N := 8) ?hd (xs := ([(⟨t423, t424, t425⟩ : S24)] : List (S24))) (inner := [.bool t423, .int .i64 t424, .string t425]) (ok := fun _ => True) (okp := fun _ => True) ?hr ?hp (fun _ hk => hk) trivial (Below.refl _ _) (Nat.le_refl _) (by simp) ?_; (case hd => rfl); (case hg => rfl); (case hr => exact xh); (case hp => exact (Reps.c3 (show Kd.M k24 _ _ _ (⟨t423, t424, t425⟩ : S24) [.bool t423, .int .i64 t424, .string t425] from (k24_mkM _ _ _ (⟨t423, t424, t425⟩ : S24) )) (Reps.none _ _))); intro v427 w5 ho6 hb hg_ hnew_; clear hg_ hnew_; (first | rw [← Ny426.out] at ho6 | (simp only [Int.reduceToNat] at ho6; rw [← Ny426.out] at ho6)); have HO428 := xy (Kd.R_lower ho6 (below_size xb)); replace HB := xy (below_step xb hb); clear hb ho6; obtain ⟨Ao7, co7, eo7⟩ := Kd.R_slice HO428.out; subst eo7) | ((with_reducible refine gate_callee (f := 47) rfl ?_); refine goesL_ (some 9) rfl rfl Tryz.func47 (by kernel_rfl) rfl #[.int .i64 18, .slice Ao7 y426.length co7] rfl xr ?_; (with_reducible refine (r13_Do.calls k 18 _ _ y426 t429 t430 t431 t432 _ (Tabs.below hT xf) ?side1 ?side2 A3.out).mono ?_); (case side1 => repeat (first | exact (Kd.R_reads' HO428.out).2.2 | (with_reducible refine Kd.C_alloc ?_ _) | (with_reducible refine Kd.C_drewN ?_ _) | (with_reducible refine Kd.C_drew ?_))); (case side2 => exact (Kd.R_reads' HO428.out).2.1); rintro e w8 ⟨rfl, hb⟩; refine ⟨_, rfl, ?_⟩; replace HO428 := xy (Kd.R_below (xo HO428.out) hb); replace HB := xy (below_step xb hb); (try clear hb); (try clear hb2); (try clear hk); (try clear hi)) | ((with_reducible refine gate_dst (N := 3) rfl ?_); refine xq (N := 3) (cs := #[.bool false, .int .i64 0, .string (⟨#[]⟩ : ByteArray)]) (t := 24) ?_; intro gb433 hg w9 hbox hb; replace HO428 := xy (Kd.R_below (Kd.R_elderB (xo HO428.out) gb433 (Nat.le_of_eq hg.symm)) hb); have BK433 := xy (hbox); have GW433 := xs w hg; have GE433 := xs w hg; replace HB := xy (below_step xb hb); clear hb hbox hg; have hcz10_0 : w9.cell? ⟨gb433, 0, none⟩ = some (.bool false) := (kc BK433.out 0).trans rfl; have hcz10_1 : w9.cell? ⟨gb433, 1, none⟩ = some (.int .i64 0) := (kc BK433.out 1).trans rfl; have hcz10_2 : w9.cell? ⟨gb433, 2, none⟩ = some (.string (⟨#[]⟩ : ByteArray)) := (kc BK433.out 2).trans rfl; have hfz10_0 := kf BK433.out 0; have hfz10_1 := kf BK433.out 1; have hfz10_2 := kf BK433.out 2))
 go_ret
 exact ⟨xe, xb⟩
def r17_Ahead.j0 : Nat → ByteArray → ByteArray → Bool → Bool → Bool → List (S81) → List (S81) → List (S81) → Int → List (S81) → Bool → Int → ByteArray → Bool → Int → Bool → Bool → Int → Option (Bool)
 | 0, _, _, _, _, _, _, _, _, _, _, _, _, _, _, _, _, _, _ => none
 | k + 1, x1, x2, x7, x22, x435000, x435001, x435002, x435003, x435004, x435005, x435006, x435007, x435008, x435009, x435010, x435011, x435012, x435013 => if x22 = true then ((r17_written.f k x1).bind fun t437 => ((r17_written.f k x2).bind fun t438 => (some ((decide (t437 < t438)) != x435011)))) else (some (x7 != x435011))
def r17_Ahead.f (k : Nat) (a0_0 : Bool) (l0_1 : List (S81)) (l0_2 : List (S81)) (l0_3 : List (S81)) (a0_4 : Int) (l0_5 : List (S81)) (a0_6 : Bool) (a0_7 : Int) (a0_8 : ByteArray) (a0_9 : Bool) (a0_10 : Int) (a0_11 : Bool) (a0_12 : Bool) (a0_13 : Int) (a1 : ByteArray) (a2 : ByteArray) : Option (Bool) := if a1.toList = a2.toList then (some false) else (if a0_12 = true then ((r17_written.f k a1).bind fun t435 => ((r17_written.f k a2).bind fun t436 => (r17_Ahead.j0 k a1 a2 (Op.bytesLess a1.toList a2.toList) (t435 != t436) a0_0 l0_1 l0_2 l0_3 a0_4 l0_5 a0_6 a0_7 a0_8 a0_9 a0_10 a0_11 a0_12 a0_13))) else (r17_Ahead.j0 k a1 a2 (Op.bytesLess a1.toList a2.toList) false a0_0 l0_1 l0_2 l0_3 a0_4 l0_5 a0_6 a0_7 a0_8 a0_9 a0_10 a0_11 a0_12 a0_13))
theorem r17_Ahead.mono_l : ∀ k, (∀ y0 y1 y2 y3 y4 y5 y6 y7 y8 y9 y10 y11 y12 y13 y14 y15 y16 y17, LeO (r17_Ahead.j0 k y0 y1 y2 y3 y4 y5 y6 y7 y8 y9 y10 y11 y12 y13 y14 y15 y16 y17) (r17_Ahead.j0 (k + 1) y0 y1 y2 y3 y4 y5 y6 y7 y8 y9 y10 y11 y12 y13 y14 y15 y16 y17))
 | 0 => fun _ _ _ _ _ _ _ _ _ _ _ _ _ _ _ _ _ _ r h => by simp [r17_Ahead.j0] at h
 | k + 1 => by
  have ih0 := r17_Ahead.mono_l k
  ·intro y0 y1 y2 y3 y4 y5 y6 y7 y8 y9 y10 y11 y12 y13 y14 y15 y16 y17
   unfold r17_Ahead.j0
   repeat' (with_reducible first | exact ih0 _ _ _ _ _ _ _ _ _ _ _ _ _ _ _ _ _ _ | exact r17_written.mono _ _ | exact LeO.refl _ | exact LeO.none _ | refine LeO.ite ?_ ?_ | refine LeO.bind ?_ (fun _ => ?_))
theorem r17_Ahead.mono : ∀ a0 a1 a2 a3 a4 a5 a6 a7 a8 a9 a10 a11 a12 a13 a14 a15 k, LeO (r17_Ahead.f k a0 a1 a2 a3 a4 a5 a6 a7 a8 a9 a10 a11 a12 a13 a14 a15) (r17_Ahead.f (k + 1) a0 a1 a2 a3 a4 a5 a6 a7 a8 a9 a10 a11 a12 a13 a14 a15) := by
 intro a0 a1 a2 a3 a4 a5 a6 a7 a8 a9 a10 a11 a12 a13 a14 a15 k
 have ih0 := r17_Ahead.mono_l k
 unfold r17_Ahead.f
 repeat' (with_reducible first | exact ih0 _ _ _ _ _ _ _ _ _ _ _ _ _ _ _ _ _ _ | exact r17_written.mono _ _ | exact LeO.refl _ | exact LeO.none _ | refine LeO.ite ?_ ?_ | refine LeO.bind ?_ (fun _ => ?_))
set_option maxHeartbeats 8000000 in
set_option maxRecDepth 100000 in
theorem r17_Ahead.calls (k : Nat) (a0_0 : Bool) (A0_1 : Option Addr) (c0_1 : Nat) (l0_1 : List (S81)) (A0_2 : Option Addr) (c0_2 : Nat) (l0_2 : List (S81)) (A0_3 : Option Addr) (c0_3 : Nat) (l0_3 : List (S81)) (a0_4 : Int) (A0_5 : Option Addr) (c0_5 : Nat) (l0_5 : List (S81)) (a0_6 : Bool) (a0_7 : Int) (a0_8 : ByteArray) (a0_9 : Bool) (a0_10 : Int) (a0_11 : Bool) (a0_12 : Bool) (a0_13 : Int) (a1 : ByteArray) (a2 : ByteArray) (r : Bool) (w : World) (hT : Tabs w) (hr0_1 : Kd.C k81 w A0_1 l0_1.length l0_1) (hc0_1 : l0_1.length ≤ c0_1) (hr0_2 : Kd.C k81 w A0_2 l0_2.length l0_2) (hc0_2 : l0_2.length ≤ c0_2) (hr0_3 : Kd.C k81 w A0_3 l0_3.length l0_3) (hc0_3 : l0_3.length ≤ c0_3) (hr0_5 : Kd.C k81 w A0_5 l0_5.length l0_5) (hc0_5 : l0_5.length ≤ c0_5) (h : r17_Ahead.f k a0_0 l0_1 l0_2 l0_3 a0_4 l0_5 a0_6 a0_7 a0_8 a0_9 a0_10 a0_11 a0_12 a0_13 a1 a2 = some r) :
  Calls Tryz.prog 34 #[.agg #[.bool a0_0, .slice A0_1 l0_1.length c0_1, .slice A0_2 l0_2.length c0_2, .slice A0_3 l0_3.length c0_3, .int .i64 a0_4, .slice A0_5 l0_5.length c0_5, .bool a0_6, .int .i64 a0_7, .string a0_8, .bool a0_9, .int .i64 a0_10, .bool a0_11, .bool a0_12, .int .i64 a0_13], .string a1, .string a2] w fun e w' => e = .returned (.bool r) ∧ Below w.heap.size w w' := by
 have hu45 := Tryz.underlying45
 have HR0_1 := xy hr0_1
 have HC0_1 := xy hc0_1
 clear hr0_1 hc0_1
 have HR0_2 := xy hr0_2
 have HC0_2 := xy hc0_2
 clear hr0_2 hc0_2
 have HR0_3 := xy hr0_3
 have HC0_3 := xy hc0_3
 clear hr0_3 hc0_3
 have HR0_5 := xy hr0_5
 have HC0_5 := xy hc0_5
 clear hr0_5 hc0_5
 have HB := xy (Below.refl w.heap.size w)
 unfold r17_Ahead.f at h
 have H := h
 clear h
 by_cases c4 : a1.toList = a2.toList
 ·rw [if_pos c4] at H
  have c4b0 : (a1.toList == a2.toList) = true := beq_iff_eq.mpr c4
  have c4b1 : (a1.toList != a2.toList) = false := bne_eq_false_iff_eq.mpr c4
  clear c4
  obtain rfl := Option.some.inj H
  go_enter Tryz.func34, Tryz.ntmps34
  go_wp2_with (first | ((with_reducible refine gate_dst (N := 3) rfl ?_); refine xq (N := 3) (cs := #[.bool a0_0, .slice A0_1 l0_1.length c0_1, .slice A0_2 l0_2.length c0_2, .slice A0_3 l0_3.length c0_3, .int .i64 a0_4, .slice A0_5 l0_5.length c0_5, .bool a0_6, .int .i64 a0_7, .string a0_8, .bool a0_9, .int .i64 a0_10, .bool a0_11, .bool a0_12, .int .i64 a0_13]) (t := 45) ?_; intro gb434 hg w5 hbox hb; have BK434 := xy (hbox); have GW434 := xs w hg; have GE434 := xs w hg; replace HB := xy (below_step xb hb); clear hb hbox hg))
  go_ret
  exact ⟨xe, xb⟩
 ·rw [if_neg c4] at H
  have c4b0 : (a1.toList == a2.toList) = false := beq_eq_false_iff_ne.mpr c4
  have c4b1 : (a1.toList != a2.toList) = true := bne_iff_ne.mpr c4
  have HC6 := xy H
  clear H
  go_enter Tryz.func34, Tryz.ntmps34
  go_upto_region 4 with (first | ((with_reducible refine gate_dst (N := 3) rfl ?_); refine xq (N := 3) (cs := #[.bool a0_0, .slice A0_1 l0_1.length c0_1, .slice A0_2 l0_2.length c0_2, .slice A0_3 l0_3.length c0_3, .int .i64 a0_4, .slice A0_5 l0_5.length c0_5, .bool a0_6, .int .i64 a0_7, .string a0_8, .bool a0_9, .int .i64 a0_10, .bool a0_11, .bool a0_12, .int .i64 a0_13]) (t := 45) ?_; intro gb434 hg w7 hbox hb; have BK434 := xy (hbox); have GW434 := xs w hg; have GE434 := xs w hg; replace HB := xy (below_step xb hb); clear hb hbox hg))
  (try simp only [Act.put, List.setIfInBounds_toArray, List.set_cons_zero, List.set_cons_succ])
  go_cut [22] (fun v22 wc => ∃ (kq : Nat) (x22_5 : Bool), v22 = .bool x22_5 ∧ Aside0 (r17_Ahead.j0 kq a1 a2 (Op.bytesLess a1.toList a2.toList) x22_5 a0_0 l0_1 l0_2 l0_3 a0_4 l0_5 a0_6 a0_7 a0_8 a0_9 a0_10 a0_11 a0_12 a0_13 = some r) ∧ Aside0 (kq ≤ k) ∧ Aside0 (wc.heap[gb434]? = some (.cells #[.bool a0_0, (.slice A0_1 l0_1.length c0_1), (.slice A0_2 l0_2.length c0_2), (.slice A0_3 l0_3.length c0_3), .int .i64 a0_4, (.slice A0_5 l0_5.length c0_5), .bool a0_6, .int .i64 a0_7, .string a0_8, .bool a0_9, .int .i64 a0_10, .bool a0_11, .bool a0_12, .int .i64 a0_13] 45 (0, 0))) ∧ Aside0 (Below w.heap.size w wc))
  case first =>
   have H := HC6.out
   clear HC6
   by_cases c8 : a0_12 = true
   ·subst c8
    rw [if_pos rfl] at H
    replace H := xj H
    obtain ⟨t435, A90, H⟩ := H
    try dsimp only at H
    have A9 := xy A90
    clear A90
    replace H := xj H
    obtain ⟨t436, A100, H⟩ := H
    try dsimp only at H
    have A10 := xy A100
    clear A100
    have H' := xy H
    clear H
    have hcz11_0 : w7.cell? ⟨gb434, 0, none⟩ = some (.bool a0_0) := (kc BK434.out 0).trans rfl
    have hcz11_1 : w7.cell? ⟨gb434, 1, none⟩ = some (.slice A0_1 l0_1.length c0_1) := (kc BK434.out 1).trans rfl
    have hcz11_2 : w7.cell? ⟨gb434, 2, none⟩ = some (.slice A0_2 l0_2.length c0_2) := (kc BK434.out 2).trans rfl
    have hcz11_3 : w7.cell? ⟨gb434, 3, none⟩ = some (.slice A0_3 l0_3.length c0_3) := (kc BK434.out 3).trans rfl
    have hcz11_4 : w7.cell? ⟨gb434, 4, none⟩ = some (.int .i64 a0_4) := (kc BK434.out 4).trans rfl
    have hcz11_5 : w7.cell? ⟨gb434, 5, none⟩ = some (.slice A0_5 l0_5.length c0_5) := (kc BK434.out 5).trans rfl
    have hcz11_6 : w7.cell? ⟨gb434, 6, none⟩ = some (.bool a0_6) := (kc BK434.out 6).trans rfl
    have hcz11_7 : w7.cell? ⟨gb434, 7, none⟩ = some (.int .i64 a0_7) := (kc BK434.out 7).trans rfl
    have hcz11_8 : w7.cell? ⟨gb434, 8, none⟩ = some (.string a0_8) := (kc BK434.out 8).trans rfl
    have hcz11_9 : w7.cell? ⟨gb434, 9, none⟩ = some (.bool a0_9) := (kc BK434.out 9).trans rfl
    have hcz11_10 : w7.cell? ⟨gb434, 10, none⟩ = some (.int .i64 a0_10) := (kc BK434.out 10).trans rfl
    have hcz11_11 : w7.cell? ⟨gb434, 11, none⟩ = some (.bool a0_11) := (kc BK434.out 11).trans rfl
    have hcz11_12 : w7.cell? ⟨gb434, 12, none⟩ = some (.bool true) := (kc BK434.out 12).trans rfl
    have hcz11_13 : w7.cell? ⟨gb434, 13, none⟩ = some (.int .i64 a0_13) := (kc BK434.out 13).trans rfl
    have hfz11_0 := kf BK434.out 0
    have hfz11_1 := kf BK434.out 1
    have hfz11_2 := kf BK434.out 2
    have hfz11_3 := kf BK434.out 3
    have hfz11_4 := kf BK434.out 4
    have hfz11_5 := kf BK434.out 5
    have hfz11_6 := kf BK434.out 6
    have hfz11_7 := kf BK434.out 7
    have hfz11_8 := kf BK434.out 8
    have hfz11_9 := kf BK434.out 9
    have hfz11_10 := kf BK434.out 10
    have hfz11_11 := kf BK434.out 11
    have hfz11_12 := kf BK434.out 12
    have hfz11_13 := kf BK434.out 13
    go_wp2_with (first | (go_at_call 40; (with_reducible refine (r17_written.calls k a1 t435 _ (Tabs.below hT xf) A9.out).mono ?_); rintro e w12 ⟨rfl, hb⟩; replace BK434 := xd BK434.out hb; replace HB := xy (below_step xb hb); (try clear hb); (try clear hb2); (try clear hk); (try clear hi)) | (go_at_call 40; (with_reducible refine (r17_written.calls k a2 t436 _ (Tabs.below hT xf) A10.out).mono ?_); rintro e w13 ⟨rfl, hb⟩; replace BK434 := xd BK434.out hb; replace HB := xy (below_step xb hb); (try clear hb); (try clear hb2); (try clear hk); (try clear hi)))
    go_meet
    case rel => exact ⟨_, ((t435 != t436)), xg, H', ⟨by first | omega | exact Nat.le_refl _⟩, ⟨by (with_reducible repeat (first | refine blk_drewN ?_ _ | refine blk_drew ?_ | refine blk_alloc ?_ _)); exact BK434.out⟩, ⟨xb⟩⟩
   ·replace c8 := Bool.eq_false_iff.mpr c8
    subst c8
    rw [if_neg (show ¬ (false = true) by decide)] at H
    have H' := xy H
    clear H
    have hcz14_0 : w7.cell? ⟨gb434, 0, none⟩ = some (.bool a0_0) := (kc BK434.out 0).trans rfl
    have hcz14_1 : w7.cell? ⟨gb434, 1, none⟩ = some (.slice A0_1 l0_1.length c0_1) := (kc BK434.out 1).trans rfl
    have hcz14_2 : w7.cell? ⟨gb434, 2, none⟩ = some (.slice A0_2 l0_2.length c0_2) := (kc BK434.out 2).trans rfl
    have hcz14_3 : w7.cell? ⟨gb434, 3, none⟩ = some (.slice A0_3 l0_3.length c0_3) := (kc BK434.out 3).trans rfl
    have hcz14_4 : w7.cell? ⟨gb434, 4, none⟩ = some (.int .i64 a0_4) := (kc BK434.out 4).trans rfl
    have hcz14_5 : w7.cell? ⟨gb434, 5, none⟩ = some (.slice A0_5 l0_5.length c0_5) := (kc BK434.out 5).trans rfl
    have hcz14_6 : w7.cell? ⟨gb434, 6, none⟩ = some (.bool a0_6) := (kc BK434.out 6).trans rfl
    have hcz14_7 : w7.cell? ⟨gb434, 7, none⟩ = some (.int .i64 a0_7) := (kc BK434.out 7).trans rfl
    have hcz14_8 : w7.cell? ⟨gb434, 8, none⟩ = some (.string a0_8) := (kc BK434.out 8).trans rfl
    have hcz14_9 : w7.cell? ⟨gb434, 9, none⟩ = some (.bool a0_9) := (kc BK434.out 9).trans rfl
    have hcz14_10 : w7.cell? ⟨gb434, 10, none⟩ = some (.int .i64 a0_10) := (kc BK434.out 10).trans rfl
    have hcz14_11 : w7.cell? ⟨gb434, 11, none⟩ = some (.bool a0_11) := (kc BK434.out 11).trans rfl
    have hcz14_12 : w7.cell? ⟨gb434, 12, none⟩ = some (.bool false) := (kc BK434.out 12).trans rfl
    have hcz14_13 : w7.cell? ⟨gb434, 13, none⟩ = some (.int .i64 a0_13) := (kc BK434.out 13).trans rfl
    have hfz14_0 := kf BK434.out 0
    have hfz14_1 := kf BK434.out 1
    have hfz14_2 := kf BK434.out 2
    have hfz14_3 := kf BK434.out 3
    have hfz14_4 := kf BK434.out 4
    have hfz14_5 := kf BK434.out 5
    have hfz14_6 := kf BK434.out 6
    have hfz14_7 := kf BK434.out 7
    have hfz14_8 := kf BK434.out 8
    have hfz14_9 := kf BK434.out 9
    have hfz14_10 := kf BK434.out 10
    have hfz14_11 := kf BK434.out 11
    have hfz14_12 := kf BK434.out 12
    have hfz14_13 := kf BK434.out 13
    go_wp2
    go_meet
    case rel => exact ⟨_, (false), xg, H', ⟨by first | omega | exact Nat.le_refl _⟩, ⟨by (with_reducible repeat (first | refine blk_drewN ?_ _ | refine blk_drew ?_ | refine blk_alloc ?_ _)); exact BK434.out⟩, ⟨xb⟩⟩
  case rest =>
   clear HC6
   try clear p2
   try clear c3
   try clear c4
   try clear c4b0
   try clear c4b1
   try clear c8
   try clear hcz11_0
   try clear hcz11_1
   try clear hcz11_10
   try clear hcz11_11
   try clear hcz11_12
   try clear hcz11_13
   try clear hcz11_2
   try clear hcz11_3
   try clear hcz11_4
   try clear hcz11_5
   try clear hcz11_6
   try clear hcz11_7
   try clear hcz11_8
   try clear hcz11_9
   try clear hcz14_0
   try clear hcz14_1
   try clear hcz14_10
   try clear hcz14_11
   try clear hcz14_12
   try clear hcz14_13
   try clear hcz14_2
   try clear hcz14_3
   try clear hcz14_4
   try clear hcz14_5
   try clear hcz14_6
   try clear hcz14_7
   try clear hcz14_8
   try clear hcz14_9
   try clear hfz11_0
   try clear hfz11_1
   try clear hfz11_10
   try clear hfz11_11
   try clear hfz11_12
   try clear hfz11_13
   try clear hfz11_2
   try clear hfz11_3
   try clear hfz11_4
   try clear hfz11_5
   try clear hfz11_6
   try clear hfz11_7
   try clear hfz11_8
   try clear hfz11_9
   try clear hfz14_0
   try clear hfz14_1
   try clear hfz14_10
   try clear hfz14_11
   try clear hfz14_12
   try clear hfz14_13
   try clear hfz14_2
   try clear hfz14_3
   try clear hfz14_4
   try clear hfz14_5
   try clear hfz14_6
   try clear hfz14_7
   try clear hfz14_8
   try clear hfz14_9
   obtain ⟨kq, x22_5, rfl, HA, HJ5, BK434, HB⟩ := hcut
   cases kq with
   | zero => exact absurd HA.out (by simp [r17_Ahead.j0])
   | succ kj5 =>
    have H := HA.out
    clear HA
    simp only [r17_Ahead.j0] at H
    by_cases c15 : x22_5 = true
    ·subst c15
     rw [if_pos rfl] at H
     replace H := xj H
     obtain ⟨t437, A160, H⟩ := H
     try dsimp only at H
     have A16 := xy A160
     clear A160
     replace H := xj H
     obtain ⟨t438, A170, H⟩ := H
     try dsimp only at H
     have A17 := xy A170
     clear A170
     obtain rfl := Option.some.inj H
     go_wp2_with (first | ((with_reducible refine gate_callee (f := 40) rfl ?_); refine goesL_ (some 24) rfl rfl Tryz.func40 (by kernel_rfl) rfl #[.string a1] rfl xr ?_; (with_reducible refine (r17_written.calls kj5 a1 t437 _ (Tabs.below hT xf) A16.out).mono ?_); rintro e w18 ⟨rfl, hb⟩; refine ⟨_, rfl, ?_⟩; replace BK434 := xd BK434.out hb; replace HB := xy (below_step xb hb); (try clear hb); (try clear hb2); (try clear hk); (try clear hi)) | ((with_reducible refine gate_callee (f := 40) rfl ?_); refine goesL_ (some 26) rfl rfl Tryz.func40 (by kernel_rfl) rfl #[.string a2] rfl xr ?_; (with_reducible refine (r17_written.calls kj5 a2 t438 _ (Tabs.below hT xf) A17.out).mono ?_); rintro e w19 ⟨rfl, hb⟩; refine ⟨_, rfl, ?_⟩; replace BK434 := xd BK434.out hb; replace HB := xy (below_step xb hb); (try clear hb); (try clear hb2); (try clear hk); (try clear hi); have hcz20_0 : w19.cell? ⟨gb434, 0, none⟩ = some (.bool a0_0) := (kc BK434.out 0).trans rfl; have hcz20_1 : w19.cell? ⟨gb434, 1, none⟩ = some (.slice A0_1 l0_1.length c0_1) := (kc BK434.out 1).trans rfl; have hcz20_2 : w19.cell? ⟨gb434, 2, none⟩ = some (.slice A0_2 l0_2.length c0_2) := (kc BK434.out 2).trans rfl; have hcz20_3 : w19.cell? ⟨gb434, 3, none⟩ = some (.slice A0_3 l0_3.length c0_3) := (kc BK434.out 3).trans rfl; have hcz20_4 : w19.cell? ⟨gb434, 4, none⟩ = some (.int .i64 a0_4) := (kc BK434.out 4).trans rfl; have hcz20_5 : w19.cell? ⟨gb434, 5, none⟩ = some (.slice A0_5 l0_5.length c0_5) := (kc BK434.out 5).trans rfl; have hcz20_6 : w19.cell? ⟨gb434, 6, none⟩ = some (.bool a0_6) := (kc BK434.out 6).trans rfl; have hcz20_7 : w19.cell? ⟨gb434, 7, none⟩ = some (.int .i64 a0_7) := (kc BK434.out 7).trans rfl; have hcz20_8 : w19.cell? ⟨gb434, 8, none⟩ = some (.string a0_8) := (kc BK434.out 8).trans rfl; have hcz20_9 : w19.cell? ⟨gb434, 9, none⟩ = some (.bool a0_9) := (kc BK434.out 9).trans rfl; have hcz20_10 : w19.cell? ⟨gb434, 10, none⟩ = some (.int .i64 a0_10) := (kc BK434.out 10).trans rfl; have hcz20_11 : w19.cell? ⟨gb434, 11, none⟩ = some (.bool a0_11) := (kc BK434.out 11).trans rfl; have hcz20_12 : w19.cell? ⟨gb434, 12, none⟩ = some (.bool a0_12) := (kc BK434.out 12).trans rfl; have hcz20_13 : w19.cell? ⟨gb434, 13, none⟩ = some (.int .i64 a0_13) := (kc BK434.out 13).trans rfl; have hfz20_0 := kf BK434.out 0; have hfz20_1 := kf BK434.out 1; have hfz20_2 := kf BK434.out 2; have hfz20_3 := kf BK434.out 3; have hfz20_4 := kf BK434.out 4; have hfz20_5 := kf BK434.out 5; have hfz20_6 := kf BK434.out 6; have hfz20_7 := kf BK434.out 7; have hfz20_8 := kf BK434.out 8; have hfz20_9 := kf BK434.out 9; have hfz20_10 := kf BK434.out 10; have hfz20_11 := kf BK434.out 11; have hfz20_12 := kf BK434.out 12; have hfz20_13 := kf BK434.out 13))
     go_ret
     exact ⟨xe, xb⟩
    ·replace c15 := Bool.eq_false_iff.mpr c15
     subst c15
     rw [if_neg (show ¬ (false = true) by decide)] at H
     obtain rfl := Option.some.inj H
     have hcz21_0 : wc.cell? ⟨gb434, 0, none⟩ = some (.bool a0_0) := (kc BK434.out 0).trans rfl
     have hcz21_1 : wc.cell? ⟨gb434, 1, none⟩ = some (.slice A0_1 l0_1.length c0_1) := (kc BK434.out 1).trans rfl
     have hcz21_2 : wc.cell? ⟨gb434, 2, none⟩ = some (.slice A0_2 l0_2.length c0_2) := (kc BK434.out 2).trans rfl
     have hcz21_3 : wc.cell? ⟨gb434, 3, none⟩ = some (.slice A0_3 l0_3.length c0_3) := (kc BK434.out 3).trans rfl
     have hcz21_4 : wc.cell? ⟨gb434, 4, none⟩ = some (.int .i64 a0_4) := (kc BK434.out 4).trans rfl
     have hcz21_5 : wc.cell? ⟨gb434, 5, none⟩ = some (.slice A0_5 l0_5.length c0_5) := (kc BK434.out 5).trans rfl
     have hcz21_6 : wc.cell? ⟨gb434, 6, none⟩ = some (.bool a0_6) := (kc BK434.out 6).trans rfl
     have hcz21_7 : wc.cell? ⟨gb434, 7, none⟩ = some (.int .i64 a0_7) := (kc BK434.out 7).trans rfl
     have hcz21_8 : wc.cell? ⟨gb434, 8, none⟩ = some (.string a0_8) := (kc BK434.out 8).trans rfl
     have hcz21_9 : wc.cell? ⟨gb434, 9, none⟩ = some (.bool a0_9) := (kc BK434.out 9).trans rfl
     have hcz21_10 : wc.cell? ⟨gb434, 10, none⟩ = some (.int .i64 a0_10) := (kc BK434.out 10).trans rfl
     have hcz21_11 : wc.cell? ⟨gb434, 11, none⟩ = some (.bool a0_11) := (kc BK434.out 11).trans rfl
     have hcz21_12 : wc.cell? ⟨gb434, 12, none⟩ = some (.bool a0_12) := (kc BK434.out 12).trans rfl
     have hcz21_13 : wc.cell? ⟨gb434, 13, none⟩ = some (.int .i64 a0_13) := (kc BK434.out 13).trans rfl
     have hfz21_0 := kf BK434.out 0
     have hfz21_1 := kf BK434.out 1
     have hfz21_2 := kf BK434.out 2
     have hfz21_3 := kf BK434.out 3
     have hfz21_4 := kf BK434.out 4
     have hfz21_5 := kf BK434.out 5
     have hfz21_6 := kf BK434.out 6
     have hfz21_7 := kf BK434.out 7
     have hfz21_8 := kf BK434.out 8
     have hfz21_9 := kf BK434.out 9
     have hfz21_10 := kf BK434.out 10
     have hfz21_11 := kf BK434.out 11
     have hfz21_12 := kf BK434.out 12
     have hfz21_13 := kf BK434.out 13
     go_wp2
     go_ret
     exact ⟨xe, xb⟩
/- Walked functions, by this session's program over the kit's print. -/
mutual
def r19_Sort.l0 : Nat → List (S74) → List (S74) → Int → Bool → List (S81) → List (S81) → List (S81) → Int → List (S81) → Bool → Int → ByteArray → Bool → Int → Bool → Bool → Int → Option ((List (S74)))
 | 0, _, _, _, _, _, _, _, _, _, _, _, _, _, _, _, _, _ => none
 | k + 1, x1, x5, x6, x440000, x440001, x440002, x440003, x440004, x440005, x440006, x440007, x440008, x440009, x440010, x440011, x440012, x440013 => if x6 < (x1.length : Int) then (r19_Sort.l1 k x1 x5 x6 (([] : List (S74))) false 0 x440000 x440001 x440002 x440003 x440004 x440005 x440006 x440007 x440008 x440009 x440010 x440011 x440012 x440013) else (some x5)
def r19_Sort.l1 : Nat → List (S74) → List (S74) → Int → List (S74) → Bool → Int → Bool → List (S81) → List (S81) → List (S81) → Int → List (S81) → Bool → Int → ByteArray → Bool → Int → Bool → Bool → Int → Option ((List (S74)))
 | 0, _, _, _, _, _, _, _, _, _, _, _, _, _, _, _, _, _, _, _, _ => none
 | k + 1, x1, x5, x6, x7, x8, x9, x440000, x440001, x440002, x440003, x440004, x440005, x440006, x440007, x440008, x440009, x440010, x440011, x440012, x440013 => if x9 < (x5.length : Int) then (if x8 = true then (if 0 ≤ x9 then (if x7.length < 2932031007402 then (r19_Sort.l1 k x1 x5 x6 (x7 ++ [(⟨(rd_T74 x5 x9).f0, (⟨(rd_T74 x5 x9).f1.f0, (rd_T74 x5 x9).f1.f1, (rd_T74 x5 x9).f1.f2⟩ : S24)⟩ : S74)]) x8 (wrap64 (x9 + 1)) x440000 x440001 x440002 x440003 x440004 x440005 x440006 x440007 x440008 x440009 x440010 x440011 x440012 x440013) else (none)) else (none)) else (if 0 ≤ x6 then (if x6 < (x1.length : Int) then (if 0 ≤ x9 then ((r17_Ahead.f k x440000 x440001 x440002 x440003 x440004 x440005 x440006 x440007 x440008 x440009 x440010 x440011 x440012 x440013 ((rd_T74 x1 x6).f0) ((rd_T74 x5 x9).f0)).bind fun t452 => (if t452 = true then (if x7.length < 2932031007402 then ((some (x7 ++ [(⟨(rd_T74 x1 x6).f0, (⟨(rd_T74 x1 x6).f1.f0, (rd_T74 x1 x6).f1.f1, (rd_T74 x1 x6).f1.f2⟩ : S24)⟩ : S74)] : List (S74))).bind fun y454 => (if y454.length < 2932031007402 then (r19_Sort.l1 k x1 x5 x6 (y454 ++ [(⟨(rd_T74 x5 x9).f0, (⟨(rd_T74 x5 x9).f1.f0, (rd_T74 x5 x9).f1.f1, (rd_T74 x5 x9).f1.f2⟩ : S24)⟩ : S74)]) true (wrap64 (x9 + 1)) x440000 x440001 x440002 x440003 x440004 x440005 x440006 x440007 x440008 x440009 x440010 x440011 x440012 x440013) else (none))) else (none)) else (if x7.length < 2932031007402 then (r19_Sort.l1 k x1 x5 x6 (x7 ++ [(⟨(rd_T74 x5 x9).f0, (⟨(rd_T74 x5 x9).f1.f0, (rd_T74 x5 x9).f1.f1, (rd_T74 x5 x9).f1.f2⟩ : S24)⟩ : S74)]) x8 (wrap64 (x9 + 1)) x440000 x440001 x440002 x440003 x440004 x440005 x440006 x440007 x440008 x440009 x440010 x440011 x440012 x440013) else (none)))) else (none)) else (none)) else (none))) else (if x8 = true then (r19_Sort.l0 k x1 x7 (wrap64 (x6 + 1)) x440000 x440001 x440002 x440003 x440004 x440005 x440006 x440007 x440008 x440009 x440010 x440011 x440012 x440013) else (if 0 ≤ x6 then (if x6 < (x1.length : Int) then (if x7.length < 2932031007402 then (r19_Sort.l0 k x1 (x7 ++ [(⟨(rd_T74 x1 x6).f0, (⟨(rd_T74 x1 x6).f1.f0, (rd_T74 x1 x6).f1.f1, (rd_T74 x1 x6).f1.f2⟩ : S24)⟩ : S74)]) (wrap64 (x6 + 1)) x440000 x440001 x440002 x440003 x440004 x440005 x440006 x440007 x440008 x440009 x440010 x440011 x440012 x440013) else (none)) else (none)) else (none)))
end
def r19_Sort.f (k : Nat) (a0_0 : Bool) (l0_1 : List (S81)) (l0_2 : List (S81)) (l0_3 : List (S81)) (a0_4 : Int) (l0_5 : List (S81)) (a0_6 : Bool) (a0_7 : Int) (a0_8 : ByteArray) (a0_9 : Bool) (a0_10 : Int) (a0_11 : Bool) (a0_12 : Bool) (a0_13 : Int) (l1 : List (S74)) : Option ((List (S74))) := r19_Sort.l0 k l1 (([] : List (S74))) 0 a0_0 l0_1 l0_2 l0_3 a0_4 l0_5 a0_6 a0_7 a0_8 a0_9 a0_10 a0_11 a0_12 a0_13
theorem r19_Sort.mono_l : ∀ k, (∀ y0 y1 y2 y3 y4 y5 y6 y7 y8 y9 y10 y11 y12 y13 y14 y15 y16, LeO (r19_Sort.l0 k y0 y1 y2 y3 y4 y5 y6 y7 y8 y9 y10 y11 y12 y13 y14 y15 y16) (r19_Sort.l0 (k + 1) y0 y1 y2 y3 y4 y5 y6 y7 y8 y9 y10 y11 y12 y13 y14 y15 y16)) ∧ (∀ y0 y1 y2 y3 y4 y5 y6 y7 y8 y9 y10 y11 y12 y13 y14 y15 y16 y17 y18 y19, LeO (r19_Sort.l1 k y0 y1 y2 y3 y4 y5 y6 y7 y8 y9 y10 y11 y12 y13 y14 y15 y16 y17 y18 y19) (r19_Sort.l1 (k + 1) y0 y1 y2 y3 y4 y5 y6 y7 y8 y9 y10 y11 y12 y13 y14 y15 y16 y17 y18 y19))
 | 0 => ⟨fun _ _ _ _ _ _ _ _ _ _ _ _ _ _ _ _ _ r h => by simp [r19_Sort.l0] at h, fun _ _ _ _ _ _ _ _ _ _ _ _ _ _ _ _ _ _ _ _ r h => by simp [r19_Sort.l1] at h⟩
 | k + 1 => by
  obtain ⟨ih0, ih1⟩ := r19_Sort.mono_l k
  refine ⟨?_, ?_⟩
  ·intro y0 y1 y2 y3 y4 y5 y6 y7 y8 y9 y10 y11 y12 y13 y14 y15 y16
   unfold r19_Sort.l0
   repeat' (with_reducible first | exact ih0 _ _ _ _ _ _ _ _ _ _ _ _ _ _ _ _ _ | exact ih1 _ _ _ _ _ _ _ _ _ _ _ _ _ _ _ _ _ _ _ _ | exact r17_Ahead.mono _ _ _ _ _ _ _ _ _ _ _ _ _ _ _ _ _ | exact LeO.refl _ | exact LeO.none _ | refine LeO.ite ?_ ?_ | refine LeO.bind ?_ (fun _ => ?_))
  ·intro y0 y1 y2 y3 y4 y5 y6 y7 y8 y9 y10 y11 y12 y13 y14 y15 y16 y17 y18 y19
   unfold r19_Sort.l1
   repeat' (with_reducible first | exact ih0 _ _ _ _ _ _ _ _ _ _ _ _ _ _ _ _ _ | exact ih1 _ _ _ _ _ _ _ _ _ _ _ _ _ _ _ _ _ _ _ _ | exact r17_Ahead.mono _ _ _ _ _ _ _ _ _ _ _ _ _ _ _ _ _ | exact LeO.refl _ | exact LeO.none _ | refine LeO.ite ?_ ?_ | refine LeO.bind ?_ (fun _ => ?_))
theorem r19_Sort.mono : ∀ a0 a1 a2 a3 a4 a5 a6 a7 a8 a9 a10 a11 a12 a13 a14 k, LeO (r19_Sort.f k a0 a1 a2 a3 a4 a5 a6 a7 a8 a9 a10 a11 a12 a13 a14) (r19_Sort.f (k + 1) a0 a1 a2 a3 a4 a5 a6 a7 a8 a9 a10 a11 a12 a13 a14) := by
 intro a0 a1 a2 a3 a4 a5 a6 a7 a8 a9 a10 a11 a12 a13 a14 k
 obtain ⟨ih0, ih1⟩ := r19_Sort.mono_l k
 unfold r19_Sort.f
 repeat' (with_reducible first | exact ih0 _ _ _ _ _ _ _ _ _ _ _ _ _ _ _ _ _ | exact ih1 _ _ _ _ _ _ _ _ _ _ _ _ _ _ _ _ _ _ _ _ | exact r17_Ahead.mono _ _ _ _ _ _ _ _ _ _ _ _ _ _ _ _ _ | exact LeO.refl _ | exact LeO.none _ | refine LeO.ite ?_ ?_ | refine LeO.bind ?_ (fun _ => ?_))
def r19_Sort.T10 : Bool × List (List Nat × List Nat) := (true, [([], []), ([0], [0]), ([1], [1]), ([2], [2]), ([2], [2]), ([2], [2]), ([4, 5, 2], [2, 4, 5]), ([6, 2], [2, 6]), ([7, 2], [2, 7]), ([2], [2]), ([2], [2]), ([9, 10, 2], [2, 9, 10]), ([11, 2], [2, 11]), ([12, 2], [2, 12]), ([3, 8, 13, 2, 2], [2, 3, 8, 13]), ([2, 14], [2, 14])])
def r19_Sort.B10 : List Nat := [0, 1, 3, 7, 7, 7, 55, 119, 247, 7, 7, 1543, 3591, 7687, 16383, 32767]
theorem r19_Sort.tab10 : rtab .any (opsOf Tryz.f16 10) = r19_Sort.T10 := by kernel_rfl
theorem r19_Sort.bits10 : waitsOk r19_Sort.T10.2 r19_Sort.B10 = true := by kernel_rfl
set_option maxHeartbeats 8000000 in
set_option maxRecDepth 100000 in
theorem r19_Sort.calls (k : Nat) (a0_0 : Bool) (A0_1 : Option Addr) (c0_1 : Nat) (l0_1 : List (S81)) (A0_2 : Option Addr) (c0_2 : Nat) (l0_2 : List (S81)) (A0_3 : Option Addr) (c0_3 : Nat) (l0_3 : List (S81)) (a0_4 : Int) (A0_5 : Option Addr) (c0_5 : Nat) (l0_5 : List (S81)) (a0_6 : Bool) (a0_7 : Int) (a0_8 : ByteArray) (a0_9 : Bool) (a0_10 : Int) (a0_11 : Bool) (a0_12 : Bool) (a0_13 : Int) (A1 : Option Addr) (c1 : Nat) (l1 : List (S74)) (r : List (S74)) (w : World) (hT : Tabs w) (hr0_1 : Kd.C k81 w A0_1 l0_1.length l0_1) (hc0_1 : l0_1.length ≤ c0_1) (hr0_2 : Kd.C k81 w A0_2 l0_2.length l0_2) (hc0_2 : l0_2.length ≤ c0_2) (hr0_3 : Kd.C k81 w A0_3 l0_3.length l0_3) (hc0_3 : l0_3.length ≤ c0_3) (hr0_5 : Kd.C k81 w A0_5 l0_5.length l0_5) (hc0_5 : l0_5.length ≤ c0_5) (hr1 : Kd.C k74 w A1 l1.length l1) (hc1 : l1.length ≤ c1) (h : r19_Sort.f k a0_0 l0_1 l0_2 l0_3 a0_4 l0_5 a0_6 a0_7 a0_8 a0_9 a0_10 a0_11 a0_12 a0_13 l1 = some r) :
  Calls Tryz.prog 16 #[.agg #[.bool a0_0, .slice A0_1 l0_1.length c0_1, .slice A0_2 l0_2.length c0_2, .slice A0_3 l0_3.length c0_3, .int .i64 a0_4, .slice A0_5 l0_5.length c0_5, .bool a0_6, .int .i64 a0_7, .string a0_8, .bool a0_9, .int .i64 a0_10, .bool a0_11, .bool a0_12, .int .i64 a0_13], .slice A1 l1.length c1] w fun e w' => ∃ v0_ : Value, e = .returned (v0_) ∧ Kd.R k74 74 w' w.heap.size (fun _ => True) v0_ r ∧ Below w.heap.size w w' := by
 have hu45 := Tryz.underlying45
 have hu74 := Tryz.underlying74
 have HR0_1 := xy hr0_1
 have HC0_1 := xy hc0_1
 clear hr0_1 hc0_1
 have HR0_2 := xy hr0_2
 have HC0_2 := xy hc0_2
 clear hr0_2 hc0_2
 have HR0_3 := xy hr0_3
 have HC0_3 := xy hc0_3
 clear hr0_3 hc0_3
 have HR0_5 := xy hr0_5
 have HC0_5 := xy hc0_5
 clear hr0_5 hc0_5
 have HR1 := xy hr1
 have HC1 := xy hc1
 clear hr1 hc1
 have HB := xy (Below.refl w.heap.size w)
 unfold r19_Sort.f at h
 have H := h
 clear h
 obtain ⟨y440, hy440⟩ : ∃ y_ : List (S74), y_ = (([] : List (S74))) := ⟨_, rfl⟩
 replace H : (r19_Sort.l0 k l1 y440 0 a0_0 l0_1 l0_2 l0_3 a0_4 l0_5 a0_6 a0_7 a0_8 a0_9 a0_10 a0_11 a0_12 a0_13) = some r := by first | (rw [hy440]; with_reducible exact H) | (have H2_ := (Option.bind_some _ _).symm.trans H; rw [hy440]; with_reducible exact H2_) | (have H2_ := (Option.bind_some _ _).symm.trans H; with_reducible exact H2_) | with_reducible exact H | (rw [hy440]; exact H) | exact H
 have Ny440 := xy hy440
 clear hy440
 have H' := xy H
 clear H
 go_enter Tryz.func16, Tryz.ntmps16
 go_wp2_with (first | ((with_reducible refine gate_dst (N := 2) rfl ?_); refine xq (N := 2) (cs := #[.bool a0_0, .slice A0_1 l0_1.length c0_1, .slice A0_2 l0_2.length c0_2, .slice A0_3 l0_3.length c0_3, .int .i64 a0_4, .slice A0_5 l0_5.length c0_5, .bool a0_6, .int .i64 a0_7, .string a0_8, .bool a0_9, .int .i64 a0_10, .bool a0_11, .bool a0_12, .int .i64 a0_13]) (t := 45) ?_; intro gb439 hg w3 hbox hb; have BK439 := xy (hbox); have GW439 := xs w hg; have GE439 := xs w hg; replace HB := xy (below_step xb hb); clear hb hbox hg) | ((with_reducible refine gate_dst (N := 10) rfl ?_); refine Kd.R_lit k74 _ 74 ?hg (N := 10) ?hd (xs := ([] : List (S74))) (inner := []) (ok := fun _ => True) (okp := fun _ => True) ?hr ?hp (fun _ hk => hk) trivial (Below.refl _ _) (Nat.le_refl _) (by simp) ?_; (case hd => rfl); (case hg => rfl); (case hr => exact xh); (case hp => exact (Reps.none _ _)); intro v441 w4 ho5 hb hg_ hnew_; clear hg_ hnew_; (first | rw [← Ny440.out] at ho5 | (simp only [Int.reduceToNat] at ho5; rw [← Ny440.out] at ho5)); have HO442 := xy (Kd.R_lower ho5 (below_size xb)); replace BK439 := xd BK439.out hb; replace HB := xy (below_step xb hb); clear hb ho5))
 go_loopg [5, 6] k (fun kq v5 v6 w' => ∃ (x5_1 : List (S74)) (x6_1 : Int), v6 = .int .i64 x6_1 ∧ Aside0 (r19_Sort.l0 kq l1 x5_1 x6_1 a0_0 l0_1 l0_2 l0_3 a0_4 l0_5 a0_6 a0_7 a0_8 a0_9 a0_10 a0_11 a0_12 a0_13 = some r) ∧ Aside0 (kq ≤ k) ∧ Aside0 (Kd.R k74 74 w' w.heap.size (fun _ => True) v5 x5_1) ∧ Aside0 (w'.heap[gb439]? = some (.cells #[.bool a0_0, (.slice A0_1 l0_1.length c0_1), (.slice A0_2 l0_2.length c0_2), (.slice A0_3 l0_3.length c0_3), .int .i64 a0_4, (.slice A0_5 l0_5.length c0_5), .bool a0_6, .int .i64 a0_7, .string a0_8, .bool a0_9, .int .i64 a0_10, .bool a0_11, .bool a0_12, .int .i64 a0_13] 45 (0, 0))) ∧ Aside0 (Below w.heap.size w w'))
 case atStart => exact ⟨(y440), (0), xg, H', ⟨Nat.le_refl _⟩, ⟨by (with_reducible repeat (first | apply Kd.R_alloc | apply Kd.R_drewN | apply Kd.R_drew)); exact HO442.out⟩, ⟨by (with_reducible repeat (first | refine blk_drewN ?_ _ | refine blk_drew ?_ | refine blk_alloc ?_ _)); exact BK439.out⟩, ⟨xb⟩⟩
 case round =>
  clear H'
  try clear c1
  try clear p2
  obtain ⟨x5_1, x6_1, rfl, HA, HK1, HO_5, BK439, HB⟩ := hrel
  cases gk with
  | zero => exact absurd HA.out (by simp [r19_Sort.l0])
  | succ k1 =>
   have H := HA.out
   clear HA
   simp only [r19_Sort.l0] at H
   by_cases c6 : x6_1 < (l1.length : Int)
   ·rw [if_pos c6] at H
    have c6b0 : decide (x6_1 < (l1.length : Int)) = true := decide_eq_true c6
    clear c6
    obtain ⟨y443, hy443⟩ : ∃ y_ : List (S74), y_ = (([] : List (S74))) := ⟨_, rfl⟩
    replace H : (r19_Sort.l1 k1 l1 x5_1 x6_1 y443 false 0 a0_0 l0_1 l0_2 l0_3 a0_4 l0_5 a0_6 a0_7 a0_8 a0_9 a0_10 a0_11 a0_12 a0_13) = some r := by first | (rw [hy443]; with_reducible exact H) | (have H2_ := (Option.bind_some _ _).symm.trans H; rw [hy443]; with_reducible exact H2_) | (have H2_ := (Option.bind_some _ _).symm.trans H; with_reducible exact H2_) | with_reducible exact H | (rw [hy443]; exact H) | exact H
    have Ny443 := xy hy443
    clear hy443
    have H' := xy H
    clear H
    go_wp2_with (((with_reducible refine gate_dst (N := 17) rfl ?_); refine Kd.R_lit k74 _ 74 ?hg (N := 17) ?hd (xs := ([] : List (S74))) (inner := []) (ok := fun _ => True) (okp := fun _ => True) ?hr ?hp (fun _ hk => hk) trivial (Below.refl _ _) (Nat.le_refl _) (by simp) ?_; (case hd => rfl); (case hg => rfl); (case hr => exact xh); (case hp => exact (Reps.none _ _)); intro v444 w7 ho8 hb hg_ hnew_; clear hg_ hnew_; (first | rw [← Ny443.out] at ho8 | (simp only [Int.reduceToNat] at ho8; rw [← Ny443.out] at ho8)); have HO445 := xy (Kd.R_lower (Kd.R_new' ho8 (Kd.R_lt (xo HO_5.out))) (below_size xb)); replace HO_5 := xy (Kd.R_elder' (xo HO_5.out) (Kd.R_base ho8) hb); replace BK439 := xd BK439.out hb; replace HB := xy (below_step xb hb); clear hb ho8))
    go_loopg [7, 8, 9] k1 (fun kq v7 v8 v9 w' => ∃ (x7_2 : List (S74)) (x8_2 : Bool) (x9_2 : Int), v8 = .bool x8_2 ∧ v9 = .int .i64 x9_2 ∧ Aside0 (r19_Sort.l1 kq l1 x5_1 x6_1 x7_2 x8_2 x9_2 a0_0 l0_1 l0_2 l0_3 a0_4 l0_5 a0_6 a0_7 a0_8 a0_9 a0_10 a0_11 a0_12 a0_13 = some r) ∧ Aside0 (kq ≤ k1) ∧ Aside0 (Kd.R k74 74 w' w.heap.size (fun k_ => some k_ ≠ (v7 : Value).ownBlock) u5 x5_1) ∧ Aside0 (Kd.R k74 74 w' w.heap.size (fun k_ => some k_ ≠ (u5 : Value).ownBlock) v7 x7_2) ∧ Aside0 (w'.heap[gb439]? = some (.cells #[.bool a0_0, (.slice A0_1 l0_1.length c0_1), (.slice A0_2 l0_2.length c0_2), (.slice A0_3 l0_3.length c0_3), .int .i64 a0_4, (.slice A0_5 l0_5.length c0_5), .bool a0_6, .int .i64 a0_7, .string a0_8, .bool a0_9, .int .i64 a0_10, .bool a0_11, .bool a0_12, .int .i64 a0_13] 45 (0, 0))) ∧ Aside0 (Below w.heap.size w w'))
    case atStart => exact ⟨(y443), (false), (0), xg, xg, H', ⟨Nat.le_refl _⟩, ⟨by (with_reducible repeat (first | apply Kd.R_alloc | apply Kd.R_drewN | apply Kd.R_drew)); exact Kd.R_mono HO_5.out (fun _ hk => hk.2)⟩, ⟨by (with_reducible repeat (first | apply Kd.R_alloc | apply Kd.R_drewN | apply Kd.R_drew)); exact Kd.R_mono HO445.out (fun _ hk => hk.2)⟩, ⟨by (with_reducible repeat (first | refine blk_drewN ?_ _ | refine blk_drew ?_ | refine blk_alloc ?_ _)); exact BK439.out⟩, ⟨xb⟩⟩
    case round =>
     clear H'
     try clear c1
     try clear p2
     try clear c6
     try clear c6b0
     try clear p2
     obtain ⟨x7_2, x8_2, x9_2, rfl, rfl, HA, HK2, HO_5, HO_7, BK439, HB⟩ := hrel
     cases gk with
     | zero => exact absurd HA.out (by simp [r19_Sort.l1])
     | succ k2 =>
      have H := HA.out
      clear HA
      simp only [r19_Sort.l1] at H
      by_cases c9 : x9_2 < (x5_1.length : Int)
      ·rw [if_pos c9] at H
       have c9b0 : decide (x9_2 < (x5_1.length : Int)) = true := decide_eq_true c9
       clear c9
       by_cases c10 : x8_2 = true
       ·subst c10
        rw [if_pos rfl] at H
        by_cases c11 : 0 ≤ x9_2
        ·rw [if_pos c11] at H
         have c11b0 : decide (0 ≤ x9_2) = true := decide_eq_true c11
         clear c11
         by_cases c12 : x7_2.length < 2932031007402
         ·rw [if_pos c12] at H
          have LMc12 := xy c12
          clear c12
          obtain ⟨y447, hy447⟩ : ∃ y_ : List (S74), y_ = (x7_2 ++ [(⟨(rd_T74 x5_1 x9_2).f0, (⟨(rd_T74 x5_1 x9_2).f1.f0, (rd_T74 x5_1 x9_2).f1.f1, (rd_T74 x5_1 x9_2).f1.f2⟩ : S24)⟩ : S74)]) := ⟨_, rfl⟩
          replace H : (r19_Sort.l1 k2 l1 x5_1 x6_1 y447 true (wrap64 (x9_2 + 1)) a0_0 l0_1 l0_2 l0_3 a0_4 l0_5 a0_6 a0_7 a0_8 a0_9 a0_10 a0_11 a0_12 a0_13) = some r := by first | (rw [hy447]; with_reducible exact H) | (have H2_ := (Option.bind_some _ _).symm.trans H; rw [hy447]; with_reducible exact H2_) | (have H2_ := (Option.bind_some _ _).symm.trans H; with_reducible exact H2_) | with_reducible exact H | (rw [hy447]; exact H) | exact H
          have Ny447 := xy hy447
          clear hy447
          have H' := xy H
          clear H
          obtain ⟨Ao13, co13, eo13⟩ := Kd.R_slice HO_5.out
          subst eo13
          try go_wp2
          replace HO_5 := xy (Kd.R_drew HO_5.out)
          replace HO_7 := xy (Kd.R_drew HO_7.out)
          replace BK439 := xy (blk_drew BK439.out)
          replace HB := xy (below_drew1 HB.out)
          refine start_ (n := 16) (S := fun w' => True) (ds := []) #[false, false, false, false, false, false, false, false, false, false, false, false, false, false, false, false] (by kernel_rfl) rfl rfl trivial (fun hHeld => ?_); refine with_tabW r19_Sort.tab10 r19_Sort.bits10 (fun HT_ HW_ => ?_)
          generalize wr.drew = w14 at HO_5 HO_7 BK439 HB hHeld ⊢
          refine yz 0 (some 24) (bs 16 1) HT_.out (h := ?_)
          refine yz 1 (some 25) (bs 16 3) HT_.out (h := ?_)
          refine yz 2 (some 26) (bs 16 7) HT_.out (h := ?_)
          refine yu 3 (some 27) (bs 16 15) HT_.out (h := ?_)
          refine yu 4 (some 28) (bs 16 31) HT_.out (h := ?_)
          refine yu 5 (some 29) (bs 16 63) HT_.out (h := ?_)
          refine yu 6 (some 30) (bs 16 127) HT_.out (h := ?_)
          refine yu 7 (some 31) (bs 16 255) HT_.out (h := ?_)
          refine yu 8 (some 32) (bs 16 511) HT_.out (h := ?_)
          refine yu 9 (some 33) (bs 16 1023) HT_.out (h := ?_)
          refine yu 10 (some 34) (bs 16 2047) HT_.out (h := ?_)
          refine yu 11 (some 35) (bs 16 4095) HT_.out (h := ?_)
          refine yu 12 (some 36) (bs 16 8191) HT_.out (h := ?_)
          refine yu 13 (some 37) (bs 16 16383) HT_.out (h := ?_)
          refine yu 14 (some 38) (bs 16 32767) HT_.out (h := ?_)
          refine yz 15 (some 39) (bs 16 65535) HT_.out (h := ?_)
          refine done_ (done_of HT_.out (by kernel_rfl)) ?_
          have p446 : 0 ≤ (x9_2 : Int) := xi
          have q446 : x9_2 < (x5_1.length : Int) := xi
          obtain ⟨ad446, e446, hx446_0, hx446_1, hx446_2, hx446_3⟩ := at_T74 (Kd.R_reads' HO_5.out).2.2 x9_2 p446 q446
          cases e446
          replace p446 := eq_true p446
          replace q446 := eq_true q446
          try go_wp2_with (((with_reducible refine gate_builtin (b := .append) (xs := #[.tmp 47, .tmp 52]) rfl ?_); at_builtin; refine Kd.R_append k74 (w0 := w) w.heap.size rfl (.tmp 47) (.tmp 52) 34 74 (.agg #[(.string ⟨#[]⟩), (.bool false), (.int .i64 0), (.string ⟨#[]⟩)]) 48 rfl Tryz.underlying34 info74 rfl (by decide) (by omega) u7 x7_2 (⟨(rd_T74 x5_1 x9_2).f0, (⟨(rd_T74 x5_1 x9_2).f1.f0, (rd_T74 x5_1 x9_2).f1.f1, (rd_T74 x5_1 x9_2).f1.f2⟩ : S24)⟩ : S74) [.string ((rd_T74 x5_1 x9_2).f0), .bool ((rd_T74 x5_1 x9_2).f1.f0), .int .i64 ((rd_T74 x5_1 x9_2).f1.f1), .string ((rd_T74 x5_1 x9_2).f1.f2)] (fun k_ => some k_ ≠ (.slice (some ad446) x5_1.length co13 : Value).ownBlock) (fun _ => False) rfl rfl ?aP (fun _ hk => hk.elim) ?aF ?aO ?aB ?aS ?aL ?_; (case aP => exact k74_mkM _ _ _ (⟨(rd_T74 x5_1 x9_2).f0, (⟨(rd_T74 x5_1 x9_2).f1.f0, (rd_T74 x5_1 x9_2).f1.f1, (rd_T74 x5_1 x9_2).f1.f2⟩ : S24)⟩ : S74)); (case aB => exact xb); (case aF => exact (fun k_ hk => Kd.fresh' (Kd.R_lt (xo HO_5.out)) k_ hk)); (case aO => exact (xo HO_7.out)); (case aS => exact (below_size xb)); (case aL => have := LMc12.out; omega); intro v448 w15 ho hb hg hat; rw [← Ny447.out] at ho; replace HO_5 := xy (Kd.R_after (ok := (fun _ => True)) (by (with_reducible repeat (first | apply Kd.R_alloc | apply Kd.R_drewN | apply Kd.R_drew)); exact Kd.R_mono HO_5.out (fun _ hk => ⟨trivial, hk⟩)) hg hat); replace BK439 := xy (blk_grown (g := gb439) (o := .cells #[.bool a0_0, .slice A0_1 l0_1.length c0_1, .slice A0_2 l0_2.length c0_2, .slice A0_3 l0_3.length c0_3, .int .i64 a0_4, .slice A0_5 l0_5.length c0_5, .bool a0_6, .int .i64 a0_7, .string a0_8, .bool a0_9, .int .i64 a0_10, .bool a0_11, .bool a0_12, .int .i64 a0_13] 45 (0, 0)) (xk BK439.out) hg (Kd.R_ne HO_7.out BK439.out (by decide))); replace HB := xy (hb); have HO449 := xy (ho); clear HO_7; clear ho hb hg hat))
          go_roundg k2
          case measure => have := HK1.out; have := HK2.out; omega
          case rel => exact ⟨(y447), (true), (wrap64 (x9_2 + 1)), xg, xg, H', ⟨by have := HK1.out; have := HK2.out; omega⟩, ⟨by (with_reducible repeat (first | apply Kd.R_alloc | apply Kd.R_drewN | apply Kd.R_drew)); exact Kd.R_mono HO_5.out (fun _ hk => hk.2)⟩, ⟨by (with_reducible repeat (first | apply Kd.R_alloc | apply Kd.R_drewN | apply Kd.R_drew)); exact HO449.out⟩, ⟨by (with_reducible repeat (first | refine blk_drewN ?_ _ | refine blk_drew ?_ | refine blk_alloc ?_ _)); exact BK439.out⟩, ⟨xb⟩⟩
         ·rw [if_neg c12] at H
          exact absurd H (by simp)
        ·rw [if_neg c11] at H
         exact absurd H (by simp)
       ·replace c10 := Bool.eq_false_iff.mpr c10
        subst c10
        rw [if_neg (show ¬ (false = true) by decide)] at H
        by_cases c16 : 0 ≤ x6_1
        ·rw [if_pos c16] at H
         have c16b0 : decide (0 ≤ x6_1) = true := decide_eq_true c16
         clear c16
         by_cases c17 : x6_1 < (l1.length : Int)
         ·rw [if_pos c17] at H
          have c17b0 : decide (x6_1 < (l1.length : Int)) = true := decide_eq_true c17
          clear c17
          by_cases c18 : 0 ≤ x9_2
          ·rw [if_pos c18] at H
           have c18b0 : decide (0 ≤ x9_2) = true := decide_eq_true c18
           clear c18
           replace H := xj H
           obtain ⟨t452, A190, H⟩ := H
           try dsimp only at H
           have A19 := xy A190
           clear A190
           by_cases c20 : t452 = true
           ·subst c20
            rw [if_pos rfl] at H
            by_cases c21 : x7_2.length < 2932031007402
            ·rw [if_pos c21] at H
             have LMc21 := xy c21
             clear c21
             obtain ⟨y454, hy454⟩ : ∃ y_ : List (S74), y_ = (x7_2 ++ [(⟨(rd_T74 l1 x6_1).f0, (⟨(rd_T74 l1 x6_1).f1.f0, (rd_T74 l1 x6_1).f1.f1, (rd_T74 l1 x6_1).f1.f2⟩ : S24)⟩ : S74)]) := ⟨_, rfl⟩
             replace H : (if y454.length < 2932031007402 then (r19_Sort.l1 k2 l1 x5_1 x6_1 (y454 ++ [(⟨(rd_T74 x5_1 x9_2).f0, (⟨(rd_T74 x5_1 x9_2).f1.f0, (rd_T74 x5_1 x9_2).f1.f1, (rd_T74 x5_1 x9_2).f1.f2⟩ : S24)⟩ : S74)]) true (wrap64 (x9_2 + 1)) a0_0 l0_1 l0_2 l0_3 a0_4 l0_5 a0_6 a0_7 a0_8 a0_9 a0_10 a0_11 a0_12 a0_13) else (none)) = some r := by first | (rw [hy454]; with_reducible exact H) | (have H2_ := (Option.bind_some _ _).symm.trans H; rw [hy454]; with_reducible exact H2_) | (have H2_ := (Option.bind_some _ _).symm.trans H; with_reducible exact H2_) | with_reducible exact H | (rw [hy454]; exact H) | exact H
             have Ny454 := xy hy454
             clear hy454
             by_cases c22 : y454.length < 2932031007402
             ·rw [if_pos c22] at H
              have LMc22 := xy c22
              clear c22
              obtain ⟨y458, hy458⟩ : ∃ y_ : List (S74), y_ = (y454 ++ [(⟨(rd_T74 x5_1 x9_2).f0, (⟨(rd_T74 x5_1 x9_2).f1.f0, (rd_T74 x5_1 x9_2).f1.f1, (rd_T74 x5_1 x9_2).f1.f2⟩ : S24)⟩ : S74)]) := ⟨_, rfl⟩
              replace H : (r19_Sort.l1 k2 l1 x5_1 x6_1 y458 true (wrap64 (x9_2 + 1)) a0_0 l0_1 l0_2 l0_3 a0_4 l0_5 a0_6 a0_7 a0_8 a0_9 a0_10 a0_11 a0_12 a0_13) = some r := by first | (rw [hy458]; with_reducible exact H) | (have H2_ := (Option.bind_some _ _).symm.trans H; rw [hy458]; with_reducible exact H2_) | (have H2_ := (Option.bind_some _ _).symm.trans H; with_reducible exact H2_) | with_reducible exact H | (rw [hy458]; exact H) | exact H
              have Ny458 := xy hy458
              clear hy458
              have H' := xy H
              clear H
              obtain ⟨Ao23, co23, eo23⟩ := Kd.R_slice HO_5.out
              subst eo23
              try go_wp2
              replace HO_5 := xy (Kd.R_drew HO_5.out)
              replace HO_7 := xy (Kd.R_drew HO_7.out)
              replace BK439 := xy (blk_drew BK439.out)
              replace HB := xy (below_drew1 HB.out)
              have p450 : 0 ≤ (x6_1 : Int) := xi
              have q450 : x6_1 < (l1.length : Int) := xi
              obtain ⟨ad450, e450, hx450_0, hx450_1, hx450_2, hx450_3⟩ := at_T74 HR1.out x6_1 p450 q450
              have hw450_3 := hx450_3
              have hw450_2 := hx450_2
              have hw450_1 := hx450_1
              have hw450_0 := hx450_0
              cases e450
              replace hx450_0 := (HB.out.cell (World.block_lt_of_cell? w _ hx450_0)).trans hx450_0
              replace hx450_1 := (HB.out.cell (World.block_lt_of_cell? w _ hx450_1)).trans hx450_1
              replace hx450_2 := (HB.out.cell (World.block_lt_of_cell? w _ hx450_2)).trans hx450_2
              replace hx450_3 := (HB.out.cell (World.block_lt_of_cell? w _ hx450_3)).trans hx450_3
              replace p450 := eq_true p450
              replace q450 := eq_true q450
              have p451 : 0 ≤ (x9_2 : Int) := xi
              have q451 : x9_2 < (x5_1.length : Int) := xi
              obtain ⟨ad451, e451, hx451_0, hx451_1, hx451_2, hx451_3⟩ := at_T74 (Kd.R_reads' HO_5.out).2.2 x9_2 p451 q451
              cases e451
              replace p451 := eq_true p451
              replace q451 := eq_true q451
              refine start_ (n := 16) (S := fun w' => w'.cell? ⟨gb439, 0, none⟩ = some (.bool a0_0) ∧ w'.cell? ⟨gb439, 1, none⟩ = some (.slice A0_1 l0_1.length c0_1) ∧ w'.cell? ⟨gb439, 2, none⟩ = some (.slice A0_2 l0_2.length c0_2) ∧ w'.cell? ⟨gb439, 3, none⟩ = some (.slice A0_3 l0_3.length c0_3) ∧ w'.cell? ⟨gb439, 4, none⟩ = some (.int .i64 a0_4) ∧ w'.cell? ⟨gb439, 5, none⟩ = some (.slice A0_5 l0_5.length c0_5) ∧ w'.cell? ⟨gb439, 6, none⟩ = some (.bool a0_6) ∧ w'.cell? ⟨gb439, 7, none⟩ = some (.int .i64 a0_7) ∧ w'.cell? ⟨gb439, 8, none⟩ = some (.string a0_8) ∧ w'.cell? ⟨gb439, 9, none⟩ = some (.bool a0_9) ∧ w'.cell? ⟨gb439, 10, none⟩ = some (.int .i64 a0_10) ∧ w'.cell? ⟨gb439, 11, none⟩ = some (.bool a0_11) ∧ w'.cell? ⟨gb439, 12, none⟩ = some (.bool a0_12) ∧ w'.cell? ⟨gb439, 13, none⟩ = some (.int .i64 a0_13) ∧ w'.cell? (ad450.add ((x6_1).toNat * 4)) = some (.string ((rd_T74 l1 x6_1).f0)) ∧ w'.cell? ⟨(ad450.add ((x6_1).toNat * 4)).block, (ad450.add ((x6_1).toNat * 4)).off + 1, none⟩ = some (.bool ((rd_T74 l1 x6_1).f1.f0)) ∧ w'.cell? ⟨(ad450.add ((x6_1).toNat * 4)).block, (ad450.add ((x6_1).toNat * 4)).off + 2, none⟩ = some (.int .i64 ((rd_T74 l1 x6_1).f1.f1)) ∧ w'.cell? ⟨(ad450.add ((x6_1).toNat * 4)).block, (ad450.add ((x6_1).toNat * 4)).off + 3, none⟩ = some (.string ((rd_T74 l1 x6_1).f1.f2)) ∧ w'.cell? (ad451.add ((x9_2).toNat * 4)) = some (.string ((rd_T74 x5_1 x9_2).f0)) ∧ w'.cell? ⟨(ad451.add ((x9_2).toNat * 4)).block, (ad451.add ((x9_2).toNat * 4)).off + 1, none⟩ = some (.bool ((rd_T74 x5_1 x9_2).f1.f0)) ∧ w'.cell? ⟨(ad451.add ((x9_2).toNat * 4)).block, (ad451.add ((x9_2).toNat * 4)).off + 2, none⟩ = some (.int .i64 ((rd_T74 x5_1 x9_2).f1.f1)) ∧ w'.cell? ⟨(ad451.add ((x9_2).toNat * 4)).block, (ad451.add ((x9_2).toNat * 4)).off + 3, none⟩ = some (.string ((rd_T74 x5_1 x9_2).f1.f2))) (ds := []) #[false, false, false, false, false, false, false, false, false, false, false, false, false, false, false, false] (by kernel_rfl) rfl rfl ⟨(kc BK439.out 0).trans rfl, (kc BK439.out 1).trans rfl, (kc BK439.out 2).trans rfl, (kc BK439.out 3).trans rfl, (kc BK439.out 4).trans rfl, (kc BK439.out 5).trans rfl, (kc BK439.out 6).trans rfl, (kc BK439.out 7).trans rfl, (kc BK439.out 8).trans rfl, (kc BK439.out 9).trans rfl, (kc BK439.out 10).trans rfl, (kc BK439.out 11).trans rfl, (kc BK439.out 12).trans rfl, (kc BK439.out 13).trans rfl, ((HB.out.cell (World.block_lt_of_cell? w _ hw450_0)).trans hw450_0), ((HB.out.cell (World.block_lt_of_cell? w _ hw450_1)).trans hw450_1), ((HB.out.cell (World.block_lt_of_cell? w _ hw450_2)).trans hw450_2), ((HB.out.cell (World.block_lt_of_cell? w _ hw450_3)).trans hw450_3), hx451_0, hx451_1, hx451_2, hx451_3⟩ (fun hHeld => ?_); refine with_tabW r19_Sort.tab10 r19_Sort.bits10 (fun HT_ HW_ => ?_)
              generalize wr.drew = w24 at HO_5 HO_7 BK439 HB hx450_0 hx450_1 hx450_2 hx450_3 hx451_0 hx451_1 hx451_2 hx451_3 hHeld ⊢
              refine yz 0 (some 24) (bs 16 1) HT_.out (h := ?_)
              refine yz 1 (some 25) (bs 16 3) HT_.out (h := ?_)
              refine yz 2 (some 26) (bs 16 7) HT_.out (h := ?_)
              refine yz 4 (some 28) (bs 16 23) HT_.out (h := ?_)
              refine yz 5 (some 29) (bs 16 55) HT_.out (h := ?_)
              refine yz 6 (some 30) (bs 16 119) HT_.out (h := ?_)
              refine yz 7 (some 31) (bs 16 247) HT_.out (h := ?_)
              refine yz 9 (some 33) (bs 16 759) HT_.out (h := ?_)
              refine yz 10 (some 34) (bs 16 1783) HT_.out (h := ?_)
              refine yz 11 (some 35) (bs 16 3831) HT_.out (h := ?_)
              refine yz 12 (some 36) (bs 16 7927) HT_.out (h := ?_)
              refine yt 3 (some 27) (bs 16 7935) HT_.out HW_.out hHeld (h := ?_)
              refine yt 8 (some 32) (bs 16 8191) HT_.out HW_.out hHeld (h := ?_)
              refine yt 13 (some 37) (bs 16 16383) HT_.out HW_.out hHeld (h := ?_)
              refine one_ (i := 14) (N := some 38) #[true, true, true, true, true, true, true, true, true, true, true, true, true, true, true, false] rfl rfl (one_of HT_.out (by kernel_rfl)) (by decide) (fun K hK => ?_)
              refine goes_ Tryz.func34 (by kernel_rfl) rfl #[.agg #[.bool a0_0, .slice A0_1 l0_1.length c0_1, .slice A0_2 l0_2.length c0_2, .slice A0_3 l0_3.length c0_3, .int .i64 a0_4, .slice A0_5 l0_5.length c0_5, .bool a0_6, .int .i64 a0_7, .string a0_8, .bool a0_9, .int .i64 a0_10, .bool a0_11, .bool a0_12, .int .i64 a0_13], .string ((rd_T74 l1 x6_1).f0), .string ((rd_T74 x5_1 x9_2).f0)] (by rfl) rfl rfl xr ?_
              with_reducible refine (r17_Ahead.calls k2 a0_0 _ _ l0_1 _ _ l0_2 _ _ l0_3 a0_4 _ _ l0_5 a0_6 a0_7 a0_8 a0_9 a0_10 a0_11 a0_12 a0_13 ((rd_T74 l1 x6_1).f0) ((rd_T74 x5_1 x9_2).f0) true _ (Tabs.below hT xf) ?side1 ?side2 ?side3 ?side4 ?side5 ?side6 ?side7 ?side8 A19.out).mono ?_
              (case side1 => exact Kd.C_below HR0_1.out xb)
              (case side2 => exact HC0_1.out)
              (case side3 => exact Kd.C_below HR0_2.out xb)
              (case side4 => exact HC0_2.out)
              (case side5 => exact Kd.C_below HR0_3.out xb)
              (case side6 => exact HC0_3.out)
              (case side7 => exact Kd.C_below HR0_5.out xb)
              (case side8 => exact HC0_5.out)
              rintro e w25 ⟨rfl, hb⟩
              have HS18_ := (hb.cell (World.block_lt_of_cell? _ _ (hHeld.2.2.2.2.2.2.2.2.2.2.2.2.2.2.2.2.2.2.1))).trans (hHeld.2.2.2.2.2.2.2.2.2.2.2.2.2.2.2.2.2.2.1)
              have HS19_ := (hb.cell (World.block_lt_of_cell? _ _ (hHeld.2.2.2.2.2.2.2.2.2.2.2.2.2.2.2.2.2.2.2.1))).trans (hHeld.2.2.2.2.2.2.2.2.2.2.2.2.2.2.2.2.2.2.2.1)
              have HS20_ := (hb.cell (World.block_lt_of_cell? _ _ (hHeld.2.2.2.2.2.2.2.2.2.2.2.2.2.2.2.2.2.2.2.2.1))).trans (hHeld.2.2.2.2.2.2.2.2.2.2.2.2.2.2.2.2.2.2.2.2.1)
              have HS21_ := (hb.cell (World.block_lt_of_cell? _ _ (hHeld.2.2.2.2.2.2.2.2.2.2.2.2.2.2.2.2.2.2.2.2.2))).trans (hHeld.2.2.2.2.2.2.2.2.2.2.2.2.2.2.2.2.2.2.2.2.2)
              refine ⟨_, rfl, ?_⟩
              replace HO_5 := xy (Kd.R_below (xo HO_5.out) hb)
              replace HO_7 := xy (Kd.R_below (xo HO_7.out) hb)
              replace BK439 := xd BK439.out hb
              replace HB := xy (below_step xb hb)
              (try clear hb)
              (try clear hb2)
              (try clear hk)
              (try clear hi)
              refine hK.out _ _ ⟨(kc BK439.out 0).trans rfl, (kc BK439.out 1).trans rfl, (kc BK439.out 2).trans rfl, (kc BK439.out 3).trans rfl, (kc BK439.out 4).trans rfl, (kc BK439.out 5).trans rfl, (kc BK439.out 6).trans rfl, (kc BK439.out 7).trans rfl, (kc BK439.out 8).trans rfl, (kc BK439.out 9).trans rfl, (kc BK439.out 10).trans rfl, (kc BK439.out 11).trans rfl, (kc BK439.out 12).trans rfl, (kc BK439.out 13).trans rfl, ((HB.out.cell (World.block_lt_of_cell? w _ hw450_0)).trans hw450_0), ((HB.out.cell (World.block_lt_of_cell? w _ hw450_1)).trans hw450_1), ((HB.out.cell (World.block_lt_of_cell? w _ hw450_2)).trans hw450_2), ((HB.out.cell (World.block_lt_of_cell? w _ hw450_3)).trans hw450_3), HS18_, HS19_, HS20_, HS21_⟩ (fun hHeld => ?_)
              clear hK K
              refine norm_ (a' := ?_) ?_ ?_
              rotate_left
              ·show Act.put _ (some 38) _ = _
               simp only [Act.put, List.setIfInBounds_toArray, List.set_cons_zero, List.set_cons_succ, i64_w, i32_w]
               rfl
              refine yz 15 (some 39) (bs 16 65535) HT_.out (h := ?_)
              refine done_ (done_of HT_.out (by kernel_rfl)) ?_
              have p453 : 0 ≤ (x6_1 : Int) := xi
              have q453 : x6_1 < (l1.length : Int) := xi
              obtain ⟨ad453, e453, hx453_0, hx453_1, hx453_2, hx453_3⟩ := at_T74 HR1.out x6_1 p453 q453
              obtain rfl : ad450 = ad453 := (by injection e453)
              replace hx453_0 := (HB.out.cell (World.block_lt_of_cell? w _ hx453_0)).trans hx453_0
              replace hx453_1 := (HB.out.cell (World.block_lt_of_cell? w _ hx453_1)).trans hx453_1
              replace hx453_2 := (HB.out.cell (World.block_lt_of_cell? w _ hx453_2)).trans hx453_2
              replace hx453_3 := (HB.out.cell (World.block_lt_of_cell? w _ hx453_3)).trans hx453_3
              replace p453 := eq_true p453
              replace q453 := eq_true q453
              try go_wp2_with (first | ((with_reducible refine gate_builtin (b := .append) (xs := #[.tmp 40, .tmp 45]) rfl ?_); at_builtin; refine Kd.R_append k74 (w0 := w) w.heap.size rfl (.tmp 40) (.tmp 45) 34 74 (.agg #[(.string ⟨#[]⟩), (.bool false), (.int .i64 0), (.string ⟨#[]⟩)]) 48 rfl Tryz.underlying34 info74 rfl (by decide) (by omega) u7 x7_2 (⟨(rd_T74 l1 x6_1).f0, (⟨(rd_T74 l1 x6_1).f1.f0, (rd_T74 l1 x6_1).f1.f1, (rd_T74 l1 x6_1).f1.f2⟩ : S24)⟩ : S74) [.string ((rd_T74 l1 x6_1).f0), .bool ((rd_T74 l1 x6_1).f1.f0), .int .i64 ((rd_T74 l1 x6_1).f1.f1), .string ((rd_T74 l1 x6_1).f1.f2)] (fun k_ => some k_ ≠ (.slice (some ad451) x5_1.length co23 : Value).ownBlock) (fun _ => False) rfl rfl ?aP (fun _ hk => hk.elim) ?aF ?aO ?aB ?aS ?aL ?_; (case aP => exact k74_mkM _ _ _ (⟨(rd_T74 l1 x6_1).f0, (⟨(rd_T74 l1 x6_1).f1.f0, (rd_T74 l1 x6_1).f1.f1, (rd_T74 l1 x6_1).f1.f2⟩ : S24)⟩ : S74)); (case aB => exact xb); (case aF => exact (fun k_ hk => Kd.fresh' (Kd.R_lt (xo HO_5.out)) k_ hk)); (case aO => exact (xo HO_7.out)); (case aS => exact (below_size xb)); (case aL => have := LMc21.out; omega); intro v455 w26 ho hb hg hat; rw [← Ny454.out] at ho; replace HO_5 := xy (Kd.R_after (ok := (fun _ => True)) (by (with_reducible repeat (first | apply Kd.R_alloc | apply Kd.R_drewN | apply Kd.R_drew)); exact Kd.R_mono HO_5.out (fun _ hk => ⟨trivial, hk⟩)) hg hat); replace BK439 := xy (blk_grown (g := gb439) (o := .cells #[.bool a0_0, .slice A0_1 l0_1.length c0_1, .slice A0_2 l0_2.length c0_2, .slice A0_3 l0_3.length c0_3, .int .i64 a0_4, .slice A0_5 l0_5.length c0_5, .bool a0_6, .int .i64 a0_7, .string a0_8, .bool a0_9, .int .i64 a0_10, .bool a0_11, .bool a0_12, .int .i64 a0_13] 45 (0, 0)) (xk BK439.out) hg (Kd.R_ne HO_7.out BK439.out (by decide))); replace HB := xy (hb); have HO456 := xy (ho); clear HO_7; clear ho hb hg hat; have p457 : 0 ≤ (x9_2 : Int) := xi; have q457 : x9_2 < (x5_1.length : Int) := xi; obtain ⟨ad457, e457, hx457_0, hx457_1, hx457_2, hx457_3⟩ := at_T74 (Kd.R_reads' HO_5.out).2.2 x9_2 p457 q457; obtain rfl : ad451 = ad457 := (by injection e457); replace p457 := eq_true p457; replace q457 := eq_true q457) | ((with_reducible refine gate_builtin (b := .append) (xs := #[.tmp 47, .tmp 52]) rfl ?_); at_builtin; refine Kd.R_append k74 (w0 := w) w.heap.size rfl (.tmp 47) (.tmp 52) 34 74 (.agg #[(.string ⟨#[]⟩), (.bool false), (.int .i64 0), (.string ⟨#[]⟩)]) 48 rfl Tryz.underlying34 info74 rfl (by decide) (by omega) v455 y454 (⟨(rd_T74 x5_1 x9_2).f0, (⟨(rd_T74 x5_1 x9_2).f1.f0, (rd_T74 x5_1 x9_2).f1.f1, (rd_T74 x5_1 x9_2).f1.f2⟩ : S24)⟩ : S74) [.string ((rd_T74 x5_1 x9_2).f0), .bool ((rd_T74 x5_1 x9_2).f1.f0), .int .i64 ((rd_T74 x5_1 x9_2).f1.f1), .string ((rd_T74 x5_1 x9_2).f1.f2)] (fun k_ => some k_ ≠ (.slice (some ad451) x5_1.length co23 : Value).ownBlock) (fun _ => False) rfl rfl ?aP (fun _ hk => hk.elim) ?aF ?aO ?aB ?aS ?aL ?_; (case aP => exact k74_mkM _ _ _ (⟨(rd_T74 x5_1 x9_2).f0, (⟨(rd_T74 x5_1 x9_2).f1.f0, (rd_T74 x5_1 x9_2).f1.f1, (rd_T74 x5_1 x9_2).f1.f2⟩ : S24)⟩ : S74)); (case aB => exact xb); (case aF => exact (fun k_ hk => Kd.fresh' (Kd.R_lt (xo HO_5.out)) k_ hk)); (case aO => exact (xo HO456.out)); (case aS => exact (below_size xb)); (case aL => have := LMc22.out; omega); intro v459 w27 ho hb hg hat; rw [← Ny458.out] at ho; replace HO_5 := xy (Kd.R_after (ok := (fun _ => True)) (xo HO_5.out) hg hat); replace BK439 := xy (blk_grown (g := gb439) (o := .cells #[.bool a0_0, .slice A0_1 l0_1.length c0_1, .slice A0_2 l0_2.length c0_2, .slice A0_3 l0_3.length c0_3, .int .i64 a0_4, .slice A0_5 l0_5.length c0_5, .bool a0_6, .int .i64 a0_7, .string a0_8, .bool a0_9, .int .i64 a0_10, .bool a0_11, .bool a0_12, .int .i64 a0_13] 45 (0, 0)) (xk BK439.out) hg (Kd.R_ne HO456.out BK439.out (by decide))); replace HB := xy (hb); have HO460 := xy (ho); clear HO456; clear ho hb hg hat))
              go_roundg k2
              case measure => have := HK1.out; have := HK2.out; omega
              case rel => exact ⟨(y458), (true), (wrap64 (x9_2 + 1)), xg, xg, H', ⟨by have := HK1.out; have := HK2.out; omega⟩, ⟨by (with_reducible repeat (first | apply Kd.R_alloc | apply Kd.R_drewN | apply Kd.R_drew)); exact Kd.R_mono HO_5.out (fun _ hk => hk.2)⟩, ⟨by (with_reducible repeat (first | apply Kd.R_alloc | apply Kd.R_drewN | apply Kd.R_drew)); exact HO460.out⟩, ⟨by (with_reducible repeat (first | refine blk_drewN ?_ _ | refine blk_drew ?_ | refine blk_alloc ?_ _)); exact BK439.out⟩, ⟨xb⟩⟩
             ·rw [if_neg c22] at H
              exact absurd H (by simp)
            ·rw [if_neg c21] at H
             exact absurd H (by simp)
           ·replace c20 := Bool.eq_false_iff.mpr c20
            subst c20
            rw [if_neg (show ¬ (false = true) by decide)] at H
            by_cases c28 : x7_2.length < 2932031007402
            ·rw [if_pos c28] at H
             have LMc28 := xy c28
             clear c28
             obtain ⟨y462, hy462⟩ : ∃ y_ : List (S74), y_ = (x7_2 ++ [(⟨(rd_T74 x5_1 x9_2).f0, (⟨(rd_T74 x5_1 x9_2).f1.f0, (rd_T74 x5_1 x9_2).f1.f1, (rd_T74 x5_1 x9_2).f1.f2⟩ : S24)⟩ : S74)]) := ⟨_, rfl⟩
             replace H : (r19_Sort.l1 k2 l1 x5_1 x6_1 y462 false (wrap64 (x9_2 + 1)) a0_0 l0_1 l0_2 l0_3 a0_4 l0_5 a0_6 a0_7 a0_8 a0_9 a0_10 a0_11 a0_12 a0_13) = some r := by first | (rw [hy462]; with_reducible exact H) | (have H2_ := (Option.bind_some _ _).symm.trans H; rw [hy462]; with_reducible exact H2_) | (have H2_ := (Option.bind_some _ _).symm.trans H; with_reducible exact H2_) | with_reducible exact H | (rw [hy462]; exact H) | exact H
             have Ny462 := xy hy462
             clear hy462
             have H' := xy H
             clear H
             obtain ⟨Ao29, co29, eo29⟩ := Kd.R_slice HO_5.out
             subst eo29
             try go_wp2
             replace HO_5 := xy (Kd.R_drew HO_5.out)
             replace HO_7 := xy (Kd.R_drew HO_7.out)
             replace BK439 := xy (blk_drew BK439.out)
             replace HB := xy (below_drew1 HB.out)
             have p450 : 0 ≤ (x6_1 : Int) := xi
             have q450 : x6_1 < (l1.length : Int) := xi
             obtain ⟨ad450, e450, hx450_0, hx450_1, hx450_2, hx450_3⟩ := at_T74 HR1.out x6_1 p450 q450
             have hw450_3 := hx450_3
             have hw450_2 := hx450_2
             have hw450_1 := hx450_1
             have hw450_0 := hx450_0
             cases e450
             replace hx450_0 := (HB.out.cell (World.block_lt_of_cell? w _ hx450_0)).trans hx450_0
             replace hx450_1 := (HB.out.cell (World.block_lt_of_cell? w _ hx450_1)).trans hx450_1
             replace hx450_2 := (HB.out.cell (World.block_lt_of_cell? w _ hx450_2)).trans hx450_2
             replace hx450_3 := (HB.out.cell (World.block_lt_of_cell? w _ hx450_3)).trans hx450_3
             replace p450 := eq_true p450
             replace q450 := eq_true q450
             have p451 : 0 ≤ (x9_2 : Int) := xi
             have q451 : x9_2 < (x5_1.length : Int) := xi
             obtain ⟨ad451, e451, hx451_0, hx451_1, hx451_2, hx451_3⟩ := at_T74 (Kd.R_reads' HO_5.out).2.2 x9_2 p451 q451
             cases e451
             replace p451 := eq_true p451
             replace q451 := eq_true q451
             refine start_ (n := 16) (S := fun w' => w'.cell? ⟨gb439, 0, none⟩ = some (.bool a0_0) ∧ w'.cell? ⟨gb439, 1, none⟩ = some (.slice A0_1 l0_1.length c0_1) ∧ w'.cell? ⟨gb439, 2, none⟩ = some (.slice A0_2 l0_2.length c0_2) ∧ w'.cell? ⟨gb439, 3, none⟩ = some (.slice A0_3 l0_3.length c0_3) ∧ w'.cell? ⟨gb439, 4, none⟩ = some (.int .i64 a0_4) ∧ w'.cell? ⟨gb439, 5, none⟩ = some (.slice A0_5 l0_5.length c0_5) ∧ w'.cell? ⟨gb439, 6, none⟩ = some (.bool a0_6) ∧ w'.cell? ⟨gb439, 7, none⟩ = some (.int .i64 a0_7) ∧ w'.cell? ⟨gb439, 8, none⟩ = some (.string a0_8) ∧ w'.cell? ⟨gb439, 9, none⟩ = some (.bool a0_9) ∧ w'.cell? ⟨gb439, 10, none⟩ = some (.int .i64 a0_10) ∧ w'.cell? ⟨gb439, 11, none⟩ = some (.bool a0_11) ∧ w'.cell? ⟨gb439, 12, none⟩ = some (.bool a0_12) ∧ w'.cell? ⟨gb439, 13, none⟩ = some (.int .i64 a0_13) ∧ w'.cell? (ad450.add ((x6_1).toNat * 4)) = some (.string ((rd_T74 l1 x6_1).f0)) ∧ w'.cell? ⟨(ad450.add ((x6_1).toNat * 4)).block, (ad450.add ((x6_1).toNat * 4)).off + 1, none⟩ = some (.bool ((rd_T74 l1 x6_1).f1.f0)) ∧ w'.cell? ⟨(ad450.add ((x6_1).toNat * 4)).block, (ad450.add ((x6_1).toNat * 4)).off + 2, none⟩ = some (.int .i64 ((rd_T74 l1 x6_1).f1.f1)) ∧ w'.cell? ⟨(ad450.add ((x6_1).toNat * 4)).block, (ad450.add ((x6_1).toNat * 4)).off + 3, none⟩ = some (.string ((rd_T74 l1 x6_1).f1.f2)) ∧ w'.cell? (ad451.add ((x9_2).toNat * 4)) = some (.string ((rd_T74 x5_1 x9_2).f0)) ∧ w'.cell? ⟨(ad451.add ((x9_2).toNat * 4)).block, (ad451.add ((x9_2).toNat * 4)).off + 1, none⟩ = some (.bool ((rd_T74 x5_1 x9_2).f1.f0)) ∧ w'.cell? ⟨(ad451.add ((x9_2).toNat * 4)).block, (ad451.add ((x9_2).toNat * 4)).off + 2, none⟩ = some (.int .i64 ((rd_T74 x5_1 x9_2).f1.f1)) ∧ w'.cell? ⟨(ad451.add ((x9_2).toNat * 4)).block, (ad451.add ((x9_2).toNat * 4)).off + 3, none⟩ = some (.string ((rd_T74 x5_1 x9_2).f1.f2))) (ds := []) #[false, false, false, false, false, false, false, false, false, false, false, false, false, false, false, false] (by kernel_rfl) rfl rfl ⟨(kc BK439.out 0).trans rfl, (kc BK439.out 1).trans rfl, (kc BK439.out 2).trans rfl, (kc BK439.out 3).trans rfl, (kc BK439.out 4).trans rfl, (kc BK439.out 5).trans rfl, (kc BK439.out 6).trans rfl, (kc BK439.out 7).trans rfl, (kc BK439.out 8).trans rfl, (kc BK439.out 9).trans rfl, (kc BK439.out 10).trans rfl, (kc BK439.out 11).trans rfl, (kc BK439.out 12).trans rfl, (kc BK439.out 13).trans rfl, ((HB.out.cell (World.block_lt_of_cell? w _ hw450_0)).trans hw450_0), ((HB.out.cell (World.block_lt_of_cell? w _ hw450_1)).trans hw450_1), ((HB.out.cell (World.block_lt_of_cell? w _ hw450_2)).trans hw450_2), ((HB.out.cell (World.block_lt_of_cell? w _ hw450_3)).trans hw450_3), hx451_0, hx451_1, hx451_2, hx451_3⟩ (fun hHeld => ?_); refine with_tabW r19_Sort.tab10 r19_Sort.bits10 (fun HT_ HW_ => ?_)
             generalize wr.drew = w30 at HO_5 HO_7 BK439 HB hx450_0 hx450_1 hx450_2 hx450_3 hx451_0 hx451_1 hx451_2 hx451_3 hHeld ⊢
             refine yz 0 (some 24) (bs 16 1) HT_.out (h := ?_)
             refine yz 1 (some 25) (bs 16 3) HT_.out (h := ?_)
             refine yz 2 (some 26) (bs 16 7) HT_.out (h := ?_)
             refine yz 4 (some 28) (bs 16 23) HT_.out (h := ?_)
             refine yz 5 (some 29) (bs 16 55) HT_.out (h := ?_)
             refine yz 6 (some 30) (bs 16 119) HT_.out (h := ?_)
             refine yz 7 (some 31) (bs 16 247) HT_.out (h := ?_)
             refine yz 9 (some 33) (bs 16 759) HT_.out (h := ?_)
             refine yz 10 (some 34) (bs 16 1783) HT_.out (h := ?_)
             refine yz 11 (some 35) (bs 16 3831) HT_.out (h := ?_)
             refine yz 12 (some 36) (bs 16 7927) HT_.out (h := ?_)
             refine yt 3 (some 27) (bs 16 7935) HT_.out HW_.out hHeld (h := ?_)
             refine yt 8 (some 32) (bs 16 8191) HT_.out HW_.out hHeld (h := ?_)
             refine yt 13 (some 37) (bs 16 16383) HT_.out HW_.out hHeld (h := ?_)
             refine one_ (i := 14) (N := some 38) #[true, true, true, true, true, true, true, true, true, true, true, true, true, true, true, false] rfl rfl (one_of HT_.out (by kernel_rfl)) (by decide) (fun K hK => ?_)
             refine goes_ Tryz.func34 (by kernel_rfl) rfl #[.agg #[.bool a0_0, .slice A0_1 l0_1.length c0_1, .slice A0_2 l0_2.length c0_2, .slice A0_3 l0_3.length c0_3, .int .i64 a0_4, .slice A0_5 l0_5.length c0_5, .bool a0_6, .int .i64 a0_7, .string a0_8, .bool a0_9, .int .i64 a0_10, .bool a0_11, .bool a0_12, .int .i64 a0_13], .string ((rd_T74 l1 x6_1).f0), .string ((rd_T74 x5_1 x9_2).f0)] (by rfl) rfl rfl xr ?_
             with_reducible refine (r17_Ahead.calls k2 a0_0 _ _ l0_1 _ _ l0_2 _ _ l0_3 a0_4 _ _ l0_5 a0_6 a0_7 a0_8 a0_9 a0_10 a0_11 a0_12 a0_13 ((rd_T74 l1 x6_1).f0) ((rd_T74 x5_1 x9_2).f0) false _ (Tabs.below hT xf) ?side1 ?side2 ?side3 ?side4 ?side5 ?side6 ?side7 ?side8 A19.out).mono ?_
             (case side1 => exact Kd.C_below HR0_1.out xb)
             (case side2 => exact HC0_1.out)
             (case side3 => exact Kd.C_below HR0_2.out xb)
             (case side4 => exact HC0_2.out)
             (case side5 => exact Kd.C_below HR0_3.out xb)
             (case side6 => exact HC0_3.out)
             (case side7 => exact Kd.C_below HR0_5.out xb)
             (case side8 => exact HC0_5.out)
             rintro e w31 ⟨rfl, hb⟩
             have HS18_ := (hb.cell (World.block_lt_of_cell? _ _ (hHeld.2.2.2.2.2.2.2.2.2.2.2.2.2.2.2.2.2.2.1))).trans (hHeld.2.2.2.2.2.2.2.2.2.2.2.2.2.2.2.2.2.2.1)
             have HS19_ := (hb.cell (World.block_lt_of_cell? _ _ (hHeld.2.2.2.2.2.2.2.2.2.2.2.2.2.2.2.2.2.2.2.1))).trans (hHeld.2.2.2.2.2.2.2.2.2.2.2.2.2.2.2.2.2.2.2.1)
             have HS20_ := (hb.cell (World.block_lt_of_cell? _ _ (hHeld.2.2.2.2.2.2.2.2.2.2.2.2.2.2.2.2.2.2.2.2.1))).trans (hHeld.2.2.2.2.2.2.2.2.2.2.2.2.2.2.2.2.2.2.2.2.1)
             have HS21_ := (hb.cell (World.block_lt_of_cell? _ _ (hHeld.2.2.2.2.2.2.2.2.2.2.2.2.2.2.2.2.2.2.2.2.2))).trans (hHeld.2.2.2.2.2.2.2.2.2.2.2.2.2.2.2.2.2.2.2.2.2)
             refine ⟨_, rfl, ?_⟩
             replace HO_5 := xy (Kd.R_below (xo HO_5.out) hb)
             replace HO_7 := xy (Kd.R_below (xo HO_7.out) hb)
             replace BK439 := xd BK439.out hb
             replace HB := xy (below_step xb hb)
             (try clear hb)
             (try clear hb2)
             (try clear hk)
             (try clear hi)
             refine hK.out _ _ ⟨(kc BK439.out 0).trans rfl, (kc BK439.out 1).trans rfl, (kc BK439.out 2).trans rfl, (kc BK439.out 3).trans rfl, (kc BK439.out 4).trans rfl, (kc BK439.out 5).trans rfl, (kc BK439.out 6).trans rfl, (kc BK439.out 7).trans rfl, (kc BK439.out 8).trans rfl, (kc BK439.out 9).trans rfl, (kc BK439.out 10).trans rfl, (kc BK439.out 11).trans rfl, (kc BK439.out 12).trans rfl, (kc BK439.out 13).trans rfl, ((HB.out.cell (World.block_lt_of_cell? w _ hw450_0)).trans hw450_0), ((HB.out.cell (World.block_lt_of_cell? w _ hw450_1)).trans hw450_1), ((HB.out.cell (World.block_lt_of_cell? w _ hw450_2)).trans hw450_2), ((HB.out.cell (World.block_lt_of_cell? w _ hw450_3)).trans hw450_3), HS18_, HS19_, HS20_, HS21_⟩ (fun hHeld => ?_)
             clear hK K
             refine norm_ (a' := ?_) ?_ ?_
             rotate_left
             ·show Act.put _ (some 38) _ = _
              simp only [Act.put, List.setIfInBounds_toArray, List.set_cons_zero, List.set_cons_succ, i64_w, i32_w]
              rfl
             refine yz 15 (some 39) (bs 16 65535) HT_.out (h := ?_)
             refine done_ (done_of HT_.out (by kernel_rfl)) ?_
             have p461 : 0 ≤ (x9_2 : Int) := xi
             have q461 : x9_2 < (x5_1.length : Int) := xi
             obtain ⟨ad461, e461, hx461_0, hx461_1, hx461_2, hx461_3⟩ := at_T74 (Kd.R_reads' HO_5.out).2.2 x9_2 p461 q461
             obtain rfl : ad451 = ad461 := (by injection e461)
             replace p461 := eq_true p461
             replace q461 := eq_true q461
             try go_wp2_with (((with_reducible refine gate_builtin (b := .append) (xs := #[.tmp 47, .tmp 52]) rfl ?_); at_builtin; refine Kd.R_append k74 (w0 := w) w.heap.size rfl (.tmp 47) (.tmp 52) 34 74 (.agg #[(.string ⟨#[]⟩), (.bool false), (.int .i64 0), (.string ⟨#[]⟩)]) 48 rfl Tryz.underlying34 info74 rfl (by decide) (by omega) u7 x7_2 (⟨(rd_T74 x5_1 x9_2).f0, (⟨(rd_T74 x5_1 x9_2).f1.f0, (rd_T74 x5_1 x9_2).f1.f1, (rd_T74 x5_1 x9_2).f1.f2⟩ : S24)⟩ : S74) [.string ((rd_T74 x5_1 x9_2).f0), .bool ((rd_T74 x5_1 x9_2).f1.f0), .int .i64 ((rd_T74 x5_1 x9_2).f1.f1), .string ((rd_T74 x5_1 x9_2).f1.f2)] (fun k_ => some k_ ≠ (.slice (some ad451) x5_1.length co29 : Value).ownBlock) (fun _ => False) rfl rfl ?aP (fun _ hk => hk.elim) ?aF ?aO ?aB ?aS ?aL ?_; (case aP => exact k74_mkM _ _ _ (⟨(rd_T74 x5_1 x9_2).f0, (⟨(rd_T74 x5_1 x9_2).f1.f0, (rd_T74 x5_1 x9_2).f1.f1, (rd_T74 x5_1 x9_2).f1.f2⟩ : S24)⟩ : S74)); (case aB => exact xb); (case aF => exact (fun k_ hk => Kd.fresh' (Kd.R_lt (xo HO_5.out)) k_ hk)); (case aO => exact (xo HO_7.out)); (case aS => exact (below_size xb)); (case aL => have := LMc28.out; omega); intro v463 w32 ho hb hg hat; rw [← Ny462.out] at ho; replace HO_5 := xy (Kd.R_after (ok := (fun _ => True)) (by (with_reducible repeat (first | apply Kd.R_alloc | apply Kd.R_drewN | apply Kd.R_drew)); exact Kd.R_mono HO_5.out (fun _ hk => ⟨trivial, hk⟩)) hg hat); replace BK439 := xy (blk_grown (g := gb439) (o := .cells #[.bool a0_0, .slice A0_1 l0_1.length c0_1, .slice A0_2 l0_2.length c0_2, .slice A0_3 l0_3.length c0_3, .int .i64 a0_4, .slice A0_5 l0_5.length c0_5, .bool a0_6, .int .i64 a0_7, .string a0_8, .bool a0_9, .int .i64 a0_10, .bool a0_11, .bool a0_12, .int .i64 a0_13] 45 (0, 0)) (xk BK439.out) hg (Kd.R_ne HO_7.out BK439.out (by decide))); replace HB := xy (hb); have HO464 := xy (ho); clear HO_7; clear ho hb hg hat))
             go_roundg k2
             case measure => have := HK1.out; have := HK2.out; omega
             case rel => exact ⟨(y462), (false), (wrap64 (x9_2 + 1)), xg, xg, H', ⟨by have := HK1.out; have := HK2.out; omega⟩, ⟨by (with_reducible repeat (first | apply Kd.R_alloc | apply Kd.R_drewN | apply Kd.R_drew)); exact Kd.R_mono HO_5.out (fun _ hk => hk.2)⟩, ⟨by (with_reducible repeat (first | apply Kd.R_alloc | apply Kd.R_drewN | apply Kd.R_drew)); exact HO464.out⟩, ⟨by (with_reducible repeat (first | refine blk_drewN ?_ _ | refine blk_drew ?_ | refine blk_alloc ?_ _)); exact BK439.out⟩, ⟨xb⟩⟩
            ·rw [if_neg c28] at H
             exact absurd H (by simp)
          ·rw [if_neg c18] at H
           exact absurd H (by simp)
         ·rw [if_neg c17] at H
          exact absurd H (by simp)
        ·rw [if_neg c16] at H
         exact absurd H (by simp)
      ·rw [if_neg c9] at H
       have c9b0 : decide (x9_2 < (x5_1.length : Int)) = false := decide_eq_false c9
       clear c9
       by_cases c33 : x8_2 = true
       ·subst c33
        rw [if_pos rfl] at H
        have H' := xy H
        clear H
        obtain ⟨Ao34, co34, eo34⟩ := Kd.R_slice HO_5.out
        subst eo34
        go_wp2
        go_roundg k2
        case measure => have := HK1.out; have := HK2.out; omega
        case rel => exact ⟨(x7_2), (wrap64 (x6_1 + 1)), xg, H', ⟨by have := HK1.out; have := HK2.out; omega⟩, ⟨by (with_reducible repeat (first | apply Kd.R_alloc | apply Kd.R_drewN | apply Kd.R_drew)); exact Kd.R_mono HO_7.out (fun _ hk => trivial)⟩, ⟨by (with_reducible repeat (first | refine blk_drewN ?_ _ | refine blk_drew ?_ | refine blk_alloc ?_ _)); exact BK439.out⟩, ⟨xb⟩⟩
       ·replace c33 := Bool.eq_false_iff.mpr c33
        subst c33
        rw [if_neg (show ¬ (false = true) by decide)] at H
        by_cases c35 : 0 ≤ x6_1
        ·rw [if_pos c35] at H
         have c35b0 : decide (0 ≤ x6_1) = true := decide_eq_true c35
         clear c35
         by_cases c36 : x6_1 < (l1.length : Int)
         ·rw [if_pos c36] at H
          have c36b0 : decide (x6_1 < (l1.length : Int)) = true := decide_eq_true c36
          clear c36
          by_cases c37 : x7_2.length < 2932031007402
          ·rw [if_pos c37] at H
           have LMc37 := xy c37
           clear c37
           obtain ⟨y466, hy466⟩ : ∃ y_ : List (S74), y_ = (x7_2 ++ [(⟨(rd_T74 l1 x6_1).f0, (⟨(rd_T74 l1 x6_1).f1.f0, (rd_T74 l1 x6_1).f1.f1, (rd_T74 l1 x6_1).f1.f2⟩ : S24)⟩ : S74)]) := ⟨_, rfl⟩
           replace H : (r19_Sort.l0 k2 l1 y466 (wrap64 (x6_1 + 1)) a0_0 l0_1 l0_2 l0_3 a0_4 l0_5 a0_6 a0_7 a0_8 a0_9 a0_10 a0_11 a0_12 a0_13) = some r := by first | (rw [hy466]; with_reducible exact H) | (have H2_ := (Option.bind_some _ _).symm.trans H; rw [hy466]; with_reducible exact H2_) | (have H2_ := (Option.bind_some _ _).symm.trans H; with_reducible exact H2_) | with_reducible exact H | (rw [hy466]; exact H) | exact H
           have Ny466 := xy hy466
           clear hy466
           have H' := xy H
           clear H
           obtain ⟨Ao38, co38, eo38⟩ := Kd.R_slice HO_5.out
           subst eo38
           have p465 : 0 ≤ (x6_1 : Int) := xi
           have q465 : x6_1 < (l1.length : Int) := xi
           obtain ⟨ad465, e465, hx465_0, hx465_1, hx465_2, hx465_3⟩ := at_T74 HR1.out x6_1 p465 q465
           cases e465
           replace hx465_0 := (HB.out.cell (World.block_lt_of_cell? w _ hx465_0)).trans hx465_0
           replace hx465_1 := (HB.out.cell (World.block_lt_of_cell? w _ hx465_1)).trans hx465_1
           replace hx465_2 := (HB.out.cell (World.block_lt_of_cell? w _ hx465_2)).trans hx465_2
           replace hx465_3 := (HB.out.cell (World.block_lt_of_cell? w _ hx465_3)).trans hx465_3
           replace p465 := eq_true p465
           replace q465 := eq_true q465
           go_wp2_with (((with_reducible refine gate_builtin (b := .append) (xs := #[.tmp 56, .tmp 61]) rfl ?_); at_builtin; refine Kd.R_append k74 (w0 := w) w.heap.size rfl (.tmp 56) (.tmp 61) 34 74 (.agg #[(.string ⟨#[]⟩), (.bool false), (.int .i64 0), (.string ⟨#[]⟩)]) 48 rfl Tryz.underlying34 info74 rfl (by decide) (by omega) u7 x7_2 (⟨(rd_T74 l1 x6_1).f0, (⟨(rd_T74 l1 x6_1).f1.f0, (rd_T74 l1 x6_1).f1.f1, (rd_T74 l1 x6_1).f1.f2⟩ : S24)⟩ : S74) [.string ((rd_T74 l1 x6_1).f0), .bool ((rd_T74 l1 x6_1).f1.f0), .int .i64 ((rd_T74 l1 x6_1).f1.f1), .string ((rd_T74 l1 x6_1).f1.f2)] (fun k_ => some k_ ≠ (.slice Ao38 x5_1.length co38 : Value).ownBlock) (fun _ => False) rfl rfl ?aP (fun _ hk => hk.elim) ?aF ?aO ?aB ?aS ?aL ?_; (case aP => exact k74_mkM _ _ _ (⟨(rd_T74 l1 x6_1).f0, (⟨(rd_T74 l1 x6_1).f1.f0, (rd_T74 l1 x6_1).f1.f1, (rd_T74 l1 x6_1).f1.f2⟩ : S24)⟩ : S74)); (case aB => exact xb); (case aF => exact (fun k_ hk => Kd.fresh' (Kd.R_lt (xo HO_5.out)) k_ hk)); (case aO => exact (xo HO_7.out)); (case aS => exact (below_size xb)); (case aL => have := LMc37.out; omega); intro v467 w39 ho hb hg hat; rw [← Ny466.out] at ho; replace HO_5 := xy (Kd.R_after (ok := (fun _ => True)) (by (with_reducible repeat (first | apply Kd.R_alloc | apply Kd.R_drewN | apply Kd.R_drew)); exact Kd.R_mono HO_5.out (fun _ hk => ⟨trivial, hk⟩)) hg hat); replace BK439 := xy (blk_grown (g := gb439) (o := .cells #[.bool a0_0, .slice A0_1 l0_1.length c0_1, .slice A0_2 l0_2.length c0_2, .slice A0_3 l0_3.length c0_3, .int .i64 a0_4, .slice A0_5 l0_5.length c0_5, .bool a0_6, .int .i64 a0_7, .string a0_8, .bool a0_9, .int .i64 a0_10, .bool a0_11, .bool a0_12, .int .i64 a0_13] 45 (0, 0)) (xk BK439.out) hg (Kd.R_ne HO_7.out BK439.out (by decide))); replace HB := xy (hb); have HO468 := xy (ho); clear HO_7; clear ho hb hg hat))
           go_roundg k2
           case measure => have := HK1.out; have := HK2.out; omega
           case rel => exact ⟨(y466), (wrap64 (x6_1 + 1)), xg, H', ⟨by have := HK1.out; have := HK2.out; omega⟩, ⟨by (with_reducible repeat (first | apply Kd.R_alloc | apply Kd.R_drewN | apply Kd.R_drew)); exact Kd.R_mono HO468.out (fun _ hk => trivial)⟩, ⟨by (with_reducible repeat (first | refine blk_drewN ?_ _ | refine blk_drew ?_ | refine blk_alloc ?_ _)); exact BK439.out⟩, ⟨xb⟩⟩
          ·rw [if_neg c37] at H
           exact absurd H (by simp)
         ·rw [if_neg c36] at H
          exact absurd H (by simp)
        ·rw [if_neg c35] at H
         exact absurd H (by simp)
   ·rw [if_neg c6] at H
    have c6b0 : decide (x6_1 < (l1.length : Int)) = false := decide_eq_false c6
    clear c6
    obtain rfl := Option.some.inj H
    go_wp2
    go_ret
    exact ⟨_, by first | rfl | (simp [errW_none, errW_some] <;> rfl) | (simp [*, errW_none, errW_some] <;> rfl), by (with_reducible repeat (first | apply Kd.R_alloc | apply Kd.R_drewN | apply Kd.R_drew)); exact HO_5.out, xb⟩
end Go.Proofs.YtebofnoljebakaaGreatDoor.PX
