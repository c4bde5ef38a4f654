/- Walked functions, by this session's program over the kit's print. -/
import Derived.Test.YtebofnoljebakaaGreatDoorXSC
import Derived.Test.YtebofnoljebakaaGreatDoorXSD
import Derived.Test.YtebofnoljebakaaGreatDoorPXx0
import Derived.Test.YtebofnoljebakaaGreatDoorPXx2
import Derived.Test.YtebofnoljebakaaGreatDoorPXx3
import Derived.Test.YtebofnoljebakaaGreatDoorPXx4
import Derived.Test.YtebofnoljebakaaGreatDoorPXx6
namespace Go.Proofs.YtebofnoljebakaaGreatDoor.PX
open Go.RowKit Go.Proofs.YtebofnoljebakaaGreatDoorW.PrintWords Go.Proofs.YtebofnoljebakaaGreatDoorW.PrintLast Go.Proofs.YtebofnoljebakaaGreatDoorW.PrintMore
attribute [local go_sem] xm_gtr max2_int min2_int max_two min_two max_three min_three max_four min_four
set_option linter.unusedVariables false
set_option linter.unusedSimpArgs false
/- Walked functions, by this session's program over the kit's print. -/
def job_written.f (k : Nat) (a0 : ByteArray) : Option (Int) := (value_Text.f a0).bind fun bt287 => ((value_Do.f k 18 (([(⟨bt287.1, bt287.2.1, bt287.2.2⟩ : S24)] : List (S24)))).bind fun bt293 => (some bt293.2.1))
theorem job_written.mono : ∀ a0 k, LeO (job_written.f k a0) (job_written.f (k + 1) a0) := by
 intro a0 k
 unfold job_written.f
 repeat' (with_reducible first | exact value_Do.mono _ _ _ | exact LeO.refl _ | exact LeO.none _ | refine LeO.ite ?_ ?_ | refine LeO.bind ?_ (fun _ => ?_))
set_option maxHeartbeats 8000000 in
set_option maxRecDepth 100000 in
theorem job_written.calls (k : Nat) (a0 : ByteArray) (r : Int) (w : World) (hT : Tabs w) (h : job_written.f k a0 = some r) :
  Calls Tryz.prog 44 #[.string a0] w fun e w' => e = .returned (.int .i64 r) ∧ Below w.heap.size w w' := by
 have hu24 := Tryz.underlying24
 have HB := xy (Below.refl w.heap.size w)
 unfold job_written.f at h
 have H := h
 clear h
 replace H := xj H
 obtain ⟨⟨t287, t288, t289⟩, A20, H⟩ := H
 try dsimp only at H
 have A2 := xy A20
 clear A20
 obtain ⟨y290, hy290⟩ : ∃ y_ : List (S24), y_ = (([(⟨t287, t288, t289⟩ : S24)] : List (S24))) := ⟨_, rfl⟩
 replace H : ((value_Do.f k 18 y290).bind fun bt293 => (some bt293.2.1)) = some r := by first | (rw [hy290]; with_reducible exact H) | (have H2_ := (Option.bind_some _ _).symm.trans H; rw [hy290]; with_reducible exact H2_) | (have H2_ := (Option.bind_some _ _).symm.trans H; with_reducible exact H2_) | with_reducible exact H | (rw [hy290]; exact H) | exact H
 have Ny290 := xy hy290
 clear hy290
 replace H := xj H
 obtain ⟨⟨t293, t294, t295, t296⟩, A30, H⟩ := H
 try dsimp only at H
 have A3 := xy A30
 clear A30
 obtain rfl := Option.some.inj H
 go_enter Tryz.func44, Tryz.ntmps44
 go_wp2_with (first | ((with_reducible refine gate_callee (f := 52) rfl ?_); refine goesL_ (some 7) rfl rfl Tryz.func52 (by kernel_rfl) rfl #[.string a0] rfl xr ?_; (with_reducible refine (value_Text.calls a0 t287 t288 t289 _ (Tabs.below hT xf) A2.out).mono ?_); rintro e w4 ⟨rfl, hb⟩; refine ⟨_, rfl, ?_⟩; replace HB := xy (below_step xb hb); (try clear hb); (try clear hb2); (try clear hk); (try clear hi)) | ((with_reducible refine gate_dst (N := 8) rfl ?_); refine Kd.R_lit k24 _ 24 ?hg (N := 8) ?hd (xs := ([(⟨t287, t288, t289⟩ : S24)] : List (S24))) (inner := [.bool t287, .int .i64 t288, .string t289]) (ok := fun _ => True) (okp := fun _ => True) ?hr ?hp (fun _ hk => hk) trivial (Below.refl _ _) (Nat.le_refl _) (by simp) ?_; (case hd => rfl); (case hg => rfl); (case hr => exact xh); (case hp => exact (Reps.c3 (show Kd.M k24 _ _ _ (⟨t287, t288, t289⟩ : S24) [.bool t287, .int .i64 t288, .string t289] from (k24_mkM _ _ _ (⟨t287, t288, t289⟩ : S24) )) (Reps.none _ _))); intro v291 w5 ho6 hb hg_ hnew_; clear hg_ hnew_; (first | rw [← Ny290.out] at ho6 | (simp only [Int.reduceToNat] at ho6; rw [← Ny290.out] at ho6)); have HO292 := xy (Kd.R_lower ho6 (below_size xb)); replace HB := xy (below_step xb hb); clear hb ho6; obtain ⟨Ao7, co7, eo7⟩ := Kd.R_slice HO292.out; subst eo7) | ((with_reducible refine gate_callee (f := 51) rfl ?_); refine goesL_ (some 9) rfl rfl Tryz.func51 (by kernel_rfl) rfl #[.int .i64 18, .slice Ao7 y290.length co7] rfl xr ?_; (with_reducible refine (value_Do.calls k 18 _ _ y290 t293 t294 t295 t296 _ (Tabs.below hT xf) ?side1 ?side2 A3.out).mono ?_); (case side1 => repeat (first | exact (Kd.R_reads' HO292.out).2.2 | (with_reducible refine Kd.C_alloc ?_ _) | (with_reducible refine Kd.C_drewN ?_ _) | (with_reducible refine Kd.C_drew ?_))); (case side2 => exact (Kd.R_reads' HO292.out).2.1); rintro e w8 ⟨rfl, hb⟩; refine ⟨_, rfl, ?_⟩; replace HO292 := xy (Kd.R_below (xo HO292.out) hb); replace HB := xy (below_step xb hb); (try clear hb); (try clear hb2); (try clear hk); (try clear hi)) | ((with_reducible refine gate_dst (N := 3) rfl ?_); refine xq (N := 3) (cs := #[.bool false, .int .i64 0, .string (⟨#[]⟩ : ByteArray)]) (t := 24) ?_; intro gb297 hg w9 hbox hb; replace HO292 := xy (Kd.R_below (Kd.R_elderB (xo HO292.out) gb297 (Nat.le_of_eq hg.symm)) hb); have BK297 := xy (hbox); have GW297 := xs w hg; have GE297 := xs w hg; replace HB := xy (below_step xb hb); clear hb hbox hg; have hcz10_0 : w9.cell? ⟨gb297, 0, none⟩ = some (.bool false) := (kc BK297.out 0).trans rfl; have hcz10_1 : w9.cell? ⟨gb297, 1, none⟩ = some (.int .i64 0) := (kc BK297.out 1).trans rfl; have hcz10_2 : w9.cell? ⟨gb297, 2, none⟩ = some (.string (⟨#[]⟩ : ByteArray)) := (kc BK297.out 2).trans rfl; have hfz10_0 := kf BK297.out 0; have hfz10_1 := kf BK297.out 1; have hfz10_2 := kf BK297.out 2))
 go_ret
 exact ⟨xe, xb⟩
def job_Ahead.j0 : Nat → ByteArray → ByteArray → Bool → List (S81) → List (S81) → List (S81) → Int → List (S81) → Bool → Int → ByteArray → Bool → Int → Bool → Bool → Int → Option (Bool)
 | 0, _, _, _, _, _, _, _, _, _, _, _, _, _, _, _, _ => none
 | k + 1, x1, x2, x299000, x299001, x299002, x299003, x299004, x299005, x299006, x299007, x299008, x299009, x299010, x299011, x299012, x299013 => if x299012 = true then ((job_written.f k x1).bind fun t299 => ((job_written.f k x2).bind fun t300 => ((cmp_Compare_int.f t299 t300).bind fun t301 => ((cmp_Compare_string.f x1 x2).bind fun t302 => ((cmp_Or_int.f k (([t301, t302] : List Int))).bind fun t306 => (some (decide (t306 < 0)))))))) else ((cmp_Compare_string.f x1 x2).bind fun t307 => ((cmp_Or_int.f k (([0, t307] : List Int))).bind fun t311 => (some (decide (t311 < 0)))))
def job_Ahead.f (k : Nat) (a0_0 : Bool) (l0_1 : List (S81)) (l0_2 : List (S81)) (l0_3 : List (S81)) (a0_4 : Int) (l0_5 : List (S81)) (a0_6 : Bool) (a0_7 : Int) (a0_8 : ByteArray) (a0_9 : Bool) (a0_10 : Int) (a0_11 : Bool) (a0_12 : Bool) (a0_13 : Int) (a1 : ByteArray) (a2 : ByteArray) : Option (Bool) := if a0_11 = true then (job_Ahead.j0 k a2 a1 a0_0 l0_1 l0_2 l0_3 a0_4 l0_5 a0_6 a0_7 a0_8 a0_9 a0_10 a0_11 a0_12 a0_13) else (job_Ahead.j0 k a1 a2 a0_0 l0_1 l0_2 l0_3 a0_4 l0_5 a0_6 a0_7 a0_8 a0_9 a0_10 a0_11 a0_12 a0_13)
theorem job_Ahead.mono_l : ∀ k, (∀ y0 y1 y2 y3 y4 y5 y6 y7 y8 y9 y10 y11 y12 y13 y14 y15, LeO (job_Ahead.j0 k y0 y1 y2 y3 y4 y5 y6 y7 y8 y9 y10 y11 y12 y13 y14 y15) (job_Ahead.j0 (k + 1) y0 y1 y2 y3 y4 y5 y6 y7 y8 y9 y10 y11 y12 y13 y14 y15))
 | 0 => fun _ _ _ _ _ _ _ _ _ _ _ _ _ _ _ _ r h => by simp [job_Ahead.j0] at h
 | k + 1 => by
  have ih0 := job_Ahead.mono_l k
  ·intro y0 y1 y2 y3 y4 y5 y6 y7 y8 y9 y10 y11 y12 y13 y14 y15
   unfold job_Ahead.j0
   repeat' (with_reducible first | exact ih0 _ _ _ _ _ _ _ _ _ _ _ _ _ _ _ _ | exact cmp_Or_int.mono _ _ | exact job_written.mono _ _ | exact LeO.refl _ | exact LeO.none _ | refine LeO.ite ?_ ?_ | refine LeO.bind ?_ (fun _ => ?_))
theorem job_Ahead.mono : ∀ a0 a1 a2 a3 a4 a5 a6 a7 a8 a9 a10 a11 a12 a13 a14 a15 k, LeO (job_Ahead.f k a0 a1 a2 a3 a4 a5 a6 a7 a8 a9 a10 a11 a12 a13 a14 a15) (job_Ahead.f (k + 1) a0 a1 a2 a3 a4 a5 a6 a7 a8 a9 a10 a11 a12 a13 a14 a15) := by
 intro a0 a1 a2 a3 a4 a5 a6 a7 a8 a9 a10 a11 a12 a13 a14 a15 k
 have ih0 := job_Ahead.mono_l k
 unfold job_Ahead.f
 repeat' (with_reducible first | exact ih0 _ _ _ _ _ _ _ _ _ _ _ _ _ _ _ _ | exact cmp_Or_int.mono _ _ | exact job_written.mono _ _ | exact LeO.refl _ | exact LeO.none _ | refine LeO.ite ?_ ?_ | refine LeO.bind ?_ (fun _ => ?_))
set_option maxHeartbeats 8000000 in
set_option maxRecDepth 100000 in
theorem job_Ahead.calls (k : Nat) (a0_0 : Bool) (A0_1 : Option Addr) (c0_1 : Nat) (l0_1 : List (S81)) (A0_2 : Option Addr) (c0_2 : Nat) (l0_2 : List (S81)) (A0_3 : Option Addr) (c0_3 : Nat) (l0_3 : List (S81)) (a0_4 : Int) (A0_5 : Option Addr) (c0_5 : Nat) (l0_5 : List (S81)) (a0_6 : Bool) (a0_7 : Int) (a0_8 : ByteArray) (a0_9 : Bool) (a0_10 : Int) (a0_11 : Bool) (a0_12 : Bool) (a0_13 : Int) (a1 : ByteArray) (a2 : ByteArray) (r : Bool) (w : World) (hT : Tabs w) (hr0_1 : Kd.C k81 w A0_1 l0_1.length l0_1) (hc0_1 : l0_1.length ≤ c0_1) (hr0_2 : Kd.C k81 w A0_2 l0_2.length l0_2) (hc0_2 : l0_2.length ≤ c0_2) (hr0_3 : Kd.C k81 w A0_3 l0_3.length l0_3) (hc0_3 : l0_3.length ≤ c0_3) (hr0_5 : Kd.C k81 w A0_5 l0_5.length l0_5) (hc0_5 : l0_5.length ≤ c0_5) (h : job_Ahead.f k a0_0 l0_1 l0_2 l0_3 a0_4 l0_5 a0_6 a0_7 a0_8 a0_9 a0_10 a0_11 a0_12 a0_13 a1 a2 = some r) :
  Calls Tryz.prog 39 #[.agg #[.bool a0_0, .slice A0_1 l0_1.length c0_1, .slice A0_2 l0_2.length c0_2, .slice A0_3 l0_3.length c0_3, .int .i64 a0_4, .slice A0_5 l0_5.length c0_5, .bool a0_6, .int .i64 a0_7, .string a0_8, .bool a0_9, .int .i64 a0_10, .bool a0_11, .bool a0_12, .int .i64 a0_13], .string a1, .string a2] w fun e w' => e = .returned (.bool r) ∧ Below w.heap.size w w' := by
 have hu26 := Tryz.underlying26
 have HR0_1 := xy hr0_1
 have HC0_1 := xy hc0_1
 clear hr0_1 hc0_1
 have HR0_2 := xy hr0_2
 have HC0_2 := xy hc0_2
 clear hr0_2 hc0_2
 have HR0_3 := xy hr0_3
 have HC0_3 := xy hc0_3
 clear hr0_3 hc0_3
 have HR0_5 := xy hr0_5
 have HC0_5 := xy hc0_5
 clear hr0_5 hc0_5
 have HB := xy (Below.refl w.heap.size w)
 unfold job_Ahead.f at h
 have H := h
 clear h
 have HC4 := xy H
 clear H
 go_enter Tryz.func39, Tryz.ntmps39
 go_upto_if 9 with (((with_reducible refine gate_dst (N := 3) rfl ?_); refine xq (N := 3) (cs := #[.bool a0_0, .slice A0_1 l0_1.length c0_1, .slice A0_2 l0_2.length c0_2, .slice A0_3 l0_3.length c0_3, .int .i64 a0_4, .slice A0_5 l0_5.length c0_5, .bool a0_6, .int .i64 a0_7, .string a0_8, .bool a0_9, .int .i64 a0_10, .bool a0_11, .bool a0_12, .int .i64 a0_13]) (t := 26) ?_; intro gb298 hg w5 hbox hb; have BK298 := xy (hbox); have GW298 := xs w hg; have GE298 := xs w hg; replace HB := xy (below_step xb hb); clear hb hbox hg; have hcz6_0 : w5.cell? ⟨gb298, 0, none⟩ = some (.bool a0_0) := (kc BK298.out 0).trans rfl; have hcz6_1 : w5.cell? ⟨gb298, 1, none⟩ = some (.slice A0_1 l0_1.length c0_1) := (kc BK298.out 1).trans rfl; have hcz6_2 : w5.cell? ⟨gb298, 2, none⟩ = some (.slice A0_2 l0_2.length c0_2) := (kc BK298.out 2).trans rfl; have hcz6_3 : w5.cell? ⟨gb298, 3, none⟩ = some (.slice A0_3 l0_3.length c0_3) := (kc BK298.out 3).trans rfl; have hcz6_4 : w5.cell? ⟨gb298, 4, none⟩ = some (.int .i64 a0_4) := (kc BK298.out 4).trans rfl; have hcz6_5 : w5.cell? ⟨gb298, 5, none⟩ = some (.slice A0_5 l0_5.length c0_5) := (kc BK298.out 5).trans rfl; have hcz6_6 : w5.cell? ⟨gb298, 6, none⟩ = some (.bool a0_6) := (kc BK298.out 6).trans rfl; have hcz6_7 : w5.cell? ⟨gb298, 7, none⟩ = some (.int .i64 a0_7) := (kc BK298.out 7).trans rfl; have hcz6_8 : w5.cell? ⟨gb298, 8, none⟩ = some (.string a0_8) := (kc BK298.out 8).trans rfl; have hcz6_9 : w5.cell? ⟨gb298, 9, none⟩ = some (.bool a0_9) := (kc BK298.out 9).trans rfl; have hcz6_10 : w5.cell? ⟨gb298, 10, none⟩ = some (.int .i64 a0_10) := (kc BK298.out 10).trans rfl; have hcz6_11 : w5.cell? ⟨gb298, 11, none⟩ = some (.bool a0_11) := (kc BK298.out 11).trans rfl; have hcz6_12 : w5.cell? ⟨gb298, 12, none⟩ = some (.bool a0_12) := (kc BK298.out 12).trans rfl; have hcz6_13 : w5.cell? ⟨gb298, 13, none⟩ = some (.int .i64 a0_13) := (kc BK298.out 13).trans rfl; have hfz6_0 := kf BK298.out 0; have hfz6_1 := kf BK298.out 1; have hfz6_2 := kf BK298.out 2; have hfz6_3 := kf BK298.out 3; have hfz6_4 := kf BK298.out 4; have hfz6_5 := kf BK298.out 5; have hfz6_6 := kf BK298.out 6; have hfz6_7 := kf BK298.out 7; have hfz6_8 := kf BK298.out 8; have hfz6_9 := kf BK298.out 9; have hfz6_10 := kf BK298.out 10; have hfz6_11 := kf BK298.out 11; have hfz6_12 := kf BK298.out 12; have hfz6_13 := kf BK298.out 13))
 (try simp only [Act.put, List.setIfInBounds_toArray, List.set_cons_zero, List.set_cons_succ])
 go_cut [1, 2] (fun v1 v2 wc => ∃ (kq : Nat) (x1_3 : ByteArray) (x2_3 : ByteArray), v1 = .string x1_3 ∧ v2 = .string x2_3 ∧ Aside0 (job_Ahead.j0 kq x1_3 x2_3 a0_0 l0_1 l0_2 l0_3 a0_4 l0_5 a0_6 a0_7 a0_8 a0_9 a0_10 a0_11 a0_12 a0_13 = some r) ∧ Aside0 (kq ≤ k) ∧ Aside0 (wc.heap[gb298]? = some (.cells #[.bool a0_0, (.slice A0_1 l0_1.length c0_1), (.slice A0_2 l0_2.length c0_2), (.slice A0_3 l0_3.length c0_3), .int .i64 a0_4, (.slice A0_5 l0_5.length c0_5), .bool a0_6, .int .i64 a0_7, .string a0_8, .bool a0_9, .int .i64 a0_10, .bool a0_11, .bool a0_12, .int .i64 a0_13] 26 (0, 0))) ∧ Aside0 (Below w.heap.size w wc))
 case first =>
  have H := HC4.out
  clear HC4
  by_cases c7 : a0_11 = true
  ·subst c7
   rw [if_pos rfl] at H
   have H' := xy H
   clear H
   go_wp2
   go_meet
   case rel => exact ⟨_, (a2), (a1), xg, xg, H', ⟨by first | omega | exact Nat.le_refl _⟩, ⟨by (with_reducible repeat (first | refine blk_drewN ?_ _ | refine blk_drew ?_ | refine blk_alloc ?_ _)); exact BK298.out⟩, ⟨xb⟩⟩
  ·replace c7 := Bool.eq_false_iff.mpr c7
   subst c7
   rw [if_neg (show ¬ (false = true) by decide)] at H
   have H' := xy H
   clear H
   go_wp2
   go_meet
   case rel => exact ⟨_, (a1), (a2), xg, xg, H', ⟨by first | omega | exact Nat.le_refl _⟩, ⟨by (with_reducible repeat (first | refine blk_drewN ?_ _ | refine blk_drew ?_ | refine blk_alloc ?_ _)); exact BK298.out⟩, ⟨xb⟩⟩
 case rest =>
  clear HC4
  try clear p2
  try clear c3
  try clear c7
  try clear hcz6_0
  try clear hcz6_1
  try clear hcz6_10
  try clear hcz6_11
  try clear hcz6_12
  try clear hcz6_13
  try clear hcz6_2
  try clear hcz6_3
  try clear hcz6_4
  try clear hcz6_5
  try clear hcz6_6
  try clear hcz6_7
  try clear hcz6_8
  try clear hcz6_9
  try clear hfz6_0
  try clear hfz6_1
  try clear hfz6_10
  try clear hfz6_11
  try clear hfz6_12
  try clear hfz6_13
  try clear hfz6_2
  try clear hfz6_3
  try clear hfz6_4
  try clear hfz6_5
  try clear hfz6_6
  try clear hfz6_7
  try clear hfz6_8
  try clear hfz6_9
  obtain ⟨kq, x1_3, x2_3, rfl, rfl, HA, HJ3, BK298, HB⟩ := hcut
  cases kq with
  | zero => exact absurd HA.out (by simp [job_Ahead.j0])
  | succ kj3 =>
   have H := HA.out
   clear HA
   simp only [job_Ahead.j0] at H
   by_cases c8 : a0_12 = true
   ·subst c8
    rw [if_pos rfl] at H
    replace H := xj H
    obtain ⟨t299, A90, H⟩ := H
    try dsimp only at H
    have A9 := xy A90
    clear A90
    replace H := xj H
    obtain ⟨t300, A100, H⟩ := H
    try dsimp only at H
    have A10 := xy A100
    clear A100
    replace H := xj H
    obtain ⟨t301, A110, H⟩ := H
    try dsimp only at H
    have A11 := xy A110
    clear A110
    replace H := xj H
    obtain ⟨t302, A120, H⟩ := H
    try dsimp only at H
    have A12 := xy A120
    clear A120
    obtain ⟨y303, hy303⟩ : ∃ y_ : List Int, y_ = (([t301, t302] : List Int)) := ⟨_, rfl⟩
    replace H : ((cmp_Or_int.f kj3 y303).bind fun t306 => (some (decide (t306 < 0)))) = some r := by first | (rw [hy303]; with_reducible exact H) | (have H2_ := (Option.bind_some _ _).symm.trans H; rw [hy303]; with_reducible exact H2_) | (have H2_ := (Option.bind_some _ _).symm.trans H; with_reducible exact H2_) | with_reducible exact H | (rw [hy303]; exact H) | exact H
    have Ny303 := xy hy303
    clear hy303
    replace H := xj H
    obtain ⟨t306, A130, H⟩ := H
    try dsimp only at H
    have A13 := xy A130
    clear A130
    obtain rfl := Option.some.inj H
    have hcz14_0 : wc.cell? ⟨gb298, 0, none⟩ = some (.bool a0_0) := (kc BK298.out 0).trans rfl
    have hcz14_1 : wc.cell? ⟨gb298, 1, none⟩ = some (.slice A0_1 l0_1.length c0_1) := (kc BK298.out 1).trans rfl
    have hcz14_2 : wc.cell? ⟨gb298, 2, none⟩ = some (.slice A0_2 l0_2.length c0_2) := (kc BK298.out 2).trans rfl
    have hcz14_3 : wc.cell? ⟨gb298, 3, none⟩ = some (.slice A0_3 l0_3.length c0_3) := (kc BK298.out 3).trans rfl
    have hcz14_4 : wc.cell? ⟨gb298, 4, none⟩ = some (.int .i64 a0_4) := (kc BK298.out 4).trans rfl
    have hcz14_5 : wc.cell? ⟨gb298, 5, none⟩ = some (.slice A0_5 l0_5.length c0_5) := (kc BK298.out 5).trans rfl
    have hcz14_6 : wc.cell? ⟨gb298, 6, none⟩ = some (.bool a0_6) := (kc BK298.out 6).trans rfl
    have hcz14_7 : wc.cell? ⟨gb298, 7, none⟩ = some (.int .i64 a0_7) := (kc BK298.out 7).trans rfl
    have hcz14_8 : wc.cell? ⟨gb298, 8, none⟩ = some (.string a0_8) := (kc BK298.out 8).trans rfl
    have hcz14_9 : wc.cell? ⟨gb298, 9, none⟩ = some (.bool a0_9) := (kc BK298.out 9).trans rfl
    have hcz14_10 : wc.cell? ⟨gb298, 10, none⟩ = some (.int .i64 a0_10) := (kc BK298.out 10).trans rfl
    have hcz14_11 : wc.cell? ⟨gb298, 11, none⟩ = some (.bool a0_11) := (kc BK298.out 11).trans rfl
    have hcz14_12 : wc.cell? ⟨gb298, 12, none⟩ = some (.bool true) := (kc BK298.out 12).trans rfl
    have hcz14_13 : wc.cell? ⟨gb298, 13, none⟩ = some (.int .i64 a0_13) := (kc BK298.out 13).trans rfl
    have hfz14_0 := kf BK298.out 0
    have hfz14_1 := kf BK298.out 1
    have hfz14_2 := kf BK298.out 2
    have hfz14_3 := kf BK298.out 3
    have hfz14_4 := kf BK298.out 4
    have hfz14_5 := kf BK298.out 5
    have hfz14_6 := kf BK298.out 6
    have hfz14_7 := kf BK298.out 7
    have hfz14_8 := kf BK298.out 8
    have hfz14_9 := kf BK298.out 9
    have hfz14_10 := kf BK298.out 10
    have hfz14_11 := kf BK298.out 11
    have hfz14_12 := kf BK298.out 12
    have hfz14_13 := kf BK298.out 13
    go_wp2_with (first | ((with_reducible refine gate_callee (f := 44) rfl ?_); refine goesL_ (some 15) rfl rfl Tryz.func44 (by kernel_rfl) rfl #[.string x1_3] rfl xr ?_; (with_reducible refine (job_written.calls kj3 x1_3 t299 _ (Tabs.below hT xf) A9.out).mono ?_); rintro e w15 ⟨rfl, hb⟩; refine ⟨_, rfl, ?_⟩; replace BK298 := xd BK298.out hb; replace HB := xy (below_step xb hb); (try clear hb); (try clear hb2); (try clear hk); (try clear hi)) | ((with_reducible refine gate_callee (f := 44) rfl ?_); refine goesL_ (some 17) rfl rfl Tryz.func44 (by kernel_rfl) rfl #[.string x2_3] rfl xr ?_; (with_reducible refine (job_written.calls kj3 x2_3 t300 _ (Tabs.below hT xf) A10.out).mono ?_); rintro e w16 ⟨rfl, hb⟩; refine ⟨_, rfl, ?_⟩; replace BK298 := xd BK298.out hb; replace HB := xy (below_step xb hb); (try clear hb); (try clear hb2); (try clear hk); (try clear hi)) | ((with_reducible refine gate_callee (f := 43) rfl ?_); refine goesL_ (some 18) rfl rfl Tryz.func43 (by kernel_rfl) rfl #[.int .i64 t299, .int .i64 t300] rfl xr ?_; (with_reducible refine (cmp_Compare_int.calls t299 t300 t301 _ (Tabs.below hT xf) A11.out).mono ?_); rintro e w' ⟨rfl, ⟨nd, rfl⟩⟩; refine ⟨_, rfl, ?_⟩) | ((with_reducible refine gate_callee (f := 46) rfl ?_); refine goesL_ (some 22) rfl rfl Tryz.func46 (by kernel_rfl) rfl #[.string x1_3, .string x2_3] rfl xr ?_; (with_reducible refine (cmp_Compare_string.calls x1_3 x2_3 t302 _ (Tabs.below hT xf) A12.out).mono ?_); rintro e w' ⟨rfl, ⟨nd, rfl⟩⟩; refine ⟨_, rfl, ?_⟩) | ((with_reducible refine gate_dst (N := 23) rfl ?_); refine Kd.R_lit (Kd.int .i64) _ 3 ?hg (N := 23) ?hd (xs := ([t301, t302] : List Int)) (inner := [.int .i64 t301, .int .i64 t302]) (ok := fun _ => True) (okp := fun _ => True) ?hr ?hp (fun _ hk => hk) trivial (Below.refl _ _) (Nat.le_refl _) (by simp) ?_; (case hd => rfl); (case hg => rfl); (case hr => exact xh); (case hp => exact (Reps.one (show Kd.M (Kd.int .i64) _ _ _ t301 [.int .i64 t301] from rfl) (Reps.one (show Kd.M (Kd.int .i64) _ _ _ t302 [.int .i64 t302] from rfl) (Reps.none _ _)))); intro v304 w17 ho18 hb hg_ hnew_; clear hg_ hnew_; (first | rw [← Ny303.out] at ho18 | (simp only [Int.reduceToNat] at ho18; rw [← Ny303.out] at ho18)); have HO305 := xy (Kd.R_lower ho18 (below_size xb)); replace BK298 := xd BK298.out hb; replace HB := xy (below_step xb hb); clear hb ho18; obtain ⟨Ao19, co19, eo19⟩ := Kd.R_slice HO305.out; subst eo19) | ((with_reducible refine gate_callee (f := 45) rfl ?_); refine goesL_ (some 24) rfl rfl Tryz.func45 (by kernel_rfl) rfl #[.slice Ao19 y303.length co19] rfl xr ?_; (with_reducible refine (cmp_Or_int.calls kj3 _ _ y303 t306 _ (Tabs.below hT xf) ?side1 ?side2 A13.out).mono ?_); (case side1 => repeat (first | exact (Kd.R_reads' HO305.out).2.2 | (with_reducible refine Kd.C_alloc ?_ _) | (with_reducible refine Kd.C_drewN ?_ _) | (with_reducible refine Kd.C_drew ?_))); (case side2 => exact (Kd.R_reads' HO305.out).2.1); rintro e w' ⟨rfl, ⟨nd, rfl⟩⟩; refine ⟨_, rfl, ?_⟩))
    go_ret
    exact ⟨xe, xb⟩
   ·replace c8 := Bool.eq_false_iff.mpr c8
    subst c8
    rw [if_neg (show ¬ (false = true) by decide)] at H
    replace H := xj H
    obtain ⟨t307, A200, H⟩ := H
    try dsimp only at H
    have A20 := xy A200
    clear A200
    obtain ⟨y308, hy308⟩ : ∃ y_ : List Int, y_ = (([0, t307] : List Int)) := ⟨_, rfl⟩
    replace H : ((cmp_Or_int.f kj3 y308).bind fun t311 => (some (decide (t311 < 0)))) = some r := by first | (rw [hy308]; with_reducible exact H) | (have H2_ := (Option.bind_some _ _).symm.trans H; rw [hy308]; with_reducible exact H2_) | (have H2_ := (Option.bind_some _ _).symm.trans H; with_reducible exact H2_) | with_reducible exact H | (rw [hy308]; exact H) | exact H
    have Ny308 := xy hy308
    clear hy308
    replace H := xj H
    obtain ⟨t311, A210, H⟩ := H
    try dsimp only at H
    have A21 := xy A210
    clear A210
    obtain rfl := Option.some.inj H
    have hcz22_0 : wc.cell? ⟨gb298, 0, none⟩ = some (.bool a0_0) := (kc BK298.out 0).trans rfl
    have hcz22_1 : wc.cell? ⟨gb298, 1, none⟩ = some (.slice A0_1 l0_1.length c0_1) := (kc BK298.out 1).trans rfl
    have hcz22_2 : wc.cell? ⟨gb298, 2, none⟩ = some (.slice A0_2 l0_2.length c0_2) := (kc BK298.out 2).trans rfl
    have hcz22_3 : wc.cell? ⟨gb298, 3, none⟩ = some (.slice A0_3 l0_3.length c0_3) := (kc BK298.out 3).trans rfl
    have hcz22_4 : wc.cell? ⟨gb298, 4, none⟩ = some (.int .i64 a0_4) := (kc BK298.out 4).trans rfl
    have hcz22_5 : wc.cell? ⟨gb298, 5, none⟩ = some (.slice A0_5 l0_5.length c0_5) := (kc BK298.out 5).trans rfl
    have hcz22_6 : wc.cell? ⟨gb298, 6, none⟩ = some (.bool a0_6) := (kc BK298.out 6).trans rfl
    have hcz22_7 : wc.cell? ⟨gb298, 7, none⟩ = some (.int .i64 a0_7) := (kc BK298.out 7).trans rfl
    have hcz22_8 : wc.cell? ⟨gb298, 8, none⟩ = some (.string a0_8) := (kc BK298.out 8).trans rfl
    have hcz22_9 : wc.cell? ⟨gb298, 9, none⟩ = some (.bool a0_9) := (kc BK298.out 9).trans rfl
    have hcz22_10 : wc.cell? ⟨gb298, 10, none⟩ = some (.int .i64 a0_10) := (kc BK298.out 10).trans rfl
    have hcz22_11 : wc.cell? ⟨gb298, 11, none⟩ = some (.bool a0_11) := (kc BK298.out 11).trans rfl
    have hcz22_12 : wc.cell? ⟨gb298, 12, none⟩ = some (.bool false) := (kc BK298.out 12).trans rfl
    have hcz22_13 : wc.cell? ⟨gb298, 13, none⟩ = some (.int .i64 a0_13) := (kc BK298.out 13).trans rfl
    have hfz22_0 := kf BK298.out 0
    have hfz22_1 := kf BK298.out 1
    have hfz22_2 := kf BK298.out 2
    have hfz22_3 := kf BK298.out 3
    have hfz22_4 := kf BK298.out 4
    have hfz22_5 := kf BK298.out 5
    have hfz22_6 := kf BK298.out 6
    have hfz22_7 := kf BK298.out 7
    have hfz22_8 := kf BK298.out 8
    have hfz22_9 := kf BK298.out 9
    have hfz22_10 := kf BK298.out 10
    have hfz22_11 := kf BK298.out 11
    have hfz22_12 := kf BK298.out 12
    have hfz22_13 := kf BK298.out 13
    go_wp2_with (first | ((with_reducible refine gate_callee (f := 46) rfl ?_); refine goesL_ (some 22) rfl rfl Tryz.func46 (by kernel_rfl) rfl #[.string x1_3, .string x2_3] rfl xr ?_; (with_reducible refine (cmp_Compare_string.calls x1_3 x2_3 t307 _ (Tabs.below hT xf) A20.out).mono ?_); rintro e w' ⟨rfl, ⟨nd, rfl⟩⟩; refine ⟨_, rfl, ?_⟩) | ((with_reducible refine gate_dst (N := 23) rfl ?_); refine Kd.R_lit (Kd.int .i64) _ 3 ?hg (N := 23) ?hd (xs := ([0, t307] : List Int)) (inner := [.int .i64 0, .int .i64 t307]) (ok := fun _ => True) (okp := fun _ => True) ?hr ?hp (fun _ hk => hk) trivial (Below.refl _ _) (Nat.le_refl _) (by simp) ?_; (case hd => rfl); (case hg => rfl); (case hr => exact xh); (case hp => exact (Reps.one (show Kd.M (Kd.int .i64) _ _ _ 0 [.int .i64 0] from rfl) (Reps.one (show Kd.M (Kd.int .i64) _ _ _ t307 [.int .i64 t307] from rfl) (Reps.none _ _)))); intro v309 w23 ho24 hb hg_ hnew_; clear hg_ hnew_; (first | rw [← Ny308.out] at ho24 | (simp only [Int.reduceToNat] at ho24; rw [← Ny308.out] at ho24)); have HO310 := xy (Kd.R_lower ho24 (below_size xb)); replace BK298 := xd BK298.out hb; replace HB := xy (below_step xb hb); clear hb ho24; obtain ⟨Ao25, co25, eo25⟩ := Kd.R_slice HO310.out; subst eo25) | ((with_reducible refine gate_callee (f := 45) rfl ?_); refine goesL_ (some 24) rfl rfl Tryz.func45 (by kernel_rfl) rfl #[.slice Ao25 y308.length co25] rfl xr ?_; (with_reducible refine (cmp_Or_int.calls kj3 _ _ y308 t311 _ (Tabs.below hT xf) ?side1 ?side2 A21.out).mono ?_); (case side1 => repeat (first | exact (Kd.R_reads' HO310.out).2.2 | (with_reducible refine Kd.C_alloc ?_ _) | (with_reducible refine Kd.C_drewN ?_ _) | (with_reducible refine Kd.C_drew ?_))); (case side2 => exact (Kd.R_reads' HO310.out).2.1); rintro e w' ⟨rfl, ⟨nd, rfl⟩⟩; refine ⟨_, rfl, ?_⟩))
    go_ret
    exact ⟨xe, xb⟩
theorem sorter_Sort.ci (a b : Int) : cmp_Compare_int.f a b = some (if a < b then -1 else if a > b then 1 else 0) := by
 unfold cmp_Compare_int.f cmp_isNaN_int.f
 simp
 repeat' split
 all_goals rfl
theorem sorter_Sort.cs (a b : ByteArray) : cmp_Compare_string.f a b = some (if Op.bytesLess a.toList b.toList = true then -1 else if Op.bytesLess b.toList a.toList = true then 1 else 0) := by
 unfold cmp_Compare_string.f cmp_isNaN_string.f
 simp
 repeat' split
 all_goals rfl
theorem sorter_Sort.or2 {k : Nat} {x y v : Int} (h : cmp_Or_int.f k [x, y] = some v) : v = if x = 0 then y else x := by
 have w1 : wrap64 (0 + 1) = 1 := by unfold wrap64; omega
 have w2 : wrap64 (1 + 1) = 2 := by unfold wrap64; omega
 have r0 : rd ([x, y] : List Int) 0 = x := rfl
 have r1 : rd ([x, y] : List Int) 1 = y := rfl
 unfold cmp_Or_int.f at h
 cases k with
 | zero => simp [cmp_Or_int.l0] at h
 | succ k =>
  simp only [cmp_Or_int.l0, List.length_cons, List.length_nil, r0, w1] at h
  by_cases hx : x = 0
  ·rw [if_pos hx]
   cases k with
   | zero => simp [cmp_Or_int.l0, hx] at h
   | succ k =>
    simp only [cmp_Or_int.l0, List.length_cons, List.length_nil, r1, w2] at h
    by_cases hy : y = 0
    ·cases k with
     | zero => simp [cmp_Or_int.l0, hx, hy] at h
     | succ k => simp [cmp_Or_int.l0, hx, hy] at h; rw [hy]; exact h.symm
    ·simp [hx, hy] at h; exact h.symm
  ·rw [if_neg hx]; simp [hx] at h; exact h.symm
def sorter_Sort.wr (k : Nat) (s : ByteArray) : Int := (job_written.f k s).getD 0
theorem sorter_Sort.jv {k : Nat} {x y : ByteArray} {a0_0 : Bool} {l0_1 l0_2 l0_3 : List S81} {a0_4 : Int} {l0_5 : List S81} {a0_6 : Bool} {a0_7 : Int} {a0_8 : ByteArray} {a0_9 : Bool} {a0_10 : Int} {a0_11 a0_12 : Bool} {a0_13 : Int} {r : Bool}
  (h : job_Ahead.j0 (k + 1) x y a0_0 l0_1 l0_2 l0_3 a0_4 l0_5 a0_6 a0_7 a0_8 a0_9 a0_10 a0_11 a0_12 a0_13 = some r) : r = Stb.keyLt (sorter_Sort.wr k) a0_12 x y := by
 have sl : decide ((if Op.bytesLess x.toList y.toList = true then (-1 : Int) else if Op.bytesLess y.toList x.toList = true then 1 else 0) < 0) = Op.bytesLess x.toList y.toList := by
  cases hq : Op.bytesLess x.toList y.toList with
  | true => simp
  | false => simp; split <;> simp
 simp only [job_Ahead.j0, sorter_Sort.ci, sorter_Sort.cs, Option.bind_some] at h
 unfold Stb.keyLt
 by_cases hn : a0_12 = true
 ·rw [if_pos hn] at h
  obtain ⟨t1, h1, h⟩ := Option.bind_eq_some_iff.1 h
  obtain ⟨t2, h2, h⟩ := Option.bind_eq_some_iff.1 h
  obtain ⟨v, h3, h⟩ := Option.bind_eq_some_iff.1 h
  have e1 : sorter_Sort.wr k x = t1 := by unfold sorter_Sort.wr; rw [h1]; rfl
  have e2 : sorter_Sort.wr k y = t2 := by unfold sorter_Sort.wr; rw [h2]; rfl
  have e3 := sorter_Sort.or2 h3
  have h := Option.some.inj h
  rw [e1, e2]
  by_cases ht : t1 = t2
  ·rw [if_neg (fun z => z.2 ht), ← h, e3, if_pos (by simp [ht])]; exact sl
  ·rw [if_pos ⟨hn, ht⟩, ← h, e3]
   by_cases hlt : t1 < t2
   ·rw [if_neg (by simp [hlt])]; simp [hlt]
   ·have hgt : t1 > t2 := by omega
    rw [if_neg (by simp [hlt, hgt])]; simp [hlt, hgt]
 ·rw [if_neg hn] at h
  obtain ⟨v, h3, h⟩ := Option.bind_eq_some_iff.1 h
  have e3 := sorter_Sort.or2 h3
  have h := Option.some.inj h
  rw [if_neg (fun z => hn z.1), ← h, e3, if_pos rfl]; exact sl
theorem sorter_Sort.av {k : Nat} {x y : ByteArray} {a0_0 : Bool} {l0_1 l0_2 l0_3 : List S81} {a0_4 : Int} {l0_5 : List S81} {a0_6 : Bool} {a0_7 : Int} {a0_8 : ByteArray} {a0_9 : Bool} {a0_10 : Int} {a0_11 a0_12 : Bool} {a0_13 : Int} {r : Bool}
  (h : job_Ahead.f k a0_0 l0_1 l0_2 l0_3 a0_4 l0_5 a0_6 a0_7 a0_8 a0_9 a0_10 a0_11 a0_12 a0_13 x y = some r) : r = Stb.aheadP (sorter_Sort.wr (k - 1)) a0_12 a0_11 x y := by
 unfold job_Ahead.f at h
 unfold Stb.aheadP
 cases k with
 | zero => split at h <;> simp [job_Ahead.j0] at h
 | succ k =>
  split at h
  ·rename_i c; rw [if_pos c]; exact sorter_Sort.jv h
  ·rename_i c; rw [if_neg c]; exact sorter_Sort.jv h
theorem sorter_Sort.sortc {lt lt' : XSort.It → XSort.It → Bool} (l : List XSort.It) (h : ∀ x ∈ l, ∀ y ∈ l, lt x y = lt' x y) : Stb.sortRef lt l = Stb.sortRef lt' l := Stb.sort_congr l h
def sorter_Sort.f (k : Nat) (a0_0 : Bool) (l0_1 : List (S81)) (l0_2 : List (S81)) (l0_3 : List (S81)) (a0_4 : Int) (l0_5 : List (S81)) (a0_6 : Bool) (a0_7 : Int) (a0_8 : ByteArray) (a0_9 : Bool) (a0_10 : Int) (a0_11 : Bool) (a0_12 : Bool) (a0_13 : Int) (l1 : List (S38)) : Option ((List (S38))) :=
 if (l1.all fun x => l1.all fun y => (job_Ahead.f k a0_0 l0_1 l0_2 l0_3 a0_4 l0_5 a0_6 a0_7 a0_8 a0_9 a0_10 a0_11 a0_12 a0_13 x.f0 y.f0).isSome) = true ∧ l1.length < 1000000000000 then
  some (Stb.sortRef (fun x y : XSort.It => (job_Ahead.f k a0_0 l0_1 l0_2 l0_3 a0_4 l0_5 a0_6 a0_7 a0_8 a0_9 a0_10 a0_11 a0_12 a0_13 x.f0 y.f0).getD false) l1) else none
theorem sorter_Sort.mono : ∀ a0_0 l0_1 l0_2 l0_3 a0_4 l0_5 a0_6 a0_7 a0_8 a0_9 a0_10 a0_11 a0_12 a0_13 l1 k, LeO (sorter_Sort.f k a0_0 l0_1 l0_2 l0_3 a0_4 l0_5 a0_6 a0_7 a0_8 a0_9 a0_10 a0_11 a0_12 a0_13 l1) (sorter_Sort.f (k + 1) a0_0 l0_1 l0_2 l0_3 a0_4 l0_5 a0_6 a0_7 a0_8 a0_9 a0_10 a0_11 a0_12 a0_13 l1) := by
 intro a0_0 l0_1 l0_2 l0_3 a0_4 l0_5 a0_6 a0_7 a0_8 a0_9 a0_10 a0_11 a0_12 a0_13 l1 k r h
 unfold sorter_Sort.f at h ⊢
 by_cases c : (l1.all fun x => l1.all fun y => (job_Ahead.f k a0_0 l0_1 l0_2 l0_3 a0_4 l0_5 a0_6 a0_7 a0_8 a0_9 a0_10 a0_11 a0_12 a0_13 x.f0 y.f0).isSome) = true ∧ l1.length < 1000000000000
 ·rw [if_pos c] at h
  have up : ∀ x ∈ l1, ∀ y ∈ l1, ∃ b, job_Ahead.f k a0_0 l0_1 l0_2 l0_3 a0_4 l0_5 a0_6 a0_7 a0_8 a0_9 a0_10 a0_11 a0_12 a0_13 x.f0 y.f0 = some b ∧ job_Ahead.f (k + 1) a0_0 l0_1 l0_2 l0_3 a0_4 l0_5 a0_6 a0_7 a0_8 a0_9 a0_10 a0_11 a0_12 a0_13 x.f0 y.f0 = some b := fun x hx y hy => by
   obtain ⟨b, hb⟩ := Option.isSome_iff_exists.1 (List.all_eq_true.1 (List.all_eq_true.1 c.1 x hx) y hy)
   exact ⟨b, hb, job_Ahead.mono _ _ _ _ _ _ _ _ _ _ _ _ _ _ _ _ _ _ hb⟩
  rw [if_pos ⟨List.all_eq_true.2 fun x hx => List.all_eq_true.2 fun y hy => by obtain ⟨b, _, hb⟩ := up x hx y hy; rw [hb]; rfl, c.2⟩, ← h]
  congr 1
  exact sorter_Sort.sortc l1 fun x hx y hy => by obtain ⟨b, h1, h2⟩ := up x hx y hy; rw [h1, h2]
 ·rw [if_neg c] at h; cases h
theorem sorter_Sort.calls (k : Nat) (a0_0 : Bool) (A0_1 : Option Addr) (c0_1 : Nat) (l0_1 : List (S81)) (A0_2 : Option Addr) (c0_2 : Nat) (l0_2 : List (S81)) (A0_3 : Option Addr) (c0_3 : Nat) (l0_3 : List (S81)) (a0_4 : Int) (A0_5 : Option Addr) (c0_5 : Nat) (l0_5 : List (S81)) (a0_6 : Bool) (a0_7 : Int) (a0_8 : ByteArray) (a0_9 : Bool) (a0_10 : Int) (a0_11 : Bool) (a0_12 : Bool) (a0_13 : Int) (A1 : Option Addr) (c1 : Nat) (l1 : List (S38)) (r : List (S38)) (w : World) (hT : Tabs w) (hr0_1 : Kd.C k81 w A0_1 l0_1.length l0_1) (hc0_1 : l0_1.length ≤ c0_1) (hr0_2 : Kd.C k81 w A0_2 l0_2.length l0_2) (hc0_2 : l0_2.length ≤ c0_2) (hr0_3 : Kd.C k81 w A0_3 l0_3.length l0_3) (hc0_3 : l0_3.length ≤ c0_3) (hr0_5 : Kd.C k81 w A0_5 l0_5.length l0_5) (hc0_5 : l0_5.length ≤ c0_5) (hr1 : Kd.C k38 w A1 l1.length l1) (hc1 : l1.length ≤ c1) (h : sorter_Sort.f k a0_0 l0_1 l0_2 l0_3 a0_4 l0_5 a0_6 a0_7 a0_8 a0_9 a0_10 a0_11 a0_12 a0_13 l1 = some r) :
  Calls Tryz.prog 10 #[.agg #[.bool a0_0, .slice A0_1 l0_1.length c0_1, .slice A0_2 l0_2.length c0_2, .slice A0_3 l0_3.length c0_3, .int .i64 a0_4, .slice A0_5 l0_5.length c0_5, .bool a0_6, .int .i64 a0_7, .string a0_8, .bool a0_9, .int .i64 a0_10, .bool a0_11, .bool a0_12, .int .i64 a0_13], .slice A1 l1.length c1] w fun e w' => ∃ v0_ : Value, e = .returned (v0_) ∧ Kd.R k38 38 w' w.heap.size (fun _ => True) v0_ r ∧ Below w.heap.size w w' := by
 unfold sorter_Sort.f at h
 by_cases c : (l1.all fun x => l1.all fun y => (job_Ahead.f k a0_0 l0_1 l0_2 l0_3 a0_4 l0_5 a0_6 a0_7 a0_8 a0_9 a0_10 a0_11 a0_12 a0_13 x.f0 y.f0).isSome) = true ∧ l1.length < 1000000000000
 ·rw [if_pos c] at h
  have h := Option.some.inj h
  have up : ∀ x ∈ l1, ∀ y ∈ l1, job_Ahead.f k a0_0 l0_1 l0_2 l0_3 a0_4 l0_5 a0_6 a0_7 a0_8 a0_9 a0_10 a0_11 a0_12 a0_13 x.f0 y.f0 = some (Stb.aheadP (sorter_Sort.wr (k - 1)) a0_12 a0_11 x.f0 y.f0) := fun x hx y hy => by
   obtain ⟨b, hb⟩ := Option.isSome_iff_exists.1 (List.all_eq_true.1 (List.all_eq_true.1 c.1 x hx) y hy)
   rw [hb, sorter_Sort.av hb]
  have := XSort.sort_calls (Stb.aheadP (sorter_Sort.wr (k - 1)) a0_12 a0_11) (Stb.ahead_swo (fun x : XSort.It => x.f0) _ _ _) (J := #[.bool a0_0, .slice A0_1 l0_1.length c0_1, .slice A0_2 l0_2.length c0_2, .slice A0_3 l0_3.length c0_3, .int .i64 a0_4, .slice A0_5 l0_5.length c0_5, .bool a0_6, .int .i64 a0_7, .string a0_8, .bool a0_9, .int .i64 a0_10, .bool a0_11, .bool a0_12, .int .i64 a0_13]) rfl A1 c1 l1 w hr1 c.2
   (fun W' hb x hx y hy => job_Ahead.calls k a0_0 A0_1 c0_1 l0_1 A0_2 c0_2 l0_2 A0_3 c0_3 l0_3 a0_4 A0_5 c0_5 l0_5 a0_6 a0_7 a0_8 a0_9 a0_10 a0_11 a0_12 a0_13 x.f0 y.f0 _ W' (hT.below hb) (Kd.C_below hr0_1 hb) hc0_1 (Kd.C_below hr0_2 hb) hc0_2 (Kd.C_below hr0_3 hb) hc0_3 (Kd.C_below hr0_5 hb) hc0_5 (up x hx y hy))
  have e : Stb.sortRef (fun x y : XSort.It => (job_Ahead.f k a0_0 l0_1 l0_2 l0_3 a0_4 l0_5 a0_6 a0_7 a0_8 a0_9 a0_10 a0_11 a0_12 a0_13 x.f0 y.f0).getD false) l1 = Stb.sortRef (fun x y : XSort.It => Stb.aheadP (sorter_Sort.wr (k - 1)) a0_12 a0_11 x.f0 y.f0) l1 := sorter_Sort.sortc l1 (fun x hx y hy => by rw [up x hx y hy]; rfl)
  subst h
  rw [e]
  exact this
 ·rw [if_neg c] at h; cases h
def sorter_Groups.f (a0_0 : Bool) (l0_1 : List (S81)) (l0_2 : List (S81)) (l0_3 : List (S81)) (a0_4 : Int) (l0_5 : List (S81)) (a0_6 : Bool) (a0_7 : Int) (a0_8 : ByteArray) (a0_9 : Bool) (a0_10 : Int) (a0_11 : Bool) (a0_12 : Bool) (a0_13 : Int) (l1 : List (S38)) : Option ((List (S43))) := if l1.length < 1000000000000 then some (Stb.groupsL l1) else none
theorem sorter_Groups.calls (a0_0 : Bool) (A0_1 : Option Addr) (c0_1 : Nat) (l0_1 : List (S81)) (A0_2 : Option Addr) (c0_2 : Nat) (l0_2 : List (S81)) (A0_3 : Option Addr) (c0_3 : Nat) (l0_3 : List (S81)) (a0_4 : Int) (A0_5 : Option Addr) (c0_5 : Nat) (l0_5 : List (S81)) (a0_6 : Bool) (a0_7 : Int) (a0_8 : ByteArray) (a0_9 : Bool) (a0_10 : Int) (a0_11 : Bool) (a0_12 : Bool) (a0_13 : Int) (A1 : Option Addr) (c1 : Nat) (l1 : List (S38)) (r : List (S43)) (w : World) (hT : Tabs w) (hr0_1 : Kd.C k81 w A0_1 l0_1.length l0_1) (hc0_1 : l0_1.length ≤ c0_1) (hr0_2 : Kd.C k81 w A0_2 l0_2.length l0_2) (hc0_2 : l0_2.length ≤ c0_2) (hr0_3 : Kd.C k81 w A0_3 l0_3.length l0_3) (hc0_3 : l0_3.length ≤ c0_3) (hr0_5 : Kd.C k81 w A0_5 l0_5.length l0_5) (hc0_5 : l0_5.length ≤ c0_5) (hr1 : Kd.C k38 w A1 l1.length l1) (hc1 : l1.length ≤ c1) (h : sorter_Groups.f a0_0 l0_1 l0_2 l0_3 a0_4 l0_5 a0_6 a0_7 a0_8 a0_9 a0_10 a0_11 a0_12 a0_13 l1 = some r) :
  Calls Tryz.prog 15 #[.agg #[.bool a0_0, .slice A0_1 l0_1.length c0_1, .slice A0_2 l0_2.length c0_2, .slice A0_3 l0_3.length c0_3, .int .i64 a0_4, .slice A0_5 l0_5.length c0_5, .bool a0_6, .int .i64 a0_7, .string a0_8, .bool a0_9, .int .i64 a0_10, .bool a0_11, .bool a0_12, .int .i64 a0_13], .slice A1 l1.length c1] w fun e w' => ∃ v0_ : Value, e = .returned (v0_) ∧ Kd.S k43 43 w' w.heap.size (fun _ => True) v0_ r ∧ Below w.heap.size w w' := by
 unfold sorter_Groups.f at h
 by_cases c : l1.length < 1000000000000
 ·rw [if_pos c] at h
  obtain rfl := Option.some.inj h
  exact XSort.groups_calls A1 c1 l1 w hr1 c
 ·rw [if_neg c] at h; cases h
def w19_alive.f  : Option (Bool) := some true
theorem w19_alive.some_ : ∀ x ∈ [XSort.itB1, XSort.itA, XSort.itB2], ∀ y ∈ [XSort.itB1, XSort.itA, XSort.itB2], job_Ahead.f 40 false [] [] [] 0 [] false 0 ⟨#[]⟩ false 0 false false 0 x.f0 y.f0 = some (Stb.aheadP (sorter_Sort.wr 39) false false x.f0 y.f0) := by
 intro x hx y hy
 have key : ([XSort.itB1, XSort.itA, XSort.itB2].all fun x => [XSort.itB1, XSort.itA, XSort.itB2].all fun y => (job_Ahead.f 40 false [] [] [] 0 [] false 0 ⟨#[]⟩ false 0 false false 0 x.f0 y.f0).isSome) = true := by kernel_rfl
 obtain ⟨b, hb⟩ := Option.isSome_iff_exists.1 (List.all_eq_true.1 (List.all_eq_true.1 key x hx) y hy)
 rw [hb, sorter_Sort.av hb]
theorem w19_alive.calls  (r : Bool) (w : World) (hT : Tabs w) (h : w19_alive.f  = some r) :
  Calls Tryz.prog 9 #[] w fun e w' => e = .returned (.bool r) ∧ Below w.heap.size w w' := by
 obtain rfl := Option.some.inj h
 have hn : ∀ W, Kd.C k81 W none 0 [] := fun W => ⟨rfl, by decide, fun h => absurd h (by decide)⟩
 exact XSort.alive_walk (Stb.aheadP (sorter_Sort.wr 39) false false) (Stb.ahead_swo (fun x : XSort.It => x.f0) _ _ _) (by kernel_rfl) w
  (fun W' hb x hx y hy => job_Ahead.calls 40 false none 0 [] none 0 [] none 0 [] 0 none 0 [] false 0 ⟨#[]⟩ false 0 false false 0 x.f0 y.f0 _ W' (hT.below hb) (hn W') (Nat.le_refl _) (hn W') (Nat.le_refl _) (hn W') (Nat.le_refl _) (hn W') (Nat.le_refl _) (w19_alive.some_ x hx y hy))
/- Walked functions, by this session's program over the kit's print. -/
def w19_items.l0 : Nat → List (S38) → List (S74) → Int → Option ((List (S74)))
 | 0, _, _, _ => none
 | k + 1, x0, x3, x4 => if x4 < (x0.length : Int) then (if 0 ≤ x4 then (if x3.length < 2932031007402 then (w19_items.l0 k x0 (x3 ++ [(⟨(rd_T38 x0 x4).f0, (⟨(rd_T38 x0 x4).f1.f0, (rd_T38 x0 x4).f1.f1, (rd_T38 x0 x4).f1.f2⟩ : S24)⟩ : S74)]) (wrap64 (x4 + 1))) else (none)) else (none)) else (some x3)
def w19_items.f (k : Nat) (l0 : List (S38)) : Option ((List (S74))) := w19_items.l0 k l0 (([] : List (S74))) 0
theorem w19_items.mono_l : ∀ k, (∀ y0 y1 y2, LeO (w19_items.l0 k y0 y1 y2) (w19_items.l0 (k + 1) y0 y1 y2))
 | 0 => fun _ _ _ r h => by simp [w19_items.l0] at h
 | k + 1 => by
  have ih0 := w19_items.mono_l k
  ·intro y0 y1 y2
   unfold w19_items.l0
   repeat' (with_reducible first | exact ih0 _ _ _ | exact LeO.refl _ | exact LeO.none _ | refine LeO.ite ?_ ?_ | refine LeO.bind ?_ (fun _ => ?_))
theorem w19_items.mono : ∀ a0 k, LeO (w19_items.f k a0) (w19_items.f (k + 1) a0) := by
 intro a0 k
 have ih0 := w19_items.mono_l k
 unfold w19_items.f
 repeat' (with_reducible first | exact ih0 _ _ _ | exact LeO.refl _ | exact LeO.none _ | refine LeO.ite ?_ ?_ | refine LeO.bind ?_ (fun _ => ?_))
def w19_items.T5 : Bool × List (List Nat × List Nat) := (true, [([], []), ([], []), ([], []), ([1, 2], [1, 2]), ([3], [3]), ([4], [4]), ([], []), ([], []), ([6, 7], [6, 7]), ([8], [8]), ([9], [9]), ([5, 10], [5, 10]), ([11], [11]), ([0, 12], [0, 12]), ([13, 13, 0, 1, 2, 3, 4, 5, 6, 7, 8, 9, 10, 11, 12, 13], [0, 13])])
def w19_items.B5 : List Nat := [0, 0, 0, 6, 14, 30, 0, 0, 192, 448, 960, 2046, 4094, 8191, 16383]
theorem w19_items.tab5 : rtab .any (opsOf Tryz.f13 5) = w19_items.T5 := by kernel_rfl
theorem w19_items.bits5 : waitsOk w19_items.T5.2 w19_items.B5 = true := by kernel_rfl
set_option maxHeartbeats 8000000 in
set_option maxRecDepth 100000 in
theorem w19_items.calls (k : Nat) (A0 : Option Addr) (c0 : Nat) (l0 : List (S38)) (r : List (S74)) (w : World) (hT : Tabs w) (hr0 : Kd.C k38 w A0 l0.length l0) (hc0 : l0.length ≤ c0) (h : w19_items.f k l0 = some r) :
  Calls Tryz.prog 13 #[.slice A0 l0.length c0] w fun e w' => ∃ v0_ : Value, e = .returned (v0_) ∧ Kd.R k74 74 w' w.heap.size (fun _ => True) v0_ r ∧ Below w.heap.size w w' := by
 have hu24 := Tryz.underlying24
 have hu74 := Tryz.underlying74
 have HR0 := xy hr0
 have HC0 := xy hc0
 clear hr0 hc0
 have HB := xy (Below.refl w.heap.size w)
 unfold w19_items.f at h
 have H := h
 clear h
 obtain ⟨y312, hy312⟩ : ∃ y_ : List (S74), y_ = (([] : List (S74))) := ⟨_, rfl⟩
 replace H : (w19_items.l0 k l0 y312 0) = some r := by first | (rw [hy312]; with_reducible exact H) | (have H2_ := (Option.bind_some _ _).symm.trans H; rw [hy312]; with_reducible exact H2_) | (have H2_ := (Option.bind_some _ _).symm.trans H; with_reducible exact H2_) | with_reducible exact H | (rw [hy312]; exact H) | exact H
 have Ny312 := xy hy312
 clear hy312
 have H' := xy H
 clear H
 go_enter Tryz.func13, Tryz.ntmps13
 go_wp2_with (((with_reducible refine gate_dst (N := 5) rfl ?_); refine Kd.R_lit k74 _ 74 ?hg (N := 5) ?hd (xs := ([] : List (S74))) (inner := []) (ok := fun _ => True) (okp := fun _ => True) ?hr ?hp (fun _ hk => hk) trivial (Below.refl _ _) (Nat.le_refl _) (by simp) ?_; (case hd => rfl); (case hg => rfl); (case hr => exact xh); (case hp => exact (Reps.none _ _)); intro v313 w2 ho3 hb hg_ hnew_; clear hg_ hnew_; (first | rw [← Ny312.out] at ho3 | (simp only [Int.reduceToNat] at ho3; rw [← Ny312.out] at ho3)); have HO314 := xy (Kd.R_lower ho3 (below_size xb)); replace HB := xy (below_step xb hb); clear hb ho3))
 go_loopg [3, 4] k (fun kq v3 v4 w' => ∃ (x3_1 : List (S74)) (x4_1 : Int), v4 = .int .i64 x4_1 ∧ Aside0 (w19_items.l0 kq l0 x3_1 x4_1 = some r) ∧ Aside0 (kq ≤ k) ∧ Aside0 (Kd.R k74 74 w' w.heap.size (fun _ => True) v3 x3_1) ∧ Aside0 (Below w.heap.size w w'))
 case atStart => exact ⟨(y312), (0), xg, H', ⟨Nat.le_refl _⟩, ⟨by (with_reducible repeat (first | apply Kd.R_alloc | apply Kd.R_drewN | apply Kd.R_drew)); exact HO314.out⟩, ⟨xb⟩⟩
 case round =>
  clear H'
  try clear c1
  try clear p2
  obtain ⟨x3_1, x4_1, rfl, HA, HK1, HO_3, HB⟩ := hrel
  cases gk with
  | zero => exact absurd HA.out (by simp [w19_items.l0])
  | succ k1 =>
   have H := HA.out
   clear HA
   simp only [w19_items.l0] at H
   by_cases c4 : x4_1 < (l0.length : Int)
   ·rw [if_pos c4] at H
    have c4b0 : decide (x4_1 < (l0.length : Int)) = true := decide_eq_true c4
    clear c4
    by_cases c5 : 0 ≤ x4_1
    ·rw [if_pos c5] at H
     have c5b0 : decide (0 ≤ x4_1) = true := decide_eq_true c5
     clear c5
     by_cases c6 : x3_1.length < 2932031007402
     ·rw [if_pos c6] at H
      have LMc6 := xy c6
      clear c6
      obtain ⟨y317, hy317⟩ : ∃ y_ : List (S74), y_ = (x3_1 ++ [(⟨(rd_T38 l0 x4_1).f0, (⟨(rd_T38 l0 x4_1).f1.f0, (rd_T38 l0 x4_1).f1.f1, (rd_T38 l0 x4_1).f1.f2⟩ : S24)⟩ : S74)]) := ⟨_, rfl⟩
      replace H : (w19_items.l0 k1 l0 y317 (wrap64 (x4_1 + 1))) = some r := by first | (rw [hy317]; with_reducible exact H) | (have H2_ := (Option.bind_some _ _).symm.trans H; rw [hy317]; with_reducible exact H2_) | (have H2_ := (Option.bind_some _ _).symm.trans H; with_reducible exact H2_) | with_reducible exact H | (rw [hy317]; exact H) | exact H
      have Ny317 := xy hy317
      clear hy317
      have H' := xy H
      clear H
      try go_wp2
      replace HO_3 := xy (Kd.R_drew HO_3.out)
      replace HB := xy (below_drew1 HB.out)
      have p315 : 0 ≤ (x4_1 : Int) := xi
      have q315 : x4_1 < (l0.length : Int) := xi
      obtain ⟨ad315, e315, hx315_0, hx315_1, hx315_2, hx315_3⟩ := at_T38 HR0.out x4_1 p315 q315
      have hw315_3 := hx315_3
      have hw315_2 := hx315_2
      have hw315_1 := hx315_1
      have hw315_0 := hx315_0
      cases e315
      replace hx315_0 := (HB.out.cell (World.block_lt_of_cell? w _ hx315_0)).trans hx315_0
      replace hx315_1 := (HB.out.cell (World.block_lt_of_cell? w _ hx315_1)).trans hx315_1
      replace hx315_2 := (HB.out.cell (World.block_lt_of_cell? w _ hx315_2)).trans hx315_2
      replace hx315_3 := (HB.out.cell (World.block_lt_of_cell? w _ hx315_3)).trans hx315_3
      replace p315 := eq_true p315
      replace q315 := eq_true q315
      have p316 : 0 ≤ (x4_1 : Int) := xi
      have q316 : x4_1 < (l0.length : Int) := xi
      obtain ⟨ad316, e316, hx316_0, hx316_1, hx316_2, hx316_3⟩ := at_T38 HR0.out x4_1 p316 q316
      have hw316_3 := hx316_3
      have hw316_2 := hx316_2
      have hw316_1 := hx316_1
      have hw316_0 := hx316_0
      obtain rfl : ad315 = ad316 := (by injection e316)
      replace hx316_0 := (HB.out.cell (World.block_lt_of_cell? w _ hx316_0)).trans hx316_0
      replace hx316_1 := (HB.out.cell (World.block_lt_of_cell? w _ hx316_1)).trans hx316_1
      replace hx316_2 := (HB.out.cell (World.block_lt_of_cell? w _ hx316_2)).trans hx316_2
      replace hx316_3 := (HB.out.cell (World.block_lt_of_cell? w _ hx316_3)).trans hx316_3
      replace p316 := eq_true p316
      replace q316 := eq_true q316
      refine start_ (n := 15) (S := fun w' => w'.cell? (ad315.add ((x4_1).toNat * 4)) = some (.string ((rd_T38 l0 x4_1).f0)) ∧ w'.cell? ⟨(ad315.add ((x4_1).toNat * 4)).block, (ad315.add ((x4_1).toNat * 4)).off + 1, none⟩ = some (.bool ((rd_T38 l0 x4_1).f1.f0)) ∧ w'.cell? ⟨(ad315.add ((x4_1).toNat * 4)).block, (ad315.add ((x4_1).toNat * 4)).off + 2, none⟩ = some (.int .i64 ((rd_T38 l0 x4_1).f1.f1)) ∧ w'.cell? ⟨(ad315.add ((x4_1).toNat * 4)).block, (ad315.add ((x4_1).toNat * 4)).off + 3, none⟩ = some (.string ((rd_T38 l0 x4_1).f1.f2)) ∧ w'.cell? (ad315.add ((x4_1).toNat * 4)) = some (.string ((rd_T38 l0 x4_1).f0)) ∧ w'.cell? ⟨(ad315.add ((x4_1).toNat * 4)).block, (ad315.add ((x4_1).toNat * 4)).off + 1, none⟩ = some (.bool ((rd_T38 l0 x4_1).f1.f0)) ∧ w'.cell? ⟨(ad315.add ((x4_1).toNat * 4)).block, (ad315.add ((x4_1).toNat * 4)).off + 2, none⟩ = some (.int .i64 ((rd_T38 l0 x4_1).f1.f1)) ∧ w'.cell? ⟨(ad315.add ((x4_1).toNat * 4)).block, (ad315.add ((x4_1).toNat * 4)).off + 3, none⟩ = some (.string ((rd_T38 l0 x4_1).f1.f2))) (ds := []) #[false, false, false, false, false, false, false, false, false, false, false, false, false, false, false] (by kernel_rfl) rfl rfl ⟨((HB.out.cell (World.block_lt_of_cell? w _ hw315_0)).trans hw315_0), ((HB.out.cell (World.block_lt_of_cell? w _ hw315_1)).trans hw315_1), ((HB.out.cell (World.block_lt_of_cell? w _ hw315_2)).trans hw315_2), ((HB.out.cell (World.block_lt_of_cell? w _ hw315_3)).trans hw315_3), ((HB.out.cell (World.block_lt_of_cell? w _ hw316_0)).trans hw316_0), ((HB.out.cell (World.block_lt_of_cell? w _ hw316_1)).trans hw316_1), ((HB.out.cell (World.block_lt_of_cell? w _ hw316_2)).trans hw316_2), ((HB.out.cell (World.block_lt_of_cell? w _ hw316_3)).trans hw316_3)⟩ (fun hHeld => ?_); refine with_tabW w19_items.tab5 w19_items.bits5 (fun HT_ HW_ => ?_)
      generalize wr.drew = w7 at HO_3 HB hx315_0 hx315_1 hx315_2 hx315_3 hx316_0 hx316_1 hx316_2 hx316_3 hHeld ⊢
      refine yz 0 (some 12) (bs 15 1) HT_.out (h := ?_)
      refine yz 1 (some 13) (bs 15 3) HT_.out (h := ?_)
      refine yz 2 (some 14) (bs 15 7) HT_.out (h := ?_)
      refine yz 3 (some 15) (bs 15 15) HT_.out (h := ?_)
      refine yz 4 (some 16) (bs 15 31) HT_.out (h := ?_)
      refine yz 6 (some 18) (bs 15 95) HT_.out (h := ?_)
      refine yz 7 (some 19) (bs 15 223) HT_.out (h := ?_)
      refine yz 8 (some 20) (bs 15 479) HT_.out (h := ?_)
      refine yz 9 (some 21) (bs 15 991) HT_.out (h := ?_)
      refine yt 5 (some 17) (bs 15 1023) HT_.out HW_.out hHeld (h := ?_)
      refine yt 10 (some 22) (bs 15 2047) HT_.out HW_.out hHeld (h := ?_)
      refine yz 11 (some 23) (bs 15 4095) HT_.out (h := ?_)
      refine one_ (i := 12) (N := some 24) #[true, true, true, true, true, true, true, true, true, true, true, true, true, false, false] rfl rfl (one_of HT_.out (by kernel_rfl)) (by decide) (fun K hK => ?_)
      refine value_ (w1 := ?_) (v := ?_) (by rfl) rfl ?_ ?_
      rotate_left 2
      ·go_simp
       constructor
       ·rfl
       ·rfl
      refine hK.out _ _ ⟨(World.cell?_alloc_lt _ _ _ (World.block_lt_of_cell? _ _ (((HB.out.cell (World.block_lt_of_cell? w _ hw315_0)).trans hw315_0)))).trans (((HB.out.cell (World.block_lt_of_cell? w _ hw315_0)).trans hw315_0)), (World.cell?_alloc_lt _ _ _ (World.block_lt_of_cell? _ _ (((HB.out.cell (World.block_lt_of_cell? w _ hw315_1)).trans hw315_1)))).trans (((HB.out.cell (World.block_lt_of_cell? w _ hw315_1)).trans hw315_1)), (World.cell?_alloc_lt _ _ _ (World.block_lt_of_cell? _ _ (((HB.out.cell (World.block_lt_of_cell? w _ hw315_2)).trans hw315_2)))).trans (((HB.out.cell (World.block_lt_of_cell? w _ hw315_2)).trans hw315_2)), (World.cell?_alloc_lt _ _ _ (World.block_lt_of_cell? _ _ (((HB.out.cell (World.block_lt_of_cell? w _ hw315_3)).trans hw315_3)))).trans (((HB.out.cell (World.block_lt_of_cell? w _ hw315_3)).trans hw315_3)), (World.cell?_alloc_lt _ _ _ (World.block_lt_of_cell? _ _ (((HB.out.cell (World.block_lt_of_cell? w _ hw316_0)).trans hw316_0)))).trans (((HB.out.cell (World.block_lt_of_cell? w _ hw316_0)).trans hw316_0)), (World.cell?_alloc_lt _ _ _ (World.block_lt_of_cell? _ _ (((HB.out.cell (World.block_lt_of_cell? w _ hw316_1)).trans hw316_1)))).trans (((HB.out.cell (World.block_lt_of_cell? w _ hw316_1)).trans hw316_1)), (World.cell?_alloc_lt _ _ _ (World.block_lt_of_cell? _ _ (((HB.out.cell (World.block_lt_of_cell? w _ hw316_2)).trans hw316_2)))).trans (((HB.out.cell (World.block_lt_of_cell? w _ hw316_2)).trans hw316_2)), (World.cell?_alloc_lt _ _ _ (World.block_lt_of_cell? _ _ (((HB.out.cell (World.block_lt_of_cell? w _ hw316_3)).trans hw316_3)))).trans (((HB.out.cell (World.block_lt_of_cell? w _ hw316_3)).trans hw316_3))⟩ (fun hHeld => ?_)
      clear hK K
      refine norm_ (a' := ?_) ?_ ?_
      rotate_left
      ·show Act.put _ (some 24) _ = _
       simp only [Act.put, List.setIfInBounds_toArray, List.set_cons_zero, List.set_cons_succ, i64_w, i32_w]
       rfl
      refine one_ (i := 13) (N := some 25) #[true, true, true, true, true, true, true, true, true, true, true, true, true, true, false] rfl rfl (one_of HT_.out (by kernel_rfl)) (by decide) (fun K hK => ?_)
      refine Kd.R_append_step k74 (w0 := w) w.heap.size (by rfl) (.tmp 12) (.tmp 24) 34 74 (.agg #[(.string ⟨#[]⟩), (.bool false), (.int .i64 0), (.string ⟨#[]⟩)]) 48 rfl Tryz.underlying34 info74 rfl (by decide) (by omega) u3 x3_1 (⟨(rd_T38 l0 x4_1).f0, (⟨(rd_T38 l0 x4_1).f1.f0, (rd_T38 l0 x4_1).f1.f1, (rd_T38 l0 x4_1).f1.f2⟩ : S24)⟩ : S74) [.string ((rd_T38 l0 x4_1).f0), .bool ((rd_T38 l0 x4_1).f1.f0), .int .i64 ((rd_T38 l0 x4_1).f1.f1), .string ((rd_T38 l0 x4_1).f1.f2)] (fun _ => True) (fun _ => False) rfl rfl ?aP (fun _ hk => hk.elim) ?aF ?aO ?aB ?aS ?aL ?_
      (case aP => exact k74_mkM _ _ _ (⟨(rd_T38 l0 x4_1).f0, (⟨(rd_T38 l0 x4_1).f1.f0, (rd_T38 l0 x4_1).f1.f1, (rd_T38 l0 x4_1).f1.f2⟩ : S24)⟩ : S74))
      (case aB => exact xb)
      (case aF => exact (fun _ _ => trivial))
      (case aO => exact (xo HO_3.out))
      (case aS => exact (below_size xb))
      (case aL => have := LMc6.out; omega)
      intro v318 w8 ho hb hg hat
      rw [← Ny317.out] at ho
      replace HB := xy (hb)
      have HO319 := xy (ho)
      clear HO_3
      clear ho hb hg hat
      refine hK.out _ _ ⟨((HB.out.cell (World.block_lt_of_cell? w _ hw315_0)).trans hw315_0), ((HB.out.cell (World.block_lt_of_cell? w _ hw315_1)).trans hw315_1), ((HB.out.cell (World.block_lt_of_cell? w _ hw315_2)).trans hw315_2), ((HB.out.cell (World.block_lt_of_cell? w _ hw315_3)).trans hw315_3), ((HB.out.cell (World.block_lt_of_cell? w _ hw316_0)).trans hw316_0), ((HB.out.cell (World.block_lt_of_cell? w _ hw316_1)).trans hw316_1), ((HB.out.cell (World.block_lt_of_cell? w _ hw316_2)).trans hw316_2), ((HB.out.cell (World.block_lt_of_cell? w _ hw316_3)).trans hw316_3)⟩ (fun hHeld => ?_)
      clear hK K
      refine norm_ (a' := ?_) ?_ ?_
      rotate_left
      ·show Act.put _ (some 25) _ = _
       simp only [Act.put, List.setIfInBounds_toArray, List.set_cons_zero, List.set_cons_succ, i64_w, i32_w]
       rfl
      refine yz 14 (some 3) (bs 15 32767) HT_.out (h := ?_)
      refine done_ (done_of HT_.out (by kernel_rfl)) ?_
      try go_wp2
      go_roundg k1
      case measure => have := HK1.out; omega
      case rel => exact ⟨(y317), (wrap64 (x4_1 + 1)), xg, H', ⟨by have := HK1.out; omega⟩, ⟨by (with_reducible repeat (first | apply Kd.R_alloc | apply Kd.R_drewN | apply Kd.R_drew)); exact HO319.out⟩, ⟨xb⟩⟩
     ·rw [if_neg c6] at H
      exact absurd H (by simp)
    ·rw [if_neg c5] at H
     exact absurd H (by simp)
   ·rw [if_neg c4] at H
    have c4b0 : decide (x4_1 < (l0.length : Int)) = false := decide_eq_false c4
    clear c4
    obtain rfl := Option.some.inj H
    go_wp2
    go_ret
    exact ⟨_, by first | rfl | (simp [errW_none, errW_some] <;> rfl) | (simp [*, errW_none, errW_some] <;> rfl), by (with_reducible repeat (first | apply Kd.R_alloc | apply Kd.R_drewN | apply Kd.R_drew)); exact HO_3.out, xb⟩
def sorter_weight.f (a0_0 : ByteArray) (a0_1 : Bool) (a0_2 : Int) (a0_3 : ByteArray) : Option (Int) := some (wrap64 ((wrap64 ((a0_0.size : Int) + (a0_3.size : Int))) + 16))
set_option maxHeartbeats 8000000 in
set_option maxRecDepth 100000 in
theorem sorter_weight.calls (a0_0 : ByteArray) (a0_1 : Bool) (a0_2 : Int) (a0_3 : ByteArray) (r : Int) (w : World) (hT : Tabs w) (h : sorter_weight.f a0_0 a0_1 a0_2 a0_3 = some r) :
  Calls Tryz.prog 35 #[.agg #[.string a0_0, .bool a0_1, .int .i64 a0_2, .string a0_3]] w fun e w' => e = .returned (.int .i64 r) ∧ Below w.heap.size w w' := by
 have hu38 := Tryz.underlying38
 have HB := xy (Below.refl w.heap.size w)
 unfold sorter_weight.f at h
 have H := h
 clear h
 obtain rfl := Option.some.inj H
 go_enter Tryz.func35, Tryz.ntmps35
 go_wp2_with (((with_reducible refine gate_dst (N := 1) rfl ?_); refine xq (N := 1) (cs := #[.string a0_0, .bool a0_1, .int .i64 a0_2, .string a0_3]) (t := 38) ?_; intro gb320 hg w2 hbox hb; have BK320 := xy (hbox); have GW320 := xs w hg; have GE320 := xs w hg; replace HB := xy (below_step xb hb); clear hb hbox hg; have hcz3_0 : w2.cell? ⟨gb320, 0, none⟩ = some (.string a0_0) := (kc BK320.out 0).trans rfl; have hcz3_1 : w2.cell? ⟨gb320, 1, none⟩ = some (.bool a0_1) := (kc BK320.out 1).trans rfl; have hcz3_2 : w2.cell? ⟨gb320, 2, none⟩ = some (.int .i64 a0_2) := (kc BK320.out 2).trans rfl; have hcz3_3 : w2.cell? ⟨gb320, 3, none⟩ = some (.string a0_3) := (kc BK320.out 3).trans rfl; have hfz3_0 := kf BK320.out 0; have hfz3_1 := kf BK320.out 1; have hfz3_2 := kf BK320.out 2; have hfz3_3 := kf BK320.out 3))
 go_ret
 exact ⟨xe, xb⟩
def sorter_Weight.l0 : Nat → Int → List (S38) → Int → Int → Option (Int)
 | 0, _, _, _, _ => none
 | k + 1, x3, x6, x7, x8 => if x8 < x7 then (if 0 ≤ x8 then (if x8 < (x6.length : Int) then ((sorter_weight.f ((rd_T38 x6 x8).f0) ((rd_T38 x6 x8).f1.f0) ((rd_T38 x6 x8).f1.f1) ((rd_T38 x6 x8).f1.f2)).bind fun t323 => (sorter_Weight.l0 k (wrap64 (x3 + t323)) x6 x7 (wrap64 (x8 + 1)))) else (none)) else (none)) else (some x3)
def sorter_Weight.f (k : Nat) (l0 : List (S38)) : Option (Int) := sorter_Weight.l0 k 0 l0 (l0.length : Int) 0
theorem sorter_Weight.mono_l : ∀ k, (∀ y0 y1 y2 y3, LeO (sorter_Weight.l0 k y0 y1 y2 y3) (sorter_Weight.l0 (k + 1) y0 y1 y2 y3))
 | 0 => fun _ _ _ _ r h => by simp [sorter_Weight.l0] at h
 | k + 1 => by
  have ih0 := sorter_Weight.mono_l k
  ·intro y0 y1 y2 y3
   unfold sorter_Weight.l0
   repeat' (with_reducible first | exact ih0 _ _ _ _ | exact LeO.refl _ | exact LeO.none _ | refine LeO.ite ?_ ?_ | refine LeO.bind ?_ (fun _ => ?_))
theorem sorter_Weight.mono : ∀ a0 k, LeO (sorter_Weight.f k a0) (sorter_Weight.f (k + 1) a0) := by
 intro a0 k
 have ih0 := sorter_Weight.mono_l k
 unfold sorter_Weight.f
 repeat' (with_reducible first | exact ih0 _ _ _ _ | exact LeO.refl _ | exact LeO.none _ | refine LeO.ite ?_ ?_ | refine LeO.bind ?_ (fun _ => ?_))
set_option maxHeartbeats 8000000 in
set_option maxRecDepth 100000 in
theorem sorter_Weight.calls (k : Nat) (A0 : Option Addr) (c0 : Nat) (l0 : List (S38)) (r : Int) (w : World) (hT : Tabs w) (hr0 : Kd.C k38 w A0 l0.length l0) (hc0 : l0.length ≤ c0) (h : sorter_Weight.f k l0 = some r) :
  Calls Tryz.prog 19 #[.slice A0 l0.length c0] w fun e w' => e = .returned (.int .i64 r) ∧ Below w.heap.size w w' := by
 have hu38 := Tryz.underlying38
 have HR0 := xy hr0
 have HC0 := xy hc0
 clear hr0 hc0
 have HB := xy (Below.refl w.heap.size w)
 unfold sorter_Weight.f at h
 have H := h
 clear h
 have H' := xy H
 clear H
 go_enter Tryz.func19, Tryz.ntmps19
 go_wp2
 go_loopg [3, 8] k (fun kq v3 v8 w' => ∃ (x3_1 : Int) (x8_1 : Int), v3 = .int .i64 x3_1 ∧ v8 = .int .i64 x8_1 ∧ Aside0 (sorter_Weight.l0 kq x3_1 l0 (l0.length : Int) x8_1 = some r) ∧ Aside0 (kq ≤ k) ∧ Aside0 (Below w.heap.size w w'))
 case atStart => exact ⟨(0), (0), xg, xg, H', ⟨Nat.le_refl _⟩, ⟨xb⟩⟩
 case round =>
  clear H'
  try clear c1
  obtain ⟨x3_1, x8_1, rfl, rfl, HA, HK1, HB⟩ := hrel
  cases gk with
  | zero => exact absurd HA.out (by simp [sorter_Weight.l0])
  | succ k1 =>
   have H := HA.out
   clear HA
   simp only [sorter_Weight.l0] at H
   by_cases c2 : x8_1 < (l0.length : Int)
   ·rw [if_pos c2] at H
    have c2b0 : decide (x8_1 < (l0.length : Int)) = true := decide_eq_true c2
    clear c2
    by_cases c3 : 0 ≤ x8_1
    ·rw [if_pos c3] at H
     have c3b0 : decide (0 ≤ x8_1) = true := decide_eq_true c3
     clear c3
     by_cases c4 : x8_1 < (l0.length : Int)
     ·rw [if_pos c4] at H
      have c4b0 : decide (x8_1 < (l0.length : Int)) = true := decide_eq_true c4
      clear c4
      replace H := xj H
      obtain ⟨t323, A50, H⟩ := H
      try dsimp only at H
      have A5 := xy A50
      clear A50
      have H' := xy H
      clear H
      have p321 : 0 ≤ (x8_1 : Int) := xi
      have q321 : x8_1 < (l0.length : Int) := xi
      obtain ⟨ad321, e321, hx321_0, hx321_1, hx321_2, hx321_3⟩ := at_T38 HR0.out x8_1 p321 q321
      cases e321
      replace hx321_0 := (HB.out.cell (World.block_lt_of_cell? w _ hx321_0)).trans hx321_0
      replace hx321_1 := (HB.out.cell (World.block_lt_of_cell? w _ hx321_1)).trans hx321_1
      replace hx321_2 := (HB.out.cell (World.block_lt_of_cell? w _ hx321_2)).trans hx321_2
      replace hx321_3 := (HB.out.cell (World.block_lt_of_cell? w _ hx321_3)).trans hx321_3
      replace p321 := eq_true p321
      replace q321 := eq_true q321
      go_wp2_with (first | ((with_reducible refine gate_dst (N := 5) rfl ?_); refine xq (N := 5) (cs := #[.string (⟨#[]⟩ : ByteArray), .bool false, .int .i64 0, .string (⟨#[]⟩ : ByteArray)]) (t := 38) ?_; intro gb322 hg w6 hbox hb; have BK322 := xy (hbox); have GW322 := xs w hg; have GE322 := xs w hg; replace HB := xy (below_step xb hb); clear hb hbox hg; have hcz7_0 : w6.cell? ⟨gb322, 0, none⟩ = some (.string (⟨#[]⟩ : ByteArray)) := (kc BK322.out 0).trans rfl; have hcz7_1 : w6.cell? ⟨gb322, 1, none⟩ = some (.bool false) := (kc BK322.out 1).trans rfl; have hcz7_2 : w6.cell? ⟨gb322, 2, none⟩ = some (.int .i64 0) := (kc BK322.out 2).trans rfl; have hcz7_3 : w6.cell? ⟨gb322, 3, none⟩ = some (.string (⟨#[]⟩ : ByteArray)) := (kc BK322.out 3).trans rfl; have hfz7_0 := kf BK322.out 0; have hfz7_1 := kf BK322.out 1; have hfz7_2 := kf BK322.out 2; have hfz7_3 := kf BK322.out 3) | ((with_reducible refine gate_callee (f := 35) rfl ?_); refine goesL_ (some 14) rfl rfl Tryz.func35 (by kernel_rfl) rfl #[.agg #[.string ((rd_T38 l0 x8_1).f0), .bool ((rd_T38 l0 x8_1).f1.f0), .int .i64 ((rd_T38 l0 x8_1).f1.f1), .string ((rd_T38 l0 x8_1).f1.f2)]] rfl xr ?_; (with_reducible refine (sorter_weight.calls ((rd_T38 l0 x8_1).f0) ((rd_T38 l0 x8_1).f1.f0) ((rd_T38 l0 x8_1).f1.f1) ((rd_T38 l0 x8_1).f1.f2) t323 _ (Tabs.below hT xf) A5.out).mono ?_); rintro e w8 ⟨rfl, hb⟩; refine ⟨_, rfl, ?_⟩; replace BK322 := xy (blk_below (g := gb322) (o := .cells #[.string ((rd_T38 l0 x8_1).f0), .bool ((rd_T38 l0 x8_1).f1.f0), .int .i64 ((rd_T38 l0 x8_1).f1.f1), .string ((rd_T38 l0 x8_1).f1.f2)] 38 (0, 0)) (by (with_reducible repeat (first | refine blk_drewN ?_ _ | refine blk_drew ?_ | refine blk_alloc ?_ _)); refine blk_put (cs := #[.string ((rd_T38 l0 x8_1).f0), .bool ((rd_T38 l0 x8_1).f1.f0), .int .i64 ((rd_T38 l0 x8_1).f1.f1), .string (⟨#[]⟩ : ByteArray)]) ?_ 3 _ rfl; (with_reducible repeat (first | refine blk_drewN ?_ _ | refine blk_drew ?_ | refine blk_alloc ?_ _)); refine blk_put (cs := #[.string ((rd_T38 l0 x8_1).f0), .bool ((rd_T38 l0 x8_1).f1.f0), .int .i64 0, .string (⟨#[]⟩ : ByteArray)]) ?_ 2 _ rfl; (with_reducible repeat (first | refine blk_drewN ?_ _ | refine blk_drew ?_ | refine blk_alloc ?_ _)); refine blk_put (cs := #[.string ((rd_T38 l0 x8_1).f0), .bool false, .int .i64 0, .string (⟨#[]⟩ : ByteArray)]) ?_ 1 _ rfl; (with_reducible repeat (first | refine blk_drewN ?_ _ | refine blk_drew ?_ | refine blk_alloc ?_ _)); refine blk_put (cs := #[.string (⟨#[]⟩ : ByteArray), .bool false, .int .i64 0, .string (⟨#[]⟩ : ByteArray)]) ?_ 0 _ rfl; (with_reducible repeat (first | refine blk_drewN ?_ _ | refine blk_drew ?_ | refine blk_alloc ?_ _)); exact BK322.out) hb); replace HB := xy (below_step xb hb); (try clear hb); (try clear hb2); (try clear hk); (try clear hi)))
      go_roundg k1
      case measure => have := HK1.out; omega
      case rel => exact ⟨(wrap64 (x3_1 + t323)), (wrap64 (x8_1 + 1)), xg, xg, H', ⟨by have := HK1.out; omega⟩, ⟨xb⟩⟩
     ·rw [if_neg c4] at H
      exact absurd H (by simp)
    ·rw [if_neg c3] at H
     exact absurd H (by simp)
   ·rw [if_neg c2] at H
    have c2b0 : decide (x8_1 < (l0.length : Int)) = false := decide_eq_false c2
    clear c2
    obtain rfl := Option.some.inj H
    go_wp2
    go_ret
    exact ⟨xe, xb⟩
def r13_Is.f (a0_0 : Bool) (a0_1 : Int) (a0_2 : ByteArray) : Option (Bool) := if a0_0 = true then (if a0_1 = 0 then (some (decide ((a0_2.size : Int) ≤ 1000))) else (some false)) else (some (a0_2.toList == ([] : List UInt8)))
set_option maxHeartbeats 8000000 in
set_option maxRecDepth 100000 in
theorem r13_Is.calls (a0_0 : Bool) (a0_1 : Int) (a0_2 : ByteArray) (r : Bool) (w : World) (hT : Tabs w) (h : r13_Is.f a0_0 a0_1 a0_2 = some r) :
  Calls Tryz.prog 54 #[.agg #[.bool a0_0, .int .i64 a0_1, .string a0_2]] w fun e w' => e = .returned (.bool r) ∧ Below w.heap.size w w' := by
 have hu24 := Tryz.underlying24
 have HB := xy (Below.refl w.heap.size w)
 unfold r13_Is.f at h
 have H := h
 clear h
 by_cases c2 : a0_0 = true
 ·subst c2
  rw [if_pos rfl] at H
  by_cases c3 : a0_1 = 0
  ·rw [if_pos c3] at H
   have c3b0 : (a0_1 == 0) = true := beq_iff_eq.mpr c3
   have c3b1 : (a0_1 != 0) = false := bne_eq_false_iff_eq.mpr c3
   clear c3
   obtain rfl := Option.some.inj H
   go_enter Tryz.func54, Tryz.ntmps54
   go_wp2_with (((with_reducible refine gate_dst (N := 1) rfl ?_); (try (refine gate_guard (by rfl) ?_; dsimp only)); refine xq (N := 1) (cs := #[.bool true, .int .i64 a0_1, .string a0_2]) (t := 24) ?_; intro gb324 hg w4 hbox hb; have BK324 := xy (hbox); have GW324 := xs w hg; have GE324 := xs w hg; replace HB := xy (below_step xb hb); clear hb hbox hg; have hcz5_0 : w4.cell? ⟨gb324, 0, none⟩ = some (.bool true) := (kc BK324.out 0).trans rfl; have hcz5_1 : w4.cell? ⟨gb324, 1, none⟩ = some (.int .i64 a0_1) := (kc BK324.out 1).trans rfl; have hcz5_2 : w4.cell? ⟨gb324, 2, none⟩ = some (.string a0_2) := (kc BK324.out 2).trans rfl; have hfz5_0 := kf BK324.out 0; have hfz5_1 := kf BK324.out 1; have hfz5_2 := kf BK324.out 2))
   go_ret
   exact ⟨xe, xb⟩
  ·rw [if_neg c3] at H
   have c3b0 : (a0_1 == 0) = false := beq_eq_false_iff_ne.mpr c3
   have c3b1 : (a0_1 != 0) = true := bne_iff_ne.mpr c3
   obtain rfl := Option.some.inj H
   go_enter Tryz.func54, Tryz.ntmps54
   go_wp2_with (((with_reducible refine gate_dst (N := 1) rfl ?_); (try (refine gate_guard (by rfl) ?_; dsimp only)); refine xq (N := 1) (cs := #[.bool true, .int .i64 a0_1, .string a0_2]) (t := 24) ?_; intro gb324 hg w6 hbox hb; have BK324 := xy (hbox); have GW324 := xs w hg; have GE324 := xs w hg; replace HB := xy (below_step xb hb); clear hb hbox hg; have hcz7_0 : w6.cell? ⟨gb324, 0, none⟩ = some (.bool true) := (kc BK324.out 0).trans rfl; have hcz7_1 : w6.cell? ⟨gb324, 1, none⟩ = some (.int .i64 a0_1) := (kc BK324.out 1).trans rfl; have hcz7_2 : w6.cell? ⟨gb324, 2, none⟩ = some (.string a0_2) := (kc BK324.out 2).trans rfl; have hfz7_0 := kf BK324.out 0; have hfz7_1 := kf BK324.out 1; have hfz7_2 := kf BK324.out 2))
   go_ret
   exact ⟨xe, xb⟩
 ·replace c2 := Bool.eq_false_iff.mpr c2
  subst c2
  rw [if_neg (show ¬ (false = true) by decide)] at H
  obtain rfl := Option.some.inj H
  go_enter Tryz.func54, Tryz.ntmps54
  go_wp2_with (((with_reducible refine gate_dst (N := 1) rfl ?_); (try (refine gate_guard (by rfl) ?_; dsimp only)); refine xq (N := 1) (cs := #[.bool false, .int .i64 a0_1, .string a0_2]) (t := 24) ?_; intro gb324 hg w8 hbox hb; have BK324 := xy (hbox); have GW324 := xs w hg; have GE324 := xs w hg; replace HB := xy (below_step xb hb); clear hb hbox hg; have hcz9_0 : w8.cell? ⟨gb324, 0, none⟩ = some (.bool false) := (kc BK324.out 0).trans rfl; have hcz9_1 : w8.cell? ⟨gb324, 1, none⟩ = some (.int .i64 a0_1) := (kc BK324.out 1).trans rfl; have hcz9_2 : w8.cell? ⟨gb324, 2, none⟩ = some (.string a0_2) := (kc BK324.out 2).trans rfl; have hfz9_0 := kf BK324.out 0; have hfz9_1 := kf BK324.out 1; have hfz9_2 := kf BK324.out 2))
  go_ret
  exact ⟨xe, xb⟩
end Go.Proofs.YtebofnoljebakaaGreatDoor.PX
