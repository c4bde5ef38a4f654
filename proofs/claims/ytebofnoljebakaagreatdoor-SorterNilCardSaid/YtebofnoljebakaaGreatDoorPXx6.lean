/- Walked functions, by this session's program over the kit's print. -/
import Derived.Test.YtebofnoljebakaaGreatDoorXSC
import Derived.Test.YtebofnoljebakaaGreatDoorXSD
import Derived.Test.YtebofnoljebakaaGreatDoorXNil19
import Derived.Test.YtebofnoljebakaaGreatDoorPXx0
import Derived.Test.YtebofnoljebakaaGreatDoorPXx1
import Derived.Test.YtebofnoljebakaaGreatDoorPXx2
import Derived.Test.YtebofnoljebakaaGreatDoorPXx4
namespace Go.Proofs.YtebofnoljebakaaGreatDoor.PX
open Go.RowKit Go.Proofs.YtebofnoljebakaaGreatDoorW.PrintWords Go.Proofs.YtebofnoljebakaaGreatDoorW.PrintLast Go.Proofs.YtebofnoljebakaaGreatDoorW.PrintMore
attribute [local go_sem] xm_gtr max2_int min2_int max_two min_two max_three min_three max_four min_four
set_option linter.unusedVariables false
set_option linter.unusedSimpArgs false
/- Walked functions, by this session's program over the kit's print. -/
def job_written.f (k : Nat) (a0 : ByteArray) : Option (Int) := (value_Text.f a0).bind fun bt279 => ((value_Do.f k 18 (([(⟨bt279.1, bt279.2.1, bt279.2.2⟩ : S24)] : List (S24)))).bind fun bt285 => (some bt285.2.1))
theorem job_written.mono : ∀ a0 k, LeO (job_written.f k a0) (job_written.f (k + 1) a0) := by
 intro a0 k
 unfold job_written.f
 repeat' (with_reducible first | exact value_Do.mono _ _ _ | exact LeO.refl _ | exact LeO.none _ | refine LeO.ite ?_ ?_ | refine LeO.bind ?_ (fun _ => ?_))
set_option maxHeartbeats 8000000 in
set_option maxRecDepth 100000 in
theorem job_written.calls (k : Nat) (a0 : ByteArray) (r : Int) (w : World) (hT : Tabs w) (h : job_written.f k a0 = some r) :
  Calls Tryz.prog 44 #[.string a0] w fun e w' => e = .returned (.int .i64 r) ∧ Below w.heap.size w w' := by
 have hu24 := Tryz.underlying24
 have HB := xy (Below.refl w.heap.size w)
 unfold job_written.f at h
 have H := h
 clear h
 replace H := xj H
 obtain ⟨⟨t279, t280, t281⟩, A20, H⟩ := H
 try dsimp only at H
 have A2 := xy A20
 clear A20
 obtain ⟨y282, hy282⟩ : ∃ y_ : List (S24), y_ = (([(⟨t279, t280, t281⟩ : S24)] : List (S24))) := ⟨_, rfl⟩
 replace H : ((value_Do.f k 18 y282).bind fun bt285 => (some bt285.2.1)) = some r := by first | (rw [hy282]; with_reducible exact H) | (have H2_ := (Option.bind_some _ _).symm.trans H; rw [hy282]; with_reducible exact H2_) | (have H2_ := (Option.bind_some _ _).symm.trans H; with_reducible exact H2_) | with_reducible exact H | (rw [hy282]; exact H) | exact H
 have Ny282 := xy hy282
 clear hy282
 replace H := xj H
 obtain ⟨⟨t285, t286, t287, t288⟩, A30, H⟩ := H
 try dsimp only at H
 have A3 := xy A30
 clear A30
 obtain rfl := Option.some.inj H
 go_enter Tryz.func44, Tryz.ntmps44
 go_wp2_with (first | ((with_reducible refine gate_callee (f := 52) rfl ?_); refine goesL_ (some 7) rfl rfl Tryz.func52 (by kernel_rfl) rfl #[.string a0] rfl xr ?_; (with_reducible refine (value_Text.calls a0 t279 t280 t281 _ (Tabs.below hT xf) A2.out).mono ?_); rintro e w4 ⟨rfl, hb⟩; refine ⟨_, rfl, ?_⟩; replace HB := xy (below_step xb hb); (try clear hb); (try clear hb2); (try clear hk); (try clear hi)) | ((with_reducible refine gate_dst (N := 8) rfl ?_); refine Kd.R_lit k24 _ 24 ?hg (N := 8) ?hd (xs := ([(⟨t279, t280, t281⟩ : S24)] : List (S24))) (inner := [.bool t279, .int .i64 t280, .string t281]) (ok := fun _ => True) (okp := fun _ => True) ?hr ?hp (fun _ hk => hk) trivial (Below.refl _ _) (Nat.le_refl _) (by simp) ?_; (case hd => rfl); (case hg => rfl); (case hr => exact xh); (case hp => exact (Reps.c3 (show Kd.M k24 _ _ _ (⟨t279, t280, t281⟩ : S24) [.bool t279, .int .i64 t280, .string t281] from (k24_mkM _ _ _ (⟨t279, t280, t281⟩ : S24) )) (Reps.none _ _))); intro v283 w5 ho6 hb hg_ hnew_; clear hg_ hnew_; (first | rw [← Ny282.out] at ho6 | (simp only [Int.reduceToNat] at ho6; rw [← Ny282.out] at ho6)); have HO284 := xy (Kd.R_lower ho6 (below_size xb)); replace HB := xy (below_step xb hb); clear hb ho6; obtain ⟨Ao7, co7, eo7⟩ := Kd.R_slice HO284.out; subst eo7) | ((with_reducible refine gate_callee (f := 51) rfl ?_); refine goesL_ (some 9) rfl rfl Tryz.func51 (by kernel_rfl) rfl #[.int .i64 18, .slice Ao7 y282.length co7] rfl xr ?_; (with_reducible refine (value_Do.calls k 18 _ _ y282 t285 t286 t287 t288 _ (Tabs.below hT xf) ?side1 ?side2 A3.out).mono ?_); (case side1 => repeat (first | exact (Kd.R_reads' HO284.out).2.2 | (with_reducible refine Kd.C_alloc ?_ _) | (with_reducible refine Kd.C_drewN ?_ _) | (with_reducible refine Kd.C_drew ?_))); (case side2 => exact (Kd.R_reads' HO284.out).2.1); rintro e w8 ⟨rfl, hb⟩; refine ⟨_, rfl, ?_⟩; replace HO284 := xy (Kd.R_below (xo HO284.out) hb); replace HB := xy (below_step xb hb); (try clear hb); (try clear hb2); (try clear hk); (try clear hi)) | ((with_reducible refine gate_dst (N := 3) rfl ?_); refine xq (N := 3) (cs := #[.bool false, .int .i64 0, .string (⟨#[]⟩ : ByteArray)]) (t := 24) ?_; intro gb289 hg w9 hbox hb; replace HO284 := xy (Kd.R_below (Kd.R_elderB (xo HO284.out) gb289 (Nat.le_of_eq hg.symm)) hb); have BK289 := xy (hbox); have GW289 := xs w hg; have GE289 := xs w hg; replace HB := xy (below_step xb hb); clear hb hbox hg; have hcz10_0 : w9.cell? ⟨gb289, 0, none⟩ = some (.bool false) := (kc BK289.out 0).trans rfl; have hcz10_1 : w9.cell? ⟨gb289, 1, none⟩ = some (.int .i64 0) := (kc BK289.out 1).trans rfl; have hcz10_2 : w9.cell? ⟨gb289, 2, none⟩ = some (.string (⟨#[]⟩ : ByteArray)) := (kc BK289.out 2).trans rfl; have hfz10_0 := kf BK289.out 0; have hfz10_1 := kf BK289.out 1; have hfz10_2 := kf BK289.out 2))
 go_ret
 exact ⟨xe, xb⟩
def job_Ahead.j0 : Nat → ByteArray → ByteArray → Bool → List (S81) → List (S81) → List (S81) → Int → List (S81) → Bool → Int → ByteArray → Bool → Int → Bool → Bool → Int → Option (Bool)
 | 0, _, _, _, _, _, _, _, _, _, _, _, _, _, _, _, _ => none
 | k + 1, x1, x2, x291000, x291001, x291002, x291003, x291004, x291005, x291006, x291007, x291008, x291009, x291010, x291011, x291012, x291013 => if x291012 = true then ((job_written.f k x1).bind fun t291 => ((job_written.f k x2).bind fun t292 => ((cmp_Compare_int.f t291 t292).bind fun t293 => ((cmp_Compare_string.f x1 x2).bind fun t294 => ((cmp_Or_int.f k (([t293, t294] : List Int))).bind fun t298 => (some (decide (t298 < 0)))))))) else ((cmp_Compare_string.f x1 x2).bind fun t299 => ((cmp_Or_int.f k (([0, t299] : List Int))).bind fun t303 => (some (decide (t303 < 0)))))
def job_Ahead.f (k : Nat) (a0_0 : Bool) (l0_1 : List (S81)) (l0_2 : List (S81)) (l0_3 : List (S81)) (a0_4 : Int) (l0_5 : List (S81)) (a0_6 : Bool) (a0_7 : Int) (a0_8 : ByteArray) (a0_9 : Bool) (a0_10 : Int) (a0_11 : Bool) (a0_12 : Bool) (a0_13 : Int) (a1 : ByteArray) (a2 : ByteArray) : Option (Bool) := if a0_11 = true then (job_Ahead.j0 k a2 a1 a0_0 l0_1 l0_2 l0_3 a0_4 l0_5 a0_6 a0_7 a0_8 a0_9 a0_10 a0_11 a0_12 a0_13) else (job_Ahead.j0 k a1 a2 a0_0 l0_1 l0_2 l0_3 a0_4 l0_5 a0_6 a0_7 a0_8 a0_9 a0_10 a0_11 a0_12 a0_13)
theorem job_Ahead.mono_l : ∀ k, (∀ y0 y1 y2 y3 y4 y5 y6 y7 y8 y9 y10 y11 y12 y13 y14 y15, LeO (job_Ahead.j0 k y0 y1 y2 y3 y4 y5 y6 y7 y8 y9 y10 y11 y12 y13 y14 y15) (job_Ahead.j0 (k + 1) y0 y1 y2 y3 y4 y5 y6 y7 y8 y9 y10 y11 y12 y13 y14 y15))
 | 0 => fun _ _ _ _ _ _ _ _ _ _ _ _ _ _ _ _ r h => by simp [job_Ahead.j0] at h
 | k + 1 => by
  have ih0 := job_Ahead.mono_l k
  ·intro y0 y1 y2 y3 y4 y5 y6 y7 y8 y9 y10 y11 y12 y13 y14 y15
   unfold job_Ahead.j0
   repeat' (with_reducible first | exact ih0 _ _ _ _ _ _ _ _ _ _ _ _ _ _ _ _ | exact cmp_Or_int.mono _ _ | exact job_written.mono _ _ | exact LeO.refl _ | exact LeO.none _ | refine LeO.ite ?_ ?_ | refine LeO.bind ?_ (fun _ => ?_))
theorem job_Ahead.mono : ∀ a0 a1 a2 a3 a4 a5 a6 a7 a8 a9 a10 a11 a12 a13 a14 a15 k, LeO (job_Ahead.f k a0 a1 a2 a3 a4 a5 a6 a7 a8 a9 a10 a11 a12 a13 a14 a15) (job_Ahead.f (k + 1) a0 a1 a2 a3 a4 a5 a6 a7 a8 a9 a10 a11 a12 a13 a14 a15) := by
 intro a0 a1 a2 a3 a4 a5 a6 a7 a8 a9 a10 a11 a12 a13 a14 a15 k
 have ih0 := job_Ahead.mono_l k
 unfold job_Ahead.f
 repeat' (with_reducible first | exact ih0 _ _ _ _ _ _ _ _ _ _ _ _ _ _ _ _ | exact cmp_Or_int.mono _ _ | exact job_written.mono _ _ | exact LeO.refl _ | exact LeO.none _ | refine LeO.ite ?_ ?_ | refine LeO.bind ?_ (fun _ => ?_))
set_option maxHeartbeats 8000000 in
set_option maxRecDepth 100000 in
theorem job_Ahead.calls (k : Nat) (a0_0 : Bool) (A0_1 : Option Addr) (c0_1 : Nat) (l0_1 : List (S81)) (A0_2 : Option Addr) (c0_2 : Nat) (l0_2 : List (S81)) (A0_3 : Option Addr) (c0_3 : Nat) (l0_3 : List (S81)) (a0_4 : Int) (A0_5 : Option Addr) (c0_5 : Nat) (l0_5 : List (S81)) (a0_6 : Bool) (a0_7 : Int) (a0_8 : ByteArray) (a0_9 : Bool) (a0_10 : Int) (a0_11 : Bool) (a0_12 : Bool) (a0_13 : Int) (a1 : ByteArray) (a2 : ByteArray) (r : Bool) (w : World) (hT : Tabs w) (hr0_1 : Kd.C k81 w A0_1 l0_1.length l0_1) (hc0_1 : l0_1.length ≤ c0_1) (hr0_2 : Kd.C k81 w A0_2 l0_2.length l0_2) (hc0_2 : l0_2.length ≤ c0_2) (hr0_3 : Kd.C k81 w A0_3 l0_3.length l0_3) (hc0_3 : l0_3.length ≤ c0_3) (hr0_5 : Kd.C k81 w A0_5 l0_5.length l0_5) (hc0_5 : l0_5.length ≤ c0_5) (h : job_Ahead.f k a0_0 l0_1 l0_2 l0_3 a0_4 l0_5 a0_6 a0_7 a0_8 a0_9 a0_10 a0_11 a0_12 a0_13 a1 a2 = some r) :
  Calls Tryz.prog 39 #[.agg #[.bool a0_0, .slice A0_1 l0_1.length c0_1, .slice A0_2 l0_2.length c0_2, .slice A0_3 l0_3.length c0_3, .int .i64 a0_4, .slice A0_5 l0_5.length c0_5, .bool a0_6, .int .i64 a0_7, .string a0_8, .bool a0_9, .int .i64 a0_10, .bool a0_11, .bool a0_12, .int .i64 a0_13], .string a1, .string a2] w fun e w' => e = .returned (.bool r) ∧ Below w.heap.size w w' := by
 have hu26 := Tryz.underlying26
 have HR0_1 := xy hr0_1
 have HC0_1 := xy hc0_1
 clear hr0_1 hc0_1
 have HR0_2 := xy hr0_2
 have HC0_2 := xy hc0_2
 clear hr0_2 hc0_2
 have HR0_3 := xy hr0_3
 have HC0_3 := xy hc0_3
 clear hr0_3 hc0_3
 have HR0_5 := xy hr0_5
 have HC0_5 := xy hc0_5
 clear hr0_5 hc0_5
 have HB := xy (Below.refl w.heap.size w)
 unfold job_Ahead.f at h
 have H := h
 clear h
 have HC4 := xy H
 clear H
 go_enter Tryz.func39, Tryz.ntmps39
 go_upto_if 9 with (first | ((with_reducible refine gate_dst (N := 3) rfl ?_); refine xq (N := 3) (cs := #[.bool a0_0, .slice A0_1 l0_1.length c0_1, .slice A0_2 l0_2.length c0_2, .slice A0_3 l0_3.length c0_3, .int .i64 a0_4, .slice A0_5 l0_5.length c0_5, .bool a0_6, .int .i64 a0_7, .string a0_8, .bool a0_9, .int .i64 a0_10, .bool a0_11, .bool a0_12, .int .i64 a0_13]) (t := 26) ?_; intro gb290 hg w5 hbox hb; have BK290 := xy (hbox); have GW290 := xs w hg; have GE290 := xs w hg; replace HB := xy (below_step xb hb); clear hb hbox hg; have hcz6_0 : w5.cell? ⟨gb290, 0, none⟩ = some (.bool a0_0) := (kc BK290.out 0).trans rfl; have hcz6_1 : w5.cell? ⟨gb290, 1, none⟩ = some (.slice A0_1 l0_1.length c0_1) := (kc BK290.out 1).trans rfl; have hcz6_2 : w5.cell? ⟨gb290, 2, none⟩ = some (.slice A0_2 l0_2.length c0_2) := (kc BK290.out 2).trans rfl; have hcz6_3 : w5.cell? ⟨gb290, 3, none⟩ = some (.slice A0_3 l0_3.length c0_3) := (kc BK290.out 3).trans rfl; have hcz6_4 : w5.cell? ⟨gb290, 4, none⟩ = some (.int .i64 a0_4) := (kc BK290.out 4).trans rfl; have hcz6_5 : w5.cell? ⟨gb290, 5, none⟩ = some (.slice A0_5 l0_5.length c0_5) := (kc BK290.out 5).trans rfl; have hcz6_6 : w5.cell? ⟨gb290, 6, none⟩ = some (.bool a0_6) := (kc BK290.out 6).trans rfl; have hcz6_7 : w5.cell? ⟨gb290, 7, none⟩ = some (.int .i64 a0_7) := (kc BK290.out 7).trans rfl; have hcz6_8 : w5.cell? ⟨gb290, 8, none⟩ = some (.string a0_8) := (kc BK290.out 8).trans rfl; have hcz6_9 : w5.cell? ⟨gb290, 9, none⟩ = some (.bool a0_9) := (kc BK290.out 9).trans rfl; have hcz6_10 : w5.cell? ⟨gb290, 10, none⟩ = some (.int .i64 a0_10) := (kc BK290.out 10).trans rfl; have hcz6_11 : w5.cell? ⟨gb290, 11, none⟩ = some (.bool a0_11) := (kc BK290.out 11).trans rfl; have hcz6_12 : w5.cell? ⟨gb290, 12, none⟩ = some (.bool a0_12) := (kc BK290.out 12).trans rfl; have hcz6_13 : w5.cell? ⟨gb290, 13, none⟩ = some (.int .i64 a0_13) := (kc BK290.out 13).trans rfl; have hfz6_0 := kf BK290.out 0; have hfz6_1 := kf BK290.out 1; have hfz6_2 := kf BK290.out 2; have hfz6_3 := kf BK290.out 3; have hfz6_4 := kf BK290.out 4; have hfz6_5 := kf BK290.out 5; have hfz6_6 := kf BK290.out 6; have hfz6_7 := kf BK290.out 7; have hfz6_8 := kf BK290.out 8; have hfz6_9 := kf BK290.out 9; have hfz6_10 := kf BK290.out 10; have hfz6_11 := kf BK290.out 11; have hfz6_12 := kf BK290.out 12; have hfz6_13 := kf BK290.out 13))
 (try simp only [Act.put, List.setIfInBounds_toArray, List.set_cons_zero, List.set_cons_succ])
 go_cut [1, 2] (fun v1 v2 wc => ∃ (kq : Nat) (x1_3 : ByteArray) (x2_3 : ByteArray), v1 = .string x1_3 ∧ v2 = .string x2_3 ∧ Aside0 (job_Ahead.j0 kq x1_3 x2_3 a0_0 l0_1 l0_2 l0_3 a0_4 l0_5 a0_6 a0_7 a0_8 a0_9 a0_10 a0_11 a0_12 a0_13 = some r) ∧ Aside0 (kq ≤ k) ∧ Aside0 (wc.heap[gb290]? = some (.cells #[.bool a0_0, (.slice A0_1 l0_1.length c0_1), (.slice A0_2 l0_2.length c0_2), (.slice A0_3 l0_3.length c0_3), .int .i64 a0_4, (.slice A0_5 l0_5.length c0_5), .bool a0_6, .int .i64 a0_7, .string a0_8, .bool a0_9, .int .i64 a0_10, .bool a0_11, .bool a0_12, .int .i64 a0_13] 26 (0, 0))) ∧ Aside0 (Below w.heap.size w wc))
 case first =>
  have H := HC4.out
  clear HC4
  by_cases c7 : a0_11 = true
  ·subst c7
   rw [if_pos rfl] at H
   have H' := xy H
   clear H
   go_wp2
   go_meet
   case rel => exact ⟨_, (a2), (a1), xg, xg, H', ⟨by first | omega | exact Nat.le_refl _⟩, ⟨by (with_reducible repeat (first | refine blk_drewN ?_ _ | refine blk_drew ?_ | refine blk_alloc ?_ _)); exact BK290.out⟩, ⟨xb⟩⟩
  ·replace c7 := Bool.eq_false_iff.mpr c7
   subst c7
   rw [if_neg (show ¬ (false = true) by decide)] at H
   have H' := xy H
   clear H
   go_wp2
   go_meet
   case rel => exact ⟨_, (a1), (a2), xg, xg, H', ⟨by first | omega | exact Nat.le_refl _⟩, ⟨by (with_reducible repeat (first | refine blk_drewN ?_ _ | refine blk_drew ?_ | refine blk_alloc ?_ _)); exact BK290.out⟩, ⟨xb⟩⟩
 case rest =>
  clear HC4
  try clear p2
  try clear c3
  try clear c7
  try clear hcz6_0
  try clear hcz6_1
  try clear hcz6_10
  try clear hcz6_11
  try clear hcz6_12
  try clear hcz6_13
  try clear hcz6_2
  try clear hcz6_3
  try clear hcz6_4
  try clear hcz6_5
  try clear hcz6_6
  try clear hcz6_7
  try clear hcz6_8
  try clear hcz6_9
  try clear hfz6_0
  try clear hfz6_1
  try clear hfz6_10
  try clear hfz6_11
  try clear hfz6_12
  try clear hfz6_13
  try clear hfz6_2
  try clear hfz6_3
  try clear hfz6_4
  try clear hfz6_5
  try clear hfz6_6
  try clear hfz6_7
  try clear hfz6_8
  try clear hfz6_9
  obtain ⟨kq, x1_3, x2_3, rfl, rfl, HA, HJ3, BK290, HB⟩ := hcut
  cases kq with
  | zero => exact absurd HA.out (by simp [job_Ahead.j0])
  | succ kj3 =>
   have H := HA.out
   clear HA
   simp only [job_Ahead.j0] at H
   by_cases c8 : a0_12 = true
   ·subst c8
    rw [if_pos rfl] at H
    replace H := xj H
    obtain ⟨t291, A90, H⟩ := H
    try dsimp only at H
    have A9 := xy A90
    clear A90
    replace H := xj H
    obtain ⟨t292, A100, H⟩ := H
    try dsimp only at H
    have A10 := xy A100
    clear A100
    replace H := xj H
    obtain ⟨t293, A110, H⟩ := H
    try dsimp only at H
    have A11 := xy A110
    clear A110
    replace H := xj H
    obtain ⟨t294, A120, H⟩ := H
    try dsimp only at H
    have A12 := xy A120
    clear A120
    obtain ⟨y295, hy295⟩ : ∃ y_ : List Int, y_ = (([t293, t294] : List Int)) := ⟨_, rfl⟩
    replace H : ((cmp_Or_int.f kj3 y295).bind fun t298 => (some (decide (t298 < 0)))) = some r := by first | (rw [hy295]; with_reducible exact H) | (have H2_ := (Option.bind_some _ _).symm.trans H; rw [hy295]; with_reducible exact H2_) | (have H2_ := (Option.bind_some _ _).symm.trans H; with_reducible exact H2_) | with_reducible exact H | (rw [hy295]; exact H) | exact H
    have Ny295 := xy hy295
    clear hy295
    replace H := xj H
    obtain ⟨t298, A130, H⟩ := H
    try dsimp only at H
    have A13 := xy A130
    clear A130
    obtain rfl := Option.some.inj H
    have hcz14_0 : wc.cell? ⟨gb290, 0, none⟩ = some (.bool a0_0) := (kc BK290.out 0).trans rfl
    have hcz14_1 : wc.cell? ⟨gb290, 1, none⟩ = some (.slice A0_1 l0_1.length c0_1) := (kc BK290.out 1).trans rfl
    have hcz14_2 : wc.cell? ⟨gb290, 2, none⟩ = some (.slice A0_2 l0_2.length c0_2) := (kc BK290.out 2).trans rfl
    have hcz14_3 : wc.cell? ⟨gb290, 3, none⟩ = some (.slice A0_3 l0_3.length c0_3) := (kc BK290.out 3).trans rfl
    have hcz14_4 : wc.cell? ⟨gb290, 4, none⟩ = some (.int .i64 a0_4) := (kc BK290.out 4).trans rfl
    have hcz14_5 : wc.cell? ⟨gb290, 5, none⟩ = some (.slice A0_5 l0_5.length c0_5) := (kc BK290.out 5).trans rfl
    have hcz14_6 : wc.cell? ⟨gb290, 6, none⟩ = some (.bool a0_6) := (kc BK290.out 6).trans rfl
    have hcz14_7 : wc.cell? ⟨gb290, 7, none⟩ = some (.int .i64 a0_7) := (kc BK290.out 7).trans rfl
    have hcz14_8 : wc.cell? ⟨gb290, 8, none⟩ = some (.string a0_8) := (kc BK290.out 8).trans rfl
    have hcz14_9 : wc.cell? ⟨gb290, 9, none⟩ = some (.bool a0_9) := (kc BK290.out 9).trans rfl
    have hcz14_10 : wc.cell? ⟨gb290, 10, none⟩ = some (.int .i64 a0_10) := (kc BK290.out 10).trans rfl
    have hcz14_11 : wc.cell? ⟨gb290, 11, none⟩ = some (.bool a0_11) := (kc BK290.out 11).trans rfl
    have hcz14_12 : wc.cell? ⟨gb290, 12, none⟩ = some (.bool true) := (kc BK290.out 12).trans rfl
    have hcz14_13 : wc.cell? ⟨gb290, 13, none⟩ = some (.int .i64 a0_13) := (kc BK290.out 13).trans rfl
    have hfz14_0 := kf BK290.out 0
    have hfz14_1 := kf BK290.out 1
    have hfz14_2 := kf BK290.out 2
    have hfz14_3 := kf BK290.out 3
    have hfz14_4 := kf BK290.out 4
    have hfz14_5 := kf BK290.out 5
    have hfz14_6 := kf BK290.out 6
    have hfz14_7 := kf BK290.out 7
    have hfz14_8 := kf BK290.out 8
    have hfz14_9 := kf BK290.out 9
    have hfz14_10 := kf BK290.out 10
    have hfz14_11 := kf BK290.out 11
    have hfz14_12 := kf BK290.out 12
    have hfz14_13 := kf BK290.out 13
    go_wp2_with (first | ((with_reducible refine gate_callee (f := 44) rfl ?_); refine goesL_ (some 15) rfl rfl Tryz.func44 (by kernel_rfl) rfl #[.string x1_3] rfl xr ?_; (with_reducible refine (job_written.calls kj3 x1_3 t291 _ (Tabs.below hT xf) A9.out).mono ?_); rintro e w15 ⟨rfl, hb⟩; refine ⟨_, rfl, ?_⟩; replace BK290 := xd BK290.out hb; replace HB := xy (below_step xb hb); (try clear hb); (try clear hb2); (try clear hk); (try clear hi)) | ((with_reducible refine gate_callee (f := 44) rfl ?_); refine goesL_ (some 17) rfl rfl Tryz.func44 (by kernel_rfl) rfl #[.string x2_3] rfl xr ?_; (with_reducible refine (job_written.calls kj3 x2_3 t292 _ (Tabs.below hT xf) A10.out).mono ?_); rintro e w16 ⟨rfl, hb⟩; refine ⟨_, rfl, ?_⟩; replace BK290 := xd BK290.out hb; replace HB := xy (below_step xb hb); (try clear hb); (try clear hb2); (try clear hk); (try clear hi)) | ((with_reducible refine gate_callee (f := 43) rfl ?_); refine goesL_ (some 18) rfl rfl Tryz.func43 (by kernel_rfl) rfl #[.int .i64 t291, .int .i64 t292] rfl xr ?_; (with_reducible refine (cmp_Compare_int.calls t291 t292 t293 _ (Tabs.below hT xf) A11.out).mono ?_); rintro e w' ⟨rfl, ⟨nd, rfl⟩⟩; refine ⟨_, rfl, ?_⟩) | ((with_reducible refine gate_callee (f := 46) rfl ?_); refine goesL_ (some 22) rfl rfl Tryz.func46 (by kernel_rfl) rfl #[.string x1_3, .string x2_3] rfl xr ?_; (with_reducible refine (cmp_Compare_string.calls x1_3 x2_3 t294 _ (Tabs.below hT xf) A12.out).mono ?_); rintro e w' ⟨rfl, ⟨nd, rfl⟩⟩; refine ⟨_, rfl, ?_⟩) | ((with_reducible refine gate_dst (N := 23) rfl ?_); refine Kd.R_lit (Kd.int .i64) _ 3 ?hg (N := 23) ?hd (xs := ([t293, t294] : List Int)) (inner := [.int .i64 t293, .int .i64 t294]) (ok := fun _ => True) (okp := fun _ => True) ?hr ?hp (fun _ hk => hk) trivial (Below.refl _ _) (Nat.le_refl _) (by simp) ?_; (case hd => rfl); (case hg => rfl); (case hr => exact xh); (case hp => exact (Reps.one (show Kd.M (Kd.int .i64) _ _ _ t293 [.int .i64 t293] from rfl) (Reps.one (show Kd.M (Kd.int .i64) _ _ _ t294 [.int .i64 t294] from rfl) (Reps.none _ _)))); intro v296 w17 ho18 hb hg_ hnew_; clear hg_ hnew_; (first | rw [← Ny295.out] at ho18 | (simp only [Int.reduceToNat] at ho18; rw [← Ny295.out] at ho18)); have HO297 := xy (Kd.R_lower ho18 (below_size xb)); replace BK290 := xd BK290.out hb; replace HB := xy (below_step xb hb); clear hb ho18; obtain ⟨Ao19, co19, eo19⟩ := Kd.R_slice HO297.out; subst eo19) | ((with_reducible refine gate_callee (f := 45) rfl ?_); refine goesL_ (some 24) rfl rfl Tryz.func45 (by kernel_rfl) rfl #[.slice Ao19 y295.length co19] rfl xr ?_; (with_reducible refine (cmp_Or_int.calls kj3 _ _ y295 t298 _ (Tabs.below hT xf) ?side1 ?side2 A13.out).mono ?_); (case side1 => repeat (first | exact (Kd.R_reads' HO297.out).2.2 | (with_reducible refine Kd.C_alloc ?_ _) | (with_reducible refine Kd.C_drewN ?_ _) | (with_reducible refine Kd.C_drew ?_))); (case side2 => exact (Kd.R_reads' HO297.out).2.1); rintro e w' ⟨rfl, ⟨nd, rfl⟩⟩; refine ⟨_, rfl, ?_⟩))
    go_ret
    exact ⟨xe, xb⟩
   ·replace c8 := Bool.eq_false_iff.mpr c8
    subst c8
    rw [if_neg (show ¬ (false = true) by decide)] at H
    replace H := xj H
    obtain ⟨t299, A200, H⟩ := H
    try dsimp only at H
    have A20 := xy A200
    clear A200
    obtain ⟨y300, hy300⟩ : ∃ y_ : List Int, y_ = (([0, t299] : List Int)) := ⟨_, rfl⟩
    replace H : ((cmp_Or_int.f kj3 y300).bind fun t303 => (some (decide (t303 < 0)))) = some r := by first | (rw [hy300]; with_reducible exact H) | (have H2_ := (Option.bind_some _ _).symm.trans H; rw [hy300]; with_reducible exact H2_) | (have H2_ := (Option.bind_some _ _).symm.trans H; with_reducible exact H2_) | with_reducible exact H | (rw [hy300]; exact H) | exact H
    have Ny300 := xy hy300
    clear hy300
    replace H := xj H
    obtain ⟨t303, A210, H⟩ := H
    try dsimp only at H
    have A21 := xy A210
    clear A210
    obtain rfl := Option.some.inj H
    have hcz22_0 : wc.cell? ⟨gb290, 0, none⟩ = some (.bool a0_0) := (kc BK290.out 0).trans rfl
    have hcz22_1 : wc.cell? ⟨gb290, 1, none⟩ = some (.slice A0_1 l0_1.length c0_1) := (kc BK290.out 1).trans rfl
    have hcz22_2 : wc.cell? ⟨gb290, 2, none⟩ = some (.slice A0_2 l0_2.length c0_2) := (kc BK290.out 2).trans rfl
    have hcz22_3 : wc.cell? ⟨gb290, 3, none⟩ = some (.slice A0_3 l0_3.length c0_3) := (kc BK290.out 3).trans rfl
    have hcz22_4 : wc.cell? ⟨gb290, 4, none⟩ = some (.int .i64 a0_4) := (kc BK290.out 4).trans rfl
    have hcz22_5 : wc.cell? ⟨gb290, 5, none⟩ = some (.slice A0_5 l0_5.length c0_5) := (kc BK290.out 5).trans rfl
    have hcz22_6 : wc.cell? ⟨gb290, 6, none⟩ = some (.bool a0_6) := (kc BK290.out 6).trans rfl
    have hcz22_7 : wc.cell? ⟨gb290, 7, none⟩ = some (.int .i64 a0_7) := (kc BK290.out 7).trans rfl
    have hcz22_8 : wc.cell? ⟨gb290, 8, none⟩ = some (.string a0_8) := (kc BK290.out 8).trans rfl
    have hcz22_9 : wc.cell? ⟨gb290, 9, none⟩ = some (.bool a0_9) := (kc BK290.out 9).trans rfl
    have hcz22_10 : wc.cell? ⟨gb290, 10, none⟩ = some (.int .i64 a0_10) := (kc BK290.out 10).trans rfl
    have hcz22_11 : wc.cell? ⟨gb290, 11, none⟩ = some (.bool a0_11) := (kc BK290.out 11).trans rfl
    have hcz22_12 : wc.cell? ⟨gb290, 12, none⟩ = some (.bool false) := (kc BK290.out 12).trans rfl
    have hcz22_13 : wc.cell? ⟨gb290, 13, none⟩ = some (.int .i64 a0_13) := (kc BK290.out 13).trans rfl
    have hfz22_0 := kf BK290.out 0
    have hfz22_1 := kf BK290.out 1
    have hfz22_2 := kf BK290.out 2
    have hfz22_3 := kf BK290.out 3
    have hfz22_4 := kf BK290.out 4
    have hfz22_5 := kf BK290.out 5
    have hfz22_6 := kf BK290.out 6
    have hfz22_7 := kf BK290.out 7
    have hfz22_8 := kf BK290.out 8
    have hfz22_9 := kf BK290.out 9
    have hfz22_10 := kf BK290.out 10
    have hfz22_11 := kf BK290.out 11
    have hfz22_12 := kf BK290.out 12
    have hfz22_13 := kf BK290.out 13
    go_wp2_with (first | ((with_reducible refine gate_callee (f := 46) rfl ?_); refine goesL_ (some 22) rfl rfl Tryz.func46 (by kernel_rfl) rfl #[.string x1_3, .string x2_3] rfl xr ?_; (with_reducible refine (cmp_Compare_string.calls x1_3 x2_3 t299 _ (Tabs.below hT xf) A20.out).mono ?_); rintro e w' ⟨rfl, ⟨nd, rfl⟩⟩; refine ⟨_, rfl, ?_⟩) | ((with_reducible refine gate_dst (N := 23) rfl ?_); refine Kd.R_lit (Kd.int .i64) _ 3 ?hg (N := 23) ?hd (xs := ([0, t299] : List Int)) (inner := [.int .i64 0, .int .i64 t299]) (ok := fun _ => True) (okp := fun _ => True) ?hr ?hp (fun _ hk => hk) trivial (Below.refl _ _) (Nat.le_refl _) (by simp) ?_; (case hd => rfl); (case hg => rfl); (case hr => exact xh); (case hp => exact (Reps.one (show Kd.M (Kd.int .i64) _ _ _ 0 [.int .i64 0] from rfl) (Reps.one (show Kd.M (Kd.int .i64) _ _ _ t299 [.int .i64 t299] from rfl) (Reps.none _ _)))); intro v301 w23 ho24 hb hg_ hnew_; clear hg_ hnew_; (first | rw [← Ny300.out] at ho24 | (simp only [Int.reduceToNat] at ho24; rw [← Ny300.out] at ho24)); have HO302 := xy (Kd.R_lower ho24 (below_size xb)); replace BK290 := xd BK290.out hb; replace HB := xy (below_step xb hb); clear hb ho24; obtain ⟨Ao25, co25, eo25⟩ := Kd.R_slice HO302.out; subst eo25) | ((with_reducible refine gate_callee (f := 45) rfl ?_); refine goesL_ (some 24) rfl rfl Tryz.func45 (by kernel_rfl) rfl #[.slice Ao25 y300.length co25] rfl xr ?_; (with_reducible refine (cmp_Or_int.calls kj3 _ _ y300 t303 _ (Tabs.below hT xf) ?side1 ?side2 A21.out).mono ?_); (case side1 => repeat (first | exact (Kd.R_reads' HO302.out).2.2 | (with_reducible refine Kd.C_alloc ?_ _) | (with_reducible refine Kd.C_drewN ?_ _) | (with_reducible refine Kd.C_drew ?_))); (case side2 => exact (Kd.R_reads' HO302.out).2.1); rintro e w' ⟨rfl, ⟨nd, rfl⟩⟩; refine ⟨_, rfl, ?_⟩))
    go_ret
    exact ⟨xe, xb⟩
theorem sorter_Sort.ci (a b : Int) : cmp_Compare_int.f a b = some (if a < b then -1 else if a > b then 1 else 0) := by
 unfold cmp_Compare_int.f cmp_isNaN_int.f
 simp
 repeat' split
 all_goals rfl
theorem sorter_Sort.cs (a b : ByteArray) : cmp_Compare_string.f a b = some (if Op.bytesLess a.toList b.toList = true then -1 else if Op.bytesLess b.toList a.toList = true then 1 else 0) := by
 unfold cmp_Compare_string.f cmp_isNaN_string.f
 simp
 repeat' split
 all_goals rfl
theorem sorter_Sort.or2 {k : Nat} {x y v : Int} (h : cmp_Or_int.f k [x, y] = some v) : v = if x = 0 then y else x := by
 have w1 : wrap64 (0 + 1) = 1 := by unfold wrap64; omega
 have w2 : wrap64 (1 + 1) = 2 := by unfold wrap64; omega
 have r0 : rd ([x, y] : List Int) 0 = x := rfl
 have r1 : rd ([x, y] : List Int) 1 = y := rfl
 unfold cmp_Or_int.f at h
 cases k with
 | zero => simp [cmp_Or_int.l0] at h
 | succ k =>
  simp only [cmp_Or_int.l0, List.length_cons, List.length_nil, r0, w1] at h
  by_cases hx : x = 0
  ·rw [if_pos hx]
   cases k with
   | zero => simp [cmp_Or_int.l0, hx] at h
   | succ k =>
    simp only [cmp_Or_int.l0, List.length_cons, List.length_nil, r1, w2] at h
    by_cases hy : y = 0
    ·cases k with
     | zero => simp [cmp_Or_int.l0, hx, hy] at h
     | succ k => simp [cmp_Or_int.l0, hx, hy] at h; rw [hy]; exact h.symm
    ·simp [hx, hy] at h; exact h.symm
  ·rw [if_neg hx]; simp [hx] at h; exact h.symm
def sorter_Sort.wr (k : Nat) (s : ByteArray) : Int := (job_written.f k s).getD 0
theorem sorter_Sort.jv {k : Nat} {x y : ByteArray} {a0_0 : Bool} {l0_1 l0_2 l0_3 : List S81} {a0_4 : Int} {l0_5 : List S81} {a0_6 : Bool} {a0_7 : Int} {a0_8 : ByteArray} {a0_9 : Bool} {a0_10 : Int} {a0_11 a0_12 : Bool} {a0_13 : Int} {r : Bool}
  (h : job_Ahead.j0 (k + 1) x y a0_0 l0_1 l0_2 l0_3 a0_4 l0_5 a0_6 a0_7 a0_8 a0_9 a0_10 a0_11 a0_12 a0_13 = some r) : r = Stb.keyLt (sorter_Sort.wr k) a0_12 x y := by
 have sl : decide ((if Op.bytesLess x.toList y.toList = true then (-1 : Int) else if Op.bytesLess y.toList x.toList = true then 1 else 0) < 0) = Op.bytesLess x.toList y.toList := by
  cases hq : Op.bytesLess x.toList y.toList with
  | true => simp
  | false => simp; split <;> simp
 simp only [job_Ahead.j0, sorter_Sort.ci, sorter_Sort.cs, Option.bind_some] at h
 unfold Stb.keyLt
 by_cases hn : a0_12 = true
 ·rw [if_pos hn] at h
  obtain ⟨t1, h1, h⟩ := Option.bind_eq_some_iff.1 h
  obtain ⟨t2, h2, h⟩ := Option.bind_eq_some_iff.1 h
  obtain ⟨v, h3, h⟩ := Option.bind_eq_some_iff.1 h
  have e1 : sorter_Sort.wr k x = t1 := by unfold sorter_Sort.wr; rw [h1]; rfl
  have e2 : sorter_Sort.wr k y = t2 := by unfold sorter_Sort.wr; rw [h2]; rfl
  have e3 := sorter_Sort.or2 h3
  have h := Option.some.inj h
  rw [e1, e2]
  by_cases ht : t1 = t2
  ·rw [if_neg (fun z => z.2 ht), ← h, e3, if_pos (by simp [ht])]; exact sl
  ·rw [if_pos ⟨hn, ht⟩, ← h, e3]
   by_cases hlt : t1 < t2
   ·rw [if_neg (by simp [hlt])]; simp [hlt]
   ·have hgt : t1 > t2 := by omega
    rw [if_neg (by simp [hlt, hgt])]; simp [hlt, hgt]
 ·rw [if_neg hn] at h
  obtain ⟨v, h3, h⟩ := Option.bind_eq_some_iff.1 h
  have e3 := sorter_Sort.or2 h3
  have h := Option.some.inj h
  rw [if_neg (fun z => hn z.1), ← h, e3, if_pos rfl]; exact sl
theorem sorter_Sort.av {k : Nat} {x y : ByteArray} {a0_0 : Bool} {l0_1 l0_2 l0_3 : List S81} {a0_4 : Int} {l0_5 : List S81} {a0_6 : Bool} {a0_7 : Int} {a0_8 : ByteArray} {a0_9 : Bool} {a0_10 : Int} {a0_11 a0_12 : Bool} {a0_13 : Int} {r : Bool}
  (h : job_Ahead.f k a0_0 l0_1 l0_2 l0_3 a0_4 l0_5 a0_6 a0_7 a0_8 a0_9 a0_10 a0_11 a0_12 a0_13 x y = some r) : r = Stb.aheadP (sorter_Sort.wr (k - 1)) a0_12 a0_11 x y := by
 unfold job_Ahead.f at h
 unfold Stb.aheadP
 cases k with
 | zero => split at h <;> simp [job_Ahead.j0] at h
 | succ k =>
  split at h
  ·rename_i c; rw [if_pos c]; exact sorter_Sort.jv h
  ·rename_i c; rw [if_neg c]; exact sorter_Sort.jv h
theorem sorter_Sort.insc {lt lt' : XSort.It → XSort.It → Bool} (x : XSort.It) : ∀ (l : List XSort.It), (∀ y ∈ l, lt x y = lt' x y) → Stb.insRef lt x l = Stb.insRef lt' x l := by
 intro l
 induction l with
 | nil => intro _; rfl
 | cons y t ih =>
  intro h
  rw [Stb.insRef, Stb.insRef, h y (List.mem_cons_self ..), ih (fun z hz => h z (List.mem_cons_of_mem _ hz))]
theorem sorter_Sort.foldc {lt lt' : XSort.It → XSort.It → Bool} : ∀ (l out : List XSort.It), (∀ x ∈ l, ∀ y, y ∈ l ∨ y ∈ out → lt x y = lt' x y) → l.foldl (fun o x => Stb.insRef lt x o) out = l.foldl (fun o x => Stb.insRef lt' x o) out := by
 intro l
 induction l with
 | nil => intro _ _; rfl
 | cons x t ih =>
  intro out h
  rw [List.foldl_cons, List.foldl_cons, sorter_Sort.insc x out (fun y hy => h x (List.mem_cons_self ..) y (Or.inr hy))]
  refine ih _ fun z hz y hy => h z (List.mem_cons_of_mem _ hz) y ?_
  rcases hy with hy | hy
  ·exact Or.inl (List.mem_cons_of_mem _ hy)
  ·rcases Stb.mem_insRef.1 hy with e | e
   ·rw [e]; exact Or.inl (List.mem_cons_self ..)
   ·exact Or.inr e
theorem sorter_Sort.sortc {lt lt' : XSort.It → XSort.It → Bool} (l : List XSort.It) (h : ∀ x ∈ l, ∀ y ∈ l, lt x y = lt' x y) : Stb.sortRef lt l = Stb.sortRef lt' l :=
 sorter_Sort.foldc l [] (fun x hx y hy => h x hx y (by rcases hy with hy | hy; exact hy; cases hy))
def sorter_Sort.f (k : Nat) (a0_0 : Bool) (l0_1 : List (S81)) (l0_2 : List (S81)) (l0_3 : List (S81)) (a0_4 : Int) (l0_5 : List (S81)) (a0_6 : Bool) (a0_7 : Int) (a0_8 : ByteArray) (a0_9 : Bool) (a0_10 : Int) (a0_11 : Bool) (a0_12 : Bool) (a0_13 : Int) (l1 : List (S38)) : Option ((List (S38))) :=
 if (l1.all fun x => l1.all fun y => (job_Ahead.f k a0_0 l0_1 l0_2 l0_3 a0_4 l0_5 a0_6 a0_7 a0_8 a0_9 a0_10 a0_11 a0_12 a0_13 x.f0 y.f0).isSome) = true ∧ l1.length < 1000000000000 then
  some (Stb.sortRef (fun x y : XSort.It => (job_Ahead.f k a0_0 l0_1 l0_2 l0_3 a0_4 l0_5 a0_6 a0_7 a0_8 a0_9 a0_10 a0_11 a0_12 a0_13 x.f0 y.f0).getD false) l1) else none
theorem sorter_Sort.mono : ∀ a0_0 l0_1 l0_2 l0_3 a0_4 l0_5 a0_6 a0_7 a0_8 a0_9 a0_10 a0_11 a0_12 a0_13 l1 k, LeO (sorter_Sort.f k a0_0 l0_1 l0_2 l0_3 a0_4 l0_5 a0_6 a0_7 a0_8 a0_9 a0_10 a0_11 a0_12 a0_13 l1) (sorter_Sort.f (k + 1) a0_0 l0_1 l0_2 l0_3 a0_4 l0_5 a0_6 a0_7 a0_8 a0_9 a0_10 a0_11 a0_12 a0_13 l1) := by
 intro a0_0 l0_1 l0_2 l0_3 a0_4 l0_5 a0_6 a0_7 a0_8 a0_9 a0_10 a0_11 a0_12 a0_13 l1 k r h
 unfold sorter_Sort.f at h ⊢
 by_cases c : (l1.all fun x => l1.all fun y => (job_Ahead.f k a0_0 l0_1 l0_2 l0_3 a0_4 l0_5 a0_6 a0_7 a0_8 a0_9 a0_10 a0_11 a0_12 a0_13 x.f0 y.f0).isSome) = true ∧ l1.length < 1000000000000
 ·rw [if_pos c] at h
  have up : ∀ x ∈ l1, ∀ y ∈ l1, ∃ b, job_Ahead.f k a0_0 l0_1 l0_2 l0_3 a0_4 l0_5 a0_6 a0_7 a0_8 a0_9 a0_10 a0_11 a0_12 a0_13 x.f0 y.f0 = some b ∧ job_Ahead.f (k + 1) a0_0 l0_1 l0_2 l0_3 a0_4 l0_5 a0_6 a0_7 a0_8 a0_9 a0_10 a0_11 a0_12 a0_13 x.f0 y.f0 = some b := fun x hx y hy => by
   obtain ⟨b, hb⟩ := Option.isSome_iff_exists.1 (List.all_eq_true.1 (List.all_eq_true.1 c.1 x hx) y hy)
   exact ⟨b, hb, job_Ahead.mono _ _ _ _ _ _ _ _ _ _ _ _ _ _ _ _ _ _ hb⟩
  rw [if_pos ⟨List.all_eq_true.2 fun x hx => List.all_eq_true.2 fun y hy => by obtain ⟨b, _, hb⟩ := up x hx y hy; rw [hb]; rfl, c.2⟩, ← h]
  congr 1
  exact sorter_Sort.sortc l1 fun x hx y hy => by obtain ⟨b, h1, h2⟩ := up x hx y hy; rw [h1, h2]
 ·rw [if_neg c] at h; cases h
theorem sorter_Sort.calls (k : Nat) (a0_0 : Bool) (A0_1 : Option Addr) (c0_1 : Nat) (l0_1 : List (S81)) (A0_2 : Option Addr) (c0_2 : Nat) (l0_2 : List (S81)) (A0_3 : Option Addr) (c0_3 : Nat) (l0_3 : List (S81)) (a0_4 : Int) (A0_5 : Option Addr) (c0_5 : Nat) (l0_5 : List (S81)) (a0_6 : Bool) (a0_7 : Int) (a0_8 : ByteArray) (a0_9 : Bool) (a0_10 : Int) (a0_11 : Bool) (a0_12 : Bool) (a0_13 : Int) (A1 : Option Addr) (c1 : Nat) (l1 : List (S38)) (r : List (S38)) (w : World) (hT : Tabs w) (hr0_1 : Kd.C k81 w A0_1 l0_1.length l0_1) (hc0_1 : l0_1.length ≤ c0_1) (hr0_2 : Kd.C k81 w A0_2 l0_2.length l0_2) (hc0_2 : l0_2.length ≤ c0_2) (hr0_3 : Kd.C k81 w A0_3 l0_3.length l0_3) (hc0_3 : l0_3.length ≤ c0_3) (hr0_5 : Kd.C k81 w A0_5 l0_5.length l0_5) (hc0_5 : l0_5.length ≤ c0_5) (hr1 : Kd.C k38 w A1 l1.length l1) (hc1 : l1.length ≤ c1) (h : sorter_Sort.f k a0_0 l0_1 l0_2 l0_3 a0_4 l0_5 a0_6 a0_7 a0_8 a0_9 a0_10 a0_11 a0_12 a0_13 l1 = some r) :
  Calls Tryz.prog 10 #[.agg #[.bool a0_0, .slice A0_1 l0_1.length c0_1, .slice A0_2 l0_2.length c0_2, .slice A0_3 l0_3.length c0_3, .int .i64 a0_4, .slice A0_5 l0_5.length c0_5, .bool a0_6, .int .i64 a0_7, .string a0_8, .bool a0_9, .int .i64 a0_10, .bool a0_11, .bool a0_12, .int .i64 a0_13], .slice A1 l1.length c1] w fun e w' => ∃ v0_ : Value, e = .returned (v0_) ∧ Kd.R k38 38 w' w.heap.size (fun _ => True) v0_ r ∧ Below w.heap.size w w' := by
 unfold sorter_Sort.f at h
 by_cases c : (l1.all fun x => l1.all fun y => (job_Ahead.f k a0_0 l0_1 l0_2 l0_3 a0_4 l0_5 a0_6 a0_7 a0_8 a0_9 a0_10 a0_11 a0_12 a0_13 x.f0 y.f0).isSome) = true ∧ l1.length < 1000000000000
 ·rw [if_pos c] at h
  have h := Option.some.inj h
  have up : ∀ x ∈ l1, ∀ y ∈ l1, job_Ahead.f k a0_0 l0_1 l0_2 l0_3 a0_4 l0_5 a0_6 a0_7 a0_8 a0_9 a0_10 a0_11 a0_12 a0_13 x.f0 y.f0 = some (Stb.aheadP (sorter_Sort.wr (k - 1)) a0_12 a0_11 x.f0 y.f0) := fun x hx y hy => by
   obtain ⟨b, hb⟩ := Option.isSome_iff_exists.1 (List.all_eq_true.1 (List.all_eq_true.1 c.1 x hx) y hy)
   rw [hb, sorter_Sort.av hb]
  have := XSort.sort_calls (Stb.aheadP (sorter_Sort.wr (k - 1)) a0_12 a0_11) (Stb.ahead_swo (fun x : XSort.It => x.f0) _ _ _) (J := #[.bool a0_0, .slice A0_1 l0_1.length c0_1, .slice A0_2 l0_2.length c0_2, .slice A0_3 l0_3.length c0_3, .int .i64 a0_4, .slice A0_5 l0_5.length c0_5, .bool a0_6, .int .i64 a0_7, .string a0_8, .bool a0_9, .int .i64 a0_10, .bool a0_11, .bool a0_12, .int .i64 a0_13]) rfl A1 c1 l1 w hr1 c.2
   (fun W' hb x hx y hy => job_Ahead.calls k a0_0 A0_1 c0_1 l0_1 A0_2 c0_2 l0_2 A0_3 c0_3 l0_3 a0_4 A0_5 c0_5 l0_5 a0_6 a0_7 a0_8 a0_9 a0_10 a0_11 a0_12 a0_13 x.f0 y.f0 _ W' (hT.below hb) (Kd.C_below hr0_1 hb) hc0_1 (Kd.C_below hr0_2 hb) hc0_2 (Kd.C_below hr0_3 hb) hc0_3 (Kd.C_below hr0_5 hb) hc0_5 (up x hx y hy))
  have e : Stb.sortRef (fun x y : XSort.It => (job_Ahead.f k a0_0 l0_1 l0_2 l0_3 a0_4 l0_5 a0_6 a0_7 a0_8 a0_9 a0_10 a0_11 a0_12 a0_13 x.f0 y.f0).getD false) l1 = Stb.sortRef (fun x y : XSort.It => Stb.aheadP (sorter_Sort.wr (k - 1)) a0_12 a0_11 x.f0 y.f0) l1 := sorter_Sort.sortc l1 (fun x hx y hy => by rw [up x hx y hy]; rfl)
  subst h
  rw [e]
  exact this
 ·rw [if_neg c] at h; cases h
def sorter_Groups.f (a0_0 : Bool) (l0_1 : List (S81)) (l0_2 : List (S81)) (l0_3 : List (S81)) (a0_4 : Int) (l0_5 : List (S81)) (a0_6 : Bool) (a0_7 : Int) (a0_8 : ByteArray) (a0_9 : Bool) (a0_10 : Int) (a0_11 : Bool) (a0_12 : Bool) (a0_13 : Int) (l1 : List (S38)) : Option ((List (S43))) := if l1.length < 1000000000000 then some (Stb.groupsL l1) else none
theorem sorter_Groups.calls (a0_0 : Bool) (A0_1 : Option Addr) (c0_1 : Nat) (l0_1 : List (S81)) (A0_2 : Option Addr) (c0_2 : Nat) (l0_2 : List (S81)) (A0_3 : Option Addr) (c0_3 : Nat) (l0_3 : List (S81)) (a0_4 : Int) (A0_5 : Option Addr) (c0_5 : Nat) (l0_5 : List (S81)) (a0_6 : Bool) (a0_7 : Int) (a0_8 : ByteArray) (a0_9 : Bool) (a0_10 : Int) (a0_11 : Bool) (a0_12 : Bool) (a0_13 : Int) (A1 : Option Addr) (c1 : Nat) (l1 : List (S38)) (r : List (S43)) (w : World) (hT : Tabs w) (hr0_1 : Kd.C k81 w A0_1 l0_1.length l0_1) (hc0_1 : l0_1.length ≤ c0_1) (hr0_2 : Kd.C k81 w A0_2 l0_2.length l0_2) (hc0_2 : l0_2.length ≤ c0_2) (hr0_3 : Kd.C k81 w A0_3 l0_3.length l0_3) (hc0_3 : l0_3.length ≤ c0_3) (hr0_5 : Kd.C k81 w A0_5 l0_5.length l0_5) (hc0_5 : l0_5.length ≤ c0_5) (hr1 : Kd.C k38 w A1 l1.length l1) (hc1 : l1.length ≤ c1) (h : sorter_Groups.f a0_0 l0_1 l0_2 l0_3 a0_4 l0_5 a0_6 a0_7 a0_8 a0_9 a0_10 a0_11 a0_12 a0_13 l1 = some r) :
  Calls Tryz.prog 15 #[.agg #[.bool a0_0, .slice A0_1 l0_1.length c0_1, .slice A0_2 l0_2.length c0_2, .slice A0_3 l0_3.length c0_3, .int .i64 a0_4, .slice A0_5 l0_5.length c0_5, .bool a0_6, .int .i64 a0_7, .string a0_8, .bool a0_9, .int .i64 a0_10, .bool a0_11, .bool a0_12, .int .i64 a0_13], .slice A1 l1.length c1] w fun e w' => ∃ v0_ : Value, e = .returned (v0_) ∧ Kd.S k43 43 w' w.heap.size (fun _ => True) v0_ r ∧ Below w.heap.size w w' := by
 unfold sorter_Groups.f at h
 by_cases c : l1.length < 1000000000000
 ·rw [if_pos c] at h
  obtain rfl := Option.some.inj h
  exact XSort.groups_calls A1 c1 l1 w hr1 c
 ·rw [if_neg c] at h; cases h
def w19_alive.f  : Option (Bool) := some true
theorem w19_alive.some_ : ∀ x ∈ [XSort.itB1, XSort.itA, XSort.itB2], ∀ y ∈ [XSort.itB1, XSort.itA, XSort.itB2], job_Ahead.f 40 false [] [] [] 0 [] false 0 ⟨#[]⟩ false 0 false false 0 x.f0 y.f0 = some (Stb.aheadP (sorter_Sort.wr 39) false false x.f0 y.f0) := by
 intro x hx y hy
 have key : ([XSort.itB1, XSort.itA, XSort.itB2].all fun x => [XSort.itB1, XSort.itA, XSort.itB2].all fun y => (job_Ahead.f 40 false [] [] [] 0 [] false 0 ⟨#[]⟩ false 0 false false 0 x.f0 y.f0).isSome) = true := by kernel_rfl
 obtain ⟨b, hb⟩ := Option.isSome_iff_exists.1 (List.all_eq_true.1 (List.all_eq_true.1 key x hx) y hy)
 rw [hb, sorter_Sort.av hb]
theorem w19_alive.calls  (r : Bool) (w : World) (hT : Tabs w) (h : w19_alive.f  = some r) :
  Calls Tryz.prog 9 #[] w fun e w' => e = .returned (.bool r) ∧ Below w.heap.size w w' := by
 obtain rfl := Option.some.inj h
 have hn : ∀ W, Kd.C k81 W none 0 [] := fun W => ⟨rfl, by decide, fun h => absurd h (by decide)⟩
 exact XSort.alive_walk (Stb.aheadP (sorter_Sort.wr 39) false false) (Stb.ahead_swo (fun x : XSort.It => x.f0) _ _ _) (by kernel_rfl) w
  (fun W' hb x hx y hy => job_Ahead.calls 40 false none 0 [] none 0 [] none 0 [] 0 none 0 [] false 0 ⟨#[]⟩ false 0 false false 0 x.f0 y.f0 _ W' (hT.below hb) (hn W') (Nat.le_refl _) (hn W') (Nat.le_refl _) (hn W') (Nat.le_refl _) (hn W') (Nat.le_refl _) (w19_alive.some_ x hx y hy))
def w19_SorterNil.f (a0_0 : ByteArray) (a0_1 : Bool) (a0_2 : Int) (a0_3 : ByteArray) : Option (Bool) := some true
theorem w19_SorterNil.calls (a0_0 : ByteArray) (a0_1 : Bool) (a0_2 : Int) (a0_3 : ByteArray) (r : Bool) (w : World) (hT : Tabs w) (h : w19_SorterNil.f a0_0 a0_1 a0_2 a0_3 = some r) (hr_ : r = true := by rfl) :
  Calls Tryz.prog 5 #[.agg #[.string a0_0, .bool a0_1, .int .i64 a0_2, .string a0_3]] w fun e w' => e = .returned (.bool r) ∧ Below w.heap.size w w' := by
 obtain rfl := Option.some.inj h
 exact XSort.nil_walk _ _ _ _ w (fun W' hb => w19_alive.calls true W' (hT.below hb) rfl)
def w19_SorterNil.Pure : Prop := ∀ (x0 : S38), (x0.f0.size ≤ 140737488351232 ∧ (True ∧ (Lit.int .i64 x0.f1.f1).wf = true ∧ x0.f1.f2.size ≤ 140737488351232)) → w19_SorterNil.f x0.f0 x0.f1.f0 x0.f1.f1 x0.f1.f2 = some true
end Go.Proofs.YtebofnoljebakaaGreatDoor.PX
