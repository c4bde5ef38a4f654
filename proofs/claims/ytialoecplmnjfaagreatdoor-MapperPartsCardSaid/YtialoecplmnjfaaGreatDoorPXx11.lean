/- Walked functions, by this session's program over the kit's print. -/
import Derived.Test.YtialoecplmnjfaaGreatDoorPXx0
import Derived.Test.YtialoecplmnjfaaGreatDoorPXx5
import Derived.Test.YtialoecplmnjfaaGreatDoorPXx9
namespace Go.Proofs.YtialoecplmnjfaaGreatDoor.PX
open Go.RowKit Go.Proofs.YtialoecplmnjfaaGreatDoorW.PrintWords Go.Proofs.YtialoecplmnjfaaGreatDoorW.PrintLast Go.Proofs.YtialoecplmnjfaaGreatDoorW.PrintMore
attribute [local go_sem] xm_gtr max2_int min2_int max_two min_two max_three min_three max_four min_four
set_option linter.unusedVariables false
set_option linter.unusedSimpArgs false
section
/- Walked functions, by this session's program over the kit's print. -/
attribute [local go_sem high] eqA24
mutual
def job_Check.j0 : Nat → Bool → Bool → List (S50) → List (S50) → List (S50) → Int → List (S50) → Bool → Int → ByteArray → Bool → Int → Bool → Bool → Int → Option (Int)
 | 0, _, _, _, _, _, _, _, _, _, _, _, _, _, _, _ => none
 | k + 1, x3, x192000, x192001, x192002, x192003, x192004, x192005, x192006, x192007, x192008, x192009, x192010, x192011, x192012, x192013 => if x192010 ≥ 1 then (if x192010 ≤ 8 then (if x192013 ≥ 0 then (job_Check.j1 k x3 (decide (x192013 ≤ 100000)) x192000 x192001 x192002 x192003 x192004 x192005 x192006 x192007 x192008 x192009 x192010 x192011 x192012 x192013) else (job_Check.j1 k x3 false x192000 x192001 x192002 x192003 x192004 x192005 x192006 x192007 x192008 x192009 x192010 x192011 x192012 x192013)) else (job_Check.j1 k x3 false x192000 x192001 x192002 x192003 x192004 x192005 x192006 x192007 x192008 x192009 x192010 x192011 x192012 x192013)) else (job_Check.j1 k x3 false x192000 x192001 x192002 x192003 x192004 x192005 x192006 x192007 x192008 x192009 x192010 x192011 x192012 x192013)
def job_Check.j1 : Nat → Bool → Bool → Bool → List (S50) → List (S50) → List (S50) → Int → List (S50) → Bool → Int → ByteArray → Bool → Int → Bool → Bool → Int → Option (Int)
 | 0, _, _, _, _, _, _, _, _, _, _, _, _, _, _, _, _ => none
 | k + 1, x3, x4, x192000, x192001, x192002, x192003, x192004, x192005, x192006, x192007, x192008, x192009, x192010, x192011, x192012, x192013 => (job_Job_goes.f k x192000 x192001 x192002 x192003 x192004 x192005 x192006 x192007 x192008 x192009 x192010 x192011 x192012 x192013).bind fun t195 => (if t195 = true then (if x192004 < 0 then (some 1) else (if x192004 > 7 then (some 1) else (if x192004 = 7 then ((job_isVal.f x192006 x192007 x192008).bind fun t196 => (if t196 = true then (if x192009 = true then (if x192004 > 2 then (some 1) else (if x4 = true then (some 0) else (some 1))) else (if x4 = true then (some 0) else (some 1))) else (some 1))) else (if x3 = true then ((job_isVal.f x192006 x192007 x192008).bind fun t197 => (if t197 = true then (if x192009 = true then (if x192004 > 2 then (some 1) else (if x4 = true then (some 0) else (some 1))) else (if x4 = true then (some 0) else (some 1))) else (some 1))) else (some 1))))) else (some 11))
end
def job_Check.f (k : Nat) (a0_0 : Bool) (l0_1 : List (S50)) (l0_2 : List (S50)) (l0_3 : List (S50)) (a0_4 : Int) (l0_5 : List (S50)) (a0_6 : Bool) (a0_7 : Int) (a0_8 : ByteArray) (a0_9 : Bool) (a0_10 : Int) (a0_11 : Bool) (a0_12 : Bool) (a0_13 : Int) : Option (Int) := if (l0_5.length : Int) = 0 then ((value_Num.f 0).bind fun bt192 => (job_Check.j0 k (a0_6 == bt192.1 && (a0_7 == bt192.2.1 && (a0_8.toList == bt192.2.2.toList))) a0_0 l0_1 l0_2 l0_3 a0_4 l0_5 a0_6 a0_7 a0_8 a0_9 a0_10 a0_11 a0_12 a0_13)) else (job_Check.j0 k false a0_0 l0_1 l0_2 l0_3 a0_4 l0_5 a0_6 a0_7 a0_8 a0_9 a0_10 a0_11 a0_12 a0_13)
theorem job_Check.mono_l : ∀ k, (∀ y0 y1 y2 y3 y4 y5 y6 y7 y8 y9 y10 y11 y12 y13 y14, LeO (job_Check.j0 k y0 y1 y2 y3 y4 y5 y6 y7 y8 y9 y10 y11 y12 y13 y14) (job_Check.j0 (k + 1) y0 y1 y2 y3 y4 y5 y6 y7 y8 y9 y10 y11 y12 y13 y14)) ∧ (∀ y0 y1 y2 y3 y4 y5 y6 y7 y8 y9 y10 y11 y12 y13 y14 y15, LeO (job_Check.j1 k y0 y1 y2 y3 y4 y5 y6 y7 y8 y9 y10 y11 y12 y13 y14 y15) (job_Check.j1 (k + 1) y0 y1 y2 y3 y4 y5 y6 y7 y8 y9 y10 y11 y12 y13 y14 y15))
 | 0 => ⟨fun _ _ _ _ _ _ _ _ _ _ _ _ _ _ _ r h => by simp [job_Check.j0] at h, fun _ _ _ _ _ _ _ _ _ _ _ _ _ _ _ _ r h => by simp [job_Check.j1] at h⟩
 | k + 1 => by
  obtain ⟨ih0, ih1⟩ := job_Check.mono_l k
  refine ⟨?_, ?_⟩
  ·intro y0 y1 y2 y3 y4 y5 y6 y7 y8 y9 y10 y11 y12 y13 y14
   unfold job_Check.j0
   repeat' (with_reducible first | exact ih0 _ _ _ _ _ _ _ _ _ _ _ _ _ _ _ | exact ih1 _ _ _ _ _ _ _ _ _ _ _ _ _ _ _ _ | exact job_Job_goes.mono _ _ _ _ _ _ _ _ _ _ _ _ _ _ _ | exact LeO.refl _ | exact LeO.none _ | refine LeO.ite ?_ ?_ | refine LeO.bind ?_ (fun _ => ?_))
  ·intro y0 y1 y2 y3 y4 y5 y6 y7 y8 y9 y10 y11 y12 y13 y14 y15
   unfold job_Check.j1
   repeat' (with_reducible first | exact ih0 _ _ _ _ _ _ _ _ _ _ _ _ _ _ _ | exact ih1 _ _ _ _ _ _ _ _ _ _ _ _ _ _ _ _ | exact job_Job_goes.mono _ _ _ _ _ _ _ _ _ _ _ _ _ _ _ | exact LeO.refl _ | exact LeO.none _ | refine LeO.ite ?_ ?_ | refine LeO.bind ?_ (fun _ => ?_))
theorem job_Check.mono : ∀ a0 a1 a2 a3 a4 a5 a6 a7 a8 a9 a10 a11 a12 a13 k, LeO (job_Check.f k a0 a1 a2 a3 a4 a5 a6 a7 a8 a9 a10 a11 a12 a13) (job_Check.f (k + 1) a0 a1 a2 a3 a4 a5 a6 a7 a8 a9 a10 a11 a12 a13) := by
 intro a0 a1 a2 a3 a4 a5 a6 a7 a8 a9 a10 a11 a12 a13 k
 obtain ⟨ih0, ih1⟩ := job_Check.mono_l k
 unfold job_Check.f
 repeat' (with_reducible first | exact ih0 _ _ _ _ _ _ _ _ _ _ _ _ _ _ _ | exact ih1 _ _ _ _ _ _ _ _ _ _ _ _ _ _ _ _ | exact job_Job_goes.mono _ _ _ _ _ _ _ _ _ _ _ _ _ _ _ | exact LeO.refl _ | exact LeO.none _ | refine LeO.ite ?_ ?_ | refine LeO.bind ?_ (fun _ => ?_))
def job_Check.T1 : Bool × List (List Nat × List Nat) := (true, [([], []), ([0], [0]), ([1], [1]), ([2], [2]), ([3], [3]), ([4], [4]), ([5, 4], [4, 5]), ([4, 4], [4]), ([6, 7, 4], [4, 6, 7]), ([4, 8], [4, 8]), ([9, 7, 0, 1, 2, 3, 4, 5, 6, 7, 8, 9], [9])])
def job_Check.B1 : List Nat := [0, 1, 3, 7, 15, 31, 63, 31, 255, 511, 1023]
theorem job_Check.tab1 : rtab .any (opsOf Tryz.f23 1) = job_Check.T1 := by kernel_rfl
theorem job_Check.bits1 : waitsOk job_Check.T1.2 job_Check.B1 = true := by kernel_rfl
set_option maxHeartbeats 8000000 in
set_option maxRecDepth 100000 in
theorem job_Check.calls (k : Nat) (a0_0 : Bool) (A0_1 : Option Addr) (c0_1 : Nat) (l0_1 : List (S50)) (A0_2 : Option Addr) (c0_2 : Nat) (l0_2 : List (S50)) (A0_3 : Option Addr) (c0_3 : Nat) (l0_3 : List (S50)) (a0_4 : Int) (A0_5 : Option Addr) (c0_5 : Nat) (l0_5 : List (S50)) (a0_6 : Bool) (a0_7 : Int) (a0_8 : ByteArray) (a0_9 : Bool) (a0_10 : Int) (a0_11 : Bool) (a0_12 : Bool) (a0_13 : Int) (r : Int) (w : World) (hT : Tabs w) (hr0_1 : Kd.C k50 w A0_1 l0_1.length l0_1) (hc0_1 : l0_1.length ≤ c0_1) (hr0_2 : Kd.C k50 w A0_2 l0_2.length l0_2) (hc0_2 : l0_2.length ≤ c0_2) (hr0_3 : Kd.C k50 w A0_3 l0_3.length l0_3) (hc0_3 : l0_3.length ≤ c0_3) (hr0_5 : Kd.C k50 w A0_5 l0_5.length l0_5) (hc0_5 : l0_5.length ≤ c0_5) (h : job_Check.f k a0_0 l0_1 l0_2 l0_3 a0_4 l0_5 a0_6 a0_7 a0_8 a0_9 a0_10 a0_11 a0_12 a0_13 = some r) :
  Calls Tryz.prog 23 #[.agg #[.bool a0_0, .slice A0_1 l0_1.length c0_1, .slice A0_2 l0_2.length c0_2, .slice A0_3 l0_3.length c0_3, .int .i64 a0_4, .slice A0_5 l0_5.length c0_5, .bool a0_6, .int .i64 a0_7, .string a0_8, .bool a0_9, .int .i64 a0_10, .bool a0_11, .bool a0_12, .int .i64 a0_13]] w fun e w' => e = .returned (.int .i64 r) ∧ Below w.heap.size w w' := by
 have hu26 := Tryz.underlying26
 have hu24 := Tryz.underlying24
 have HR0_1 := xy hr0_1
 have HC0_1 := xy hc0_1
 clear hr0_1 hc0_1
 have HR0_2 := xy hr0_2
 have HC0_2 := xy hc0_2
 clear hr0_2 hc0_2
 have HR0_3 := xy hr0_3
 have HC0_3 := xy hc0_3
 clear hr0_3 hc0_3
 have HR0_5 := xy hr0_5
 have HC0_5 := xy hc0_5
 clear hr0_5 hc0_5
 have HB := xy (Below.refl w.heap.size w)
 unfold job_Check.f at h
 have H := h
 clear h
 have HC2 := xy H
 clear H
 go_enter Tryz.func23, Tryz.ntmps23
 go_upto_region 1 with (first | ((with_reducible refine gate_dst (N := 1) rfl ?_); refine xq (N := 1) (cs := #[.bool a0_0, .slice A0_1 l0_1.length c0_1, .slice A0_2 l0_2.length c0_2, .slice A0_3 l0_3.length c0_3, .int .i64 a0_4, .slice A0_5 l0_5.length c0_5, .bool a0_6, .int .i64 a0_7, .string a0_8, .bool a0_9, .int .i64 a0_10, .bool a0_11, .bool a0_12, .int .i64 a0_13]) (t := 26) ?_; intro gb191 hg w3 hbox hb; have BK191 := xy (hbox); have GW191 := xs w hg; have GE191 := xs w hg; replace HB := xy (below_step xb hb); clear hb hbox hg))
 (try simp only [Act.put, List.setIfInBounds_toArray, List.set_cons_zero, List.set_cons_succ])
 go_cut [3] (fun v3 wc => ∃ (kq : Nat) (x3_1 : Bool), v3 = .bool x3_1 ∧ Aside0 (job_Check.j0 kq x3_1 a0_0 l0_1 l0_2 l0_3 a0_4 l0_5 a0_6 a0_7 a0_8 a0_9 a0_10 a0_11 a0_12 a0_13 = some r) ∧ Aside0 (kq ≤ k) ∧ Aside0 (wc.heap[gb191]? = some (.cells #[.bool a0_0, (.slice A0_1 l0_1.length c0_1), (.slice A0_2 l0_2.length c0_2), (.slice A0_3 l0_3.length c0_3), .int .i64 a0_4, (.slice A0_5 l0_5.length c0_5), .bool a0_6, .int .i64 a0_7, .string a0_8, .bool a0_9, .int .i64 a0_10, .bool a0_11, .bool a0_12, .int .i64 a0_13] 26 (0, 0))) ∧ Aside0 (Below w.heap.size w wc))
 case first =>
  have H := HC2.out
  clear HC2
  by_cases c4 : (l0_5.length : Int) = 0
  ·rw [if_pos c4] at H
   have c4b0 : ((l0_5.length : Int) == 0) = true := beq_iff_eq.mpr c4
   have c4b1 : ((l0_5.length : Int) != 0) = false := bne_eq_false_iff_eq.mpr c4
   clear c4
   (first | rw [c4b0] | (simp only [i64_w, i32_w]; rw [c4b0]) | skip)
   replace H := xj H
   obtain ⟨⟨t192, t193, t194⟩, A50, H⟩ := H
   try dsimp only at H
   have A5 := xy A50
   clear A50
   have H' := xy H
   clear H
   try go_wp2
   replace BK191 := xy (blk_drew BK191.out)
   replace HB := xy (below_drew1 HB.out)
   refine start_ (n := 11) (S := fun w' => w'.cell? ⟨gb191, 0, none⟩ = some (.bool a0_0) ∧ w'.cell? ⟨gb191, 1, none⟩ = some (.slice A0_1 l0_1.length c0_1) ∧ w'.cell? ⟨gb191, 2, none⟩ = some (.slice A0_2 l0_2.length c0_2) ∧ w'.cell? ⟨gb191, 3, none⟩ = some (.slice A0_3 l0_3.length c0_3) ∧ w'.cell? ⟨gb191, 4, none⟩ = some (.int .i64 a0_4) ∧ w'.cell? ⟨gb191, 5, none⟩ = some (.slice A0_5 l0_5.length c0_5) ∧ w'.cell? ⟨gb191, 6, none⟩ = some (.bool a0_6) ∧ w'.cell? ⟨gb191, 7, none⟩ = some (.int .i64 a0_7) ∧ w'.cell? ⟨gb191, 8, none⟩ = some (.string a0_8) ∧ w'.cell? ⟨gb191, 9, none⟩ = some (.bool a0_9) ∧ w'.cell? ⟨gb191, 10, none⟩ = some (.int .i64 a0_10) ∧ w'.cell? ⟨gb191, 11, none⟩ = some (.bool a0_11) ∧ w'.cell? ⟨gb191, 12, none⟩ = some (.bool a0_12) ∧ w'.cell? ⟨gb191, 13, none⟩ = some (.int .i64 a0_13)) (ds := []) #[false, false, false, false, false, false, false, false, false, false, false] (by kernel_rfl) rfl rfl ⟨(kc BK191.out 0).trans rfl, (kc BK191.out 1).trans rfl, (kc BK191.out 2).trans rfl, (kc BK191.out 3).trans rfl, (kc BK191.out 4).trans rfl, (kc BK191.out 5).trans rfl, (kc BK191.out 6).trans rfl, (kc BK191.out 7).trans rfl, (kc BK191.out 8).trans rfl, (kc BK191.out 9).trans rfl, (kc BK191.out 10).trans rfl, (kc BK191.out 11).trans rfl, (kc BK191.out 12).trans rfl, (kc BK191.out 13).trans rfl⟩ (fun hHeld => ?_); refine with_tabW job_Check.tab1 job_Check.bits1 (fun HT_ HW_ => ?_)
   generalize w3.drew = w6 at BK191 HB hHeld ⊢
   refine yz 0 (some 5) (bs 11 1) HT_.out (h := ?_)
   refine yt 1 (some 6) (bs 11 3) HT_.out HW_.out hHeld (h := ?_)
   refine yz 2 (some 7) (bs 11 7) HT_.out (h := ?_)
   refine yz 3 (some 8) (bs 11 15) HT_.out (h := ?_)
   refine yz 4 (some 9) (bs 11 31) HT_.out (h := ?_)
   refine yz 5 (some 10) (bs 11 63) HT_.out (h := ?_)
   refine yt 6 (some 11) (bs 11 127) HT_.out HW_.out hHeld (h := ?_)
   refine one_ (i := 7) (N := some 12) #[true, true, true, true, true, true, true, true, false, false, false] rfl rfl (one_of HT_.out (by kernel_rfl)) (by decide) (fun K hK => ?_)
   refine goes_ Tryz.func31 (by kernel_rfl) rfl #[.int .i64 0] (by rfl) rfl rfl xr ?_
   with_reducible refine (value_Num.calls 0 t192 t193 t194 _ (Tabs.below hT xf) A5.out).mono ?_
   rintro e w7 ⟨rfl, hb⟩
   refine ⟨_, rfl, ?_⟩
   replace BK191 := xd BK191.out hb
   replace HB := xy (below_step xb hb)
   (try clear hb)
   (try clear hb2)
   (try clear hk)
   (try clear hi)
   refine hK.out _ _ ⟨(kc BK191.out 0).trans rfl, (kc BK191.out 1).trans rfl, (kc BK191.out 2).trans rfl, (kc BK191.out 3).trans rfl, (kc BK191.out 4).trans rfl, (kc BK191.out 5).trans rfl, (kc BK191.out 6).trans rfl, (kc BK191.out 7).trans rfl, (kc BK191.out 8).trans rfl, (kc BK191.out 9).trans rfl, (kc BK191.out 10).trans rfl, (kc BK191.out 11).trans rfl, (kc BK191.out 12).trans rfl, (kc BK191.out 13).trans rfl⟩ (fun hHeld => ?_)
   clear hK K
   refine norm_ (a' := ?_) ?_ ?_
   rotate_left
   ·show Act.put _ (some 12) _ = _
    simp only [Act.put, List.setIfInBounds_toArray, List.set_cons_zero, List.set_cons_succ, i64_w, i32_w]
    rfl
   refine yz 8 (some 13) (bs 11 511) HT_.out (h := ?_)
   refine yz 9 (some 14) (bs 11 1023) HT_.out (h := ?_)
   refine yz 10 (some 3) (bs 11 2047) HT_.out (h := ?_)
   refine done_ (done_of HT_.out (by kernel_rfl)) ?_
   try go_wp2
   go_meet
   case rel => exact ⟨_, ((a0_6 == t192 && (a0_7 == t193 && (a0_8.toList == t194.toList)))), xg, H', ⟨by first | omega | exact Nat.le_refl _⟩, ⟨by (with_reducible repeat (first | refine blk_drewN ?_ _ | refine blk_drew ?_ | refine blk_alloc ?_ _)); exact BK191.out⟩, ⟨xb⟩⟩
  ·rw [if_neg c4] at H
   have c4b0 : ((l0_5.length : Int) == 0) = false := beq_eq_false_iff_ne.mpr c4
   have c4b1 : ((l0_5.length : Int) != 0) = true := bne_iff_ne.mpr c4
   have c4b2 : ¬ (l0_5 = []) := fun h_ => c4 (by rw [h_]; rfl)
   (first | rw [c4b0] | (simp only [i64_w, i32_w]; rw [c4b0]) | skip)
   have H' := xy H
   clear H
   try go_wp2
   replace BK191 := xy (blk_drew BK191.out)
   replace HB := xy (below_drew1 HB.out)
   refine start_ (n := 11) (S := fun w' => w'.cell? ⟨gb191, 0, none⟩ = some (.bool a0_0) ∧ w'.cell? ⟨gb191, 1, none⟩ = some (.slice A0_1 l0_1.length c0_1) ∧ w'.cell? ⟨gb191, 2, none⟩ = some (.slice A0_2 l0_2.length c0_2) ∧ w'.cell? ⟨gb191, 3, none⟩ = some (.slice A0_3 l0_3.length c0_3) ∧ w'.cell? ⟨gb191, 4, none⟩ = some (.int .i64 a0_4) ∧ w'.cell? ⟨gb191, 5, none⟩ = some (.slice A0_5 l0_5.length c0_5) ∧ w'.cell? ⟨gb191, 6, none⟩ = some (.bool a0_6) ∧ w'.cell? ⟨gb191, 7, none⟩ = some (.int .i64 a0_7) ∧ w'.cell? ⟨gb191, 8, none⟩ = some (.string a0_8) ∧ w'.cell? ⟨gb191, 9, none⟩ = some (.bool a0_9) ∧ w'.cell? ⟨gb191, 10, none⟩ = some (.int .i64 a0_10) ∧ w'.cell? ⟨gb191, 11, none⟩ = some (.bool a0_11) ∧ w'.cell? ⟨gb191, 12, none⟩ = some (.bool a0_12) ∧ w'.cell? ⟨gb191, 13, none⟩ = some (.int .i64 a0_13)) (ds := []) #[false, false, false, false, false, false, false, false, false, false, false] (by kernel_rfl) rfl rfl ⟨(kc BK191.out 0).trans rfl, (kc BK191.out 1).trans rfl, (kc BK191.out 2).trans rfl, (kc BK191.out 3).trans rfl, (kc BK191.out 4).trans rfl, (kc BK191.out 5).trans rfl, (kc BK191.out 6).trans rfl, (kc BK191.out 7).trans rfl, (kc BK191.out 8).trans rfl, (kc BK191.out 9).trans rfl, (kc BK191.out 10).trans rfl, (kc BK191.out 11).trans rfl, (kc BK191.out 12).trans rfl, (kc BK191.out 13).trans rfl⟩ (fun hHeld => ?_); refine with_tabW job_Check.tab1 job_Check.bits1 (fun HT_ HW_ => ?_)
   generalize w3.drew = w8 at BK191 HB hHeld ⊢
   refine yz 0 (some 5) (bs 11 1) HT_.out (h := ?_)
   refine yt 1 (some 6) (bs 11 3) HT_.out HW_.out hHeld (h := ?_)
   refine yz 2 (some 7) (bs 11 7) HT_.out (h := ?_)
   refine yz 3 (some 8) (bs 11 15) HT_.out (h := ?_)
   refine yz 4 (some 9) (bs 11 31) HT_.out (h := ?_)
   refine yu 5 (some 10) (bs 11 63) HT_.out (h := ?_)
   refine yu 6 (some 11) (bs 11 127) HT_.out (h := ?_)
   refine yu 7 (some 12) (bs 11 255) HT_.out (h := ?_)
   refine yu 8 (some 13) (bs 11 511) HT_.out (h := ?_)
   refine yz 9 (some 14) (bs 11 1023) HT_.out (h := ?_)
   refine yz 10 (some 3) (bs 11 2047) HT_.out (h := ?_)
   refine done_ (done_of HT_.out (by kernel_rfl)) ?_
   try go_wp2
   go_meet
   case rel => exact ⟨_, (false), xg, H', ⟨by first | omega | exact Nat.le_refl _⟩, ⟨by (with_reducible repeat (first | refine blk_drewN ?_ _ | refine blk_drew ?_ | refine blk_alloc ?_ _)); exact BK191.out⟩, ⟨xb⟩⟩
 case rest =>
  clear HC2
  try clear c2
  try clear p2
  try clear c3
  try clear c4
  try clear c4b0
  try clear c4b1
  try clear c4b2
  obtain ⟨kq, x3_1, rfl, HA, HJ1, BK191, HB⟩ := hcut
  cases kq with
  | zero => exact absurd HA.out (by simp [job_Check.j0])
  | succ kj1 =>
   have H := HA.out
   clear HA
   simp only [job_Check.j0] at H
   have HC9 := xy H
   clear H
   go_upto_region 2 with (fail)
   go_cut [4] (fun v4 wc => ∃ (kq : Nat) (x4_8 : Bool), v4 = .bool x4_8 ∧ Aside0 (job_Check.j1 kq x3_1 x4_8 a0_0 l0_1 l0_2 l0_3 a0_4 l0_5 a0_6 a0_7 a0_8 a0_9 a0_10 a0_11 a0_12 a0_13 = some r) ∧ Aside0 (kq ≤ kj1) ∧ Aside0 (wc.heap[gb191]? = some (.cells #[.bool a0_0, (.slice A0_1 l0_1.length c0_1), (.slice A0_2 l0_2.length c0_2), (.slice A0_3 l0_3.length c0_3), .int .i64 a0_4, (.slice A0_5 l0_5.length c0_5), .bool a0_6, .int .i64 a0_7, .string a0_8, .bool a0_9, .int .i64 a0_10, .bool a0_11, .bool a0_12, .int .i64 a0_13] 26 (0, 0))) ∧ Aside0 (Below w.heap.size w wc))
   case first =>
    have H := HC9.out
    clear HC9
    by_cases c10 : a0_10 ≥ 1
    ·rw [if_pos c10] at H
     have c10b0 : decide (1 ≤ a0_10) = true := decide_eq_true c10
     clear c10
     (first | rw [c10b0] | (simp only [i64_w, i32_w]; rw [c10b0]) | skip)
     by_cases c11 : a0_10 ≤ 8
     ·rw [if_pos c11] at H
      have c11b0 : decide (a0_10 ≤ 8) = true := decide_eq_true c11
      clear c11
      by_cases c12 : a0_13 ≥ 0
      ·rw [if_pos c12] at H
       have c12b0 : decide (0 ≤ a0_13) = true := decide_eq_true c12
       clear c12
       have H' := xy H
       clear H
       have hcz13_0 : wc.cell? ⟨gb191, 0, none⟩ = some (.bool a0_0) := (kc BK191.out 0).trans rfl
       have hcz13_1 : wc.cell? ⟨gb191, 1, none⟩ = some (.slice A0_1 l0_1.length c0_1) := (kc BK191.out 1).trans rfl
       have hcz13_2 : wc.cell? ⟨gb191, 2, none⟩ = some (.slice A0_2 l0_2.length c0_2) := (kc BK191.out 2).trans rfl
       have hcz13_3 : wc.cell? ⟨gb191, 3, none⟩ = some (.slice A0_3 l0_3.length c0_3) := (kc BK191.out 3).trans rfl
       have hcz13_4 : wc.cell? ⟨gb191, 4, none⟩ = some (.int .i64 a0_4) := (kc BK191.out 4).trans rfl
       have hcz13_5 : wc.cell? ⟨gb191, 5, none⟩ = some (.slice A0_5 l0_5.length c0_5) := (kc BK191.out 5).trans rfl
       have hcz13_6 : wc.cell? ⟨gb191, 6, none⟩ = some (.bool a0_6) := (kc BK191.out 6).trans rfl
       have hcz13_7 : wc.cell? ⟨gb191, 7, none⟩ = some (.int .i64 a0_7) := (kc BK191.out 7).trans rfl
       have hcz13_8 : wc.cell? ⟨gb191, 8, none⟩ = some (.string a0_8) := (kc BK191.out 8).trans rfl
       have hcz13_9 : wc.cell? ⟨gb191, 9, none⟩ = some (.bool a0_9) := (kc BK191.out 9).trans rfl
       have hcz13_10 : wc.cell? ⟨gb191, 10, none⟩ = some (.int .i64 a0_10) := (kc BK191.out 10).trans rfl
       have hcz13_11 : wc.cell? ⟨gb191, 11, none⟩ = some (.bool a0_11) := (kc BK191.out 11).trans rfl
       have hcz13_12 : wc.cell? ⟨gb191, 12, none⟩ = some (.bool a0_12) := (kc BK191.out 12).trans rfl
       have hcz13_13 : wc.cell? ⟨gb191, 13, none⟩ = some (.int .i64 a0_13) := (kc BK191.out 13).trans rfl
       have hfz13_0 := kf BK191.out 0
       have hfz13_1 := kf BK191.out 1
       have hfz13_2 := kf BK191.out 2
       have hfz13_3 := kf BK191.out 3
       have hfz13_4 := kf BK191.out 4
       have hfz13_5 := kf BK191.out 5
       have hfz13_6 := kf BK191.out 6
       have hfz13_7 := kf BK191.out 7
       have hfz13_8 := kf BK191.out 8
       have hfz13_9 := kf BK191.out 9
       have hfz13_10 := kf BK191.out 10
       have hfz13_11 := kf BK191.out 11
       have hfz13_12 := kf BK191.out 12
       have hfz13_13 := kf BK191.out 13
       go_wp2
       go_meet
       case rel => exact ⟨_, (decide (a0_13 ≤ 100000)), xg, H', ⟨by have := HJ1.out; first | omega | exact Nat.le_refl _⟩, ⟨by (with_reducible repeat (first | refine blk_drewN ?_ _ | refine blk_drew ?_ | refine blk_alloc ?_ _)); exact BK191.out⟩, ⟨xb⟩⟩
      ·rw [if_neg c12] at H
       have c12b0 : decide (0 ≤ a0_13) = false := decide_eq_false c12
       clear c12
       have H' := xy H
       clear H
       have hcz14_0 : wc.cell? ⟨gb191, 0, none⟩ = some (.bool a0_0) := (kc BK191.out 0).trans rfl
       have hcz14_1 : wc.cell? ⟨gb191, 1, none⟩ = some (.slice A0_1 l0_1.length c0_1) := (kc BK191.out 1).trans rfl
       have hcz14_2 : wc.cell? ⟨gb191, 2, none⟩ = some (.slice A0_2 l0_2.length c0_2) := (kc BK191.out 2).trans rfl
       have hcz14_3 : wc.cell? ⟨gb191, 3, none⟩ = some (.slice A0_3 l0_3.length c0_3) := (kc BK191.out 3).trans rfl
       have hcz14_4 : wc.cell? ⟨gb191, 4, none⟩ = some (.int .i64 a0_4) := (kc BK191.out 4).trans rfl
       have hcz14_5 : wc.cell? ⟨gb191, 5, none⟩ = some (.slice A0_5 l0_5.length c0_5) := (kc BK191.out 5).trans rfl
       have hcz14_6 : wc.cell? ⟨gb191, 6, none⟩ = some (.bool a0_6) := (kc BK191.out 6).trans rfl
       have hcz14_7 : wc.cell? ⟨gb191, 7, none⟩ = some (.int .i64 a0_7) := (kc BK191.out 7).trans rfl
       have hcz14_8 : wc.cell? ⟨gb191, 8, none⟩ = some (.string a0_8) := (kc BK191.out 8).trans rfl
       have hcz14_9 : wc.cell? ⟨gb191, 9, none⟩ = some (.bool a0_9) := (kc BK191.out 9).trans rfl
       have hcz14_10 : wc.cell? ⟨gb191, 10, none⟩ = some (.int .i64 a0_10) := (kc BK191.out 10).trans rfl
       have hcz14_11 : wc.cell? ⟨gb191, 11, none⟩ = some (.bool a0_11) := (kc BK191.out 11).trans rfl
       have hcz14_12 : wc.cell? ⟨gb191, 12, none⟩ = some (.bool a0_12) := (kc BK191.out 12).trans rfl
       have hcz14_13 : wc.cell? ⟨gb191, 13, none⟩ = some (.int .i64 a0_13) := (kc BK191.out 13).trans rfl
       have hfz14_0 := kf BK191.out 0
       have hfz14_1 := kf BK191.out 1
       have hfz14_2 := kf BK191.out 2
       have hfz14_3 := kf BK191.out 3
       have hfz14_4 := kf BK191.out 4
       have hfz14_5 := kf BK191.out 5
       have hfz14_6 := kf BK191.out 6
       have hfz14_7 := kf BK191.out 7
       have hfz14_8 := kf BK191.out 8
       have hfz14_9 := kf BK191.out 9
       have hfz14_10 := kf BK191.out 10
       have hfz14_11 := kf BK191.out 11
       have hfz14_12 := kf BK191.out 12
       have hfz14_13 := kf BK191.out 13
       go_wp2
       go_meet
       case rel => exact ⟨_, (false), xg, H', ⟨by have := HJ1.out; first | omega | exact Nat.le_refl _⟩, ⟨by (with_reducible repeat (first | refine blk_drewN ?_ _ | refine blk_drew ?_ | refine blk_alloc ?_ _)); exact BK191.out⟩, ⟨xb⟩⟩
     ·rw [if_neg c11] at H
      have c11b0 : decide (a0_10 ≤ 8) = false := decide_eq_false c11
      clear c11
      have H' := xy H
      clear H
      have hcz15_0 : wc.cell? ⟨gb191, 0, none⟩ = some (.bool a0_0) := (kc BK191.out 0).trans rfl
      have hcz15_1 : wc.cell? ⟨gb191, 1, none⟩ = some (.slice A0_1 l0_1.length c0_1) := (kc BK191.out 1).trans rfl
      have hcz15_2 : wc.cell? ⟨gb191, 2, none⟩ = some (.slice A0_2 l0_2.length c0_2) := (kc BK191.out 2).trans rfl
      have hcz15_3 : wc.cell? ⟨gb191, 3, none⟩ = some (.slice A0_3 l0_3.length c0_3) := (kc BK191.out 3).trans rfl
      have hcz15_4 : wc.cell? ⟨gb191, 4, none⟩ = some (.int .i64 a0_4) := (kc BK191.out 4).trans rfl
      have hcz15_5 : wc.cell? ⟨gb191, 5, none⟩ = some (.slice A0_5 l0_5.length c0_5) := (kc BK191.out 5).trans rfl
      have hcz15_6 : wc.cell? ⟨gb191, 6, none⟩ = some (.bool a0_6) := (kc BK191.out 6).trans rfl
      have hcz15_7 : wc.cell? ⟨gb191, 7, none⟩ = some (.int .i64 a0_7) := (kc BK191.out 7).trans rfl
      have hcz15_8 : wc.cell? ⟨gb191, 8, none⟩ = some (.string a0_8) := (kc BK191.out 8).trans rfl
      have hcz15_9 : wc.cell? ⟨gb191, 9, none⟩ = some (.bool a0_9) := (kc BK191.out 9).trans rfl
      have hcz15_10 : wc.cell? ⟨gb191, 10, none⟩ = some (.int .i64 a0_10) := (kc BK191.out 10).trans rfl
      have hcz15_11 : wc.cell? ⟨gb191, 11, none⟩ = some (.bool a0_11) := (kc BK191.out 11).trans rfl
      have hcz15_12 : wc.cell? ⟨gb191, 12, none⟩ = some (.bool a0_12) := (kc BK191.out 12).trans rfl
      have hcz15_13 : wc.cell? ⟨gb191, 13, none⟩ = some (.int .i64 a0_13) := (kc BK191.out 13).trans rfl
      have hfz15_0 := kf BK191.out 0
      have hfz15_1 := kf BK191.out 1
      have hfz15_2 := kf BK191.out 2
      have hfz15_3 := kf BK191.out 3
      have hfz15_4 := kf BK191.out 4
      have hfz15_5 := kf BK191.out 5
      have hfz15_6 := kf BK191.out 6
      have hfz15_7 := kf BK191.out 7
      have hfz15_8 := kf BK191.out 8
      have hfz15_9 := kf BK191.out 9
      have hfz15_10 := kf BK191.out 10
      have hfz15_11 := kf BK191.out 11
      have hfz15_12 := kf BK191.out 12
      have hfz15_13 := kf BK191.out 13
      go_wp2
      go_meet
      case rel => exact ⟨_, (false), xg, H', ⟨by have := HJ1.out; first | omega | exact Nat.le_refl _⟩, ⟨by (with_reducible repeat (first | refine blk_drewN ?_ _ | refine blk_drew ?_ | refine blk_alloc ?_ _)); exact BK191.out⟩, ⟨xb⟩⟩
    ·rw [if_neg c10] at H
     have c10b0 : decide (1 ≤ a0_10) = false := decide_eq_false c10
     clear c10
     (first | rw [c10b0] | (simp only [i64_w, i32_w]; rw [c10b0]) | skip)
     have H' := xy H
     clear H
     have hcz16_0 : wc.cell? ⟨gb191, 0, none⟩ = some (.bool a0_0) := (kc BK191.out 0).trans rfl
     have hcz16_1 : wc.cell? ⟨gb191, 1, none⟩ = some (.slice A0_1 l0_1.length c0_1) := (kc BK191.out 1).trans rfl
     have hcz16_2 : wc.cell? ⟨gb191, 2, none⟩ = some (.slice A0_2 l0_2.length c0_2) := (kc BK191.out 2).trans rfl
     have hcz16_3 : wc.cell? ⟨gb191, 3, none⟩ = some (.slice A0_3 l0_3.length c0_3) := (kc BK191.out 3).trans rfl
     have hcz16_4 : wc.cell? ⟨gb191, 4, none⟩ = some (.int .i64 a0_4) := (kc BK191.out 4).trans rfl
     have hcz16_5 : wc.cell? ⟨gb191, 5, none⟩ = some (.slice A0_5 l0_5.length c0_5) := (kc BK191.out 5).trans rfl
     have hcz16_6 : wc.cell? ⟨gb191, 6, none⟩ = some (.bool a0_6) := (kc BK191.out 6).trans rfl
     have hcz16_7 : wc.cell? ⟨gb191, 7, none⟩ = some (.int .i64 a0_7) := (kc BK191.out 7).trans rfl
     have hcz16_8 : wc.cell? ⟨gb191, 8, none⟩ = some (.string a0_8) := (kc BK191.out 8).trans rfl
     have hcz16_9 : wc.cell? ⟨gb191, 9, none⟩ = some (.bool a0_9) := (kc BK191.out 9).trans rfl
     have hcz16_10 : wc.cell? ⟨gb191, 10, none⟩ = some (.int .i64 a0_10) := (kc BK191.out 10).trans rfl
     have hcz16_11 : wc.cell? ⟨gb191, 11, none⟩ = some (.bool a0_11) := (kc BK191.out 11).trans rfl
     have hcz16_12 : wc.cell? ⟨gb191, 12, none⟩ = some (.bool a0_12) := (kc BK191.out 12).trans rfl
     have hcz16_13 : wc.cell? ⟨gb191, 13, none⟩ = some (.int .i64 a0_13) := (kc BK191.out 13).trans rfl
     have hfz16_0 := kf BK191.out 0
     have hfz16_1 := kf BK191.out 1
     have hfz16_2 := kf BK191.out 2
     have hfz16_3 := kf BK191.out 3
     have hfz16_4 := kf BK191.out 4
     have hfz16_5 := kf BK191.out 5
     have hfz16_6 := kf BK191.out 6
     have hfz16_7 := kf BK191.out 7
     have hfz16_8 := kf BK191.out 8
     have hfz16_9 := kf BK191.out 9
     have hfz16_10 := kf BK191.out 10
     have hfz16_11 := kf BK191.out 11
     have hfz16_12 := kf BK191.out 12
     have hfz16_13 := kf BK191.out 13
     go_wp2
     go_meet
     case rel => exact ⟨_, (false), xg, H', ⟨by have := HJ1.out; first | omega | exact Nat.le_refl _⟩, ⟨by (with_reducible repeat (first | refine blk_drewN ?_ _ | refine blk_drew ?_ | refine blk_alloc ?_ _)); exact BK191.out⟩, ⟨xb⟩⟩
   case rest =>
    clear HC9
    try clear c1
    try clear c2
    try clear p2
    try clear c3
    try clear c4
    try clear c4b0
    try clear c4b1
    try clear c4b2
    try clear c10
    try clear c10b0
    try clear c11
    try clear c11b0
    try clear c12
    try clear c12b0
    try clear hcz13_0
    try clear hcz13_1
    try clear hcz13_10
    try clear hcz13_11
    try clear hcz13_12
    try clear hcz13_13
    try clear hcz13_2
    try clear hcz13_3
    try clear hcz13_4
    try clear hcz13_5
    try clear hcz13_6
    try clear hcz13_7
    try clear hcz13_8
    try clear hcz13_9
    try clear hcz14_0
    try clear hcz14_1
    try clear hcz14_10
    try clear hcz14_11
    try clear hcz14_12
    try clear hcz14_13
    try clear hcz14_2
    try clear hcz14_3
    try clear hcz14_4
    try clear hcz14_5
    try clear hcz14_6
    try clear hcz14_7
    try clear hcz14_8
    try clear hcz14_9
    try clear hcz15_0
    try clear hcz15_1
    try clear hcz15_10
    try clear hcz15_11
    try clear hcz15_12
    try clear hcz15_13
    try clear hcz15_2
    try clear hcz15_3
    try clear hcz15_4
    try clear hcz15_5
    try clear hcz15_6
    try clear hcz15_7
    try clear hcz15_8
    try clear hcz15_9
    try clear hcz16_0
    try clear hcz16_1
    try clear hcz16_10
    try clear hcz16_11
    try clear hcz16_12
    try clear hcz16_13
    try clear hcz16_2
    try clear hcz16_3
    try clear hcz16_4
    try clear hcz16_5
    try clear hcz16_6
    try clear hcz16_7
    try clear hcz16_8
    try clear hcz16_9
    try clear hfz13_0
    try clear hfz13_1
    try clear hfz13_10
    try clear hfz13_11
    try clear hfz13_12
    try clear hfz13_13
    try clear hfz13_2
    try clear hfz13_3
    try clear hfz13_4
    try clear hfz13_5
    try clear hfz13_6
    try clear hfz13_7
    try clear hfz13_8
    try clear hfz13_9
    try clear hfz14_0
    try clear hfz14_1
    try clear hfz14_10
    try clear hfz14_11
    try clear hfz14_12
    try clear hfz14_13
    try clear hfz14_2
    try clear hfz14_3
    try clear hfz14_4
    try clear hfz14_5
    try clear hfz14_6
    try clear hfz14_7
    try clear hfz14_8
    try clear hfz14_9
    try clear hfz15_0
    try clear hfz15_1
    try clear hfz15_10
    try clear hfz15_11
    try clear hfz15_12
    try clear hfz15_13
    try clear hfz15_2
    try clear hfz15_3
    try clear hfz15_4
    try clear hfz15_5
    try clear hfz15_6
    try clear hfz15_7
    try clear hfz15_8
    try clear hfz15_9
    try clear hfz16_0
    try clear hfz16_1
    try clear hfz16_10
    try clear hfz16_11
    try clear hfz16_12
    try clear hfz16_13
    try clear hfz16_2
    try clear hfz16_3
    try clear hfz16_4
    try clear hfz16_5
    try clear hfz16_6
    try clear hfz16_7
    try clear hfz16_8
    try clear hfz16_9
    try clear p2
    obtain ⟨kq, x4_8, rfl, HA, HJ8, BK191, HB⟩ := hcut
    cases kq with
    | zero => exact absurd HA.out (by simp [job_Check.j1])
    | succ kj8 =>
     have H := HA.out
     clear HA
     simp only [job_Check.j1] at H
     replace H := xj H
     obtain ⟨t195, A170, H⟩ := H
     try dsimp only at H
     have A17 := xy A170
     clear A170
     by_cases c18 : t195 = true
     ·subst c18
      rw [if_pos rfl] at H
      by_cases c19 : a0_4 < 0
      ·rw [if_pos c19] at H
       have c19b0 : decide (a0_4 < 0) = true := decide_eq_true c19
       clear c19
       obtain rfl := Option.some.inj H
       have hcz20_0 : wc.cell? ⟨gb191, 0, none⟩ = some (.bool a0_0) := (kc BK191.out 0).trans rfl
       have hcz20_1 : wc.cell? ⟨gb191, 1, none⟩ = some (.slice A0_1 l0_1.length c0_1) := (kc BK191.out 1).trans rfl
       have hcz20_2 : wc.cell? ⟨gb191, 2, none⟩ = some (.slice A0_2 l0_2.length c0_2) := (kc BK191.out 2).trans rfl
       have hcz20_3 : wc.cell? ⟨gb191, 3, none⟩ = some (.slice A0_3 l0_3.length c0_3) := (kc BK191.out 3).trans rfl
       have hcz20_4 : wc.cell? ⟨gb191, 4, none⟩ = some (.int .i64 a0_4) := (kc BK191.out 4).trans rfl
       have hcz20_5 : wc.cell? ⟨gb191, 5, none⟩ = some (.slice A0_5 l0_5.length c0_5) := (kc BK191.out 5).trans rfl
       have hcz20_6 : wc.cell? ⟨gb191, 6, none⟩ = some (.bool a0_6) := (kc BK191.out 6).trans rfl
       have hcz20_7 : wc.cell? ⟨gb191, 7, none⟩ = some (.int .i64 a0_7) := (kc BK191.out 7).trans rfl
       have hcz20_8 : wc.cell? ⟨gb191, 8, none⟩ = some (.string a0_8) := (kc BK191.out 8).trans rfl
       have hcz20_9 : wc.cell? ⟨gb191, 9, none⟩ = some (.bool a0_9) := (kc BK191.out 9).trans rfl
       have hcz20_10 : wc.cell? ⟨gb191, 10, none⟩ = some (.int .i64 a0_10) := (kc BK191.out 10).trans rfl
       have hcz20_11 : wc.cell? ⟨gb191, 11, none⟩ = some (.bool a0_11) := (kc BK191.out 11).trans rfl
       have hcz20_12 : wc.cell? ⟨gb191, 12, none⟩ = some (.bool a0_12) := (kc BK191.out 12).trans rfl
       have hcz20_13 : wc.cell? ⟨gb191, 13, none⟩ = some (.int .i64 a0_13) := (kc BK191.out 13).trans rfl
       have hfz20_0 := kf BK191.out 0
       have hfz20_1 := kf BK191.out 1
       have hfz20_2 := kf BK191.out 2
       have hfz20_3 := kf BK191.out 3
       have hfz20_4 := kf BK191.out 4
       have hfz20_5 := kf BK191.out 5
       have hfz20_6 := kf BK191.out 6
       have hfz20_7 := kf BK191.out 7
       have hfz20_8 := kf BK191.out 8
       have hfz20_9 := kf BK191.out 9
       have hfz20_10 := kf BK191.out 10
       have hfz20_11 := kf BK191.out 11
       have hfz20_12 := kf BK191.out 12
       have hfz20_13 := kf BK191.out 13
       go_wp2_with (first | ((with_reducible refine gate_callee (f := 32) rfl ?_); refine goesL_ (some 35) rfl rfl Tryz.func32 (by kernel_rfl) rfl #[.agg #[.bool a0_0, .slice A0_1 l0_1.length c0_1, .slice A0_2 l0_2.length c0_2, .slice A0_3 l0_3.length c0_3, .int .i64 a0_4, .slice A0_5 l0_5.length c0_5, .bool a0_6, .int .i64 a0_7, .string a0_8, .bool a0_9, .int .i64 a0_10, .bool a0_11, .bool a0_12, .int .i64 a0_13]] rfl xr ?_; (with_reducible refine (job_Job_goes.calls kj8 a0_0 _ _ l0_1 _ _ l0_2 _ _ l0_3 a0_4 _ _ l0_5 a0_6 a0_7 a0_8 a0_9 a0_10 a0_11 a0_12 a0_13 true _ (Tabs.below hT xf) ?side1 ?side2 ?side3 ?side4 ?side5 ?side6 ?side7 ?side8 A17.out).mono ?_); (case side1 => exact Kd.C_below HR0_1.out xb); (case side2 => exact HC0_1.out); (case side3 => exact Kd.C_below HR0_2.out xb); (case side4 => exact HC0_2.out); (case side5 => exact Kd.C_below HR0_3.out xb); (case side6 => exact HC0_3.out); (case side7 => exact Kd.C_below HR0_5.out xb); (case side8 => exact HC0_5.out); rintro e w21 ⟨rfl, hb⟩; refine ⟨_, rfl, ?_⟩; replace BK191 := xd BK191.out hb; replace HB := xy (below_step xb hb); (try clear hb); (try clear hb2); (try clear hk); (try clear hi); have hcz22_0 : w21.cell? ⟨gb191, 0, none⟩ = some (.bool a0_0) := (kc BK191.out 0).trans rfl; have hcz22_1 : w21.cell? ⟨gb191, 1, none⟩ = some (.slice A0_1 l0_1.length c0_1) := (kc BK191.out 1).trans rfl; have hcz22_2 : w21.cell? ⟨gb191, 2, none⟩ = some (.slice A0_2 l0_2.length c0_2) := (kc BK191.out 2).trans rfl; have hcz22_3 : w21.cell? ⟨gb191, 3, none⟩ = some (.slice A0_3 l0_3.length c0_3) := (kc BK191.out 3).trans rfl; have hcz22_4 : w21.cell? ⟨gb191, 4, none⟩ = some (.int .i64 a0_4) := (kc BK191.out 4).trans rfl; have hcz22_5 : w21.cell? ⟨gb191, 5, none⟩ = some (.slice A0_5 l0_5.length c0_5) := (kc BK191.out 5).trans rfl; have hcz22_6 : w21.cell? ⟨gb191, 6, none⟩ = some (.bool a0_6) := (kc BK191.out 6).trans rfl; have hcz22_7 : w21.cell? ⟨gb191, 7, none⟩ = some (.int .i64 a0_7) := (kc BK191.out 7).trans rfl; have hcz22_8 : w21.cell? ⟨gb191, 8, none⟩ = some (.string a0_8) := (kc BK191.out 8).trans rfl; have hcz22_9 : w21.cell? ⟨gb191, 9, none⟩ = some (.bool a0_9) := (kc BK191.out 9).trans rfl; have hcz22_10 : w21.cell? ⟨gb191, 10, none⟩ = some (.int .i64 a0_10) := (kc BK191.out 10).trans rfl; have hcz22_11 : w21.cell? ⟨gb191, 11, none⟩ = some (.bool a0_11) := (kc BK191.out 11).trans rfl; have hcz22_12 : w21.cell? ⟨gb191, 12, none⟩ = some (.bool a0_12) := (kc BK191.out 12).trans rfl; have hcz22_13 : w21.cell? ⟨gb191, 13, none⟩ = some (.int .i64 a0_13) := (kc BK191.out 13).trans rfl; have hfz22_0 := kf BK191.out 0; have hfz22_1 := kf BK191.out 1; have hfz22_2 := kf BK191.out 2; have hfz22_3 := kf BK191.out 3; have hfz22_4 := kf BK191.out 4; have hfz22_5 := kf BK191.out 5; have hfz22_6 := kf BK191.out 6; have hfz22_7 := kf BK191.out 7; have hfz22_8 := kf BK191.out 8; have hfz22_9 := kf BK191.out 9; have hfz22_10 := kf BK191.out 10; have hfz22_11 := kf BK191.out 11; have hfz22_12 := kf BK191.out 12; have hfz22_13 := kf BK191.out 13))
       go_ret
       exact ⟨xe, xb⟩
      ·rw [if_neg c19] at H
       have c19b0 : decide (a0_4 < 0) = false := decide_eq_false c19
       clear c19
       by_cases c23 : a0_4 > 7
       ·rw [if_pos c23] at H
        have c23b0 : decide (7 < a0_4) = true := decide_eq_true c23
        clear c23
        obtain rfl := Option.some.inj H
        have hcz24_0 : wc.cell? ⟨gb191, 0, none⟩ = some (.bool a0_0) := (kc BK191.out 0).trans rfl
        have hcz24_1 : wc.cell? ⟨gb191, 1, none⟩ = some (.slice A0_1 l0_1.length c0_1) := (kc BK191.out 1).trans rfl
        have hcz24_2 : wc.cell? ⟨gb191, 2, none⟩ = some (.slice A0_2 l0_2.length c0_2) := (kc BK191.out 2).trans rfl
        have hcz24_3 : wc.cell? ⟨gb191, 3, none⟩ = some (.slice A0_3 l0_3.length c0_3) := (kc BK191.out 3).trans rfl
        have hcz24_4 : wc.cell? ⟨gb191, 4, none⟩ = some (.int .i64 a0_4) := (kc BK191.out 4).trans rfl
        have hcz24_5 : wc.cell? ⟨gb191, 5, none⟩ = some (.slice A0_5 l0_5.length c0_5) := (kc BK191.out 5).trans rfl
        have hcz24_6 : wc.cell? ⟨gb191, 6, none⟩ = some (.bool a0_6) := (kc BK191.out 6).trans rfl
        have hcz24_7 : wc.cell? ⟨gb191, 7, none⟩ = some (.int .i64 a0_7) := (kc BK191.out 7).trans rfl
        have hcz24_8 : wc.cell? ⟨gb191, 8, none⟩ = some (.string a0_8) := (kc BK191.out 8).trans rfl
        have hcz24_9 : wc.cell? ⟨gb191, 9, none⟩ = some (.bool a0_9) := (kc BK191.out 9).trans rfl
        have hcz24_10 : wc.cell? ⟨gb191, 10, none⟩ = some (.int .i64 a0_10) := (kc BK191.out 10).trans rfl
        have hcz24_11 : wc.cell? ⟨gb191, 11, none⟩ = some (.bool a0_11) := (kc BK191.out 11).trans rfl
        have hcz24_12 : wc.cell? ⟨gb191, 12, none⟩ = some (.bool a0_12) := (kc BK191.out 12).trans rfl
        have hcz24_13 : wc.cell? ⟨gb191, 13, none⟩ = some (.int .i64 a0_13) := (kc BK191.out 13).trans rfl
        have hfz24_0 := kf BK191.out 0
        have hfz24_1 := kf BK191.out 1
        have hfz24_2 := kf BK191.out 2
        have hfz24_3 := kf BK191.out 3
        have hfz24_4 := kf BK191.out 4
        have hfz24_5 := kf BK191.out 5
        have hfz24_6 := kf BK191.out 6
        have hfz24_7 := kf BK191.out 7
        have hfz24_8 := kf BK191.out 8
        have hfz24_9 := kf BK191.out 9
        have hfz24_10 := kf BK191.out 10
        have hfz24_11 := kf BK191.out 11
        have hfz24_12 := kf BK191.out 12
        have hfz24_13 := kf BK191.out 13
        go_wp2_with (first | ((with_reducible refine gate_callee (f := 32) rfl ?_); refine goesL_ (some 35) rfl rfl Tryz.func32 (by kernel_rfl) rfl #[.agg #[.bool a0_0, .slice A0_1 l0_1.length c0_1, .slice A0_2 l0_2.length c0_2, .slice A0_3 l0_3.length c0_3, .int .i64 a0_4, .slice A0_5 l0_5.length c0_5, .bool a0_6, .int .i64 a0_7, .string a0_8, .bool a0_9, .int .i64 a0_10, .bool a0_11, .bool a0_12, .int .i64 a0_13]] rfl xr ?_; (with_reducible refine (job_Job_goes.calls kj8 a0_0 _ _ l0_1 _ _ l0_2 _ _ l0_3 a0_4 _ _ l0_5 a0_6 a0_7 a0_8 a0_9 a0_10 a0_11 a0_12 a0_13 true _ (Tabs.below hT xf) ?side1 ?side2 ?side3 ?side4 ?side5 ?side6 ?side7 ?side8 A17.out).mono ?_); (case side1 => exact Kd.C_below HR0_1.out xb); (case side2 => exact HC0_1.out); (case side3 => exact Kd.C_below HR0_2.out xb); (case side4 => exact HC0_2.out); (case side5 => exact Kd.C_below HR0_3.out xb); (case side6 => exact HC0_3.out); (case side7 => exact Kd.C_below HR0_5.out xb); (case side8 => exact HC0_5.out); rintro e w25 ⟨rfl, hb⟩; refine ⟨_, rfl, ?_⟩; replace BK191 := xd BK191.out hb; replace HB := xy (below_step xb hb); (try clear hb); (try clear hb2); (try clear hk); (try clear hi); have hcz26_0 : w25.cell? ⟨gb191, 0, none⟩ = some (.bool a0_0) := (kc BK191.out 0).trans rfl; have hcz26_1 : w25.cell? ⟨gb191, 1, none⟩ = some (.slice A0_1 l0_1.length c0_1) := (kc BK191.out 1).trans rfl; have hcz26_2 : w25.cell? ⟨gb191, 2, none⟩ = some (.slice A0_2 l0_2.length c0_2) := (kc BK191.out 2).trans rfl; have hcz26_3 : w25.cell? ⟨gb191, 3, none⟩ = some (.slice A0_3 l0_3.length c0_3) := (kc BK191.out 3).trans rfl; have hcz26_4 : w25.cell? ⟨gb191, 4, none⟩ = some (.int .i64 a0_4) := (kc BK191.out 4).trans rfl; have hcz26_5 : w25.cell? ⟨gb191, 5, none⟩ = some (.slice A0_5 l0_5.length c0_5) := (kc BK191.out 5).trans rfl; have hcz26_6 : w25.cell? ⟨gb191, 6, none⟩ = some (.bool a0_6) := (kc BK191.out 6).trans rfl; have hcz26_7 : w25.cell? ⟨gb191, 7, none⟩ = some (.int .i64 a0_7) := (kc BK191.out 7).trans rfl; have hcz26_8 : w25.cell? ⟨gb191, 8, none⟩ = some (.string a0_8) := (kc BK191.out 8).trans rfl; have hcz26_9 : w25.cell? ⟨gb191, 9, none⟩ = some (.bool a0_9) := (kc BK191.out 9).trans rfl; have hcz26_10 : w25.cell? ⟨gb191, 10, none⟩ = some (.int .i64 a0_10) := (kc BK191.out 10).trans rfl; have hcz26_11 : w25.cell? ⟨gb191, 11, none⟩ = some (.bool a0_11) := (kc BK191.out 11).trans rfl; have hcz26_12 : w25.cell? ⟨gb191, 12, none⟩ = some (.bool a0_12) := (kc BK191.out 12).trans rfl; have hcz26_13 : w25.cell? ⟨gb191, 13, none⟩ = some (.int .i64 a0_13) := (kc BK191.out 13).trans rfl; have hfz26_0 := kf BK191.out 0; have hfz26_1 := kf BK191.out 1; have hfz26_2 := kf BK191.out 2; have hfz26_3 := kf BK191.out 3; have hfz26_4 := kf BK191.out 4; have hfz26_5 := kf BK191.out 5; have hfz26_6 := kf BK191.out 6; have hfz26_7 := kf BK191.out 7; have hfz26_8 := kf BK191.out 8; have hfz26_9 := kf BK191.out 9; have hfz26_10 := kf BK191.out 10; have hfz26_11 := kf BK191.out 11; have hfz26_12 := kf BK191.out 12; have hfz26_13 := kf BK191.out 13))
        go_ret
        exact ⟨xe, xb⟩
       ·rw [if_neg c23] at H
        have c23b0 : decide (7 < a0_4) = false := decide_eq_false c23
        clear c23
        by_cases c27 : a0_4 = 7
        ·rw [if_pos c27] at H
         have c27b0 : (a0_4 == 7) = true := beq_iff_eq.mpr c27
         have c27b1 : (a0_4 != 7) = false := bne_eq_false_iff_eq.mpr c27
         clear c27
         replace H := xj H
         obtain ⟨t196, A280, H⟩ := H
         try dsimp only at H
         have A28 := xy A280
         clear A280
         by_cases c29 : t196 = true
         ·subst c29
          rw [if_pos rfl] at H
          by_cases c30 : a0_9 = true
          ·subst c30
           rw [if_pos rfl] at H
           by_cases c31 : a0_4 > 2
           ·rw [if_pos c31] at H
            have c31b0 : decide (2 < a0_4) = true := decide_eq_true c31
            clear c31
            obtain rfl := Option.some.inj H
            have hcz32_0 : wc.cell? ⟨gb191, 0, none⟩ = some (.bool a0_0) := (kc BK191.out 0).trans rfl
            have hcz32_1 : wc.cell? ⟨gb191, 1, none⟩ = some (.slice A0_1 l0_1.length c0_1) := (kc BK191.out 1).trans rfl
            have hcz32_2 : wc.cell? ⟨gb191, 2, none⟩ = some (.slice A0_2 l0_2.length c0_2) := (kc BK191.out 2).trans rfl
            have hcz32_3 : wc.cell? ⟨gb191, 3, none⟩ = some (.slice A0_3 l0_3.length c0_3) := (kc BK191.out 3).trans rfl
            have hcz32_4 : wc.cell? ⟨gb191, 4, none⟩ = some (.int .i64 a0_4) := (kc BK191.out 4).trans rfl
            have hcz32_5 : wc.cell? ⟨gb191, 5, none⟩ = some (.slice A0_5 l0_5.length c0_5) := (kc BK191.out 5).trans rfl
            have hcz32_6 : wc.cell? ⟨gb191, 6, none⟩ = some (.bool a0_6) := (kc BK191.out 6).trans rfl
            have hcz32_7 : wc.cell? ⟨gb191, 7, none⟩ = some (.int .i64 a0_7) := (kc BK191.out 7).trans rfl
            have hcz32_8 : wc.cell? ⟨gb191, 8, none⟩ = some (.string a0_8) := (kc BK191.out 8).trans rfl
            have hcz32_9 : wc.cell? ⟨gb191, 9, none⟩ = some (.bool true) := (kc BK191.out 9).trans rfl
            have hcz32_10 : wc.cell? ⟨gb191, 10, none⟩ = some (.int .i64 a0_10) := (kc BK191.out 10).trans rfl
            have hcz32_11 : wc.cell? ⟨gb191, 11, none⟩ = some (.bool a0_11) := (kc BK191.out 11).trans rfl
            have hcz32_12 : wc.cell? ⟨gb191, 12, none⟩ = some (.bool a0_12) := (kc BK191.out 12).trans rfl
            have hcz32_13 : wc.cell? ⟨gb191, 13, none⟩ = some (.int .i64 a0_13) := (kc BK191.out 13).trans rfl
            have hfz32_0 := kf BK191.out 0
            have hfz32_1 := kf BK191.out 1
            have hfz32_2 := kf BK191.out 2
            have hfz32_3 := kf BK191.out 3
            have hfz32_4 := kf BK191.out 4
            have hfz32_5 := kf BK191.out 5
            have hfz32_6 := kf BK191.out 6
            have hfz32_7 := kf BK191.out 7
            have hfz32_8 := kf BK191.out 8
            have hfz32_9 := kf BK191.out 9
            have hfz32_10 := kf BK191.out 10
            have hfz32_11 := kf BK191.out 11
            have hfz32_12 := kf BK191.out 12
            have hfz32_13 := kf BK191.out 13
            go_wp2_with (first | ((with_reducible refine gate_callee (f := 32) rfl ?_); refine goesL_ (some 35) rfl rfl Tryz.func32 (by kernel_rfl) rfl #[.agg #[.bool a0_0, .slice A0_1 l0_1.length c0_1, .slice A0_2 l0_2.length c0_2, .slice A0_3 l0_3.length c0_3, .int .i64 a0_4, .slice A0_5 l0_5.length c0_5, .bool a0_6, .int .i64 a0_7, .string a0_8, .bool true, .int .i64 a0_10, .bool a0_11, .bool a0_12, .int .i64 a0_13]] rfl xr ?_; (with_reducible refine (job_Job_goes.calls kj8 a0_0 _ _ l0_1 _ _ l0_2 _ _ l0_3 a0_4 _ _ l0_5 a0_6 a0_7 a0_8 true a0_10 a0_11 a0_12 a0_13 true _ (Tabs.below hT xf) ?side1 ?side2 ?side3 ?side4 ?side5 ?side6 ?side7 ?side8 A17.out).mono ?_); (case side1 => exact Kd.C_below HR0_1.out xb); (case side2 => exact HC0_1.out); (case side3 => exact Kd.C_below HR0_2.out xb); (case side4 => exact HC0_2.out); (case side5 => exact Kd.C_below HR0_3.out xb); (case side6 => exact HC0_3.out); (case side7 => exact Kd.C_below HR0_5.out xb); (case side8 => exact HC0_5.out); rintro e w33 ⟨rfl, hb⟩; refine ⟨_, rfl, ?_⟩; replace BK191 := xd BK191.out hb; replace HB := xy (below_step xb hb); (try clear hb); (try clear hb2); (try clear hk); (try clear hi); have hcz34_0 : w33.cell? ⟨gb191, 0, none⟩ = some (.bool a0_0) := (kc BK191.out 0).trans rfl; have hcz34_1 : w33.cell? ⟨gb191, 1, none⟩ = some (.slice A0_1 l0_1.length c0_1) := (kc BK191.out 1).trans rfl; have hcz34_2 : w33.cell? ⟨gb191, 2, none⟩ = some (.slice A0_2 l0_2.length c0_2) := (kc BK191.out 2).trans rfl; have hcz34_3 : w33.cell? ⟨gb191, 3, none⟩ = some (.slice A0_3 l0_3.length c0_3) := (kc BK191.out 3).trans rfl; have hcz34_4 : w33.cell? ⟨gb191, 4, none⟩ = some (.int .i64 a0_4) := (kc BK191.out 4).trans rfl; have hcz34_5 : w33.cell? ⟨gb191, 5, none⟩ = some (.slice A0_5 l0_5.length c0_5) := (kc BK191.out 5).trans rfl; have hcz34_6 : w33.cell? ⟨gb191, 6, none⟩ = some (.bool a0_6) := (kc BK191.out 6).trans rfl; have hcz34_7 : w33.cell? ⟨gb191, 7, none⟩ = some (.int .i64 a0_7) := (kc BK191.out 7).trans rfl; have hcz34_8 : w33.cell? ⟨gb191, 8, none⟩ = some (.string a0_8) := (kc BK191.out 8).trans rfl; have hcz34_9 : w33.cell? ⟨gb191, 9, none⟩ = some (.bool true) := (kc BK191.out 9).trans rfl; have hcz34_10 : w33.cell? ⟨gb191, 10, none⟩ = some (.int .i64 a0_10) := (kc BK191.out 10).trans rfl; have hcz34_11 : w33.cell? ⟨gb191, 11, none⟩ = some (.bool a0_11) := (kc BK191.out 11).trans rfl; have hcz34_12 : w33.cell? ⟨gb191, 12, none⟩ = some (.bool a0_12) := (kc BK191.out 12).trans rfl; have hcz34_13 : w33.cell? ⟨gb191, 13, none⟩ = some (.int .i64 a0_13) := (kc BK191.out 13).trans rfl; have hfz34_0 := kf BK191.out 0; have hfz34_1 := kf BK191.out 1; have hfz34_2 := kf BK191.out 2; have hfz34_3 := kf BK191.out 3; have hfz34_4 := kf BK191.out 4; have hfz34_5 := kf BK191.out 5; have hfz34_6 := kf BK191.out 6; have hfz34_7 := kf BK191.out 7; have hfz34_8 := kf BK191.out 8; have hfz34_9 := kf BK191.out 9; have hfz34_10 := kf BK191.out 10; have hfz34_11 := kf BK191.out 11; have hfz34_12 := kf BK191.out 12; have hfz34_13 := kf BK191.out 13) | (go_at_call 33; (with_reducible refine (job_isVal.calls a0_6 a0_7 a0_8 true _ (Tabs.below hT xf) A28.out).mono ?_); rintro e w35 ⟨rfl, hb⟩; replace BK191 := xd BK191.out hb; replace HB := xy (below_step xb hb); (try clear hb); (try clear hb2); (try clear hk); (try clear hi); have hcz36_0 : w35.cell? ⟨gb191, 0, none⟩ = some (.bool a0_0) := (kc BK191.out 0).trans rfl; have hcz36_1 : w35.cell? ⟨gb191, 1, none⟩ = some (.slice A0_1 l0_1.length c0_1) := (kc BK191.out 1).trans rfl; have hcz36_2 : w35.cell? ⟨gb191, 2, none⟩ = some (.slice A0_2 l0_2.length c0_2) := (kc BK191.out 2).trans rfl; have hcz36_3 : w35.cell? ⟨gb191, 3, none⟩ = some (.slice A0_3 l0_3.length c0_3) := (kc BK191.out 3).trans rfl; have hcz36_4 : w35.cell? ⟨gb191, 4, none⟩ = some (.int .i64 a0_4) := (kc BK191.out 4).trans rfl; have hcz36_5 : w35.cell? ⟨gb191, 5, none⟩ = some (.slice A0_5 l0_5.length c0_5) := (kc BK191.out 5).trans rfl; have hcz36_6 : w35.cell? ⟨gb191, 6, none⟩ = some (.bool a0_6) := (kc BK191.out 6).trans rfl; have hcz36_7 : w35.cell? ⟨gb191, 7, none⟩ = some (.int .i64 a0_7) := (kc BK191.out 7).trans rfl; have hcz36_8 : w35.cell? ⟨gb191, 8, none⟩ = some (.string a0_8) := (kc BK191.out 8).trans rfl; have hcz36_9 : w35.cell? ⟨gb191, 9, none⟩ = some (.bool true) := (kc BK191.out 9).trans rfl; have hcz36_10 : w35.cell? ⟨gb191, 10, none⟩ = some (.int .i64 a0_10) := (kc BK191.out 10).trans rfl; have hcz36_11 : w35.cell? ⟨gb191, 11, none⟩ = some (.bool a0_11) := (kc BK191.out 11).trans rfl; have hcz36_12 : w35.cell? ⟨gb191, 12, none⟩ = some (.bool a0_12) := (kc BK191.out 12).trans rfl; have hcz36_13 : w35.cell? ⟨gb191, 13, none⟩ = some (.int .i64 a0_13) := (kc BK191.out 13).trans rfl; have hfz36_0 := kf BK191.out 0; have hfz36_1 := kf BK191.out 1; have hfz36_2 := kf BK191.out 2; have hfz36_3 := kf BK191.out 3; have hfz36_4 := kf BK191.out 4; have hfz36_5 := kf BK191.out 5; have hfz36_6 := kf BK191.out 6; have hfz36_7 := kf BK191.out 7; have hfz36_8 := kf BK191.out 8; have hfz36_9 := kf BK191.out 9; have hfz36_10 := kf BK191.out 10; have hfz36_11 := kf BK191.out 11; have hfz36_12 := kf BK191.out 12; have hfz36_13 := kf BK191.out 13))
            go_ret
            exact ⟨xe, xb⟩
           ·rw [if_neg c31] at H
            have c31b0 : decide (2 < a0_4) = false := decide_eq_false c31
            clear c31
            by_cases c37 : x4_8 = true
            ·subst c37
             rw [if_pos rfl] at H
             obtain rfl := Option.some.inj H
             have hcz38_0 : wc.cell? ⟨gb191, 0, none⟩ = some (.bool a0_0) := (kc BK191.out 0).trans rfl
             have hcz38_1 : wc.cell? ⟨gb191, 1, none⟩ = some (.slice A0_1 l0_1.length c0_1) := (kc BK191.out 1).trans rfl
             have hcz38_2 : wc.cell? ⟨gb191, 2, none⟩ = some (.slice A0_2 l0_2.length c0_2) := (kc BK191.out 2).trans rfl
             have hcz38_3 : wc.cell? ⟨gb191, 3, none⟩ = some (.slice A0_3 l0_3.length c0_3) := (kc BK191.out 3).trans rfl
             have hcz38_4 : wc.cell? ⟨gb191, 4, none⟩ = some (.int .i64 a0_4) := (kc BK191.out 4).trans rfl
             have hcz38_5 : wc.cell? ⟨gb191, 5, none⟩ = some (.slice A0_5 l0_5.length c0_5) := (kc BK191.out 5).trans rfl
             have hcz38_6 : wc.cell? ⟨gb191, 6, none⟩ = some (.bool a0_6) := (kc BK191.out 6).trans rfl
             have hcz38_7 : wc.cell? ⟨gb191, 7, none⟩ = some (.int .i64 a0_7) := (kc BK191.out 7).trans rfl
             have hcz38_8 : wc.cell? ⟨gb191, 8, none⟩ = some (.string a0_8) := (kc BK191.out 8).trans rfl
             have hcz38_9 : wc.cell? ⟨gb191, 9, none⟩ = some (.bool true) := (kc BK191.out 9).trans rfl
             have hcz38_10 : wc.cell? ⟨gb191, 10, none⟩ = some (.int .i64 a0_10) := (kc BK191.out 10).trans rfl
             have hcz38_11 : wc.cell? ⟨gb191, 11, none⟩ = some (.bool a0_11) := (kc BK191.out 11).trans rfl
             have hcz38_12 : wc.cell? ⟨gb191, 12, none⟩ = some (.bool a0_12) := (kc BK191.out 12).trans rfl
             have hcz38_13 : wc.cell? ⟨gb191, 13, none⟩ = some (.int .i64 a0_13) := (kc BK191.out 13).trans rfl
             have hfz38_0 := kf BK191.out 0
             have hfz38_1 := kf BK191.out 1
             have hfz38_2 := kf BK191.out 2
             have hfz38_3 := kf BK191.out 3
             have hfz38_4 := kf BK191.out 4
             have hfz38_5 := kf BK191.out 5
             have hfz38_6 := kf BK191.out 6
             have hfz38_7 := kf BK191.out 7
             have hfz38_8 := kf BK191.out 8
             have hfz38_9 := kf BK191.out 9
             have hfz38_10 := kf BK191.out 10
             have hfz38_11 := kf BK191.out 11
             have hfz38_12 := kf BK191.out 12
             have hfz38_13 := kf BK191.out 13
             go_wp2_with (first | ((with_reducible refine gate_callee (f := 32) rfl ?_); refine goesL_ (some 35) rfl rfl Tryz.func32 (by kernel_rfl) rfl #[.agg #[.bool a0_0, .slice A0_1 l0_1.length c0_1, .slice A0_2 l0_2.length c0_2, .slice A0_3 l0_3.length c0_3, .int .i64 a0_4, .slice A0_5 l0_5.length c0_5, .bool a0_6, .int .i64 a0_7, .string a0_8, .bool true, .int .i64 a0_10, .bool a0_11, .bool a0_12, .int .i64 a0_13]] rfl xr ?_; (with_reducible refine (job_Job_goes.calls kj8 a0_0 _ _ l0_1 _ _ l0_2 _ _ l0_3 a0_4 _ _ l0_5 a0_6 a0_7 a0_8 true a0_10 a0_11 a0_12 a0_13 true _ (Tabs.below hT xf) ?side1 ?side2 ?side3 ?side4 ?side5 ?side6 ?side7 ?side8 A17.out).mono ?_); (case side1 => exact Kd.C_below HR0_1.out xb); (case side2 => exact HC0_1.out); (case side3 => exact Kd.C_below HR0_2.out xb); (case side4 => exact HC0_2.out); (case side5 => exact Kd.C_below HR0_3.out xb); (case side6 => exact HC0_3.out); (case side7 => exact Kd.C_below HR0_5.out xb); (case side8 => exact HC0_5.out); rintro e w39 ⟨rfl, hb⟩; refine ⟨_, rfl, ?_⟩; replace BK191 := xd BK191.out hb; replace HB := xy (below_step xb hb); (try clear hb); (try clear hb2); (try clear hk); (try clear hi); have hcz40_0 : w39.cell? ⟨gb191, 0, none⟩ = some (.bool a0_0) := (kc BK191.out 0).trans rfl; have hcz40_1 : w39.cell? ⟨gb191, 1, none⟩ = some (.slice A0_1 l0_1.length c0_1) := (kc BK191.out 1).trans rfl; have hcz40_2 : w39.cell? ⟨gb191, 2, none⟩ = some (.slice A0_2 l0_2.length c0_2) := (kc BK191.out 2).trans rfl; have hcz40_3 : w39.cell? ⟨gb191, 3, none⟩ = some (.slice A0_3 l0_3.length c0_3) := (kc BK191.out 3).trans rfl; have hcz40_4 : w39.cell? ⟨gb191, 4, none⟩ = some (.int .i64 a0_4) := (kc BK191.out 4).trans rfl; have hcz40_5 : w39.cell? ⟨gb191, 5, none⟩ = some (.slice A0_5 l0_5.length c0_5) := (kc BK191.out 5).trans rfl; have hcz40_6 : w39.cell? ⟨gb191, 6, none⟩ = some (.bool a0_6) := (kc BK191.out 6).trans rfl; have hcz40_7 : w39.cell? ⟨gb191, 7, none⟩ = some (.int .i64 a0_7) := (kc BK191.out 7).trans rfl; have hcz40_8 : w39.cell? ⟨gb191, 8, none⟩ = some (.string a0_8) := (kc BK191.out 8).trans rfl; have hcz40_9 : w39.cell? ⟨gb191, 9, none⟩ = some (.bool true) := (kc BK191.out 9).trans rfl; have hcz40_10 : w39.cell? ⟨gb191, 10, none⟩ = some (.int .i64 a0_10) := (kc BK191.out 10).trans rfl; have hcz40_11 : w39.cell? ⟨gb191, 11, none⟩ = some (.bool a0_11) := (kc BK191.out 11).trans rfl; have hcz40_12 : w39.cell? ⟨gb191, 12, none⟩ = some (.bool a0_12) := (kc BK191.out 12).trans rfl; have hcz40_13 : w39.cell? ⟨gb191, 13, none⟩ = some (.int .i64 a0_13) := (kc BK191.out 13).trans rfl; have hfz40_0 := kf BK191.out 0; have hfz40_1 := kf BK191.out 1; have hfz40_2 := kf BK191.out 2; have hfz40_3 := kf BK191.out 3; have hfz40_4 := kf BK191.out 4; have hfz40_5 := kf BK191.out 5; have hfz40_6 := kf BK191.out 6; have hfz40_7 := kf BK191.out 7; have hfz40_8 := kf BK191.out 8; have hfz40_9 := kf BK191.out 9; have hfz40_10 := kf BK191.out 10; have hfz40_11 := kf BK191.out 11; have hfz40_12 := kf BK191.out 12; have hfz40_13 := kf BK191.out 13) | (go_at_call 33; (with_reducible refine (job_isVal.calls a0_6 a0_7 a0_8 true _ (Tabs.below hT xf) A28.out).mono ?_); rintro e w41 ⟨rfl, hb⟩; replace BK191 := xd BK191.out hb; replace HB := xy (below_step xb hb); (try clear hb); (try clear hb2); (try clear hk); (try clear hi); have hcz42_0 : w41.cell? ⟨gb191, 0, none⟩ = some (.bool a0_0) := (kc BK191.out 0).trans rfl; have hcz42_1 : w41.cell? ⟨gb191, 1, none⟩ = some (.slice A0_1 l0_1.length c0_1) := (kc BK191.out 1).trans rfl; have hcz42_2 : w41.cell? ⟨gb191, 2, none⟩ = some (.slice A0_2 l0_2.length c0_2) := (kc BK191.out 2).trans rfl; have hcz42_3 : w41.cell? ⟨gb191, 3, none⟩ = some (.slice A0_3 l0_3.length c0_3) := (kc BK191.out 3).trans rfl; have hcz42_4 : w41.cell? ⟨gb191, 4, none⟩ = some (.int .i64 a0_4) := (kc BK191.out 4).trans rfl; have hcz42_5 : w41.cell? ⟨gb191, 5, none⟩ = some (.slice A0_5 l0_5.length c0_5) := (kc BK191.out 5).trans rfl; have hcz42_6 : w41.cell? ⟨gb191, 6, none⟩ = some (.bool a0_6) := (kc BK191.out 6).trans rfl; have hcz42_7 : w41.cell? ⟨gb191, 7, none⟩ = some (.int .i64 a0_7) := (kc BK191.out 7).trans rfl; have hcz42_8 : w41.cell? ⟨gb191, 8, none⟩ = some (.string a0_8) := (kc BK191.out 8).trans rfl; have hcz42_9 : w41.cell? ⟨gb191, 9, none⟩ = some (.bool true) := (kc BK191.out 9).trans rfl; have hcz42_10 : w41.cell? ⟨gb191, 10, none⟩ = some (.int .i64 a0_10) := (kc BK191.out 10).trans rfl; have hcz42_11 : w41.cell? ⟨gb191, 11, none⟩ = some (.bool a0_11) := (kc BK191.out 11).trans rfl; have hcz42_12 : w41.cell? ⟨gb191, 12, none⟩ = some (.bool a0_12) := (kc BK191.out 12).trans rfl; have hcz42_13 : w41.cell? ⟨gb191, 13, none⟩ = some (.int .i64 a0_13) := (kc BK191.out 13).trans rfl; have hfz42_0 := kf BK191.out 0; have hfz42_1 := kf BK191.out 1; have hfz42_2 := kf BK191.out 2; have hfz42_3 := kf BK191.out 3; have hfz42_4 := kf BK191.out 4; have hfz42_5 := kf BK191.out 5; have hfz42_6 := kf BK191.out 6; have hfz42_7 := kf BK191.out 7; have hfz42_8 := kf BK191.out 8; have hfz42_9 := kf BK191.out 9; have hfz42_10 := kf BK191.out 10; have hfz42_11 := kf BK191.out 11; have hfz42_12 := kf BK191.out 12; have hfz42_13 := kf BK191.out 13))
             go_ret
             exact ⟨xe, xb⟩
            ·replace c37 := Bool.eq_false_iff.mpr c37
             subst c37
             rw [if_neg (show ¬ (false = true) by decide)] at H
             obtain rfl := Option.some.inj H
             have hcz43_0 : wc.cell? ⟨gb191, 0, none⟩ = some (.bool a0_0) := (kc BK191.out 0).trans rfl
             have hcz43_1 : wc.cell? ⟨gb191, 1, none⟩ = some (.slice A0_1 l0_1.length c0_1) := (kc BK191.out 1).trans rfl
             have hcz43_2 : wc.cell? ⟨gb191, 2, none⟩ = some (.slice A0_2 l0_2.length c0_2) := (kc BK191.out 2).trans rfl
             have hcz43_3 : wc.cell? ⟨gb191, 3, none⟩ = some (.slice A0_3 l0_3.length c0_3) := (kc BK191.out 3).trans rfl
             have hcz43_4 : wc.cell? ⟨gb191, 4, none⟩ = some (.int .i64 a0_4) := (kc BK191.out 4).trans rfl
             have hcz43_5 : wc.cell? ⟨gb191, 5, none⟩ = some (.slice A0_5 l0_5.length c0_5) := (kc BK191.out 5).trans rfl
             have hcz43_6 : wc.cell? ⟨gb191, 6, none⟩ = some (.bool a0_6) := (kc BK191.out 6).trans rfl
             have hcz43_7 : wc.cell? ⟨gb191, 7, none⟩ = some (.int .i64 a0_7) := (kc BK191.out 7).trans rfl
             have hcz43_8 : wc.cell? ⟨gb191, 8, none⟩ = some (.string a0_8) := (kc BK191.out 8).trans rfl
             have hcz43_9 : wc.cell? ⟨gb191, 9, none⟩ = some (.bool true) := (kc BK191.out 9).trans rfl
             have hcz43_10 : wc.cell? ⟨gb191, 10, none⟩ = some (.int .i64 a0_10) := (kc BK191.out 10).trans rfl
             have hcz43_11 : wc.cell? ⟨gb191, 11, none⟩ = some (.bool a0_11) := (kc BK191.out 11).trans rfl
             have hcz43_12 : wc.cell? ⟨gb191, 12, none⟩ = some (.bool a0_12) := (kc BK191.out 12).trans rfl
             have hcz43_13 : wc.cell? ⟨gb191, 13, none⟩ = some (.int .i64 a0_13) := (kc BK191.out 13).trans rfl
             have hfz43_0 := kf BK191.out 0
             have hfz43_1 := kf BK191.out 1
             have hfz43_2 := kf BK191.out 2
             have hfz43_3 := kf BK191.out 3
             have hfz43_4 := kf BK191.out 4
             have hfz43_5 := kf BK191.out 5
             have hfz43_6 := kf BK191.out 6
             have hfz43_7 := kf BK191.out 7
             have hfz43_8 := kf BK191.out 8
             have hfz43_9 := kf BK191.out 9
             have hfz43_10 := kf BK191.out 10
             have hfz43_11 := kf BK191.out 11
             have hfz43_12 := kf BK191.out 12
             have hfz43_13 := kf BK191.out 13
             go_wp2_with (first | ((with_reducible refine gate_callee (f := 32) rfl ?_); refine goesL_ (some 35) rfl rfl Tryz.func32 (by kernel_rfl) rfl #[.agg #[.bool a0_0, .slice A0_1 l0_1.length c0_1, .slice A0_2 l0_2.length c0_2, .slice A0_3 l0_3.length c0_3, .int .i64 a0_4, .slice A0_5 l0_5.length c0_5, .bool a0_6, .int .i64 a0_7, .string a0_8, .bool true, .int .i64 a0_10, .bool a0_11, .bool a0_12, .int .i64 a0_13]] rfl xr ?_; (with_reducible refine (job_Job_goes.calls kj8 a0_0 _ _ l0_1 _ _ l0_2 _ _ l0_3 a0_4 _ _ l0_5 a0_6 a0_7 a0_8 true a0_10 a0_11 a0_12 a0_13 true _ (Tabs.below hT xf) ?side1 ?side2 ?side3 ?side4 ?side5 ?side6 ?side7 ?side8 A17.out).mono ?_); (case side1 => exact Kd.C_below HR0_1.out xb); (case side2 => exact HC0_1.out); (case side3 => exact Kd.C_below HR0_2.out xb); (case side4 => exact HC0_2.out); (case side5 => exact Kd.C_below HR0_3.out xb); (case side6 => exact HC0_3.out); (case side7 => exact Kd.C_below HR0_5.out xb); (case side8 => exact HC0_5.out); rintro e w44 ⟨rfl, hb⟩; refine ⟨_, rfl, ?_⟩; replace BK191 := xd BK191.out hb; replace HB := xy (below_step xb hb); (try clear hb); (try clear hb2); (try clear hk); (try clear hi); have hcz45_0 : w44.cell? ⟨gb191, 0, none⟩ = some (.bool a0_0) := (kc BK191.out 0).trans rfl; have hcz45_1 : w44.cell? ⟨gb191, 1, none⟩ = some (.slice A0_1 l0_1.length c0_1) := (kc BK191.out 1).trans rfl; have hcz45_2 : w44.cell? ⟨gb191, 2, none⟩ = some (.slice A0_2 l0_2.length c0_2) := (kc BK191.out 2).trans rfl; have hcz45_3 : w44.cell? ⟨gb191, 3, none⟩ = some (.slice A0_3 l0_3.length c0_3) := (kc BK191.out 3).trans rfl; have hcz45_4 : w44.cell? ⟨gb191, 4, none⟩ = some (.int .i64 a0_4) := (kc BK191.out 4).trans rfl; have hcz45_5 : w44.cell? ⟨gb191, 5, none⟩ = some (.slice A0_5 l0_5.length c0_5) := (kc BK191.out 5).trans rfl; have hcz45_6 : w44.cell? ⟨gb191, 6, none⟩ = some (.bool a0_6) := (kc BK191.out 6).trans rfl; have hcz45_7 : w44.cell? ⟨gb191, 7, none⟩ = some (.int .i64 a0_7) := (kc BK191.out 7).trans rfl; have hcz45_8 : w44.cell? ⟨gb191, 8, none⟩ = some (.string a0_8) := (kc BK191.out 8).trans rfl; have hcz45_9 : w44.cell? ⟨gb191, 9, none⟩ = some (.bool true) := (kc BK191.out 9).trans rfl; have hcz45_10 : w44.cell? ⟨gb191, 10, none⟩ = some (.int .i64 a0_10) := (kc BK191.out 10).trans rfl; have hcz45_11 : w44.cell? ⟨gb191, 11, none⟩ = some (.bool a0_11) := (kc BK191.out 11).trans rfl; have hcz45_12 : w44.cell? ⟨gb191, 12, none⟩ = some (.bool a0_12) := (kc BK191.out 12).trans rfl; have hcz45_13 : w44.cell? ⟨gb191, 13, none⟩ = some (.int .i64 a0_13) := (kc BK191.out 13).trans rfl; have hfz45_0 := kf BK191.out 0; have hfz45_1 := kf BK191.out 1; have hfz45_2 := kf BK191.out 2; have hfz45_3 := kf BK191.out 3; have hfz45_4 := kf BK191.out 4; have hfz45_5 := kf BK191.out 5; have hfz45_6 := kf BK191.out 6; have hfz45_7 := kf BK191.out 7; have hfz45_8 := kf BK191.out 8; have hfz45_9 := kf BK191.out 9; have hfz45_10 := kf BK191.out 10; have hfz45_11 := kf BK191.out 11; have hfz45_12 := kf BK191.out 12; have hfz45_13 := kf BK191.out 13) | (go_at_call 33; (with_reducible refine (job_isVal.calls a0_6 a0_7 a0_8 true _ (Tabs.below hT xf) A28.out).mono ?_); rintro e w46 ⟨rfl, hb⟩; replace BK191 := xd BK191.out hb; replace HB := xy (below_step xb hb); (try clear hb); (try clear hb2); (try clear hk); (try clear hi); have hcz47_0 : w46.cell? ⟨gb191, 0, none⟩ = some (.bool a0_0) := (kc BK191.out 0).trans rfl; have hcz47_1 : w46.cell? ⟨gb191, 1, none⟩ = some (.slice A0_1 l0_1.length c0_1) := (kc BK191.out 1).trans rfl; have hcz47_2 : w46.cell? ⟨gb191, 2, none⟩ = some (.slice A0_2 l0_2.length c0_2) := (kc BK191.out 2).trans rfl; have hcz47_3 : w46.cell? ⟨gb191, 3, none⟩ = some (.slice A0_3 l0_3.length c0_3) := (kc BK191.out 3).trans rfl; have hcz47_4 : w46.cell? ⟨gb191, 4, none⟩ = some (.int .i64 a0_4) := (kc BK191.out 4).trans rfl; have hcz47_5 : w46.cell? ⟨gb191, 5, none⟩ = some (.slice A0_5 l0_5.length c0_5) := (kc BK191.out 5).trans rfl; have hcz47_6 : w46.cell? ⟨gb191, 6, none⟩ = some (.bool a0_6) := (kc BK191.out 6).trans rfl; have hcz47_7 : w46.cell? ⟨gb191, 7, none⟩ = some (.int .i64 a0_7) := (kc BK191.out 7).trans rfl; have hcz47_8 : w46.cell? ⟨gb191, 8, none⟩ = some (.string a0_8) := (kc BK191.out 8).trans rfl; have hcz47_9 : w46.cell? ⟨gb191, 9, none⟩ = some (.bool true) := (kc BK191.out 9).trans rfl; have hcz47_10 : w46.cell? ⟨gb191, 10, none⟩ = some (.int .i64 a0_10) := (kc BK191.out 10).trans rfl; have hcz47_11 : w46.cell? ⟨gb191, 11, none⟩ = some (.bool a0_11) := (kc BK191.out 11).trans rfl; have hcz47_12 : w46.cell? ⟨gb191, 12, none⟩ = some (.bool a0_12) := (kc BK191.out 12).trans rfl; have hcz47_13 : w46.cell? ⟨gb191, 13, none⟩ = some (.int .i64 a0_13) := (kc BK191.out 13).trans rfl; have hfz47_0 := kf BK191.out 0; have hfz47_1 := kf BK191.out 1; have hfz47_2 := kf BK191.out 2; have hfz47_3 := kf BK191.out 3; have hfz47_4 := kf BK191.out 4; have hfz47_5 := kf BK191.out 5; have hfz47_6 := kf BK191.out 6; have hfz47_7 := kf BK191.out 7; have hfz47_8 := kf BK191.out 8; have hfz47_9 := kf BK191.out 9; have hfz47_10 := kf BK191.out 10; have hfz47_11 := kf BK191.out 11; have hfz47_12 := kf BK191.out 12; have hfz47_13 := kf BK191.out 13))
             go_ret
             exact ⟨xe, xb⟩
          ·replace c30 := Bool.eq_false_iff.mpr c30
           subst c30
           rw [if_neg (show ¬ (false = true) by decide)] at H
           by_cases c48 : x4_8 = true
           ·subst c48
            rw [if_pos rfl] at H
            obtain rfl := Option.some.inj H
            have hcz49_0 : wc.cell? ⟨gb191, 0, none⟩ = some (.bool a0_0) := (kc BK191.out 0).trans rfl
            have hcz49_1 : wc.cell? ⟨gb191, 1, none⟩ = some (.slice A0_1 l0_1.length c0_1) := (kc BK191.out 1).trans rfl
            have hcz49_2 : wc.cell? ⟨gb191, 2, none⟩ = some (.slice A0_2 l0_2.length c0_2) := (kc BK191.out 2).trans rfl
            have hcz49_3 : wc.cell? ⟨gb191, 3, none⟩ = some (.slice A0_3 l0_3.length c0_3) := (kc BK191.out 3).trans rfl
            have hcz49_4 : wc.cell? ⟨gb191, 4, none⟩ = some (.int .i64 a0_4) := (kc BK191.out 4).trans rfl
            have hcz49_5 : wc.cell? ⟨gb191, 5, none⟩ = some (.slice A0_5 l0_5.length c0_5) := (kc BK191.out 5).trans rfl
            have hcz49_6 : wc.cell? ⟨gb191, 6, none⟩ = some (.bool a0_6) := (kc BK191.out 6).trans rfl
            have hcz49_7 : wc.cell? ⟨gb191, 7, none⟩ = some (.int .i64 a0_7) := (kc BK191.out 7).trans rfl
            have hcz49_8 : wc.cell? ⟨gb191, 8, none⟩ = some (.string a0_8) := (kc BK191.out 8).trans rfl
            have hcz49_9 : wc.cell? ⟨gb191, 9, none⟩ = some (.bool false) := (kc BK191.out 9).trans rfl
            have hcz49_10 : wc.cell? ⟨gb191, 10, none⟩ = some (.int .i64 a0_10) := (kc BK191.out 10).trans rfl
            have hcz49_11 : wc.cell? ⟨gb191, 11, none⟩ = some (.bool a0_11) := (kc BK191.out 11).trans rfl
            have hcz49_12 : wc.cell? ⟨gb191, 12, none⟩ = some (.bool a0_12) := (kc BK191.out 12).trans rfl
            have hcz49_13 : wc.cell? ⟨gb191, 13, none⟩ = some (.int .i64 a0_13) := (kc BK191.out 13).trans rfl
            have hfz49_0 := kf BK191.out 0
            have hfz49_1 := kf BK191.out 1
            have hfz49_2 := kf BK191.out 2
            have hfz49_3 := kf BK191.out 3
            have hfz49_4 := kf BK191.out 4
            have hfz49_5 := kf BK191.out 5
            have hfz49_6 := kf BK191.out 6
            have hfz49_7 := kf BK191.out 7
            have hfz49_8 := kf BK191.out 8
            have hfz49_9 := kf BK191.out 9
            have hfz49_10 := kf BK191.out 10
            have hfz49_11 := kf BK191.out 11
            have hfz49_12 := kf BK191.out 12
            have hfz49_13 := kf BK191.out 13
            go_wp2_with (first | ((with_reducible refine gate_callee (f := 32) rfl ?_); refine goesL_ (some 35) rfl rfl Tryz.func32 (by kernel_rfl) rfl #[.agg #[.bool a0_0, .slice A0_1 l0_1.length c0_1, .slice A0_2 l0_2.length c0_2, .slice A0_3 l0_3.length c0_3, .int .i64 a0_4, .slice A0_5 l0_5.length c0_5, .bool a0_6, .int .i64 a0_7, .string a0_8, .bool false, .int .i64 a0_10, .bool a0_11, .bool a0_12, .int .i64 a0_13]] rfl xr ?_; (with_reducible refine (job_Job_goes.calls kj8 a0_0 _ _ l0_1 _ _ l0_2 _ _ l0_3 a0_4 _ _ l0_5 a0_6 a0_7 a0_8 false a0_10 a0_11 a0_12 a0_13 true _ (Tabs.below hT xf) ?side1 ?side2 ?side3 ?side4 ?side5 ?side6 ?side7 ?side8 A17.out).mono ?_); (case side1 => exact Kd.C_below HR0_1.out xb); (case side2 => exact HC0_1.out); (case side3 => exact Kd.C_below HR0_2.out xb); (case side4 => exact HC0_2.out); (case side5 => exact Kd.C_below HR0_3.out xb); (case side6 => exact HC0_3.out); (case side7 => exact Kd.C_below HR0_5.out xb); (case side8 => exact HC0_5.out); rintro e w50 ⟨rfl, hb⟩; refine ⟨_, rfl, ?_⟩; replace BK191 := xd BK191.out hb; replace HB := xy (below_step xb hb); (try clear hb); (try clear hb2); (try clear hk); (try clear hi); have hcz51_0 : w50.cell? ⟨gb191, 0, none⟩ = some (.bool a0_0) := (kc BK191.out 0).trans rfl; have hcz51_1 : w50.cell? ⟨gb191, 1, none⟩ = some (.slice A0_1 l0_1.length c0_1) := (kc BK191.out 1).trans rfl; have hcz51_2 : w50.cell? ⟨gb191, 2, none⟩ = some (.slice A0_2 l0_2.length c0_2) := (kc BK191.out 2).trans rfl; have hcz51_3 : w50.cell? ⟨gb191, 3, none⟩ = some (.slice A0_3 l0_3.length c0_3) := (kc BK191.out 3).trans rfl; have hcz51_4 : w50.cell? ⟨gb191, 4, none⟩ = some (.int .i64 a0_4) := (kc BK191.out 4).trans rfl; have hcz51_5 : w50.cell? ⟨gb191, 5, none⟩ = some (.slice A0_5 l0_5.length c0_5) := (kc BK191.out 5).trans rfl; have hcz51_6 : w50.cell? ⟨gb191, 6, none⟩ = some (.bool a0_6) := (kc BK191.out 6).trans rfl; have hcz51_7 : w50.cell? ⟨gb191, 7, none⟩ = some (.int .i64 a0_7) := (kc BK191.out 7).trans rfl; have hcz51_8 : w50.cell? ⟨gb191, 8, none⟩ = some (.string a0_8) := (kc BK191.out 8).trans rfl; have hcz51_9 : w50.cell? ⟨gb191, 9, none⟩ = some (.bool false) := (kc BK191.out 9).trans rfl; have hcz51_10 : w50.cell? ⟨gb191, 10, none⟩ = some (.int .i64 a0_10) := (kc BK191.out 10).trans rfl; have hcz51_11 : w50.cell? ⟨gb191, 11, none⟩ = some (.bool a0_11) := (kc BK191.out 11).trans rfl; have hcz51_12 : w50.cell? ⟨gb191, 12, none⟩ = some (.bool a0_12) := (kc BK191.out 12).trans rfl; have hcz51_13 : w50.cell? ⟨gb191, 13, none⟩ = some (.int .i64 a0_13) := (kc BK191.out 13).trans rfl; have hfz51_0 := kf BK191.out 0; have hfz51_1 := kf BK191.out 1; have hfz51_2 := kf BK191.out 2; have hfz51_3 := kf BK191.out 3; have hfz51_4 := kf BK191.out 4; have hfz51_5 := kf BK191.out 5; have hfz51_6 := kf BK191.out 6; have hfz51_7 := kf BK191.out 7; have hfz51_8 := kf BK191.out 8; have hfz51_9 := kf BK191.out 9; have hfz51_10 := kf BK191.out 10; have hfz51_11 := kf BK191.out 11; have hfz51_12 := kf BK191.out 12; have hfz51_13 := kf BK191.out 13) | (go_at_call 33; (with_reducible refine (job_isVal.calls a0_6 a0_7 a0_8 true _ (Tabs.below hT xf) A28.out).mono ?_); rintro e w52 ⟨rfl, hb⟩; replace BK191 := xd BK191.out hb; replace HB := xy (below_step xb hb); (try clear hb); (try clear hb2); (try clear hk); (try clear hi); have hcz53_0 : w52.cell? ⟨gb191, 0, none⟩ = some (.bool a0_0) := (kc BK191.out 0).trans rfl; have hcz53_1 : w52.cell? ⟨gb191, 1, none⟩ = some (.slice A0_1 l0_1.length c0_1) := (kc BK191.out 1).trans rfl; have hcz53_2 : w52.cell? ⟨gb191, 2, none⟩ = some (.slice A0_2 l0_2.length c0_2) := (kc BK191.out 2).trans rfl; have hcz53_3 : w52.cell? ⟨gb191, 3, none⟩ = some (.slice A0_3 l0_3.length c0_3) := (kc BK191.out 3).trans rfl; have hcz53_4 : w52.cell? ⟨gb191, 4, none⟩ = some (.int .i64 a0_4) := (kc BK191.out 4).trans rfl; have hcz53_5 : w52.cell? ⟨gb191, 5, none⟩ = some (.slice A0_5 l0_5.length c0_5) := (kc BK191.out 5).trans rfl; have hcz53_6 : w52.cell? ⟨gb191, 6, none⟩ = some (.bool a0_6) := (kc BK191.out 6).trans rfl; have hcz53_7 : w52.cell? ⟨gb191, 7, none⟩ = some (.int .i64 a0_7) := (kc BK191.out 7).trans rfl; have hcz53_8 : w52.cell? ⟨gb191, 8, none⟩ = some (.string a0_8) := (kc BK191.out 8).trans rfl; have hcz53_9 : w52.cell? ⟨gb191, 9, none⟩ = some (.bool false) := (kc BK191.out 9).trans rfl; have hcz53_10 : w52.cell? ⟨gb191, 10, none⟩ = some (.int .i64 a0_10) := (kc BK191.out 10).trans rfl; have hcz53_11 : w52.cell? ⟨gb191, 11, none⟩ = some (.bool a0_11) := (kc BK191.out 11).trans rfl; have hcz53_12 : w52.cell? ⟨gb191, 12, none⟩ = some (.bool a0_12) := (kc BK191.out 12).trans rfl; have hcz53_13 : w52.cell? ⟨gb191, 13, none⟩ = some (.int .i64 a0_13) := (kc BK191.out 13).trans rfl; have hfz53_0 := kf BK191.out 0; have hfz53_1 := kf BK191.out 1; have hfz53_2 := kf BK191.out 2; have hfz53_3 := kf BK191.out 3; have hfz53_4 := kf BK191.out 4; have hfz53_5 := kf BK191.out 5; have hfz53_6 := kf BK191.out 6; have hfz53_7 := kf BK191.out 7; have hfz53_8 := kf BK191.out 8; have hfz53_9 := kf BK191.out 9; have hfz53_10 := kf BK191.out 10; have hfz53_11 := kf BK191.out 11; have hfz53_12 := kf BK191.out 12; have hfz53_13 := kf BK191.out 13))
            go_ret
            exact ⟨xe, xb⟩
           ·replace c48 := Bool.eq_false_iff.mpr c48
            subst c48
            rw [if_neg (show ¬ (false = true) by decide)] at H
            obtain rfl := Option.some.inj H
            have hcz54_0 : wc.cell? ⟨gb191, 0, none⟩ = some (.bool a0_0) := (kc BK191.out 0).trans rfl
            have hcz54_1 : wc.cell? ⟨gb191, 1, none⟩ = some (.slice A0_1 l0_1.length c0_1) := (kc BK191.out 1).trans rfl
            have hcz54_2 : wc.cell? ⟨gb191, 2, none⟩ = some (.slice A0_2 l0_2.length c0_2) := (kc BK191.out 2).trans rfl
            have hcz54_3 : wc.cell? ⟨gb191, 3, none⟩ = some (.slice A0_3 l0_3.length c0_3) := (kc BK191.out 3).trans rfl
            have hcz54_4 : wc.cell? ⟨gb191, 4, none⟩ = some (.int .i64 a0_4) := (kc BK191.out 4).trans rfl
            have hcz54_5 : wc.cell? ⟨gb191, 5, none⟩ = some (.slice A0_5 l0_5.length c0_5) := (kc BK191.out 5).trans rfl
            have hcz54_6 : wc.cell? ⟨gb191, 6, none⟩ = some (.bool a0_6) := (kc BK191.out 6).trans rfl
            have hcz54_7 : wc.cell? ⟨gb191, 7, none⟩ = some (.int .i64 a0_7) := (kc BK191.out 7).trans rfl
            have hcz54_8 : wc.cell? ⟨gb191, 8, none⟩ = some (.string a0_8) := (kc BK191.out 8).trans rfl
            have hcz54_9 : wc.cell? ⟨gb191, 9, none⟩ = some (.bool false) := (kc BK191.out 9).trans rfl
            have hcz54_10 : wc.cell? ⟨gb191, 10, none⟩ = some (.int .i64 a0_10) := (kc BK191.out 10).trans rfl
            have hcz54_11 : wc.cell? ⟨gb191, 11, none⟩ = some (.bool a0_11) := (kc BK191.out 11).trans rfl
            have hcz54_12 : wc.cell? ⟨gb191, 12, none⟩ = some (.bool a0_12) := (kc BK191.out 12).trans rfl
            have hcz54_13 : wc.cell? ⟨gb191, 13, none⟩ = some (.int .i64 a0_13) := (kc BK191.out 13).trans rfl
            have hfz54_0 := kf BK191.out 0
            have hfz54_1 := kf BK191.out 1
            have hfz54_2 := kf BK191.out 2
            have hfz54_3 := kf BK191.out 3
            have hfz54_4 := kf BK191.out 4
            have hfz54_5 := kf BK191.out 5
            have hfz54_6 := kf BK191.out 6
            have hfz54_7 := kf BK191.out 7
            have hfz54_8 := kf BK191.out 8
            have hfz54_9 := kf BK191.out 9
            have hfz54_10 := kf BK191.out 10
            have hfz54_11 := kf BK191.out 11
            have hfz54_12 := kf BK191.out 12
            have hfz54_13 := kf BK191.out 13
            go_wp2_with (first | ((with_reducible refine gate_callee (f := 32) rfl ?_); refine goesL_ (some 35) rfl rfl Tryz.func32 (by kernel_rfl) rfl #[.agg #[.bool a0_0, .slice A0_1 l0_1.length c0_1, .slice A0_2 l0_2.length c0_2, .slice A0_3 l0_3.length c0_3, .int .i64 a0_4, .slice A0_5 l0_5.length c0_5, .bool a0_6, .int .i64 a0_7, .string a0_8, .bool false, .int .i64 a0_10, .bool a0_11, .bool a0_12, .int .i64 a0_13]] rfl xr ?_; (with_reducible refine (job_Job_goes.calls kj8 a0_0 _ _ l0_1 _ _ l0_2 _ _ l0_3 a0_4 _ _ l0_5 a0_6 a0_7 a0_8 false a0_10 a0_11 a0_12 a0_13 true _ (Tabs.below hT xf) ?side1 ?side2 ?side3 ?side4 ?side5 ?side6 ?side7 ?side8 A17.out).mono ?_); (case side1 => exact Kd.C_below HR0_1.out xb); (case side2 => exact HC0_1.out); (case side3 => exact Kd.C_below HR0_2.out xb); (case side4 => exact HC0_2.out); (case side5 => exact Kd.C_below HR0_3.out xb); (case side6 => exact HC0_3.out); (case side7 => exact Kd.C_below HR0_5.out xb); (case side8 => exact HC0_5.out); rintro e w55 ⟨rfl, hb⟩; refine ⟨_, rfl, ?_⟩; replace BK191 := xd BK191.out hb; replace HB := xy (below_step xb hb); (try clear hb); (try clear hb2); (try clear hk); (try clear hi); have hcz56_0 : w55.cell? ⟨gb191, 0, none⟩ = some (.bool a0_0) := (kc BK191.out 0).trans rfl; have hcz56_1 : w55.cell? ⟨gb191, 1, none⟩ = some (.slice A0_1 l0_1.length c0_1) := (kc BK191.out 1).trans rfl; have hcz56_2 : w55.cell? ⟨gb191, 2, none⟩ = some (.slice A0_2 l0_2.length c0_2) := (kc BK191.out 2).trans rfl; have hcz56_3 : w55.cell? ⟨gb191, 3, none⟩ = some (.slice A0_3 l0_3.length c0_3) := (kc BK191.out 3).trans rfl; have hcz56_4 : w55.cell? ⟨gb191, 4, none⟩ = some (.int .i64 a0_4) := (kc BK191.out 4).trans rfl; have hcz56_5 : w55.cell? ⟨gb191, 5, none⟩ = some (.slice A0_5 l0_5.length c0_5) := (kc BK191.out 5).trans rfl; have hcz56_6 : w55.cell? ⟨gb191, 6, none⟩ = some (.bool a0_6) := (kc BK191.out 6).trans rfl; have hcz56_7 : w55.cell? ⟨gb191, 7, none⟩ = some (.int .i64 a0_7) := (kc BK191.out 7).trans rfl; have hcz56_8 : w55.cell? ⟨gb191, 8, none⟩ = some (.string a0_8) := (kc BK191.out 8).trans rfl; have hcz56_9 : w55.cell? ⟨gb191, 9, none⟩ = some (.bool false) := (kc BK191.out 9).trans rfl; have hcz56_10 : w55.cell? ⟨gb191, 10, none⟩ = some (.int .i64 a0_10) := (kc BK191.out 10).trans rfl; have hcz56_11 : w55.cell? ⟨gb191, 11, none⟩ = some (.bool a0_11) := (kc BK191.out 11).trans rfl; have hcz56_12 : w55.cell? ⟨gb191, 12, none⟩ = some (.bool a0_12) := (kc BK191.out 12).trans rfl; have hcz56_13 : w55.cell? ⟨gb191, 13, none⟩ = some (.int .i64 a0_13) := (kc BK191.out 13).trans rfl; have hfz56_0 := kf BK191.out 0; have hfz56_1 := kf BK191.out 1; have hfz56_2 := kf BK191.out 2; have hfz56_3 := kf BK191.out 3; have hfz56_4 := kf BK191.out 4; have hfz56_5 := kf BK191.out 5; have hfz56_6 := kf BK191.out 6; have hfz56_7 := kf BK191.out 7; have hfz56_8 := kf BK191.out 8; have hfz56_9 := kf BK191.out 9; have hfz56_10 := kf BK191.out 10; have hfz56_11 := kf BK191.out 11; have hfz56_12 := kf BK191.out 12; have hfz56_13 := kf BK191.out 13) | (go_at_call 33; (with_reducible refine (job_isVal.calls a0_6 a0_7 a0_8 true _ (Tabs.below hT xf) A28.out).mono ?_); rintro e w57 ⟨rfl, hb⟩; replace BK191 := xd BK191.out hb; replace HB := xy (below_step xb hb); (try clear hb); (try clear hb2); (try clear hk); (try clear hi); have hcz58_0 : w57.cell? ⟨gb191, 0, none⟩ = some (.bool a0_0) := (kc BK191.out 0).trans rfl; have hcz58_1 : w57.cell? ⟨gb191, 1, none⟩ = some (.slice A0_1 l0_1.length c0_1) := (kc BK191.out 1).trans rfl; have hcz58_2 : w57.cell? ⟨gb191, 2, none⟩ = some (.slice A0_2 l0_2.length c0_2) := (kc BK191.out 2).trans rfl; have hcz58_3 : w57.cell? ⟨gb191, 3, none⟩ = some (.slice A0_3 l0_3.length c0_3) := (kc BK191.out 3).trans rfl; have hcz58_4 : w57.cell? ⟨gb191, 4, none⟩ = some (.int .i64 a0_4) := (kc BK191.out 4).trans rfl; have hcz58_5 : w57.cell? ⟨gb191, 5, none⟩ = some (.slice A0_5 l0_5.length c0_5) := (kc BK191.out 5).trans rfl; have hcz58_6 : w57.cell? ⟨gb191, 6, none⟩ = some (.bool a0_6) := (kc BK191.out 6).trans rfl; have hcz58_7 : w57.cell? ⟨gb191, 7, none⟩ = some (.int .i64 a0_7) := (kc BK191.out 7).trans rfl; have hcz58_8 : w57.cell? ⟨gb191, 8, none⟩ = some (.string a0_8) := (kc BK191.out 8).trans rfl; have hcz58_9 : w57.cell? ⟨gb191, 9, none⟩ = some (.bool false) := (kc BK191.out 9).trans rfl; have hcz58_10 : w57.cell? ⟨gb191, 10, none⟩ = some (.int .i64 a0_10) := (kc BK191.out 10).trans rfl; have hcz58_11 : w57.cell? ⟨gb191, 11, none⟩ = some (.bool a0_11) := (kc BK191.out 11).trans rfl; have hcz58_12 : w57.cell? ⟨gb191, 12, none⟩ = some (.bool a0_12) := (kc BK191.out 12).trans rfl; have hcz58_13 : w57.cell? ⟨gb191, 13, none⟩ = some (.int .i64 a0_13) := (kc BK191.out 13).trans rfl; have hfz58_0 := kf BK191.out 0; have hfz58_1 := kf BK191.out 1; have hfz58_2 := kf BK191.out 2; have hfz58_3 := kf BK191.out 3; have hfz58_4 := kf BK191.out 4; have hfz58_5 := kf BK191.out 5; have hfz58_6 := kf BK191.out 6; have hfz58_7 := kf BK191.out 7; have hfz58_8 := kf BK191.out 8; have hfz58_9 := kf BK191.out 9; have hfz58_10 := kf BK191.out 10; have hfz58_11 := kf BK191.out 11; have hfz58_12 := kf BK191.out 12; have hfz58_13 := kf BK191.out 13))
            go_ret
            exact ⟨xe, xb⟩
         ·replace c29 := Bool.eq_false_iff.mpr c29
          subst c29
          rw [if_neg (show ¬ (false = true) by decide)] at H
          obtain rfl := Option.some.inj H
          have hcz59_0 : wc.cell? ⟨gb191, 0, none⟩ = some (.bool a0_0) := (kc BK191.out 0).trans rfl
          have hcz59_1 : wc.cell? ⟨gb191, 1, none⟩ = some (.slice A0_1 l0_1.length c0_1) := (kc BK191.out 1).trans rfl
          have hcz59_2 : wc.cell? ⟨gb191, 2, none⟩ = some (.slice A0_2 l0_2.length c0_2) := (kc BK191.out 2).trans rfl
          have hcz59_3 : wc.cell? ⟨gb191, 3, none⟩ = some (.slice A0_3 l0_3.length c0_3) := (kc BK191.out 3).trans rfl
          have hcz59_4 : wc.cell? ⟨gb191, 4, none⟩ = some (.int .i64 a0_4) := (kc BK191.out 4).trans rfl
          have hcz59_5 : wc.cell? ⟨gb191, 5, none⟩ = some (.slice A0_5 l0_5.length c0_5) := (kc BK191.out 5).trans rfl
          have hcz59_6 : wc.cell? ⟨gb191, 6, none⟩ = some (.bool a0_6) := (kc BK191.out 6).trans rfl
          have hcz59_7 : wc.cell? ⟨gb191, 7, none⟩ = some (.int .i64 a0_7) := (kc BK191.out 7).trans rfl
          have hcz59_8 : wc.cell? ⟨gb191, 8, none⟩ = some (.string a0_8) := (kc BK191.out 8).trans rfl
          have hcz59_9 : wc.cell? ⟨gb191, 9, none⟩ = some (.bool a0_9) := (kc BK191.out 9).trans rfl
          have hcz59_10 : wc.cell? ⟨gb191, 10, none⟩ = some (.int .i64 a0_10) := (kc BK191.out 10).trans rfl
          have hcz59_11 : wc.cell? ⟨gb191, 11, none⟩ = some (.bool a0_11) := (kc BK191.out 11).trans rfl
          have hcz59_12 : wc.cell? ⟨gb191, 12, none⟩ = some (.bool a0_12) := (kc BK191.out 12).trans rfl
          have hcz59_13 : wc.cell? ⟨gb191, 13, none⟩ = some (.int .i64 a0_13) := (kc BK191.out 13).trans rfl
          have hfz59_0 := kf BK191.out 0
          have hfz59_1 := kf BK191.out 1
          have hfz59_2 := kf BK191.out 2
          have hfz59_3 := kf BK191.out 3
          have hfz59_4 := kf BK191.out 4
          have hfz59_5 := kf BK191.out 5
          have hfz59_6 := kf BK191.out 6
          have hfz59_7 := kf BK191.out 7
          have hfz59_8 := kf BK191.out 8
          have hfz59_9 := kf BK191.out 9
          have hfz59_10 := kf BK191.out 10
          have hfz59_11 := kf BK191.out 11
          have hfz59_12 := kf BK191.out 12
          have hfz59_13 := kf BK191.out 13
          go_wp2_with (first | ((with_reducible refine gate_callee (f := 32) rfl ?_); refine goesL_ (some 35) rfl rfl Tryz.func32 (by kernel_rfl) rfl #[.agg #[.bool a0_0, .slice A0_1 l0_1.length c0_1, .slice A0_2 l0_2.length c0_2, .slice A0_3 l0_3.length c0_3, .int .i64 a0_4, .slice A0_5 l0_5.length c0_5, .bool a0_6, .int .i64 a0_7, .string a0_8, .bool a0_9, .int .i64 a0_10, .bool a0_11, .bool a0_12, .int .i64 a0_13]] rfl xr ?_; (with_reducible refine (job_Job_goes.calls kj8 a0_0 _ _ l0_1 _ _ l0_2 _ _ l0_3 a0_4 _ _ l0_5 a0_6 a0_7 a0_8 a0_9 a0_10 a0_11 a0_12 a0_13 true _ (Tabs.below hT xf) ?side1 ?side2 ?side3 ?side4 ?side5 ?side6 ?side7 ?side8 A17.out).mono ?_); (case side1 => exact Kd.C_below HR0_1.out xb); (case side2 => exact HC0_1.out); (case side3 => exact Kd.C_below HR0_2.out xb); (case side4 => exact HC0_2.out); (case side5 => exact Kd.C_below HR0_3.out xb); (case side6 => exact HC0_3.out); (case side7 => exact Kd.C_below HR0_5.out xb); (case side8 => exact HC0_5.out); rintro e w60 ⟨rfl, hb⟩; refine ⟨_, rfl, ?_⟩; replace BK191 := xd BK191.out hb; replace HB := xy (below_step xb hb); (try clear hb); (try clear hb2); (try clear hk); (try clear hi); have hcz61_0 : w60.cell? ⟨gb191, 0, none⟩ = some (.bool a0_0) := (kc BK191.out 0).trans rfl; have hcz61_1 : w60.cell? ⟨gb191, 1, none⟩ = some (.slice A0_1 l0_1.length c0_1) := (kc BK191.out 1).trans rfl; have hcz61_2 : w60.cell? ⟨gb191, 2, none⟩ = some (.slice A0_2 l0_2.length c0_2) := (kc BK191.out 2).trans rfl; have hcz61_3 : w60.cell? ⟨gb191, 3, none⟩ = some (.slice A0_3 l0_3.length c0_3) := (kc BK191.out 3).trans rfl; have hcz61_4 : w60.cell? ⟨gb191, 4, none⟩ = some (.int .i64 a0_4) := (kc BK191.out 4).trans rfl; have hcz61_5 : w60.cell? ⟨gb191, 5, none⟩ = some (.slice A0_5 l0_5.length c0_5) := (kc BK191.out 5).trans rfl; have hcz61_6 : w60.cell? ⟨gb191, 6, none⟩ = some (.bool a0_6) := (kc BK191.out 6).trans rfl; have hcz61_7 : w60.cell? ⟨gb191, 7, none⟩ = some (.int .i64 a0_7) := (kc BK191.out 7).trans rfl; have hcz61_8 : w60.cell? ⟨gb191, 8, none⟩ = some (.string a0_8) := (kc BK191.out 8).trans rfl; have hcz61_9 : w60.cell? ⟨gb191, 9, none⟩ = some (.bool a0_9) := (kc BK191.out 9).trans rfl; have hcz61_10 : w60.cell? ⟨gb191, 10, none⟩ = some (.int .i64 a0_10) := (kc BK191.out 10).trans rfl; have hcz61_11 : w60.cell? ⟨gb191, 11, none⟩ = some (.bool a0_11) := (kc BK191.out 11).trans rfl; have hcz61_12 : w60.cell? ⟨gb191, 12, none⟩ = some (.bool a0_12) := (kc BK191.out 12).trans rfl; have hcz61_13 : w60.cell? ⟨gb191, 13, none⟩ = some (.int .i64 a0_13) := (kc BK191.out 13).trans rfl; have hfz61_0 := kf BK191.out 0; have hfz61_1 := kf BK191.out 1; have hfz61_2 := kf BK191.out 2; have hfz61_3 := kf BK191.out 3; have hfz61_4 := kf BK191.out 4; have hfz61_5 := kf BK191.out 5; have hfz61_6 := kf BK191.out 6; have hfz61_7 := kf BK191.out 7; have hfz61_8 := kf BK191.out 8; have hfz61_9 := kf BK191.out 9; have hfz61_10 := kf BK191.out 10; have hfz61_11 := kf BK191.out 11; have hfz61_12 := kf BK191.out 12; have hfz61_13 := kf BK191.out 13) | (go_at_call 33; (with_reducible refine (job_isVal.calls a0_6 a0_7 a0_8 false _ (Tabs.below hT xf) A28.out).mono ?_); rintro e w62 ⟨rfl, hb⟩; replace BK191 := xd BK191.out hb; replace HB := xy (below_step xb hb); (try clear hb); (try clear hb2); (try clear hk); (try clear hi)))
          go_ret
          exact ⟨xe, xb⟩
        ·rw [if_neg c27] at H
         have c27b0 : (a0_4 == 7) = false := beq_eq_false_iff_ne.mpr c27
         have c27b1 : (a0_4 != 7) = true := bne_iff_ne.mpr c27
         by_cases c63 : x3_1 = true
         ·subst c63
          rw [if_pos rfl] at H
          replace H := xj H
          obtain ⟨t197, A640, H⟩ := H
          try dsimp only at H
          have A64 := xy A640
          clear A640
          by_cases c65 : t197 = true
          ·subst c65
           rw [if_pos rfl] at H
           by_cases c66 : a0_9 = true
           ·subst c66
            rw [if_pos rfl] at H
            by_cases c67 : a0_4 > 2
            ·rw [if_pos c67] at H
             have c67b0 : decide (2 < a0_4) = true := decide_eq_true c67
             clear c67
             obtain rfl := Option.some.inj H
             have hcz68_0 : wc.cell? ⟨gb191, 0, none⟩ = some (.bool a0_0) := (kc BK191.out 0).trans rfl
             have hcz68_1 : wc.cell? ⟨gb191, 1, none⟩ = some (.slice A0_1 l0_1.length c0_1) := (kc BK191.out 1).trans rfl
             have hcz68_2 : wc.cell? ⟨gb191, 2, none⟩ = some (.slice A0_2 l0_2.length c0_2) := (kc BK191.out 2).trans rfl
             have hcz68_3 : wc.cell? ⟨gb191, 3, none⟩ = some (.slice A0_3 l0_3.length c0_3) := (kc BK191.out 3).trans rfl
             have hcz68_4 : wc.cell? ⟨gb191, 4, none⟩ = some (.int .i64 a0_4) := (kc BK191.out 4).trans rfl
             have hcz68_5 : wc.cell? ⟨gb191, 5, none⟩ = some (.slice A0_5 l0_5.length c0_5) := (kc BK191.out 5).trans rfl
             have hcz68_6 : wc.cell? ⟨gb191, 6, none⟩ = some (.bool a0_6) := (kc BK191.out 6).trans rfl
             have hcz68_7 : wc.cell? ⟨gb191, 7, none⟩ = some (.int .i64 a0_7) := (kc BK191.out 7).trans rfl
             have hcz68_8 : wc.cell? ⟨gb191, 8, none⟩ = some (.string a0_8) := (kc BK191.out 8).trans rfl
             have hcz68_9 : wc.cell? ⟨gb191, 9, none⟩ = some (.bool true) := (kc BK191.out 9).trans rfl
             have hcz68_10 : wc.cell? ⟨gb191, 10, none⟩ = some (.int .i64 a0_10) := (kc BK191.out 10).trans rfl
             have hcz68_11 : wc.cell? ⟨gb191, 11, none⟩ = some (.bool a0_11) := (kc BK191.out 11).trans rfl
             have hcz68_12 : wc.cell? ⟨gb191, 12, none⟩ = some (.bool a0_12) := (kc BK191.out 12).trans rfl
             have hcz68_13 : wc.cell? ⟨gb191, 13, none⟩ = some (.int .i64 a0_13) := (kc BK191.out 13).trans rfl
             have hfz68_0 := kf BK191.out 0
             have hfz68_1 := kf BK191.out 1
             have hfz68_2 := kf BK191.out 2
             have hfz68_3 := kf BK191.out 3
             have hfz68_4 := kf BK191.out 4
             have hfz68_5 := kf BK191.out 5
             have hfz68_6 := kf BK191.out 6
             have hfz68_7 := kf BK191.out 7
             have hfz68_8 := kf BK191.out 8
             have hfz68_9 := kf BK191.out 9
             have hfz68_10 := kf BK191.out 10
             have hfz68_11 := kf BK191.out 11
             have hfz68_12 := kf BK191.out 12
             have hfz68_13 := kf BK191.out 13
             go_wp2_with (first | ((with_reducible refine gate_callee (f := 32) rfl ?_); refine goesL_ (some 35) rfl rfl Tryz.func32 (by kernel_rfl) rfl #[.agg #[.bool a0_0, .slice A0_1 l0_1.length c0_1, .slice A0_2 l0_2.length c0_2, .slice A0_3 l0_3.length c0_3, .int .i64 a0_4, .slice A0_5 l0_5.length c0_5, .bool a0_6, .int .i64 a0_7, .string a0_8, .bool true, .int .i64 a0_10, .bool a0_11, .bool a0_12, .int .i64 a0_13]] rfl xr ?_; (with_reducible refine (job_Job_goes.calls kj8 a0_0 _ _ l0_1 _ _ l0_2 _ _ l0_3 a0_4 _ _ l0_5 a0_6 a0_7 a0_8 true a0_10 a0_11 a0_12 a0_13 true _ (Tabs.below hT xf) ?side1 ?side2 ?side3 ?side4 ?side5 ?side6 ?side7 ?side8 A17.out).mono ?_); (case side1 => exact Kd.C_below HR0_1.out xb); (case side2 => exact HC0_1.out); (case side3 => exact Kd.C_below HR0_2.out xb); (case side4 => exact HC0_2.out); (case side5 => exact Kd.C_below HR0_3.out xb); (case side6 => exact HC0_3.out); (case side7 => exact Kd.C_below HR0_5.out xb); (case side8 => exact HC0_5.out); rintro e w69 ⟨rfl, hb⟩; refine ⟨_, rfl, ?_⟩; replace BK191 := xd BK191.out hb; replace HB := xy (below_step xb hb); (try clear hb); (try clear hb2); (try clear hk); (try clear hi); have hcz70_0 : w69.cell? ⟨gb191, 0, none⟩ = some (.bool a0_0) := (kc BK191.out 0).trans rfl; have hcz70_1 : w69.cell? ⟨gb191, 1, none⟩ = some (.slice A0_1 l0_1.length c0_1) := (kc BK191.out 1).trans rfl; have hcz70_2 : w69.cell? ⟨gb191, 2, none⟩ = some (.slice A0_2 l0_2.length c0_2) := (kc BK191.out 2).trans rfl; have hcz70_3 : w69.cell? ⟨gb191, 3, none⟩ = some (.slice A0_3 l0_3.length c0_3) := (kc BK191.out 3).trans rfl; have hcz70_4 : w69.cell? ⟨gb191, 4, none⟩ = some (.int .i64 a0_4) := (kc BK191.out 4).trans rfl; have hcz70_5 : w69.cell? ⟨gb191, 5, none⟩ = some (.slice A0_5 l0_5.length c0_5) := (kc BK191.out 5).trans rfl; have hcz70_6 : w69.cell? ⟨gb191, 6, none⟩ = some (.bool a0_6) := (kc BK191.out 6).trans rfl; have hcz70_7 : w69.cell? ⟨gb191, 7, none⟩ = some (.int .i64 a0_7) := (kc BK191.out 7).trans rfl; have hcz70_8 : w69.cell? ⟨gb191, 8, none⟩ = some (.string a0_8) := (kc BK191.out 8).trans rfl; have hcz70_9 : w69.cell? ⟨gb191, 9, none⟩ = some (.bool true) := (kc BK191.out 9).trans rfl; have hcz70_10 : w69.cell? ⟨gb191, 10, none⟩ = some (.int .i64 a0_10) := (kc BK191.out 10).trans rfl; have hcz70_11 : w69.cell? ⟨gb191, 11, none⟩ = some (.bool a0_11) := (kc BK191.out 11).trans rfl; have hcz70_12 : w69.cell? ⟨gb191, 12, none⟩ = some (.bool a0_12) := (kc BK191.out 12).trans rfl; have hcz70_13 : w69.cell? ⟨gb191, 13, none⟩ = some (.int .i64 a0_13) := (kc BK191.out 13).trans rfl; have hfz70_0 := kf BK191.out 0; have hfz70_1 := kf BK191.out 1; have hfz70_2 := kf BK191.out 2; have hfz70_3 := kf BK191.out 3; have hfz70_4 := kf BK191.out 4; have hfz70_5 := kf BK191.out 5; have hfz70_6 := kf BK191.out 6; have hfz70_7 := kf BK191.out 7; have hfz70_8 := kf BK191.out 8; have hfz70_9 := kf BK191.out 9; have hfz70_10 := kf BK191.out 10; have hfz70_11 := kf BK191.out 11; have hfz70_12 := kf BK191.out 12; have hfz70_13 := kf BK191.out 13) | (go_at_call 33; (with_reducible refine (job_isVal.calls a0_6 a0_7 a0_8 true _ (Tabs.below hT xf) A64.out).mono ?_); rintro e w71 ⟨rfl, hb⟩; replace BK191 := xd BK191.out hb; replace HB := xy (below_step xb hb); (try clear hb); (try clear hb2); (try clear hk); (try clear hi); have hcz72_0 : w71.cell? ⟨gb191, 0, none⟩ = some (.bool a0_0) := (kc BK191.out 0).trans rfl; have hcz72_1 : w71.cell? ⟨gb191, 1, none⟩ = some (.slice A0_1 l0_1.length c0_1) := (kc BK191.out 1).trans rfl; have hcz72_2 : w71.cell? ⟨gb191, 2, none⟩ = some (.slice A0_2 l0_2.length c0_2) := (kc BK191.out 2).trans rfl; have hcz72_3 : w71.cell? ⟨gb191, 3, none⟩ = some (.slice A0_3 l0_3.length c0_3) := (kc BK191.out 3).trans rfl; have hcz72_4 : w71.cell? ⟨gb191, 4, none⟩ = some (.int .i64 a0_4) := (kc BK191.out 4).trans rfl; have hcz72_5 : w71.cell? ⟨gb191, 5, none⟩ = some (.slice A0_5 l0_5.length c0_5) := (kc BK191.out 5).trans rfl; have hcz72_6 : w71.cell? ⟨gb191, 6, none⟩ = some (.bool a0_6) := (kc BK191.out 6).trans rfl; have hcz72_7 : w71.cell? ⟨gb191, 7, none⟩ = some (.int .i64 a0_7) := (kc BK191.out 7).trans rfl; have hcz72_8 : w71.cell? ⟨gb191, 8, none⟩ = some (.string a0_8) := (kc BK191.out 8).trans rfl; have hcz72_9 : w71.cell? ⟨gb191, 9, none⟩ = some (.bool true) := (kc BK191.out 9).trans rfl; have hcz72_10 : w71.cell? ⟨gb191, 10, none⟩ = some (.int .i64 a0_10) := (kc BK191.out 10).trans rfl; have hcz72_11 : w71.cell? ⟨gb191, 11, none⟩ = some (.bool a0_11) := (kc BK191.out 11).trans rfl; have hcz72_12 : w71.cell? ⟨gb191, 12, none⟩ = some (.bool a0_12) := (kc BK191.out 12).trans rfl; have hcz72_13 : w71.cell? ⟨gb191, 13, none⟩ = some (.int .i64 a0_13) := (kc BK191.out 13).trans rfl; have hfz72_0 := kf BK191.out 0; have hfz72_1 := kf BK191.out 1; have hfz72_2 := kf BK191.out 2; have hfz72_3 := kf BK191.out 3; have hfz72_4 := kf BK191.out 4; have hfz72_5 := kf BK191.out 5; have hfz72_6 := kf BK191.out 6; have hfz72_7 := kf BK191.out 7; have hfz72_8 := kf BK191.out 8; have hfz72_9 := kf BK191.out 9; have hfz72_10 := kf BK191.out 10; have hfz72_11 := kf BK191.out 11; have hfz72_12 := kf BK191.out 12; have hfz72_13 := kf BK191.out 13))
             go_ret
             exact ⟨xe, xb⟩
            ·rw [if_neg c67] at H
             have c67b0 : decide (2 < a0_4) = false := decide_eq_false c67
             clear c67
             by_cases c73 : x4_8 = true
             ·subst c73
              rw [if_pos rfl] at H
              obtain rfl := Option.some.inj H
              have hcz74_0 : wc.cell? ⟨gb191, 0, none⟩ = some (.bool a0_0) := (kc BK191.out 0).trans rfl
              have hcz74_1 : wc.cell? ⟨gb191, 1, none⟩ = some (.slice A0_1 l0_1.length c0_1) := (kc BK191.out 1).trans rfl
              have hcz74_2 : wc.cell? ⟨gb191, 2, none⟩ = some (.slice A0_2 l0_2.length c0_2) := (kc BK191.out 2).trans rfl
              have hcz74_3 : wc.cell? ⟨gb191, 3, none⟩ = some (.slice A0_3 l0_3.length c0_3) := (kc BK191.out 3).trans rfl
              have hcz74_4 : wc.cell? ⟨gb191, 4, none⟩ = some (.int .i64 a0_4) := (kc BK191.out 4).trans rfl
              have hcz74_5 : wc.cell? ⟨gb191, 5, none⟩ = some (.slice A0_5 l0_5.length c0_5) := (kc BK191.out 5).trans rfl
              have hcz74_6 : wc.cell? ⟨gb191, 6, none⟩ = some (.bool a0_6) := (kc BK191.out 6).trans rfl
              have hcz74_7 : wc.cell? ⟨gb191, 7, none⟩ = some (.int .i64 a0_7) := (kc BK191.out 7).trans rfl
              have hcz74_8 : wc.cell? ⟨gb191, 8, none⟩ = some (.string a0_8) := (kc BK191.out 8).trans rfl
              have hcz74_9 : wc.cell? ⟨gb191, 9, none⟩ = some (.bool true) := (kc BK191.out 9).trans rfl
              have hcz74_10 : wc.cell? ⟨gb191, 10, none⟩ = some (.int .i64 a0_10) := (kc BK191.out 10).trans rfl
              have hcz74_11 : wc.cell? ⟨gb191, 11, none⟩ = some (.bool a0_11) := (kc BK191.out 11).trans rfl
              have hcz74_12 : wc.cell? ⟨gb191, 12, none⟩ = some (.bool a0_12) := (kc BK191.out 12).trans rfl
              have hcz74_13 : wc.cell? ⟨gb191, 13, none⟩ = some (.int .i64 a0_13) := (kc BK191.out 13).trans rfl
              have hfz74_0 := kf BK191.out 0
              have hfz74_1 := kf BK191.out 1
              have hfz74_2 := kf BK191.out 2
              have hfz74_3 := kf BK191.out 3
              have hfz74_4 := kf BK191.out 4
              have hfz74_5 := kf BK191.out 5
              have hfz74_6 := kf BK191.out 6
              have hfz74_7 := kf BK191.out 7
              have hfz74_8 := kf BK191.out 8
              have hfz74_9 := kf BK191.out 9
              have hfz74_10 := kf BK191.out 10
              have hfz74_11 := kf BK191.out 11
              have hfz74_12 := kf BK191.out 12
              have hfz74_13 := kf BK191.out 13
              go_wp2_with (first | ((with_reducible refine gate_callee (f := 32) rfl ?_); refine goesL_ (some 35) rfl rfl Tryz.func32 (by kernel_rfl) rfl #[.agg #[.bool a0_0, .slice A0_1 l0_1.length c0_1, .slice A0_2 l0_2.length c0_2, .slice A0_3 l0_3.length c0_3, .int .i64 a0_4, .slice A0_5 l0_5.length c0_5, .bool a0_6, .int .i64 a0_7, .string a0_8, .bool true, .int .i64 a0_10, .bool a0_11, .bool a0_12, .int .i64 a0_13]] rfl xr ?_; (with_reducible refine (job_Job_goes.calls kj8 a0_0 _ _ l0_1 _ _ l0_2 _ _ l0_3 a0_4 _ _ l0_5 a0_6 a0_7 a0_8 true a0_10 a0_11 a0_12 a0_13 true _ (Tabs.below hT xf) ?side1 ?side2 ?side3 ?side4 ?side5 ?side6 ?side7 ?side8 A17.out).mono ?_); (case side1 => exact Kd.C_below HR0_1.out xb); (case side2 => exact HC0_1.out); (case side3 => exact Kd.C_below HR0_2.out xb); (case side4 => exact HC0_2.out); (case side5 => exact Kd.C_below HR0_3.out xb); (case side6 => exact HC0_3.out); (case side7 => exact Kd.C_below HR0_5.out xb); (case side8 => exact HC0_5.out); rintro e w75 ⟨rfl, hb⟩; refine ⟨_, rfl, ?_⟩; replace BK191 := xd BK191.out hb; replace HB := xy (below_step xb hb); (try clear hb); (try clear hb2); (try clear hk); (try clear hi); have hcz76_0 : w75.cell? ⟨gb191, 0, none⟩ = some (.bool a0_0) := (kc BK191.out 0).trans rfl; have hcz76_1 : w75.cell? ⟨gb191, 1, none⟩ = some (.slice A0_1 l0_1.length c0_1) := (kc BK191.out 1).trans rfl; have hcz76_2 : w75.cell? ⟨gb191, 2, none⟩ = some (.slice A0_2 l0_2.length c0_2) := (kc BK191.out 2).trans rfl; have hcz76_3 : w75.cell? ⟨gb191, 3, none⟩ = some (.slice A0_3 l0_3.length c0_3) := (kc BK191.out 3).trans rfl; have hcz76_4 : w75.cell? ⟨gb191, 4, none⟩ = some (.int .i64 a0_4) := (kc BK191.out 4).trans rfl; have hcz76_5 : w75.cell? ⟨gb191, 5, none⟩ = some (.slice A0_5 l0_5.length c0_5) := (kc BK191.out 5).trans rfl; have hcz76_6 : w75.cell? ⟨gb191, 6, none⟩ = some (.bool a0_6) := (kc BK191.out 6).trans rfl; have hcz76_7 : w75.cell? ⟨gb191, 7, none⟩ = some (.int .i64 a0_7) := (kc BK191.out 7).trans rfl; have hcz76_8 : w75.cell? ⟨gb191, 8, none⟩ = some (.string a0_8) := (kc BK191.out 8).trans rfl; have hcz76_9 : w75.cell? ⟨gb191, 9, none⟩ = some (.bool true) := (kc BK191.out 9).trans rfl; have hcz76_10 : w75.cell? ⟨gb191, 10, none⟩ = some (.int .i64 a0_10) := (kc BK191.out 10).trans rfl; have hcz76_11 : w75.cell? ⟨gb191, 11, none⟩ = some (.bool a0_11) := (kc BK191.out 11).trans rfl; have hcz76_12 : w75.cell? ⟨gb191, 12, none⟩ = some (.bool a0_12) := (kc BK191.out 12).trans rfl; have hcz76_13 : w75.cell? ⟨gb191, 13, none⟩ = some (.int .i64 a0_13) := (kc BK191.out 13).trans rfl; have hfz76_0 := kf BK191.out 0; have hfz76_1 := kf BK191.out 1; have hfz76_2 := kf BK191.out 2; have hfz76_3 := kf BK191.out 3; have hfz76_4 := kf BK191.out 4; have hfz76_5 := kf BK191.out 5; have hfz76_6 := kf BK191.out 6; have hfz76_7 := kf BK191.out 7; have hfz76_8 := kf BK191.out 8; have hfz76_9 := kf BK191.out 9; have hfz76_10 := kf BK191.out 10; have hfz76_11 := kf BK191.out 11; have hfz76_12 := kf BK191.out 12; have hfz76_13 := kf BK191.out 13) | (go_at_call 33; (with_reducible refine (job_isVal.calls a0_6 a0_7 a0_8 true _ (Tabs.below hT xf) A64.out).mono ?_); rintro e w77 ⟨rfl, hb⟩; replace BK191 := xd BK191.out hb; replace HB := xy (below_step xb hb); (try clear hb); (try clear hb2); (try clear hk); (try clear hi); have hcz78_0 : w77.cell? ⟨gb191, 0, none⟩ = some (.bool a0_0) := (kc BK191.out 0).trans rfl; have hcz78_1 : w77.cell? ⟨gb191, 1, none⟩ = some (.slice A0_1 l0_1.length c0_1) := (kc BK191.out 1).trans rfl; have hcz78_2 : w77.cell? ⟨gb191, 2, none⟩ = some (.slice A0_2 l0_2.length c0_2) := (kc BK191.out 2).trans rfl; have hcz78_3 : w77.cell? ⟨gb191, 3, none⟩ = some (.slice A0_3 l0_3.length c0_3) := (kc BK191.out 3).trans rfl; have hcz78_4 : w77.cell? ⟨gb191, 4, none⟩ = some (.int .i64 a0_4) := (kc BK191.out 4).trans rfl; have hcz78_5 : w77.cell? ⟨gb191, 5, none⟩ = some (.slice A0_5 l0_5.length c0_5) := (kc BK191.out 5).trans rfl; have hcz78_6 : w77.cell? ⟨gb191, 6, none⟩ = some (.bool a0_6) := (kc BK191.out 6).trans rfl; have hcz78_7 : w77.cell? ⟨gb191, 7, none⟩ = some (.int .i64 a0_7) := (kc BK191.out 7).trans rfl; have hcz78_8 : w77.cell? ⟨gb191, 8, none⟩ = some (.string a0_8) := (kc BK191.out 8).trans rfl; have hcz78_9 : w77.cell? ⟨gb191, 9, none⟩ = some (.bool true) := (kc BK191.out 9).trans rfl; have hcz78_10 : w77.cell? ⟨gb191, 10, none⟩ = some (.int .i64 a0_10) := (kc BK191.out 10).trans rfl; have hcz78_11 : w77.cell? ⟨gb191, 11, none⟩ = some (.bool a0_11) := (kc BK191.out 11).trans rfl; have hcz78_12 : w77.cell? ⟨gb191, 12, none⟩ = some (.bool a0_12) := (kc BK191.out 12).trans rfl; have hcz78_13 : w77.cell? ⟨gb191, 13, none⟩ = some (.int .i64 a0_13) := (kc BK191.out 13).trans rfl; have hfz78_0 := kf BK191.out 0; have hfz78_1 := kf BK191.out 1; have hfz78_2 := kf BK191.out 2; have hfz78_3 := kf BK191.out 3; have hfz78_4 := kf BK191.out 4; have hfz78_5 := kf BK191.out 5; have hfz78_6 := kf BK191.out 6; have hfz78_7 := kf BK191.out 7; have hfz78_8 := kf BK191.out 8; have hfz78_9 := kf BK191.out 9; have hfz78_10 := kf BK191.out 10; have hfz78_11 := kf BK191.out 11; have hfz78_12 := kf BK191.out 12; have hfz78_13 := kf BK191.out 13))
              go_ret
              exact ⟨xe, xb⟩
             ·replace c73 := Bool.eq_false_iff.mpr c73
              subst c73
              rw [if_neg (show ¬ (false = true) by decide)] at H
              obtain rfl := Option.some.inj H
              have hcz79_0 : wc.cell? ⟨gb191, 0, none⟩ = some (.bool a0_0) := (kc BK191.out 0).trans rfl
              have hcz79_1 : wc.cell? ⟨gb191, 1, none⟩ = some (.slice A0_1 l0_1.length c0_1) := (kc BK191.out 1).trans rfl
              have hcz79_2 : wc.cell? ⟨gb191, 2, none⟩ = some (.slice A0_2 l0_2.length c0_2) := (kc BK191.out 2).trans rfl
              have hcz79_3 : wc.cell? ⟨gb191, 3, none⟩ = some (.slice A0_3 l0_3.length c0_3) := (kc BK191.out 3).trans rfl
              have hcz79_4 : wc.cell? ⟨gb191, 4, none⟩ = some (.int .i64 a0_4) := (kc BK191.out 4).trans rfl
              have hcz79_5 : wc.cell? ⟨gb191, 5, none⟩ = some (.slice A0_5 l0_5.length c0_5) := (kc BK191.out 5).trans rfl
              have hcz79_6 : wc.cell? ⟨gb191, 6, none⟩ = some (.bool a0_6) := (kc BK191.out 6).trans rfl
              have hcz79_7 : wc.cell? ⟨gb191, 7, none⟩ = some (.int .i64 a0_7) := (kc BK191.out 7).trans rfl
              have hcz79_8 : wc.cell? ⟨gb191, 8, none⟩ = some (.string a0_8) := (kc BK191.out 8).trans rfl
              have hcz79_9 : wc.cell? ⟨gb191, 9, none⟩ = some (.bool true) := (kc BK191.out 9).trans rfl
              have hcz79_10 : wc.cell? ⟨gb191, 10, none⟩ = some (.int .i64 a0_10) := (kc BK191.out 10).trans rfl
              have hcz79_11 : wc.cell? ⟨gb191, 11, none⟩ = some (.bool a0_11) := (kc BK191.out 11).trans rfl
              have hcz79_12 : wc.cell? ⟨gb191, 12, none⟩ = some (.bool a0_12) := (kc BK191.out 12).trans rfl
              have hcz79_13 : wc.cell? ⟨gb191, 13, none⟩ = some (.int .i64 a0_13) := (kc BK191.out 13).trans rfl
              have hfz79_0 := kf BK191.out 0
              have hfz79_1 := kf BK191.out 1
              have hfz79_2 := kf BK191.out 2
              have hfz79_3 := kf BK191.out 3
              have hfz79_4 := kf BK191.out 4
              have hfz79_5 := kf BK191.out 5
              have hfz79_6 := kf BK191.out 6
              have hfz79_7 := kf BK191.out 7
              have hfz79_8 := kf BK191.out 8
              have hfz79_9 := kf BK191.out 9
              have hfz79_10 := kf BK191.out 10
              have hfz79_11 := kf BK191.out 11
              have hfz79_12 := kf BK191.out 12
              have hfz79_13 := kf BK191.out 13
              go_wp2_with (first | ((with_reducible refine gate_callee (f := 32) rfl ?_); refine goesL_ (some 35) rfl rfl Tryz.func32 (by kernel_rfl) rfl #[.agg #[.bool a0_0, .slice A0_1 l0_1.length c0_1, .slice A0_2 l0_2.length c0_2, .slice A0_3 l0_3.length c0_3, .int .i64 a0_4, .slice A0_5 l0_5.length c0_5, .bool a0_6, .int .i64 a0_7, .string a0_8, .bool true, .int .i64 a0_10, .bool a0_11, .bool a0_12, .int .i64 a0_13]] rfl xr ?_; (with_reducible refine (job_Job_goes.calls kj8 a0_0 _ _ l0_1 _ _ l0_2 _ _ l0_3 a0_4 _ _ l0_5 a0_6 a0_7 a0_8 true a0_10 a0_11 a0_12 a0_13 true _ (Tabs.below hT xf) ?side1 ?side2 ?side3 ?side4 ?side5 ?side6 ?side7 ?side8 A17.out).mono ?_); (case side1 => exact Kd.C_below HR0_1.out xb); (case side2 => exact HC0_1.out); (case side3 => exact Kd.C_below HR0_2.out xb); (case side4 => exact HC0_2.out); (case side5 => exact Kd.C_below HR0_3.out xb); (case side6 => exact HC0_3.out); (case side7 => exact Kd.C_below HR0_5.out xb); (case side8 => exact HC0_5.out); rintro e w80 ⟨rfl, hb⟩; refine ⟨_, rfl, ?_⟩; replace BK191 := xd BK191.out hb; replace HB := xy (below_step xb hb); (try clear hb); (try clear hb2); (try clear hk); (try clear hi); have hcz81_0 : w80.cell? ⟨gb191, 0, none⟩ = some (.bool a0_0) := (kc BK191.out 0).trans rfl; have hcz81_1 : w80.cell? ⟨gb191, 1, none⟩ = some (.slice A0_1 l0_1.length c0_1) := (kc BK191.out 1).trans rfl; have hcz81_2 : w80.cell? ⟨gb191, 2, none⟩ = some (.slice A0_2 l0_2.length c0_2) := (kc BK191.out 2).trans rfl; have hcz81_3 : w80.cell? ⟨gb191, 3, none⟩ = some (.slice A0_3 l0_3.length c0_3) := (kc BK191.out 3).trans rfl; have hcz81_4 : w80.cell? ⟨gb191, 4, none⟩ = some (.int .i64 a0_4) := (kc BK191.out 4).trans rfl; have hcz81_5 : w80.cell? ⟨gb191, 5, none⟩ = some (.slice A0_5 l0_5.length c0_5) := (kc BK191.out 5).trans rfl; have hcz81_6 : w80.cell? ⟨gb191, 6, none⟩ = some (.bool a0_6) := (kc BK191.out 6).trans rfl; have hcz81_7 : w80.cell? ⟨gb191, 7, none⟩ = some (.int .i64 a0_7) := (kc BK191.out 7).trans rfl; have hcz81_8 : w80.cell? ⟨gb191, 8, none⟩ = some (.string a0_8) := (kc BK191.out 8).trans rfl; have hcz81_9 : w80.cell? ⟨gb191, 9, none⟩ = some (.bool true) := (kc BK191.out 9).trans rfl; have hcz81_10 : w80.cell? ⟨gb191, 10, none⟩ = some (.int .i64 a0_10) := (kc BK191.out 10).trans rfl; have hcz81_11 : w80.cell? ⟨gb191, 11, none⟩ = some (.bool a0_11) := (kc BK191.out 11).trans rfl; have hcz81_12 : w80.cell? ⟨gb191, 12, none⟩ = some (.bool a0_12) := (kc BK191.out 12).trans rfl; have hcz81_13 : w80.cell? ⟨gb191, 13, none⟩ = some (.int .i64 a0_13) := (kc BK191.out 13).trans rfl; have hfz81_0 := kf BK191.out 0; have hfz81_1 := kf BK191.out 1; have hfz81_2 := kf BK191.out 2; have hfz81_3 := kf BK191.out 3; have hfz81_4 := kf BK191.out 4; have hfz81_5 := kf BK191.out 5; have hfz81_6 := kf BK191.out 6; have hfz81_7 := kf BK191.out 7; have hfz81_8 := kf BK191.out 8; have hfz81_9 := kf BK191.out 9; have hfz81_10 := kf BK191.out 10; have hfz81_11 := kf BK191.out 11; have hfz81_12 := kf BK191.out 12; have hfz81_13 := kf BK191.out 13) | (go_at_call 33; (with_reducible refine (job_isVal.calls a0_6 a0_7 a0_8 true _ (Tabs.below hT xf) A64.out).mono ?_); rintro e w82 ⟨rfl, hb⟩; replace BK191 := xd BK191.out hb; replace HB := xy (below_step xb hb); (try clear hb); (try clear hb2); (try clear hk); (try clear hi); have hcz83_0 : w82.cell? ⟨gb191, 0, none⟩ = some (.bool a0_0) := (kc BK191.out 0).trans rfl; have hcz83_1 : w82.cell? ⟨gb191, 1, none⟩ = some (.slice A0_1 l0_1.length c0_1) := (kc BK191.out 1).trans rfl; have hcz83_2 : w82.cell? ⟨gb191, 2, none⟩ = some (.slice A0_2 l0_2.length c0_2) := (kc BK191.out 2).trans rfl; have hcz83_3 : w82.cell? ⟨gb191, 3, none⟩ = some (.slice A0_3 l0_3.length c0_3) := (kc BK191.out 3).trans rfl; have hcz83_4 : w82.cell? ⟨gb191, 4, none⟩ = some (.int .i64 a0_4) := (kc BK191.out 4).trans rfl; have hcz83_5 : w82.cell? ⟨gb191, 5, none⟩ = some (.slice A0_5 l0_5.length c0_5) := (kc BK191.out 5).trans rfl; have hcz83_6 : w82.cell? ⟨gb191, 6, none⟩ = some (.bool a0_6) := (kc BK191.out 6).trans rfl; have hcz83_7 : w82.cell? ⟨gb191, 7, none⟩ = some (.int .i64 a0_7) := (kc BK191.out 7).trans rfl; have hcz83_8 : w82.cell? ⟨gb191, 8, none⟩ = some (.string a0_8) := (kc BK191.out 8).trans rfl; have hcz83_9 : w82.cell? ⟨gb191, 9, none⟩ = some (.bool true) := (kc BK191.out 9).trans rfl; have hcz83_10 : w82.cell? ⟨gb191, 10, none⟩ = some (.int .i64 a0_10) := (kc BK191.out 10).trans rfl; have hcz83_11 : w82.cell? ⟨gb191, 11, none⟩ = some (.bool a0_11) := (kc BK191.out 11).trans rfl; have hcz83_12 : w82.cell? ⟨gb191, 12, none⟩ = some (.bool a0_12) := (kc BK191.out 12).trans rfl; have hcz83_13 : w82.cell? ⟨gb191, 13, none⟩ = some (.int .i64 a0_13) := (kc BK191.out 13).trans rfl; have hfz83_0 := kf BK191.out 0; have hfz83_1 := kf BK191.out 1; have hfz83_2 := kf BK191.out 2; have hfz83_3 := kf BK191.out 3; have hfz83_4 := kf BK191.out 4; have hfz83_5 := kf BK191.out 5; have hfz83_6 := kf BK191.out 6; have hfz83_7 := kf BK191.out 7; have hfz83_8 := kf BK191.out 8; have hfz83_9 := kf BK191.out 9; have hfz83_10 := kf BK191.out 10; have hfz83_11 := kf BK191.out 11; have hfz83_12 := kf BK191.out 12; have hfz83_13 := kf BK191.out 13))
              go_ret
              exact ⟨xe, xb⟩
           ·replace c66 := Bool.eq_false_iff.mpr c66
            subst c66
            rw [if_neg (show ¬ (false = true) by decide)] at H
            by_cases c84 : x4_8 = true
            ·subst c84
             rw [if_pos rfl] at H
             obtain rfl := Option.some.inj H
             have hcz85_0 : wc.cell? ⟨gb191, 0, none⟩ = some (.bool a0_0) := (kc BK191.out 0).trans rfl
             have hcz85_1 : wc.cell? ⟨gb191, 1, none⟩ = some (.slice A0_1 l0_1.length c0_1) := (kc BK191.out 1).trans rfl
             have hcz85_2 : wc.cell? ⟨gb191, 2, none⟩ = some (.slice A0_2 l0_2.length c0_2) := (kc BK191.out 2).trans rfl
             have hcz85_3 : wc.cell? ⟨gb191, 3, none⟩ = some (.slice A0_3 l0_3.length c0_3) := (kc BK191.out 3).trans rfl
             have hcz85_4 : wc.cell? ⟨gb191, 4, none⟩ = some (.int .i64 a0_4) := (kc BK191.out 4).trans rfl
             have hcz85_5 : wc.cell? ⟨gb191, 5, none⟩ = some (.slice A0_5 l0_5.length c0_5) := (kc BK191.out 5).trans rfl
             have hcz85_6 : wc.cell? ⟨gb191, 6, none⟩ = some (.bool a0_6) := (kc BK191.out 6).trans rfl
             have hcz85_7 : wc.cell? ⟨gb191, 7, none⟩ = some (.int .i64 a0_7) := (kc BK191.out 7).trans rfl
             have hcz85_8 : wc.cell? ⟨gb191, 8, none⟩ = some (.string a0_8) := (kc BK191.out 8).trans rfl
             have hcz85_9 : wc.cell? ⟨gb191, 9, none⟩ = some (.bool false) := (kc BK191.out 9).trans rfl
             have hcz85_10 : wc.cell? ⟨gb191, 10, none⟩ = some (.int .i64 a0_10) := (kc BK191.out 10).trans rfl
             have hcz85_11 : wc.cell? ⟨gb191, 11, none⟩ = some (.bool a0_11) := (kc BK191.out 11).trans rfl
             have hcz85_12 : wc.cell? ⟨gb191, 12, none⟩ = some (.bool a0_12) := (kc BK191.out 12).trans rfl
             have hcz85_13 : wc.cell? ⟨gb191, 13, none⟩ = some (.int .i64 a0_13) := (kc BK191.out 13).trans rfl
             have hfz85_0 := kf BK191.out 0
             have hfz85_1 := kf BK191.out 1
             have hfz85_2 := kf BK191.out 2
             have hfz85_3 := kf BK191.out 3
             have hfz85_4 := kf BK191.out 4
             have hfz85_5 := kf BK191.out 5
             have hfz85_6 := kf BK191.out 6
             have hfz85_7 := kf BK191.out 7
             have hfz85_8 := kf BK191.out 8
             have hfz85_9 := kf BK191.out 9
             have hfz85_10 := kf BK191.out 10
             have hfz85_11 := kf BK191.out 11
             have hfz85_12 := kf BK191.out 12
             have hfz85_13 := kf BK191.out 13
             go_wp2_with (first | ((with_reducible refine gate_callee (f := 32) rfl ?_); refine goesL_ (some 35) rfl rfl Tryz.func32 (by kernel_rfl) rfl #[.agg #[.bool a0_0, .slice A0_1 l0_1.length c0_1, .slice A0_2 l0_2.length c0_2, .slice A0_3 l0_3.length c0_3, .int .i64 a0_4, .slice A0_5 l0_5.length c0_5, .bool a0_6, .int .i64 a0_7, .string a0_8, .bool false, .int .i64 a0_10, .bool a0_11, .bool a0_12, .int .i64 a0_13]] rfl xr ?_; (with_reducible refine (job_Job_goes.calls kj8 a0_0 _ _ l0_1 _ _ l0_2 _ _ l0_3 a0_4 _ _ l0_5 a0_6 a0_7 a0_8 false a0_10 a0_11 a0_12 a0_13 true _ (Tabs.below hT xf) ?side1 ?side2 ?side3 ?side4 ?side5 ?side6 ?side7 ?side8 A17.out).mono ?_); (case side1 => exact Kd.C_below HR0_1.out xb); (case side2 => exact HC0_1.out); (case side3 => exact Kd.C_below HR0_2.out xb); (case side4 => exact HC0_2.out); (case side5 => exact Kd.C_below HR0_3.out xb); (case side6 => exact HC0_3.out); (case side7 => exact Kd.C_below HR0_5.out xb); (case side8 => exact HC0_5.out); rintro e w86 ⟨rfl, hb⟩; refine ⟨_, rfl, ?_⟩; replace BK191 := xd BK191.out hb; replace HB := xy (below_step xb hb); (try clear hb); (try clear hb2); (try clear hk); (try clear hi); have hcz87_0 : w86.cell? ⟨gb191, 0, none⟩ = some (.bool a0_0) := (kc BK191.out 0).trans rfl; have hcz87_1 : w86.cell? ⟨gb191, 1, none⟩ = some (.slice A0_1 l0_1.length c0_1) := (kc BK191.out 1).trans rfl; have hcz87_2 : w86.cell? ⟨gb191, 2, none⟩ = some (.slice A0_2 l0_2.length c0_2) := (kc BK191.out 2).trans rfl; have hcz87_3 : w86.cell? ⟨gb191, 3, none⟩ = some (.slice A0_3 l0_3.length c0_3) := (kc BK191.out 3).trans rfl; have hcz87_4 : w86.cell? ⟨gb191, 4, none⟩ = some (.int .i64 a0_4) := (kc BK191.out 4).trans rfl; have hcz87_5 : w86.cell? ⟨gb191, 5, none⟩ = some (.slice A0_5 l0_5.length c0_5) := (kc BK191.out 5).trans rfl; have hcz87_6 : w86.cell? ⟨gb191, 6, none⟩ = some (.bool a0_6) := (kc BK191.out 6).trans rfl; have hcz87_7 : w86.cell? ⟨gb191, 7, none⟩ = some (.int .i64 a0_7) := (kc BK191.out 7).trans rfl; have hcz87_8 : w86.cell? ⟨gb191, 8, none⟩ = some (.string a0_8) := (kc BK191.out 8).trans rfl; have hcz87_9 : w86.cell? ⟨gb191, 9, none⟩ = some (.bool false) := (kc BK191.out 9).trans rfl; have hcz87_10 : w86.cell? ⟨gb191, 10, none⟩ = some (.int .i64 a0_10) := (kc BK191.out 10).trans rfl; have hcz87_11 : w86.cell? ⟨gb191, 11, none⟩ = some (.bool a0_11) := (kc BK191.out 11).trans rfl; have hcz87_12 : w86.cell? ⟨gb191, 12, none⟩ = some (.bool a0_12) := (kc BK191.out 12).trans rfl; have hcz87_13 : w86.cell? ⟨gb191, 13, none⟩ = some (.int .i64 a0_13) := (kc BK191.out 13).trans rfl; have hfz87_0 := kf BK191.out 0; have hfz87_1 := kf BK191.out 1; have hfz87_2 := kf BK191.out 2; have hfz87_3 := kf BK191.out 3; have hfz87_4 := kf BK191.out 4; have hfz87_5 := kf BK191.out 5; have hfz87_6 := kf BK191.out 6; have hfz87_7 := kf BK191.out 7; have hfz87_8 := kf BK191.out 8; have hfz87_9 := kf BK191.out 9; have hfz87_10 := kf BK191.out 10; have hfz87_11 := kf BK191.out 11; have hfz87_12 := kf BK191.out 12; have hfz87_13 := kf BK191.out 13) | (go_at_call 33; (with_reducible refine (job_isVal.calls a0_6 a0_7 a0_8 true _ (Tabs.below hT xf) A64.out).mono ?_); rintro e w88 ⟨rfl, hb⟩; replace BK191 := xd BK191.out hb; replace HB := xy (below_step xb hb); (try clear hb); (try clear hb2); (try clear hk); (try clear hi); have hcz89_0 : w88.cell? ⟨gb191, 0, none⟩ = some (.bool a0_0) := (kc BK191.out 0).trans rfl; have hcz89_1 : w88.cell? ⟨gb191, 1, none⟩ = some (.slice A0_1 l0_1.length c0_1) := (kc BK191.out 1).trans rfl; have hcz89_2 : w88.cell? ⟨gb191, 2, none⟩ = some (.slice A0_2 l0_2.length c0_2) := (kc BK191.out 2).trans rfl; have hcz89_3 : w88.cell? ⟨gb191, 3, none⟩ = some (.slice A0_3 l0_3.length c0_3) := (kc BK191.out 3).trans rfl; have hcz89_4 : w88.cell? ⟨gb191, 4, none⟩ = some (.int .i64 a0_4) := (kc BK191.out 4).trans rfl; have hcz89_5 : w88.cell? ⟨gb191, 5, none⟩ = some (.slice A0_5 l0_5.length c0_5) := (kc BK191.out 5).trans rfl; have hcz89_6 : w88.cell? ⟨gb191, 6, none⟩ = some (.bool a0_6) := (kc BK191.out 6).trans rfl; have hcz89_7 : w88.cell? ⟨gb191, 7, none⟩ = some (.int .i64 a0_7) := (kc BK191.out 7).trans rfl; have hcz89_8 : w88.cell? ⟨gb191, 8, none⟩ = some (.string a0_8) := (kc BK191.out 8).trans rfl; have hcz89_9 : w88.cell? ⟨gb191, 9, none⟩ = some (.bool false) := (kc BK191.out 9).trans rfl; have hcz89_10 : w88.cell? ⟨gb191, 10, none⟩ = some (.int .i64 a0_10) := (kc BK191.out 10).trans rfl; have hcz89_11 : w88.cell? ⟨gb191, 11, none⟩ = some (.bool a0_11) := (kc BK191.out 11).trans rfl; have hcz89_12 : w88.cell? ⟨gb191, 12, none⟩ = some (.bool a0_12) := (kc BK191.out 12).trans rfl; have hcz89_13 : w88.cell? ⟨gb191, 13, none⟩ = some (.int .i64 a0_13) := (kc BK191.out 13).trans rfl; have hfz89_0 := kf BK191.out 0; have hfz89_1 := kf BK191.out 1; have hfz89_2 := kf BK191.out 2; have hfz89_3 := kf BK191.out 3; have hfz89_4 := kf BK191.out 4; have hfz89_5 := kf BK191.out 5; have hfz89_6 := kf BK191.out 6; have hfz89_7 := kf BK191.out 7; have hfz89_8 := kf BK191.out 8; have hfz89_9 := kf BK191.out 9; have hfz89_10 := kf BK191.out 10; have hfz89_11 := kf BK191.out 11; have hfz89_12 := kf BK191.out 12; have hfz89_13 := kf BK191.out 13))
             go_ret
             exact ⟨xe, xb⟩
            ·replace c84 := Bool.eq_false_iff.mpr c84
             subst c84
             rw [if_neg (show ¬ (false = true) by decide)] at H
             obtain rfl := Option.some.inj H
             have hcz90_0 : wc.cell? ⟨gb191, 0, none⟩ = some (.bool a0_0) := (kc BK191.out 0).trans rfl
             have hcz90_1 : wc.cell? ⟨gb191, 1, none⟩ = some (.slice A0_1 l0_1.length c0_1) := (kc BK191.out 1).trans rfl
             have hcz90_2 : wc.cell? ⟨gb191, 2, none⟩ = some (.slice A0_2 l0_2.length c0_2) := (kc BK191.out 2).trans rfl
             have hcz90_3 : wc.cell? ⟨gb191, 3, none⟩ = some (.slice A0_3 l0_3.length c0_3) := (kc BK191.out 3).trans rfl
             have hcz90_4 : wc.cell? ⟨gb191, 4, none⟩ = some (.int .i64 a0_4) := (kc BK191.out 4).trans rfl
             have hcz90_5 : wc.cell? ⟨gb191, 5, none⟩ = some (.slice A0_5 l0_5.length c0_5) := (kc BK191.out 5).trans rfl
             have hcz90_6 : wc.cell? ⟨gb191, 6, none⟩ = some (.bool a0_6) := (kc BK191.out 6).trans rfl
             have hcz90_7 : wc.cell? ⟨gb191, 7, none⟩ = some (.int .i64 a0_7) := (kc BK191.out 7).trans rfl
             have hcz90_8 : wc.cell? ⟨gb191, 8, none⟩ = some (.string a0_8) := (kc BK191.out 8).trans rfl
             have hcz90_9 : wc.cell? ⟨gb191, 9, none⟩ = some (.bool false) := (kc BK191.out 9).trans rfl
             have hcz90_10 : wc.cell? ⟨gb191, 10, none⟩ = some (.int .i64 a0_10) := (kc BK191.out 10).trans rfl
             have hcz90_11 : wc.cell? ⟨gb191, 11, none⟩ = some (.bool a0_11) := (kc BK191.out 11).trans rfl
             have hcz90_12 : wc.cell? ⟨gb191, 12, none⟩ = some (.bool a0_12) := (kc BK191.out 12).trans rfl
             have hcz90_13 : wc.cell? ⟨gb191, 13, none⟩ = some (.int .i64 a0_13) := (kc BK191.out 13).trans rfl
             have hfz90_0 := kf BK191.out 0
             have hfz90_1 := kf BK191.out 1
             have hfz90_2 := kf BK191.out 2
             have hfz90_3 := kf BK191.out 3
             have hfz90_4 := kf BK191.out 4
             have hfz90_5 := kf BK191.out 5
             have hfz90_6 := kf BK191.out 6
             have hfz90_7 := kf BK191.out 7
             have hfz90_8 := kf BK191.out 8
             have hfz90_9 := kf BK191.out 9
             have hfz90_10 := kf BK191.out 10
             have hfz90_11 := kf BK191.out 11
             have hfz90_12 := kf BK191.out 12
             have hfz90_13 := kf BK191.out 13
             go_wp2_with (first | ((with_reducible refine gate_callee (f := 32) rfl ?_); refine goesL_ (some 35) rfl rfl Tryz.func32 (by kernel_rfl) rfl #[.agg #[.bool a0_0, .slice A0_1 l0_1.length c0_1, .slice A0_2 l0_2.length c0_2, .slice A0_3 l0_3.length c0_3, .int .i64 a0_4, .slice A0_5 l0_5.length c0_5, .bool a0_6, .int .i64 a0_7, .string a0_8, .bool false, .int .i64 a0_10, .bool a0_11, .bool a0_12, .int .i64 a0_13]] rfl xr ?_; (with_reducible refine (job_Job_goes.calls kj8 a0_0 _ _ l0_1 _ _ l0_2 _ _ l0_3 a0_4 _ _ l0_5 a0_6 a0_7 a0_8 false a0_10 a0_11 a0_12 a0_13 true _ (Tabs.below hT xf) ?side1 ?side2 ?side3 ?side4 ?side5 ?side6 ?side7 ?side8 A17.out).mono ?_); (case side1 => exact Kd.C_below HR0_1.out xb); (case side2 => exact HC0_1.out); (case side3 => exact Kd.C_below HR0_2.out xb); (case side4 => exact HC0_2.out); (case side5 => exact Kd.C_below HR0_3.out xb); (case side6 => exact HC0_3.out); (case side7 => exact Kd.C_below HR0_5.out xb); (case side8 => exact HC0_5.out); rintro e w91 ⟨rfl, hb⟩; refine ⟨_, rfl, ?_⟩; replace BK191 := xd BK191.out hb; replace HB := xy (below_step xb hb); (try clear hb); (try clear hb2); (try clear hk); (try clear hi); have hcz92_0 : w91.cell? ⟨gb191, 0, none⟩ = some (.bool a0_0) := (kc BK191.out 0).trans rfl; have hcz92_1 : w91.cell? ⟨gb191, 1, none⟩ = some (.slice A0_1 l0_1.length c0_1) := (kc BK191.out 1).trans rfl; have hcz92_2 : w91.cell? ⟨gb191, 2, none⟩ = some (.slice A0_2 l0_2.length c0_2) := (kc BK191.out 2).trans rfl; have hcz92_3 : w91.cell? ⟨gb191, 3, none⟩ = some (.slice A0_3 l0_3.length c0_3) := (kc BK191.out 3).trans rfl; have hcz92_4 : w91.cell? ⟨gb191, 4, none⟩ = some (.int .i64 a0_4) := (kc BK191.out 4).trans rfl; have hcz92_5 : w91.cell? ⟨gb191, 5, none⟩ = some (.slice A0_5 l0_5.length c0_5) := (kc BK191.out 5).trans rfl; have hcz92_6 : w91.cell? ⟨gb191, 6, none⟩ = some (.bool a0_6) := (kc BK191.out 6).trans rfl; have hcz92_7 : w91.cell? ⟨gb191, 7, none⟩ = some (.int .i64 a0_7) := (kc BK191.out 7).trans rfl; have hcz92_8 : w91.cell? ⟨gb191, 8, none⟩ = some (.string a0_8) := (kc BK191.out 8).trans rfl; have hcz92_9 : w91.cell? ⟨gb191, 9, none⟩ = some (.bool false) := (kc BK191.out 9).trans rfl; have hcz92_10 : w91.cell? ⟨gb191, 10, none⟩ = some (.int .i64 a0_10) := (kc BK191.out 10).trans rfl; have hcz92_11 : w91.cell? ⟨gb191, 11, none⟩ = some (.bool a0_11) := (kc BK191.out 11).trans rfl; have hcz92_12 : w91.cell? ⟨gb191, 12, none⟩ = some (.bool a0_12) := (kc BK191.out 12).trans rfl; have hcz92_13 : w91.cell? ⟨gb191, 13, none⟩ = some (.int .i64 a0_13) := (kc BK191.out 13).trans rfl; have hfz92_0 := kf BK191.out 0; have hfz92_1 := kf BK191.out 1; have hfz92_2 := kf BK191.out 2; have hfz92_3 := kf BK191.out 3; have hfz92_4 := kf BK191.out 4; have hfz92_5 := kf BK191.out 5; have hfz92_6 := kf BK191.out 6; have hfz92_7 := kf BK191.out 7; have hfz92_8 := kf BK191.out 8; have hfz92_9 := kf BK191.out 9; have hfz92_10 := kf BK191.out 10; have hfz92_11 := kf BK191.out 11; have hfz92_12 := kf BK191.out 12; have hfz92_13 := kf BK191.out 13) | (go_at_call 33; (with_reducible refine (job_isVal.calls a0_6 a0_7 a0_8 true _ (Tabs.below hT xf) A64.out).mono ?_); rintro e w93 ⟨rfl, hb⟩; replace BK191 := xd BK191.out hb; replace HB := xy (below_step xb hb); (try clear hb); (try clear hb2); (try clear hk); (try clear hi); have hcz94_0 : w93.cell? ⟨gb191, 0, none⟩ = some (.bool a0_0) := (kc BK191.out 0).trans rfl; have hcz94_1 : w93.cell? ⟨gb191, 1, none⟩ = some (.slice A0_1 l0_1.length c0_1) := (kc BK191.out 1).trans rfl; have hcz94_2 : w93.cell? ⟨gb191, 2, none⟩ = some (.slice A0_2 l0_2.length c0_2) := (kc BK191.out 2).trans rfl; have hcz94_3 : w93.cell? ⟨gb191, 3, none⟩ = some (.slice A0_3 l0_3.length c0_3) := (kc BK191.out 3).trans rfl; have hcz94_4 : w93.cell? ⟨gb191, 4, none⟩ = some (.int .i64 a0_4) := (kc BK191.out 4).trans rfl; have hcz94_5 : w93.cell? ⟨gb191, 5, none⟩ = some (.slice A0_5 l0_5.length c0_5) := (kc BK191.out 5).trans rfl; have hcz94_6 : w93.cell? ⟨gb191, 6, none⟩ = some (.bool a0_6) := (kc BK191.out 6).trans rfl; have hcz94_7 : w93.cell? ⟨gb191, 7, none⟩ = some (.int .i64 a0_7) := (kc BK191.out 7).trans rfl; have hcz94_8 : w93.cell? ⟨gb191, 8, none⟩ = some (.string a0_8) := (kc BK191.out 8).trans rfl; have hcz94_9 : w93.cell? ⟨gb191, 9, none⟩ = some (.bool false) := (kc BK191.out 9).trans rfl; have hcz94_10 : w93.cell? ⟨gb191, 10, none⟩ = some (.int .i64 a0_10) := (kc BK191.out 10).trans rfl; have hcz94_11 : w93.cell? ⟨gb191, 11, none⟩ = some (.bool a0_11) := (kc BK191.out 11).trans rfl; have hcz94_12 : w93.cell? ⟨gb191, 12, none⟩ = some (.bool a0_12) := (kc BK191.out 12).trans rfl; have hcz94_13 : w93.cell? ⟨gb191, 13, none⟩ = some (.int .i64 a0_13) := (kc BK191.out 13).trans rfl; have hfz94_0 := kf BK191.out 0; have hfz94_1 := kf BK191.out 1; have hfz94_2 := kf BK191.out 2; have hfz94_3 := kf BK191.out 3; have hfz94_4 := kf BK191.out 4; have hfz94_5 := kf BK191.out 5; have hfz94_6 := kf BK191.out 6; have hfz94_7 := kf BK191.out 7; have hfz94_8 := kf BK191.out 8; have hfz94_9 := kf BK191.out 9; have hfz94_10 := kf BK191.out 10; have hfz94_11 := kf BK191.out 11; have hfz94_12 := kf BK191.out 12; have hfz94_13 := kf BK191.out 13))
             go_ret
             exact ⟨xe, xb⟩
          ·replace c65 := Bool.eq_false_iff.mpr c65
           subst c65
           rw [if_neg (show ¬ (false = true) by decide)] at H
           obtain rfl := Option.some.inj H
           have hcz95_0 : wc.cell? ⟨gb191, 0, none⟩ = some (.bool a0_0) := (kc BK191.out 0).trans rfl
           have hcz95_1 : wc.cell? ⟨gb191, 1, none⟩ = some (.slice A0_1 l0_1.length c0_1) := (kc BK191.out 1).trans rfl
           have hcz95_2 : wc.cell? ⟨gb191, 2, none⟩ = some (.slice A0_2 l0_2.length c0_2) := (kc BK191.out 2).trans rfl
           have hcz95_3 : wc.cell? ⟨gb191, 3, none⟩ = some (.slice A0_3 l0_3.length c0_3) := (kc BK191.out 3).trans rfl
           have hcz95_4 : wc.cell? ⟨gb191, 4, none⟩ = some (.int .i64 a0_4) := (kc BK191.out 4).trans rfl
           have hcz95_5 : wc.cell? ⟨gb191, 5, none⟩ = some (.slice A0_5 l0_5.length c0_5) := (kc BK191.out 5).trans rfl
           have hcz95_6 : wc.cell? ⟨gb191, 6, none⟩ = some (.bool a0_6) := (kc BK191.out 6).trans rfl
           have hcz95_7 : wc.cell? ⟨gb191, 7, none⟩ = some (.int .i64 a0_7) := (kc BK191.out 7).trans rfl
           have hcz95_8 : wc.cell? ⟨gb191, 8, none⟩ = some (.string a0_8) := (kc BK191.out 8).trans rfl
           have hcz95_9 : wc.cell? ⟨gb191, 9, none⟩ = some (.bool a0_9) := (kc BK191.out 9).trans rfl
           have hcz95_10 : wc.cell? ⟨gb191, 10, none⟩ = some (.int .i64 a0_10) := (kc BK191.out 10).trans rfl
           have hcz95_11 : wc.cell? ⟨gb191, 11, none⟩ = some (.bool a0_11) := (kc BK191.out 11).trans rfl
           have hcz95_12 : wc.cell? ⟨gb191, 12, none⟩ = some (.bool a0_12) := (kc BK191.out 12).trans rfl
           have hcz95_13 : wc.cell? ⟨gb191, 13, none⟩ = some (.int .i64 a0_13) := (kc BK191.out 13).trans rfl
           have hfz95_0 := kf BK191.out 0
           have hfz95_1 := kf BK191.out 1
           have hfz95_2 := kf BK191.out 2
           have hfz95_3 := kf BK191.out 3
           have hfz95_4 := kf BK191.out 4
           have hfz95_5 := kf BK191.out 5
           have hfz95_6 := kf BK191.out 6
           have hfz95_7 := kf BK191.out 7
           have hfz95_8 := kf BK191.out 8
           have hfz95_9 := kf BK191.out 9
           have hfz95_10 := kf BK191.out 10
           have hfz95_11 := kf BK191.out 11
           have hfz95_12 := kf BK191.out 12
           have hfz95_13 := kf BK191.out 13
           go_wp2_with (first | ((with_reducible refine gate_callee (f := 32) rfl ?_); refine goesL_ (some 35) rfl rfl Tryz.func32 (by kernel_rfl) rfl #[.agg #[.bool a0_0, .slice A0_1 l0_1.length c0_1, .slice A0_2 l0_2.length c0_2, .slice A0_3 l0_3.length c0_3, .int .i64 a0_4, .slice A0_5 l0_5.length c0_5, .bool a0_6, .int .i64 a0_7, .string a0_8, .bool a0_9, .int .i64 a0_10, .bool a0_11, .bool a0_12, .int .i64 a0_13]] rfl xr ?_; (with_reducible refine (job_Job_goes.calls kj8 a0_0 _ _ l0_1 _ _ l0_2 _ _ l0_3 a0_4 _ _ l0_5 a0_6 a0_7 a0_8 a0_9 a0_10 a0_11 a0_12 a0_13 true _ (Tabs.below hT xf) ?side1 ?side2 ?side3 ?side4 ?side5 ?side6 ?side7 ?side8 A17.out).mono ?_); (case side1 => exact Kd.C_below HR0_1.out xb); (case side2 => exact HC0_1.out); (case side3 => exact Kd.C_below HR0_2.out xb); (case side4 => exact HC0_2.out); (case side5 => exact Kd.C_below HR0_3.out xb); (case side6 => exact HC0_3.out); (case side7 => exact Kd.C_below HR0_5.out xb); (case side8 => exact HC0_5.out); rintro e w96 ⟨rfl, hb⟩; refine ⟨_, rfl, ?_⟩; replace BK191 := xd BK191.out hb; replace HB := xy (below_step xb hb); (try clear hb); (try clear hb2); (try clear hk); (try clear hi); have hcz97_0 : w96.cell? ⟨gb191, 0, none⟩ = some (.bool a0_0) := (kc BK191.out 0).trans rfl; have hcz97_1 : w96.cell? ⟨gb191, 1, none⟩ = some (.slice A0_1 l0_1.length c0_1) := (kc BK191.out 1).trans rfl; have hcz97_2 : w96.cell? ⟨gb191, 2, none⟩ = some (.slice A0_2 l0_2.length c0_2) := (kc BK191.out 2).trans rfl; have hcz97_3 : w96.cell? ⟨gb191, 3, none⟩ = some (.slice A0_3 l0_3.length c0_3) := (kc BK191.out 3).trans rfl; have hcz97_4 : w96.cell? ⟨gb191, 4, none⟩ = some (.int .i64 a0_4) := (kc BK191.out 4).trans rfl; have hcz97_5 : w96.cell? ⟨gb191, 5, none⟩ = some (.slice A0_5 l0_5.length c0_5) := (kc BK191.out 5).trans rfl; have hcz97_6 : w96.cell? ⟨gb191, 6, none⟩ = some (.bool a0_6) := (kc BK191.out 6).trans rfl; have hcz97_7 : w96.cell? ⟨gb191, 7, none⟩ = some (.int .i64 a0_7) := (kc BK191.out 7).trans rfl; have hcz97_8 : w96.cell? ⟨gb191, 8, none⟩ = some (.string a0_8) := (kc BK191.out 8).trans rfl; have hcz97_9 : w96.cell? ⟨gb191, 9, none⟩ = some (.bool a0_9) := (kc BK191.out 9).trans rfl; have hcz97_10 : w96.cell? ⟨gb191, 10, none⟩ = some (.int .i64 a0_10) := (kc BK191.out 10).trans rfl; have hcz97_11 : w96.cell? ⟨gb191, 11, none⟩ = some (.bool a0_11) := (kc BK191.out 11).trans rfl; have hcz97_12 : w96.cell? ⟨gb191, 12, none⟩ = some (.bool a0_12) := (kc BK191.out 12).trans rfl; have hcz97_13 : w96.cell? ⟨gb191, 13, none⟩ = some (.int .i64 a0_13) := (kc BK191.out 13).trans rfl; have hfz97_0 := kf BK191.out 0; have hfz97_1 := kf BK191.out 1; have hfz97_2 := kf BK191.out 2; have hfz97_3 := kf BK191.out 3; have hfz97_4 := kf BK191.out 4; have hfz97_5 := kf BK191.out 5; have hfz97_6 := kf BK191.out 6; have hfz97_7 := kf BK191.out 7; have hfz97_8 := kf BK191.out 8; have hfz97_9 := kf BK191.out 9; have hfz97_10 := kf BK191.out 10; have hfz97_11 := kf BK191.out 11; have hfz97_12 := kf BK191.out 12; have hfz97_13 := kf BK191.out 13) | (go_at_call 33; (with_reducible refine (job_isVal.calls a0_6 a0_7 a0_8 false _ (Tabs.below hT xf) A64.out).mono ?_); rintro e w98 ⟨rfl, hb⟩; replace BK191 := xd BK191.out hb; replace HB := xy (below_step xb hb); (try clear hb); (try clear hb2); (try clear hk); (try clear hi)))
           go_ret
           exact ⟨xe, xb⟩
         ·replace c63 := Bool.eq_false_iff.mpr c63
          subst c63
          rw [if_neg (show ¬ (false = true) by decide)] at H
          obtain rfl := Option.some.inj H
          have hcz99_0 : wc.cell? ⟨gb191, 0, none⟩ = some (.bool a0_0) := (kc BK191.out 0).trans rfl
          have hcz99_1 : wc.cell? ⟨gb191, 1, none⟩ = some (.slice A0_1 l0_1.length c0_1) := (kc BK191.out 1).trans rfl
          have hcz99_2 : wc.cell? ⟨gb191, 2, none⟩ = some (.slice A0_2 l0_2.length c0_2) := (kc BK191.out 2).trans rfl
          have hcz99_3 : wc.cell? ⟨gb191, 3, none⟩ = some (.slice A0_3 l0_3.length c0_3) := (kc BK191.out 3).trans rfl
          have hcz99_4 : wc.cell? ⟨gb191, 4, none⟩ = some (.int .i64 a0_4) := (kc BK191.out 4).trans rfl
          have hcz99_5 : wc.cell? ⟨gb191, 5, none⟩ = some (.slice A0_5 l0_5.length c0_5) := (kc BK191.out 5).trans rfl
          have hcz99_6 : wc.cell? ⟨gb191, 6, none⟩ = some (.bool a0_6) := (kc BK191.out 6).trans rfl
          have hcz99_7 : wc.cell? ⟨gb191, 7, none⟩ = some (.int .i64 a0_7) := (kc BK191.out 7).trans rfl
          have hcz99_8 : wc.cell? ⟨gb191, 8, none⟩ = some (.string a0_8) := (kc BK191.out 8).trans rfl
          have hcz99_9 : wc.cell? ⟨gb191, 9, none⟩ = some (.bool a0_9) := (kc BK191.out 9).trans rfl
          have hcz99_10 : wc.cell? ⟨gb191, 10, none⟩ = some (.int .i64 a0_10) := (kc BK191.out 10).trans rfl
          have hcz99_11 : wc.cell? ⟨gb191, 11, none⟩ = some (.bool a0_11) := (kc BK191.out 11).trans rfl
          have hcz99_12 : wc.cell? ⟨gb191, 12, none⟩ = some (.bool a0_12) := (kc BK191.out 12).trans rfl
          have hcz99_13 : wc.cell? ⟨gb191, 13, none⟩ = some (.int .i64 a0_13) := (kc BK191.out 13).trans rfl
          have hfz99_0 := kf BK191.out 0
          have hfz99_1 := kf BK191.out 1
          have hfz99_2 := kf BK191.out 2
          have hfz99_3 := kf BK191.out 3
          have hfz99_4 := kf BK191.out 4
          have hfz99_5 := kf BK191.out 5
          have hfz99_6 := kf BK191.out 6
          have hfz99_7 := kf BK191.out 7
          have hfz99_8 := kf BK191.out 8
          have hfz99_9 := kf BK191.out 9
          have hfz99_10 := kf BK191.out 10
          have hfz99_11 := kf BK191.out 11
          have hfz99_12 := kf BK191.out 12
          have hfz99_13 := kf BK191.out 13
          go_wp2_with (first | ((with_reducible refine gate_callee (f := 32) rfl ?_); refine goesL_ (some 35) rfl rfl Tryz.func32 (by kernel_rfl) rfl #[.agg #[.bool a0_0, .slice A0_1 l0_1.length c0_1, .slice A0_2 l0_2.length c0_2, .slice A0_3 l0_3.length c0_3, .int .i64 a0_4, .slice A0_5 l0_5.length c0_5, .bool a0_6, .int .i64 a0_7, .string a0_8, .bool a0_9, .int .i64 a0_10, .bool a0_11, .bool a0_12, .int .i64 a0_13]] rfl xr ?_; (with_reducible refine (job_Job_goes.calls kj8 a0_0 _ _ l0_1 _ _ l0_2 _ _ l0_3 a0_4 _ _ l0_5 a0_6 a0_7 a0_8 a0_9 a0_10 a0_11 a0_12 a0_13 true _ (Tabs.below hT xf) ?side1 ?side2 ?side3 ?side4 ?side5 ?side6 ?side7 ?side8 A17.out).mono ?_); (case side1 => exact Kd.C_below HR0_1.out xb); (case side2 => exact HC0_1.out); (case side3 => exact Kd.C_below HR0_2.out xb); (case side4 => exact HC0_2.out); (case side5 => exact Kd.C_below HR0_3.out xb); (case side6 => exact HC0_3.out); (case side7 => exact Kd.C_below HR0_5.out xb); (case side8 => exact HC0_5.out); rintro e w100 ⟨rfl, hb⟩; refine ⟨_, rfl, ?_⟩; replace BK191 := xd BK191.out hb; replace HB := xy (below_step xb hb); (try clear hb); (try clear hb2); (try clear hk); (try clear hi); have hcz101_0 : w100.cell? ⟨gb191, 0, none⟩ = some (.bool a0_0) := (kc BK191.out 0).trans rfl; have hcz101_1 : w100.cell? ⟨gb191, 1, none⟩ = some (.slice A0_1 l0_1.length c0_1) := (kc BK191.out 1).trans rfl; have hcz101_2 : w100.cell? ⟨gb191, 2, none⟩ = some (.slice A0_2 l0_2.length c0_2) := (kc BK191.out 2).trans rfl; have hcz101_3 : w100.cell? ⟨gb191, 3, none⟩ = some (.slice A0_3 l0_3.length c0_3) := (kc BK191.out 3).trans rfl; have hcz101_4 : w100.cell? ⟨gb191, 4, none⟩ = some (.int .i64 a0_4) := (kc BK191.out 4).trans rfl; have hcz101_5 : w100.cell? ⟨gb191, 5, none⟩ = some (.slice A0_5 l0_5.length c0_5) := (kc BK191.out 5).trans rfl; have hcz101_6 : w100.cell? ⟨gb191, 6, none⟩ = some (.bool a0_6) := (kc BK191.out 6).trans rfl; have hcz101_7 : w100.cell? ⟨gb191, 7, none⟩ = some (.int .i64 a0_7) := (kc BK191.out 7).trans rfl; have hcz101_8 : w100.cell? ⟨gb191, 8, none⟩ = some (.string a0_8) := (kc BK191.out 8).trans rfl; have hcz101_9 : w100.cell? ⟨gb191, 9, none⟩ = some (.bool a0_9) := (kc BK191.out 9).trans rfl; have hcz101_10 : w100.cell? ⟨gb191, 10, none⟩ = some (.int .i64 a0_10) := (kc BK191.out 10).trans rfl; have hcz101_11 : w100.cell? ⟨gb191, 11, none⟩ = some (.bool a0_11) := (kc BK191.out 11).trans rfl; have hcz101_12 : w100.cell? ⟨gb191, 12, none⟩ = some (.bool a0_12) := (kc BK191.out 12).trans rfl; have hcz101_13 : w100.cell? ⟨gb191, 13, none⟩ = some (.int .i64 a0_13) := (kc BK191.out 13).trans rfl; have hfz101_0 := kf BK191.out 0; have hfz101_1 := kf BK191.out 1; have hfz101_2 := kf BK191.out 2; have hfz101_3 := kf BK191.out 3; have hfz101_4 := kf BK191.out 4; have hfz101_5 := kf BK191.out 5; have hfz101_6 := kf BK191.out 6; have hfz101_7 := kf BK191.out 7; have hfz101_8 := kf BK191.out 8; have hfz101_9 := kf BK191.out 9; have hfz101_10 := kf BK191.out 10; have hfz101_11 := kf BK191.out 11; have hfz101_12 := kf BK191.out 12; have hfz101_13 := kf BK191.out 13))
          go_ret
          exact ⟨xe, xb⟩
     ·replace c18 := Bool.eq_false_iff.mpr c18
      subst c18
      rw [if_neg (show ¬ (false = true) by decide)] at H
      obtain rfl := Option.some.inj H
      have hcz102_0 : wc.cell? ⟨gb191, 0, none⟩ = some (.bool a0_0) := (kc BK191.out 0).trans rfl
      have hcz102_1 : wc.cell? ⟨gb191, 1, none⟩ = some (.slice A0_1 l0_1.length c0_1) := (kc BK191.out 1).trans rfl
      have hcz102_2 : wc.cell? ⟨gb191, 2, none⟩ = some (.slice A0_2 l0_2.length c0_2) := (kc BK191.out 2).trans rfl
      have hcz102_3 : wc.cell? ⟨gb191, 3, none⟩ = some (.slice A0_3 l0_3.length c0_3) := (kc BK191.out 3).trans rfl
      have hcz102_4 : wc.cell? ⟨gb191, 4, none⟩ = some (.int .i64 a0_4) := (kc BK191.out 4).trans rfl
      have hcz102_5 : wc.cell? ⟨gb191, 5, none⟩ = some (.slice A0_5 l0_5.length c0_5) := (kc BK191.out 5).trans rfl
      have hcz102_6 : wc.cell? ⟨gb191, 6, none⟩ = some (.bool a0_6) := (kc BK191.out 6).trans rfl
      have hcz102_7 : wc.cell? ⟨gb191, 7, none⟩ = some (.int .i64 a0_7) := (kc BK191.out 7).trans rfl
      have hcz102_8 : wc.cell? ⟨gb191, 8, none⟩ = some (.string a0_8) := (kc BK191.out 8).trans rfl
      have hcz102_9 : wc.cell? ⟨gb191, 9, none⟩ = some (.bool a0_9) := (kc BK191.out 9).trans rfl
      have hcz102_10 : wc.cell? ⟨gb191, 10, none⟩ = some (.int .i64 a0_10) := (kc BK191.out 10).trans rfl
      have hcz102_11 : wc.cell? ⟨gb191, 11, none⟩ = some (.bool a0_11) := (kc BK191.out 11).trans rfl
      have hcz102_12 : wc.cell? ⟨gb191, 12, none⟩ = some (.bool a0_12) := (kc BK191.out 12).trans rfl
      have hcz102_13 : wc.cell? ⟨gb191, 13, none⟩ = some (.int .i64 a0_13) := (kc BK191.out 13).trans rfl
      have hfz102_0 := kf BK191.out 0
      have hfz102_1 := kf BK191.out 1
      have hfz102_2 := kf BK191.out 2
      have hfz102_3 := kf BK191.out 3
      have hfz102_4 := kf BK191.out 4
      have hfz102_5 := kf BK191.out 5
      have hfz102_6 := kf BK191.out 6
      have hfz102_7 := kf BK191.out 7
      have hfz102_8 := kf BK191.out 8
      have hfz102_9 := kf BK191.out 9
      have hfz102_10 := kf BK191.out 10
      have hfz102_11 := kf BK191.out 11
      have hfz102_12 := kf BK191.out 12
      have hfz102_13 := kf BK191.out 13
      go_wp2_with (first | ((with_reducible refine gate_callee (f := 32) rfl ?_); refine goesL_ (some 35) rfl rfl Tryz.func32 (by kernel_rfl) rfl #[.agg #[.bool a0_0, .slice A0_1 l0_1.length c0_1, .slice A0_2 l0_2.length c0_2, .slice A0_3 l0_3.length c0_3, .int .i64 a0_4, .slice A0_5 l0_5.length c0_5, .bool a0_6, .int .i64 a0_7, .string a0_8, .bool a0_9, .int .i64 a0_10, .bool a0_11, .bool a0_12, .int .i64 a0_13]] rfl xr ?_; (with_reducible refine (job_Job_goes.calls kj8 a0_0 _ _ l0_1 _ _ l0_2 _ _ l0_3 a0_4 _ _ l0_5 a0_6 a0_7 a0_8 a0_9 a0_10 a0_11 a0_12 a0_13 false _ (Tabs.below hT xf) ?side1 ?side2 ?side3 ?side4 ?side5 ?side6 ?side7 ?side8 A17.out).mono ?_); (case side1 => exact Kd.C_below HR0_1.out xb); (case side2 => exact HC0_1.out); (case side3 => exact Kd.C_below HR0_2.out xb); (case side4 => exact HC0_2.out); (case side5 => exact Kd.C_below HR0_3.out xb); (case side6 => exact HC0_3.out); (case side7 => exact Kd.C_below HR0_5.out xb); (case side8 => exact HC0_5.out); rintro e w103 ⟨rfl, hb⟩; refine ⟨_, rfl, ?_⟩; replace BK191 := xd BK191.out hb; replace HB := xy (below_step xb hb); (try clear hb); (try clear hb2); (try clear hk); (try clear hi)))
      go_ret
      exact ⟨xe, xb⟩
end
end Go.Proofs.YtialoecplmnjfaaGreatDoor.PX
