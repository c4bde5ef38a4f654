/- Walked functions, by this session's program over the kit's print. -/
import Derived.Test.YtialoecplmnjfaaGreatDoorPXx0
import Derived.Test.YtialoecplmnjfaaGreatDoorPXx3
import Derived.Test.YtialoecplmnjfaaGreatDoorPXx6
namespace Go.Proofs.YtialoecplmnjfaaGreatDoor.PX
open Go.RowKit Go.Proofs.YtialoecplmnjfaaGreatDoorW.PrintWords Go.Proofs.YtialoecplmnjfaaGreatDoorW.PrintLast Go.Proofs.YtialoecplmnjfaaGreatDoorW.PrintMore
attribute [local go_sem] xm_gtr max2_int min2_int max_two min_two max_three min_three max_four min_four
set_option linter.unusedVariables false
set_option linter.unusedSimpArgs false
section
/- Walked functions, by this session's program over the kit's print. -/
attribute [local go_sem high] eqA24
mutual
def job_Check.j0 : Nat → Bool → Bool → List (S50) → List (S50) → List (S50) → Int → List (S50) → Bool → Int → ByteArray → Bool → Int → Bool → Bool → Int → Option (Int)
 | 0, _, _, _, _, _, _, _, _, _, _, _, _, _, _, _ => none
 | k + 1, x3, x190000, x190001, x190002, x190003, x190004, x190005, x190006, x190007, x190008, x190009, x190010, x190011, x190012, x190013 => if x190010 ≥ 1 then (if x190010 ≤ 8 then (if x190013 ≥ 0 then (job_Check.j1 k x3 (decide (x190013 ≤ 100000)) x190000 x190001 x190002 x190003 x190004 x190005 x190006 x190007 x190008 x190009 x190010 x190011 x190012 x190013) else (job_Check.j1 k x3 false x190000 x190001 x190002 x190003 x190004 x190005 x190006 x190007 x190008 x190009 x190010 x190011 x190012 x190013)) else (job_Check.j1 k x3 false x190000 x190001 x190002 x190003 x190004 x190005 x190006 x190007 x190008 x190009 x190010 x190011 x190012 x190013)) else (job_Check.j1 k x3 false x190000 x190001 x190002 x190003 x190004 x190005 x190006 x190007 x190008 x190009 x190010 x190011 x190012 x190013)
def job_Check.j1 : Nat → Bool → Bool → Bool → List (S50) → List (S50) → List (S50) → Int → List (S50) → Bool → Int → ByteArray → Bool → Int → Bool → Bool → Int → Option (Int)
 | 0, _, _, _, _, _, _, _, _, _, _, _, _, _, _, _, _ => none
 | k + 1, x3, x4, x190000, x190001, x190002, x190003, x190004, x190005, x190006, x190007, x190008, x190009, x190010, x190011, x190012, x190013 => (job_Job_goes.f k x190000 x190001 x190002 x190003 x190004 x190005 x190006 x190007 x190008 x190009 x190010 x190011 x190012 x190013).bind fun t193 => (if t193 = true then (if x190004 < 0 then (some 1) else (if x190004 > 7 then (some 1) else (if x190004 = 7 then ((job_isVal.f x190006 x190007 x190008).bind fun t194 => (if t194 = true then (if x190009 = true then (if x190004 > 2 then (some 1) else (if x4 = true then (some 0) else (some 1))) else (if x4 = true then (some 0) else (some 1))) else (some 1))) else (if x3 = true then ((job_isVal.f x190006 x190007 x190008).bind fun t195 => (if t195 = true then (if x190009 = true then (if x190004 > 2 then (some 1) else (if x4 = true then (some 0) else (some 1))) else (if x4 = true then (some 0) else (some 1))) else (some 1))) else (some 1))))) else (some 11))
end
def job_Check.f (k : Nat) (a0_0 : Bool) (l0_1 : List (S50)) (l0_2 : List (S50)) (l0_3 : List (S50)) (a0_4 : Int) (l0_5 : List (S50)) (a0_6 : Bool) (a0_7 : Int) (a0_8 : ByteArray) (a0_9 : Bool) (a0_10 : Int) (a0_11 : Bool) (a0_12 : Bool) (a0_13 : Int) : Option (Int) := if (l0_5.length : Int) = 0 then ((value_Num.f 0).bind fun bt190 => (job_Check.j0 k (a0_6 == bt190.1 && (a0_7 == bt190.2.1 && (a0_8.toList == bt190.2.2.toList))) a0_0 l0_1 l0_2 l0_3 a0_4 l0_5 a0_6 a0_7 a0_8 a0_9 a0_10 a0_11 a0_12 a0_13)) else (job_Check.j0 k false a0_0 l0_1 l0_2 l0_3 a0_4 l0_5 a0_6 a0_7 a0_8 a0_9 a0_10 a0_11 a0_12 a0_13)
theorem job_Check.mono_l : ∀ k, (∀ y0 y1 y2 y3 y4 y5 y6 y7 y8 y9 y10 y11 y12 y13 y14, LeO (job_Check.j0 k y0 y1 y2 y3 y4 y5 y6 y7 y8 y9 y10 y11 y12 y13 y14) (job_Check.j0 (k + 1) y0 y1 y2 y3 y4 y5 y6 y7 y8 y9 y10 y11 y12 y13 y14)) ∧ (∀ y0 y1 y2 y3 y4 y5 y6 y7 y8 y9 y10 y11 y12 y13 y14 y15, LeO (job_Check.j1 k y0 y1 y2 y3 y4 y5 y6 y7 y8 y9 y10 y11 y12 y13 y14 y15) (job_Check.j1 (k + 1) y0 y1 y2 y3 y4 y5 y6 y7 y8 y9 y10 y11 y12 y13 y14 y15))
 | 0 => ⟨fun _ _ _ _ _ _ _ _ _ _ _ _ _ _ _ r h => by simp [job_Check.j0] at h, fun _ _ _ _ _ _ _ _ _ _ _ _ _ _ _ _ r h => by simp [job_Check.j1] at h⟩
 | k + 1 => by
  obtain ⟨ih0, ih1⟩ := job_Check.mono_l k
  refine ⟨?_, ?_⟩
  ·intro y0 y1 y2 y3 y4 y5 y6 y7 y8 y9 y10 y11 y12 y13 y14
   unfold job_Check.j0
   repeat' (with_reducible first | exact ih0 _ _ _ _ _ _ _ _ _ _ _ _ _ _ _ | exact ih1 _ _ _ _ _ _ _ _ _ _ _ _ _ _ _ _ | exact job_Job_goes.mono _ _ _ _ _ _ _ _ _ _ _ _ _ _ _ | exact LeO.refl _ | exact LeO.none _ | refine LeO.ite ?_ ?_ | refine LeO.bind ?_ (fun _ => ?_))
  ·intro y0 y1 y2 y3 y4 y5 y6 y7 y8 y9 y10 y11 y12 y13 y14 y15
   unfold job_Check.j1
   repeat' (with_reducible first | exact ih0 _ _ _ _ _ _ _ _ _ _ _ _ _ _ _ | exact ih1 _ _ _ _ _ _ _ _ _ _ _ _ _ _ _ _ | exact job_Job_goes.mono _ _ _ _ _ _ _ _ _ _ _ _ _ _ _ | exact LeO.refl _ | exact LeO.none _ | refine LeO.ite ?_ ?_ | refine LeO.bind ?_ (fun _ => ?_))
theorem job_Check.mono : ∀ a0 a1 a2 a3 a4 a5 a6 a7 a8 a9 a10 a11 a12 a13 k, LeO (job_Check.f k a0 a1 a2 a3 a4 a5 a6 a7 a8 a9 a10 a11 a12 a13) (job_Check.f (k + 1) a0 a1 a2 a3 a4 a5 a6 a7 a8 a9 a10 a11 a12 a13) := by
 intro a0 a1 a2 a3 a4 a5 a6 a7 a8 a9 a10 a11 a12 a13 k
 obtain ⟨ih0, ih1⟩ := job_Check.mono_l k
 unfold job_Check.f
 repeat' (with_reducible first | exact ih0 _ _ _ _ _ _ _ _ _ _ _ _ _ _ _ | exact ih1 _ _ _ _ _ _ _ _ _ _ _ _ _ _ _ _ | exact job_Job_goes.mono _ _ _ _ _ _ _ _ _ _ _ _ _ _ _ | exact LeO.refl _ | exact LeO.none _ | refine LeO.ite ?_ ?_ | refine LeO.bind ?_ (fun _ => ?_))
def job_Check.T1 : Bool × List (List Nat × List Nat) := (true, [([], []), ([0], [0]), ([1], [1]), ([2], [2]), ([3], [3]), ([4], [4]), ([5, 4], [4, 5]), ([4, 4], [4]), ([6, 7, 4], [4, 6, 7]), ([4, 8], [4, 8]), ([9, 7, 0, 1, 2, 3, 4, 5, 6, 7, 8, 9], [9])])
def job_Check.B1 : List Nat := [0, 1, 3, 7, 15, 31, 63, 31, 255, 511, 1023]
theorem job_Check.tab1 : rtab .any (opsOf Tryz.f23 1) = job_Check.T1 := by kernel_rfl
theorem job_Check.bits1 : waitsOk job_Check.T1.2 job_Check.B1 = true := by kernel_rfl
set_option maxHeartbeats 8000000 in
set_option maxRecDepth 100000 in
theorem job_Check.calls (k : Nat) (a0_0 : Bool) (A0_1 : Option Addr) (c0_1 : Nat) (l0_1 : List (S50)) (A0_2 : Option Addr) (c0_2 : Nat) (l0_2 : List (S50)) (A0_3 : Option Addr) (c0_3 : Nat) (l0_3 : List (S50)) (a0_4 : Int) (A0_5 : Option Addr) (c0_5 : Nat) (l0_5 : List (S50)) (a0_6 : Bool) (a0_7 : Int) (a0_8 : ByteArray) (a0_9 : Bool) (a0_10 : Int) (a0_11 : Bool) (a0_12 : Bool) (a0_13 : Int) (r : Int) (w : World) (hT : Tabs w) (hr0_1 : Kd.C k50 w A0_1 l0_1.length l0_1) (hc0_1 : l0_1.length ≤ c0_1) (hr0_2 : Kd.C k50 w A0_2 l0_2.length l0_2) (hc0_2 : l0_2.length ≤ c0_2) (hr0_3 : Kd.C k50 w A0_3 l0_3.length l0_3) (hc0_3 : l0_3.length ≤ c0_3) (hr0_5 : Kd.C k50 w A0_5 l0_5.length l0_5) (hc0_5 : l0_5.length ≤ c0_5) (h : job_Check.f k a0_0 l0_1 l0_2 l0_3 a0_4 l0_5 a0_6 a0_7 a0_8 a0_9 a0_10 a0_11 a0_12 a0_13 = some r) :
  Calls Tryz.prog 23 #[.agg #[.bool a0_0, .slice A0_1 l0_1.length c0_1, .slice A0_2 l0_2.length c0_2, .slice A0_3 l0_3.length c0_3, .int .i64 a0_4, .slice A0_5 l0_5.length c0_5, .bool a0_6, .int .i64 a0_7, .string a0_8, .bool a0_9, .int .i64 a0_10, .bool a0_11, .bool a0_12, .int .i64 a0_13]] w fun e w' => e = .returned (.int .i64 r) ∧ Below w.heap.size w w' := by
 have hu26 := Tryz.underlying26
 have hu24 := Tryz.underlying24
 have HR0_1 := xy hr0_1
 have HC0_1 := xy hc0_1
 clear hr0_1 hc0_1
 have HR0_2 := xy hr0_2
 have HC0_2 := xy hc0_2
 clear hr0_2 hc0_2
 have HR0_3 := xy hr0_3
 have HC0_3 := xy hc0_3
 clear hr0_3 hc0_3
 have HR0_5 := xy hr0_5
 have HC0_5 := xy hc0_5
 clear hr0_5 hc0_5
 have HB := xy (Below.refl w.heap.size w)
 unfold job_Check.f at h
 have H := h
 clear h
 have HC2 := xy H
 clear H
 go_enter Tryz.func23, Tryz.ntmps23
 go_upto_region 1 with (first | ((with_reducible refine gate_dst (N := 1) rfl ?_); refine xq (N := 1) (cs := #[.bool a0_0, .slice A0_1 l0_1.length c0_1, .slice A0_2 l0_2.length c0_2, .slice A0_3 l0_3.length c0_3, .int .i64 a0_4, .slice A0_5 l0_5.length c0_5, .bool a0_6, .int .i64 a0_7, .string a0_8, .bool a0_9, .int .i64 a0_10, .bool a0_11, .bool a0_12, .int .i64 a0_13]) (t := 26) ?_; intro gb189 hg w3 hbox hb; have BK189 := xy (hbox); have GW189 := xs w hg; have GE189 := xs w hg; replace HB := xy (below_step xb hb); clear hb hbox hg))
 (try simp only [Act.put, List.setIfInBounds_toArray, List.set_cons_zero, List.set_cons_succ])
 go_cut [3] (fun v3 wc => ∃ (kq : Nat) (x3_1 : Bool), v3 = .bool x3_1 ∧ Aside0 (job_Check.j0 kq x3_1 a0_0 l0_1 l0_2 l0_3 a0_4 l0_5 a0_6 a0_7 a0_8 a0_9 a0_10 a0_11 a0_12 a0_13 = some r) ∧ Aside0 (kq ≤ k) ∧ Aside0 (wc.heap[gb189]? = some (.cells #[.bool a0_0, (.slice A0_1 l0_1.length c0_1), (.slice A0_2 l0_2.length c0_2), (.slice A0_3 l0_3.length c0_3), .int .i64 a0_4, (.slice A0_5 l0_5.length c0_5), .bool a0_6, .int .i64 a0_7, .string a0_8, .bool a0_9, .int .i64 a0_10, .bool a0_11, .bool a0_12, .int .i64 a0_13] 26 (0, 0))) ∧ Aside0 (Below w.heap.size w wc))
 case first =>
  have H := HC2.out
  clear HC2
  by_cases c4 : (l0_5.length : Int) = 0
  ·rw [if_pos c4] at H
   have c4b0 : ((l0_5.length : Int) == 0) = true := beq_iff_eq.mpr c4
   have c4b1 : ((l0_5.length : Int) != 0) = false := bne_eq_false_iff_eq.mpr c4
   clear c4
   (first | rw [c4b0] | (simp only [i64_w, i32_w]; rw [c4b0]) | skip)
   replace H := xj H
   obtain ⟨⟨t190, t191, t192⟩, A50, H⟩ := H
   try dsimp only at H
   have A5 := xy A50
   clear A50
   have H' := xy H
   clear H
   try go_wp2
   replace BK189 := xy (blk_drew BK189.out)
   replace HB := xy (below_drew1 HB.out)
   refine start_ (n := 11) (S := fun w' => w'.cell? ⟨gb189, 0, none⟩ = some (.bool a0_0) ∧ w'.cell? ⟨gb189, 1, none⟩ = some (.slice A0_1 l0_1.length c0_1) ∧ w'.cell? ⟨gb189, 2, none⟩ = some (.slice A0_2 l0_2.length c0_2) ∧ w'.cell? ⟨gb189, 3, none⟩ = some (.slice A0_3 l0_3.length c0_3) ∧ w'.cell? ⟨gb189, 4, none⟩ = some (.int .i64 a0_4) ∧ w'.cell? ⟨gb189, 5, none⟩ = some (.slice A0_5 l0_5.length c0_5) ∧ w'.cell? ⟨gb189, 6, none⟩ = some (.bool a0_6) ∧ w'.cell? ⟨gb189, 7, none⟩ = some (.int .i64 a0_7) ∧ w'.cell? ⟨gb189, 8, none⟩ = some (.string a0_8) ∧ w'.cell? ⟨gb189, 9, none⟩ = some (.bool a0_9) ∧ w'.cell? ⟨gb189, 10, none⟩ = some (.int .i64 a0_10) ∧ w'.cell? ⟨gb189, 11, none⟩ = some (.bool a0_11) ∧ w'.cell? ⟨gb189, 12, none⟩ = some (.bool a0_12) ∧ w'.cell? ⟨gb189, 13, none⟩ = some (.int .i64 a0_13)) (ds := []) #[false, false, false, false, false, false, false, false, false, false, false] (by kernel_rfl) rfl rfl ⟨(kc BK189.out 0).trans rfl, (kc BK189.out 1).trans rfl, (kc BK189.out 2).trans rfl, (kc BK189.out 3).trans rfl, (kc BK189.out 4).trans rfl, (kc BK189.out 5).trans rfl, (kc BK189.out 6).trans rfl, (kc BK189.out 7).trans rfl, (kc BK189.out 8).trans rfl, (kc BK189.out 9).trans rfl, (kc BK189.out 10).trans rfl, (kc BK189.out 11).trans rfl, (kc BK189.out 12).trans rfl, (kc BK189.out 13).trans rfl⟩ (fun hHeld => ?_); refine with_tabW job_Check.tab1 job_Check.bits1 (fun HT_ HW_ => ?_)
   generalize w3.drew = w6 at BK189 HB hHeld ⊢
   refine yz 0 (some 5) (bs 11 1) HT_.out (h := ?_)
   refine yt 1 (some 6) (bs 11 3) HT_.out HW_.out hHeld (h := ?_)
   refine yz 2 (some 7) (bs 11 7) HT_.out (h := ?_)
   refine yz 3 (some 8) (bs 11 15) HT_.out (h := ?_)
   refine yz 4 (some 9) (bs 11 31) HT_.out (h := ?_)
   refine yz 5 (some 10) (bs 11 63) HT_.out (h := ?_)
   refine yt 6 (some 11) (bs 11 127) HT_.out HW_.out hHeld (h := ?_)
   refine one_ (i := 7) (N := some 12) #[true, true, true, true, true, true, true, true, false, false, false] rfl rfl (one_of HT_.out (by kernel_rfl)) (by decide) (fun K hK => ?_)
   refine goes_ Tryz.func31 (by kernel_rfl) rfl #[.int .i64 0] (by rfl) rfl rfl xr ?_
   with_reducible refine (value_Num.calls 0 t190 t191 t192 _ (Tabs.below hT xf) A5.out).mono ?_
   rintro e w7 ⟨rfl, hb⟩
   refine ⟨_, rfl, ?_⟩
   replace BK189 := xd BK189.out hb
   replace HB := xy (below_step xb hb)
   (try clear hb)
   (try clear hb2)
   (try clear hk)
   (try clear hi)
   refine hK.out _ _ ⟨(kc BK189.out 0).trans rfl, (kc BK189.out 1).trans rfl, (kc BK189.out 2).trans rfl, (kc BK189.out 3).trans rfl, (kc BK189.out 4).trans rfl, (kc BK189.out 5).trans rfl, (kc BK189.out 6).trans rfl, (kc BK189.out 7).trans rfl, (kc BK189.out 8).trans rfl, (kc BK189.out 9).trans rfl, (kc BK189.out 10).trans rfl, (kc BK189.out 11).trans rfl, (kc BK189.out 12).trans rfl, (kc BK189.out 13).trans rfl⟩ (fun hHeld => ?_)
   clear hK K
   refine norm_ (a' := ?_) ?_ ?_
   rotate_left
   ·show Act.put _ (some 12) _ = _
    simp only [Act.put, List.setIfInBounds_toArray, List.set_cons_zero, List.set_cons_succ, i64_w, i32_w]
    rfl
   refine yz 8 (some 13) (bs 11 511) HT_.out (h := ?_)
   refine yz 9 (some 14) (bs 11 1023) HT_.out (h := ?_)
   refine yz 10 (some 3) (bs 11 2047) HT_.out (h := ?_)
   refine done_ (done_of HT_.out (by kernel_rfl)) ?_
   try go_wp2
   go_meet
   case rel => exact ⟨_, ((a0_6 == t190 && (a0_7 == t191 && (a0_8.toList == t192.toList)))), xg, H', ⟨by first | omega | exact Nat.le_refl _⟩, ⟨by (with_reducible repeat (first | refine blk_drewN ?_ _ | refine blk_drew ?_ | refine blk_alloc ?_ _)); exact BK189.out⟩, ⟨xb⟩⟩
  ·rw [if_neg c4] at H
   have c4b0 : ((l0_5.length : Int) == 0) = false := beq_eq_false_iff_ne.mpr c4
   have c4b1 : ((l0_5.length : Int) != 0) = true := bne_iff_ne.mpr c4
   have c4b2 : ¬ (l0_5 = []) := fun h_ => c4 (by rw [h_]; rfl)
   (first | rw [c4b0] | (simp only [i64_w, i32_w]; rw [c4b0]) | skip)
   have H' := xy H
   clear H
   try go_wp2
   replace BK189 := xy (blk_drew BK189.out)
   replace HB := xy (below_drew1 HB.out)
   refine start_ (n := 11) (S := fun w' => w'.cell? ⟨gb189, 0, none⟩ = some (.bool a0_0) ∧ w'.cell? ⟨gb189, 1, none⟩ = some (.slice A0_1 l0_1.length c0_1) ∧ w'.cell? ⟨gb189, 2, none⟩ = some (.slice A0_2 l0_2.length c0_2) ∧ w'.cell? ⟨gb189, 3, none⟩ = some (.slice A0_3 l0_3.length c0_3) ∧ w'.cell? ⟨gb189, 4, none⟩ = some (.int .i64 a0_4) ∧ w'.cell? ⟨gb189, 5, none⟩ = some (.slice A0_5 l0_5.length c0_5) ∧ w'.cell? ⟨gb189, 6, none⟩ = some (.bool a0_6) ∧ w'.cell? ⟨gb189, 7, none⟩ = some (.int .i64 a0_7) ∧ w'.cell? ⟨gb189, 8, none⟩ = some (.string a0_8) ∧ w'.cell? ⟨gb189, 9, none⟩ = some (.bool a0_9) ∧ w'.cell? ⟨gb189, 10, none⟩ = some (.int .i64 a0_10) ∧ w'.cell? ⟨gb189, 11, none⟩ = some (.bool a0_11) ∧ w'.cell? ⟨gb189, 12, none⟩ = some (.bool a0_12) ∧ w'.cell? ⟨gb189, 13, none⟩ = some (.int .i64 a0_13)) (ds := []) #[false, false, false, false, false, false, false, false, false, false, false] (by kernel_rfl) rfl rfl ⟨(kc BK189.out 0).trans rfl, (kc BK189.out 1).trans rfl, (kc BK189.out 2).trans rfl, (kc BK189.out 3).trans rfl, (kc BK189.out 4).trans rfl, (kc BK189.out 5).trans rfl, (kc BK189.out 6).trans rfl, (kc BK189.out 7).trans rfl, (kc BK189.out 8).trans rfl, (kc BK189.out 9).trans rfl, (kc BK189.out 10).trans rfl, (kc BK189.out 11).trans rfl, (kc BK189.out 12).trans rfl, (kc BK189.out 13).trans rfl⟩ (fun hHeld => ?_); refine with_tabW job_Check.tab1 job_Check.bits1 (fun HT_ HW_ => ?_)
   generalize w3.drew = w8 at BK189 HB hHeld ⊢
   refine yz 0 (some 5) (bs 11 1) HT_.out (h := ?_)
   refine yt 1 (some 6) (bs 11 3) HT_.out HW_.out hHeld (h := ?_)
   refine yz 2 (some 7) (bs 11 7) HT_.out (h := ?_)
   refine yz 3 (some 8) (bs 11 15) HT_.out (h := ?_)
   refine yz 4 (some 9) (bs 11 31) HT_.out (h := ?_)
   refine yu 5 (some 10) (bs 11 63) HT_.out (h := ?_)
   refine yu 6 (some 11) (bs 11 127) HT_.out (h := ?_)
   refine yu 7 (some 12) (bs 11 255) HT_.out (h := ?_)
   refine yu 8 (some 13) (bs 11 511) HT_.out (h := ?_)
   refine yz 9 (some 14) (bs 11 1023) HT_.out (h := ?_)
   refine yz 10 (some 3) (bs 11 2047) HT_.out (h := ?_)
   refine done_ (done_of HT_.out (by kernel_rfl)) ?_
   try go_wp2
   go_meet
   case rel => exact ⟨_, (false), xg, H', ⟨by first | omega | exact Nat.le_refl _⟩, ⟨by (with_reducible repeat (first | refine blk_drewN ?_ _ | refine blk_drew ?_ | refine blk_alloc ?_ _)); exact BK189.out⟩, ⟨xb⟩⟩
 case rest =>
  clear HC2
  try clear c2
  try clear p2
  try clear c3
  try clear c4
  try clear c4b0
  try clear c4b1
  try clear c4b2
  obtain ⟨kq, x3_1, rfl, HA, HJ1, BK189, HB⟩ := hcut
  cases kq with
  | zero => exact absurd HA.out (by simp [job_Check.j0])
  | succ kj1 =>
   have H := HA.out
   clear HA
   simp only [job_Check.j0] at H
   have HC9 := xy H
   clear H
   go_upto_region 2 with (fail)
   go_cut [4] (fun v4 wc => ∃ (kq : Nat) (x4_8 : Bool), v4 = .bool x4_8 ∧ Aside0 (job_Check.j1 kq x3_1 x4_8 a0_0 l0_1 l0_2 l0_3 a0_4 l0_5 a0_6 a0_7 a0_8 a0_9 a0_10 a0_11 a0_12 a0_13 = some r) ∧ Aside0 (kq ≤ kj1) ∧ Aside0 (wc.heap[gb189]? = some (.cells #[.bool a0_0, (.slice A0_1 l0_1.length c0_1), (.slice A0_2 l0_2.length c0_2), (.slice A0_3 l0_3.length c0_3), .int .i64 a0_4, (.slice A0_5 l0_5.length c0_5), .bool a0_6, .int .i64 a0_7, .string a0_8, .bool a0_9, .int .i64 a0_10, .bool a0_11, .bool a0_12, .int .i64 a0_13] 26 (0, 0))) ∧ Aside0 (Below w.heap.size w wc))
   case first =>
    have H := HC9.out
    clear HC9
    by_cases c10 : a0_10 ≥ 1
    ·rw [if_pos c10] at H
     have c10b0 : decide (1 ≤ a0_10) = true := decide_eq_true c10
     clear c10
     (first | rw [c10b0] | (simp only [i64_w, i32_w]; rw [c10b0]) | skip)
     by_cases c11 : a0_10 ≤ 8
     ·rw [if_pos c11] at H
      have c11b0 : decide (a0_10 ≤ 8) = true := decide_eq_true c11
      clear c11
      by_cases c12 : a0_13 ≥ 0
      ·rw [if_pos c12] at H
       have c12b0 : decide (0 ≤ a0_13) = true := decide_eq_true c12
       clear c12
       have H' := xy H
       clear H
       obtain ⟨hcz13_0, hcz13_1, hcz13_2, hcz13_3, hcz13_4, hcz13_5, hcz13_6, hcz13_7, hcz13_8, hcz13_9, hcz13_10, hcz13_11, hcz13_12, hcz13_13⟩ := kt14 BK189.out
       go_wp2
       go_meet
       case rel => exact ⟨_, (decide (a0_13 ≤ 100000)), xg, H', ⟨by have := HJ1.out; first | omega | exact Nat.le_refl _⟩, ⟨by (with_reducible repeat (first | refine blk_drewN ?_ _ | refine blk_drew ?_ | refine blk_alloc ?_ _)); exact BK189.out⟩, ⟨xb⟩⟩
      ·rw [if_neg c12] at H
       have c12b0 : decide (0 ≤ a0_13) = false := decide_eq_false c12
       clear c12
       have H' := xy H
       clear H
       obtain ⟨hcz14_0, hcz14_1, hcz14_2, hcz14_3, hcz14_4, hcz14_5, hcz14_6, hcz14_7, hcz14_8, hcz14_9, hcz14_10, hcz14_11, hcz14_12, hcz14_13⟩ := kt14 BK189.out
       go_wp2
       go_meet
       case rel => exact ⟨_, (false), xg, H', ⟨by have := HJ1.out; first | omega | exact Nat.le_refl _⟩, ⟨by (with_reducible repeat (first | refine blk_drewN ?_ _ | refine blk_drew ?_ | refine blk_alloc ?_ _)); exact BK189.out⟩, ⟨xb⟩⟩
     ·rw [if_neg c11] at H
      have c11b0 : decide (a0_10 ≤ 8) = false := decide_eq_false c11
      clear c11
      have H' := xy H
      clear H
      obtain ⟨hcz15_0, hcz15_1, hcz15_2, hcz15_3, hcz15_4, hcz15_5, hcz15_6, hcz15_7, hcz15_8, hcz15_9, hcz15_10, hcz15_11, hcz15_12, hcz15_13⟩ := kt14 BK189.out
      go_wp2
      go_meet
      case rel => exact ⟨_, (false), xg, H', ⟨by have := HJ1.out; first | omega | exact Nat.le_refl _⟩, ⟨by (with_reducible repeat (first | refine blk_drewN ?_ _ | refine blk_drew ?_ | refine blk_alloc ?_ _)); exact BK189.out⟩, ⟨xb⟩⟩
    ·rw [if_neg c10] at H
     have c10b0 : decide (1 ≤ a0_10) = false := decide_eq_false c10
     clear c10
     (first | rw [c10b0] | (simp only [i64_w, i32_w]; rw [c10b0]) | skip)
     have H' := xy H
     clear H
     obtain ⟨hcz16_0, hcz16_1, hcz16_2, hcz16_3, hcz16_4, hcz16_5, hcz16_6, hcz16_7, hcz16_8, hcz16_9, hcz16_10, hcz16_11, hcz16_12, hcz16_13⟩ := kt14 BK189.out
     go_wp2
     go_meet
     case rel => exact ⟨_, (false), xg, H', ⟨by have := HJ1.out; first | omega | exact Nat.le_refl _⟩, ⟨by (with_reducible repeat (first | refine blk_drewN ?_ _ | refine blk_drew ?_ | refine blk_alloc ?_ _)); exact BK189.out⟩, ⟨xb⟩⟩
   case rest =>
    clear HC9
    try clear c1
    try clear c2
    try clear p2
    try clear c3
    try clear c4
    try clear c4b0
    try clear c4b1
    try clear c4b2
    try clear c10
    try clear c10b0
    try clear c11
    try clear c11b0
    try clear c12
    try clear c12b0
    try clear hcz13_0 hcz13_1 hcz13_10 hcz13_11 hcz13_12 hcz13_13 hcz13_2 hcz13_3 hcz13_4 hcz13_5 hcz13_6 hcz13_7 hcz13_8 hcz13_9
    try clear hcz14_0 hcz14_1 hcz14_10 hcz14_11 hcz14_12 hcz14_13 hcz14_2 hcz14_3 hcz14_4 hcz14_5 hcz14_6 hcz14_7 hcz14_8 hcz14_9
    try clear hcz15_0 hcz15_1 hcz15_10 hcz15_11 hcz15_12 hcz15_13 hcz15_2 hcz15_3 hcz15_4 hcz15_5 hcz15_6 hcz15_7 hcz15_8 hcz15_9
    try clear hcz16_0 hcz16_1 hcz16_10 hcz16_11 hcz16_12 hcz16_13 hcz16_2 hcz16_3 hcz16_4 hcz16_5 hcz16_6 hcz16_7 hcz16_8 hcz16_9
    try clear p2
    obtain ⟨kq, x4_8, rfl, HA, HJ8, BK189, HB⟩ := hcut
    cases kq with
    | zero => exact absurd HA.out (by simp [job_Check.j1])
    | succ kj8 =>
     have H := HA.out
     clear HA
     simp only [job_Check.j1] at H
     replace H := xj H
     obtain ⟨t193, A170, H⟩ := H
     try dsimp only at H
     have A17 := xy A170
     clear A170
     by_cases c18 : t193 = true
     ·subst c18
      rw [if_pos rfl] at H
      by_cases c19 : a0_4 < 0
      ·rw [if_pos c19] at H
       have c19b0 : decide (a0_4 < 0) = true := decide_eq_true c19
       clear c19
       obtain rfl := Option.some.inj H
       obtain ⟨hcz20_0, hcz20_1, hcz20_2, hcz20_3, hcz20_4, hcz20_5, hcz20_6, hcz20_7, hcz20_8, hcz20_9, hcz20_10, hcz20_11, hcz20_12, hcz20_13⟩ := kt14 BK189.out
       go_wp2_with (first | ((with_reducible refine gate_callee (f := 32) rfl ?_); refine goesL_ (some 35) rfl rfl Tryz.func32 (by kernel_rfl) rfl #[.agg #[.bool a0_0, .slice A0_1 l0_1.length c0_1, .slice A0_2 l0_2.length c0_2, .slice A0_3 l0_3.length c0_3, .int .i64 a0_4, .slice A0_5 l0_5.length c0_5, .bool a0_6, .int .i64 a0_7, .string a0_8, .bool a0_9, .int .i64 a0_10, .bool a0_11, .bool a0_12, .int .i64 a0_13]] rfl xr ?_; (with_reducible refine (job_Job_goes.calls kj8 a0_0 _ _ l0_1 _ _ l0_2 _ _ l0_3 a0_4 _ _ l0_5 a0_6 a0_7 a0_8 a0_9 a0_10 a0_11 a0_12 a0_13 true _ (Tabs.below hT xf) ?side1 ?side2 ?side3 ?side4 ?side5 ?side6 ?side7 ?side8 A17.out).mono ?_); (case side1 => exact Kd.C_below HR0_1.out xb); (case side2 => exact HC0_1.out); (case side3 => exact Kd.C_below HR0_2.out xb); (case side4 => exact HC0_2.out); (case side5 => exact Kd.C_below HR0_3.out xb); (case side6 => exact HC0_3.out); (case side7 => exact Kd.C_below HR0_5.out xb); (case side8 => exact HC0_5.out); rintro e w21 ⟨rfl, hb⟩; refine ⟨_, rfl, ?_⟩; replace BK189 := xd BK189.out hb; replace HB := xy (below_step xb hb); (try clear hb); (try clear hb2); (try clear hk); (try clear hi); obtain ⟨hcz22_0, hcz22_1, hcz22_2, hcz22_3, hcz22_4, hcz22_5, hcz22_6, hcz22_7, hcz22_8, hcz22_9, hcz22_10, hcz22_11, hcz22_12, hcz22_13⟩ := kt14 BK189.out))
       go_ret
       exact ⟨xe, xb⟩
      ·rw [if_neg c19] at H
       have c19b0 : decide (a0_4 < 0) = false := decide_eq_false c19
       clear c19
       by_cases c23 : a0_4 > 7
       ·rw [if_pos c23] at H
        have c23b0 : decide (7 < a0_4) = true := decide_eq_true c23
        clear c23
        obtain rfl := Option.some.inj H
        obtain ⟨hcz24_0, hcz24_1, hcz24_2, hcz24_3, hcz24_4, hcz24_5, hcz24_6, hcz24_7, hcz24_8, hcz24_9, hcz24_10, hcz24_11, hcz24_12, hcz24_13⟩ := kt14 BK189.out
        go_wp2_with (first | ((with_reducible refine gate_callee (f := 32) rfl ?_); refine goesL_ (some 35) rfl rfl Tryz.func32 (by kernel_rfl) rfl #[.agg #[.bool a0_0, .slice A0_1 l0_1.length c0_1, .slice A0_2 l0_2.length c0_2, .slice A0_3 l0_3.length c0_3, .int .i64 a0_4, .slice A0_5 l0_5.length c0_5, .bool a0_6, .int .i64 a0_7, .string a0_8, .bool a0_9, .int .i64 a0_10, .bool a0_11, .bool a0_12, .int .i64 a0_13]] rfl xr ?_; (with_reducible refine (job_Job_goes.calls kj8 a0_0 _ _ l0_1 _ _ l0_2 _ _ l0_3 a0_4 _ _ l0_5 a0_6 a0_7 a0_8 a0_9 a0_10 a0_11 a0_12 a0_13 true _ (Tabs.below hT xf) ?side1 ?side2 ?side3 ?side4 ?side5 ?side6 ?side7 ?side8 A17.out).mono ?_); (case side1 => exact Kd.C_below HR0_1.out xb); (case side2 => exact HC0_1.out); (case side3 => exact Kd.C_below HR0_2.out xb); (case side4 => exact HC0_2.out); (case side5 => exact Kd.C_below HR0_3.out xb); (case side6 => exact HC0_3.out); (case side7 => exact Kd.C_below HR0_5.out xb); (case side8 => exact HC0_5.out); rintro e w25 ⟨rfl, hb⟩; refine ⟨_, rfl, ?_⟩; replace BK189 := xd BK189.out hb; replace HB := xy (below_step xb hb); (try clear hb); (try clear hb2); (try clear hk); (try clear hi); obtain ⟨hcz26_0, hcz26_1, hcz26_2, hcz26_3, hcz26_4, hcz26_5, hcz26_6, hcz26_7, hcz26_8, hcz26_9, hcz26_10, hcz26_11, hcz26_12, hcz26_13⟩ := kt14 BK189.out))
        go_ret
        exact ⟨xe, xb⟩
       ·rw [if_neg c23] at H
        have c23b0 : decide (7 < a0_4) = false := decide_eq_false c23
        clear c23
        by_cases c27 : a0_4 = 7
        ·rw [if_pos c27] at H
         have c27b0 : (a0_4 == 7) = true := beq_iff_eq.mpr c27
         have c27b1 : (a0_4 != 7) = false := bne_eq_false_iff_eq.mpr c27
         clear c27
         replace H := xj H
         obtain ⟨t194, A280, H⟩ := H
         try dsimp only at H
         have A28 := xy A280
         clear A280
         by_cases c29 : t194 = true
         ·subst c29
          rw [if_pos rfl] at H
          by_cases c30 : a0_9 = true
          ·subst c30
           rw [if_pos rfl] at H
           by_cases c31 : a0_4 > 2
           ·rw [if_pos c31] at H
            have c31b0 : decide (2 < a0_4) = true := decide_eq_true c31
            clear c31
            obtain rfl := Option.some.inj H
            obtain ⟨hcz32_0, hcz32_1, hcz32_2, hcz32_3, hcz32_4, hcz32_5, hcz32_6, hcz32_7, hcz32_8, hcz32_9, hcz32_10, hcz32_11, hcz32_12, hcz32_13⟩ := kt14 BK189.out
            go_wp2_with (first | ((with_reducible refine gate_callee (f := 32) rfl ?_); refine goesL_ (some 35) rfl rfl Tryz.func32 (by kernel_rfl) rfl #[.agg #[.bool a0_0, .slice A0_1 l0_1.length c0_1, .slice A0_2 l0_2.length c0_2, .slice A0_3 l0_3.length c0_3, .int .i64 a0_4, .slice A0_5 l0_5.length c0_5, .bool a0_6, .int .i64 a0_7, .string a0_8, .bool true, .int .i64 a0_10, .bool a0_11, .bool a0_12, .int .i64 a0_13]] rfl xr ?_; (with_reducible refine (job_Job_goes.calls kj8 a0_0 _ _ l0_1 _ _ l0_2 _ _ l0_3 a0_4 _ _ l0_5 a0_6 a0_7 a0_8 true a0_10 a0_11 a0_12 a0_13 true _ (Tabs.below hT xf) ?side1 ?side2 ?side3 ?side4 ?side5 ?side6 ?side7 ?side8 A17.out).mono ?_); (case side1 => exact Kd.C_below HR0_1.out xb); (case side2 => exact HC0_1.out); (case side3 => exact Kd.C_below HR0_2.out xb); (case side4 => exact HC0_2.out); (case side5 => exact Kd.C_below HR0_3.out xb); (case side6 => exact HC0_3.out); (case side7 => exact Kd.C_below HR0_5.out xb); (case side8 => exact HC0_5.out); rintro e w33 ⟨rfl, hb⟩; refine ⟨_, rfl, ?_⟩; replace BK189 := xd BK189.out hb; replace HB := xy (below_step xb hb); (try clear hb); (try clear hb2); (try clear hk); (try clear hi); obtain ⟨hcz34_0, hcz34_1, hcz34_2, hcz34_3, hcz34_4, hcz34_5, hcz34_6, hcz34_7, hcz34_8, hcz34_9, hcz34_10, hcz34_11, hcz34_12, hcz34_13⟩ := kt14 BK189.out) | (go_at_call 33; (with_reducible refine (job_isVal.calls a0_6 a0_7 a0_8 true _ (Tabs.below hT xf) A28.out).mono ?_); rintro e w35 ⟨rfl, hb⟩; replace BK189 := xd BK189.out hb; replace HB := xy (below_step xb hb); (try clear hb); (try clear hb2); (try clear hk); (try clear hi); obtain ⟨hcz36_0, hcz36_1, hcz36_2, hcz36_3, hcz36_4, hcz36_5, hcz36_6, hcz36_7, hcz36_8, hcz36_9, hcz36_10, hcz36_11, hcz36_12, hcz36_13⟩ := kt14 BK189.out))
            go_ret
            exact ⟨xe, xb⟩
           ·rw [if_neg c31] at H
            have c31b0 : decide (2 < a0_4) = false := decide_eq_false c31
            clear c31
            by_cases c37 : x4_8 = true
            ·subst c37
             rw [if_pos rfl] at H
             obtain rfl := Option.some.inj H
             obtain ⟨hcz38_0, hcz38_1, hcz38_2, hcz38_3, hcz38_4, hcz38_5, hcz38_6, hcz38_7, hcz38_8, hcz38_9, hcz38_10, hcz38_11, hcz38_12, hcz38_13⟩ := kt14 BK189.out
             go_wp2_with (first | ((with_reducible refine gate_callee (f := 32) rfl ?_); refine goesL_ (some 35) rfl rfl Tryz.func32 (by kernel_rfl) rfl #[.agg #[.bool a0_0, .slice A0_1 l0_1.length c0_1, .slice A0_2 l0_2.length c0_2, .slice A0_3 l0_3.length c0_3, .int .i64 a0_4, .slice A0_5 l0_5.length c0_5, .bool a0_6, .int .i64 a0_7, .string a0_8, .bool true, .int .i64 a0_10, .bool a0_11, .bool a0_12, .int .i64 a0_13]] rfl xr ?_; (with_reducible refine (job_Job_goes.calls kj8 a0_0 _ _ l0_1 _ _ l0_2 _ _ l0_3 a0_4 _ _ l0_5 a0_6 a0_7 a0_8 true a0_10 a0_11 a0_12 a0_13 true _ (Tabs.below hT xf) ?side1 ?side2 ?side3 ?side4 ?side5 ?side6 ?side7 ?side8 A17.out).mono ?_); (case side1 => exact Kd.C_below HR0_1.out xb); (case side2 => exact HC0_1.out); (case side3 => exact Kd.C_below HR0_2.out xb); (case side4 => exact HC0_2.out); (case side5 => exact Kd.C_below HR0_3.out xb); (case side6 => exact HC0_3.out); (case side7 => exact Kd.C_below HR0_5.out xb); (case side8 => exact HC0_5.out); rintro e w39 ⟨rfl, hb⟩; refine ⟨_, rfl, ?_⟩; replace BK189 := xd BK189.out hb; replace HB := xy (below_step xb hb); (try clear hb); (try clear hb2); (try clear hk); (try clear hi); obtain ⟨hcz40_0, hcz40_1, hcz40_2, hcz40_3, hcz40_4, hcz40_5, hcz40_6, hcz40_7, hcz40_8, hcz40_9, hcz40_10, hcz40_11, hcz40_12, hcz40_13⟩ := kt14 BK189.out) | (go_at_call 33; (with_reducible refine (job_isVal.calls a0_6 a0_7 a0_8 true _ (Tabs.below hT xf) A28.out).mono ?_); rintro e w41 ⟨rfl, hb⟩; replace BK189 := xd BK189.out hb; replace HB := xy (below_step xb hb); (try clear hb); (try clear hb2); (try clear hk); (try clear hi); obtain ⟨hcz42_0, hcz42_1, hcz42_2, hcz42_3, hcz42_4, hcz42_5, hcz42_6, hcz42_7, hcz42_8, hcz42_9, hcz42_10, hcz42_11, hcz42_12, hcz42_13⟩ := kt14 BK189.out))
             go_ret
             exact ⟨xe, xb⟩
            ·replace c37 := Bool.eq_false_iff.mpr c37
             subst c37
             rw [if_neg (show ¬ (false = true) by decide)] at H
             obtain rfl := Option.some.inj H
             obtain ⟨hcz43_0, hcz43_1, hcz43_2, hcz43_3, hcz43_4, hcz43_5, hcz43_6, hcz43_7, hcz43_8, hcz43_9, hcz43_10, hcz43_11, hcz43_12, hcz43_13⟩ := kt14 BK189.out
             go_wp2_with (first | ((with_reducible refine gate_callee (f := 32) rfl ?_); refine goesL_ (some 35) rfl rfl Tryz.func32 (by kernel_rfl) rfl #[.agg #[.bool a0_0, .slice A0_1 l0_1.length c0_1, .slice A0_2 l0_2.length c0_2, .slice A0_3 l0_3.length c0_3, .int .i64 a0_4, .slice A0_5 l0_5.length c0_5, .bool a0_6, .int .i64 a0_7, .string a0_8, .bool true, .int .i64 a0_10, .bool a0_11, .bool a0_12, .int .i64 a0_13]] rfl xr ?_; (with_reducible refine (job_Job_goes.calls kj8 a0_0 _ _ l0_1 _ _ l0_2 _ _ l0_3 a0_4 _ _ l0_5 a0_6 a0_7 a0_8 true a0_10 a0_11 a0_12 a0_13 true _ (Tabs.below hT xf) ?side1 ?side2 ?side3 ?side4 ?side5 ?side6 ?side7 ?side8 A17.out).mono ?_); (case side1 => exact Kd.C_below HR0_1.out xb); (case side2 => exact HC0_1.out); (case side3 => exact Kd.C_below HR0_2.out xb); (case side4 => exact HC0_2.out); (case side5 => exact Kd.C_below HR0_3.out xb); (case side6 => exact HC0_3.out); (case side7 => exact Kd.C_below HR0_5.out xb); (case side8 => exact HC0_5.out); rintro e w44 ⟨rfl, hb⟩; refine ⟨_, rfl, ?_⟩; replace BK189 := xd BK189.out hb; replace HB := xy (below_step xb hb); (try clear hb); (try clear hb2); (try clear hk); (try clear hi); obtain ⟨hcz45_0, hcz45_1, hcz45_2, hcz45_3, hcz45_4, hcz45_5, hcz45_6, hcz45_7, hcz45_8, hcz45_9, hcz45_10, hcz45_11, hcz45_12, hcz45_13⟩ := kt14 BK189.out) | (go_at_call 33; (with_reducible refine (job_isVal.calls a0_6 a0_7 a0_8 true _ (Tabs.below hT xf) A28.out).mono ?_); rintro e w46 ⟨rfl, hb⟩; replace BK189 := xd BK189.out hb; replace HB := xy (below_step xb hb); (try clear hb); (try clear hb2); (try clear hk); (try clear hi); obtain ⟨hcz47_0, hcz47_1, hcz47_2, hcz47_3, hcz47_4, hcz47_5, hcz47_6, hcz47_7, hcz47_8, hcz47_9, hcz47_10, hcz47_11, hcz47_12, hcz47_13⟩ := kt14 BK189.out))
             go_ret
             exact ⟨xe, xb⟩
          ·replace c30 := Bool.eq_false_iff.mpr c30
           subst c30
           rw [if_neg (show ¬ (false = true) by decide)] at H
           by_cases c48 : x4_8 = true
           ·subst c48
            rw [if_pos rfl] at H
            obtain rfl := Option.some.inj H
            obtain ⟨hcz49_0, hcz49_1, hcz49_2, hcz49_3, hcz49_4, hcz49_5, hcz49_6, hcz49_7, hcz49_8, hcz49_9, hcz49_10, hcz49_11, hcz49_12, hcz49_13⟩ := kt14 BK189.out
            go_wp2_with (first | ((with_reducible refine gate_callee (f := 32) rfl ?_); refine goesL_ (some 35) rfl rfl Tryz.func32 (by kernel_rfl) rfl #[.agg #[.bool a0_0, .slice A0_1 l0_1.length c0_1, .slice A0_2 l0_2.length c0_2, .slice A0_3 l0_3.length c0_3, .int .i64 a0_4, .slice A0_5 l0_5.length c0_5, .bool a0_6, .int .i64 a0_7, .string a0_8, .bool false, .int .i64 a0_10, .bool a0_11, .bool a0_12, .int .i64 a0_13]] rfl xr ?_; (with_reducible refine (job_Job_goes.calls kj8 a0_0 _ _ l0_1 _ _ l0_2 _ _ l0_3 a0_4 _ _ l0_5 a0_6 a0_7 a0_8 false a0_10 a0_11 a0_12 a0_13 true _ (Tabs.below hT xf) ?side1 ?side2 ?side3 ?side4 ?side5 ?side6 ?side7 ?side8 A17.out).mono ?_); (case side1 => exact Kd.C_below HR0_1.out xb); (case side2 => exact HC0_1.out); (case side3 => exact Kd.C_below HR0_2.out xb); (case side4 => exact HC0_2.out); (case side5 => exact Kd.C_below HR0_3.out xb); (case side6 => exact HC0_3.out); (case side7 => exact Kd.C_below HR0_5.out xb); (case side8 => exact HC0_5.out); rintro e w50 ⟨rfl, hb⟩; refine ⟨_, rfl, ?_⟩; replace BK189 := xd BK189.out hb; replace HB := xy (below_step xb hb); (try clear hb); (try clear hb2); (try clear hk); (try clear hi); obtain ⟨hcz51_0, hcz51_1, hcz51_2, hcz51_3, hcz51_4, hcz51_5, hcz51_6, hcz51_7, hcz51_8, hcz51_9, hcz51_10, hcz51_11, hcz51_12, hcz51_13⟩ := kt14 BK189.out) | (go_at_call 33; (with_reducible refine (job_isVal.calls a0_6 a0_7 a0_8 true _ (Tabs.below hT xf) A28.out).mono ?_); rintro e w52 ⟨rfl, hb⟩; replace BK189 := xd BK189.out hb; replace HB := xy (below_step xb hb); (try clear hb); (try clear hb2); (try clear hk); (try clear hi); obtain ⟨hcz53_0, hcz53_1, hcz53_2, hcz53_3, hcz53_4, hcz53_5, hcz53_6, hcz53_7, hcz53_8, hcz53_9, hcz53_10, hcz53_11, hcz53_12, hcz53_13⟩ := kt14 BK189.out))
            go_ret
            exact ⟨xe, xb⟩
           ·replace c48 := Bool.eq_false_iff.mpr c48
            subst c48
            rw [if_neg (show ¬ (false = true) by decide)] at H
            obtain rfl := Option.some.inj H
            obtain ⟨hcz54_0, hcz54_1, hcz54_2, hcz54_3, hcz54_4, hcz54_5, hcz54_6, hcz54_7, hcz54_8, hcz54_9, hcz54_10, hcz54_11, hcz54_12, hcz54_13⟩ := kt14 BK189.out
            go_wp2_with (first | ((with_reducible refine gate_callee (f := 32) rfl ?_); refine goesL_ (some 35) rfl rfl Tryz.func32 (by kernel_rfl) rfl #[.agg #[.bool a0_0, .slice A0_1 l0_1.length c0_1, .slice A0_2 l0_2.length c0_2, .slice A0_3 l0_3.length c0_3, .int .i64 a0_4, .slice A0_5 l0_5.length c0_5, .bool a0_6, .int .i64 a0_7, .string a0_8, .bool false, .int .i64 a0_10, .bool a0_11, .bool a0_12, .int .i64 a0_13]] rfl xr ?_; (with_reducible refine (job_Job_goes.calls kj8 a0_0 _ _ l0_1 _ _ l0_2 _ _ l0_3 a0_4 _ _ l0_5 a0_6 a0_7 a0_8 false a0_10 a0_11 a0_12 a0_13 true _ (Tabs.below hT xf) ?side1 ?side2 ?side3 ?side4 ?side5 ?side6 ?side7 ?side8 A17.out).mono ?_); (case side1 => exact Kd.C_below HR0_1.out xb); (case side2 => exact HC0_1.out); (case side3 => exact Kd.C_below HR0_2.out xb); (case side4 => exact HC0_2.out); (case side5 => exact Kd.C_below HR0_3.out xb); (case side6 => exact HC0_3.out); (case side7 => exact Kd.C_below HR0_5.out xb); (case side8 => exact HC0_5.out); rintro e w55 ⟨rfl, hb⟩; refine ⟨_, rfl, ?_⟩; replace BK189 := xd BK189.out hb; replace HB := xy (below_step xb hb); (try clear hb); (try clear hb2); (try clear hk); (try clear hi); obtain ⟨hcz56_0, hcz56_1, hcz56_2, hcz56_3, hcz56_4, hcz56_5, hcz56_6, hcz56_7, hcz56_8, hcz56_9, hcz56_10, hcz56_11, hcz56_12, hcz56_13⟩ := kt14 BK189.out) | (go_at_call 33; (with_reducible refine (job_isVal.calls a0_6 a0_7 a0_8 true _ (Tabs.below hT xf) A28.out).mono ?_); rintro e w57 ⟨rfl, hb⟩; replace BK189 := xd BK189.out hb; replace HB := xy (below_step xb hb); (try clear hb); (try clear hb2); (try clear hk); (try clear hi); obtain ⟨hcz58_0, hcz58_1, hcz58_2, hcz58_3, hcz58_4, hcz58_5, hcz58_6, hcz58_7, hcz58_8, hcz58_9, hcz58_10, hcz58_11, hcz58_12, hcz58_13⟩ := kt14 BK189.out))
            go_ret
            exact ⟨xe, xb⟩
         ·replace c29 := Bool.eq_false_iff.mpr c29
          subst c29
          rw [if_neg (show ¬ (false = true) by decide)] at H
          obtain rfl := Option.some.inj H
          obtain ⟨hcz59_0, hcz59_1, hcz59_2, hcz59_3, hcz59_4, hcz59_5, hcz59_6, hcz59_7, hcz59_8, hcz59_9, hcz59_10, hcz59_11, hcz59_12, hcz59_13⟩ := kt14 BK189.out
          go_wp2_with (first | ((with_reducible refine gate_callee (f := 32) rfl ?_); refine goesL_ (some 35) rfl rfl Tryz.func32 (by kernel_rfl) rfl #[.agg #[.bool a0_0, .slice A0_1 l0_1.length c0_1, .slice A0_2 l0_2.length c0_2, .slice A0_3 l0_3.length c0_3, .int .i64 a0_4, .slice A0_5 l0_5.length c0_5, .bool a0_6, .int .i64 a0_7, .string a0_8, .bool a0_9, .int .i64 a0_10, .bool a0_11, .bool a0_12, .int .i64 a0_13]] rfl xr ?_; (with_reducible refine (job_Job_goes.calls kj8 a0_0 _ _ l0_1 _ _ l0_2 _ _ l0_3 a0_4 _ _ l0_5 a0_6 a0_7 a0_8 a0_9 a0_10 a0_11 a0_12 a0_13 true _ (Tabs.below hT xf) ?side1 ?side2 ?side3 ?side4 ?side5 ?side6 ?side7 ?side8 A17.out).mono ?_); (case side1 => exact Kd.C_below HR0_1.out xb); (case side2 => exact HC0_1.out); (case side3 => exact Kd.C_below HR0_2.out xb); (case side4 => exact HC0_2.out); (case side5 => exact Kd.C_below HR0_3.out xb); (case side6 => exact HC0_3.out); (case side7 => exact Kd.C_below HR0_5.out xb); (case side8 => exact HC0_5.out); rintro e w60 ⟨rfl, hb⟩; refine ⟨_, rfl, ?_⟩; replace BK189 := xd BK189.out hb; replace HB := xy (below_step xb hb); (try clear hb); (try clear hb2); (try clear hk); (try clear hi); obtain ⟨hcz61_0, hcz61_1, hcz61_2, hcz61_3, hcz61_4, hcz61_5, hcz61_6, hcz61_7, hcz61_8, hcz61_9, hcz61_10, hcz61_11, hcz61_12, hcz61_13⟩ := kt14 BK189.out) | (go_at_call 33; (with_reducible refine (job_isVal.calls a0_6 a0_7 a0_8 false _ (Tabs.below hT xf) A28.out).mono ?_); rintro e w62 ⟨rfl, hb⟩; replace BK189 := xd BK189.out hb; replace HB := xy (below_step xb hb); (try clear hb); (try clear hb2); (try clear hk); (try clear hi)))
          go_ret
          exact ⟨xe, xb⟩
        ·rw [if_neg c27] at H
         have c27b0 : (a0_4 == 7) = false := beq_eq_false_iff_ne.mpr c27
         have c27b1 : (a0_4 != 7) = true := bne_iff_ne.mpr c27
         by_cases c63 : x3_1 = true
         ·subst c63
          rw [if_pos rfl] at H
          replace H := xj H
          obtain ⟨t195, A640, H⟩ := H
          try dsimp only at H
          have A64 := xy A640
          clear A640
          by_cases c65 : t195 = true
          ·subst c65
           rw [if_pos rfl] at H
           by_cases c66 : a0_9 = true
           ·subst c66
            rw [if_pos rfl] at H
            by_cases c67 : a0_4 > 2
            ·rw [if_pos c67] at H
             have c67b0 : decide (2 < a0_4) = true := decide_eq_true c67
             clear c67
             obtain rfl := Option.some.inj H
             obtain ⟨hcz68_0, hcz68_1, hcz68_2, hcz68_3, hcz68_4, hcz68_5, hcz68_6, hcz68_7, hcz68_8, hcz68_9, hcz68_10, hcz68_11, hcz68_12, hcz68_13⟩ := kt14 BK189.out
             go_wp2_with (first | ((with_reducible refine gate_callee (f := 32) rfl ?_); refine goesL_ (some 35) rfl rfl Tryz.func32 (by kernel_rfl) rfl #[.agg #[.bool a0_0, .slice A0_1 l0_1.length c0_1, .slice A0_2 l0_2.length c0_2, .slice A0_3 l0_3.length c0_3, .int .i64 a0_4, .slice A0_5 l0_5.length c0_5, .bool a0_6, .int .i64 a0_7, .string a0_8, .bool true, .int .i64 a0_10, .bool a0_11, .bool a0_12, .int .i64 a0_13]] rfl xr ?_; (with_reducible refine (job_Job_goes.calls kj8 a0_0 _ _ l0_1 _ _ l0_2 _ _ l0_3 a0_4 _ _ l0_5 a0_6 a0_7 a0_8 true a0_10 a0_11 a0_12 a0_13 true _ (Tabs.below hT xf) ?side1 ?side2 ?side3 ?side4 ?side5 ?side6 ?side7 ?side8 A17.out).mono ?_); (case side1 => exact Kd.C_below HR0_1.out xb); (case side2 => exact HC0_1.out); (case side3 => exact Kd.C_below HR0_2.out xb); (case side4 => exact HC0_2.out); (case side5 => exact Kd.C_below HR0_3.out xb); (case side6 => exact HC0_3.out); (case side7 => exact Kd.C_below HR0_5.out xb); (case side8 => exact HC0_5.out); rintro e w69 ⟨rfl, hb⟩; refine ⟨_, rfl, ?_⟩; replace BK189 := xd BK189.out hb; replace HB := xy (below_step xb hb); (try clear hb); (try clear hb2); (try clear hk); (try clear hi); obtain ⟨hcz70_0, hcz70_1, hcz70_2, hcz70_3, hcz70_4, hcz70_5, hcz70_6, hcz70_7, hcz70_8, hcz70_9, hcz70_10, hcz70_11, hcz70_12, hcz70_13⟩ := kt14 BK189.out) | (go_at_call 33; (with_reducible refine (job_isVal.calls a0_6 a0_7 a0_8 true _ (Tabs.below hT xf) A64.out).mono ?_); rintro e w71 ⟨rfl, hb⟩; replace BK189 := xd BK189.out hb; replace HB := xy (below_step xb hb); (try clear hb); (try clear hb2); (try clear hk); (try clear hi); obtain ⟨hcz72_0, hcz72_1, hcz72_2, hcz72_3, hcz72_4, hcz72_5, hcz72_6, hcz72_7, hcz72_8, hcz72_9, hcz72_10, hcz72_11, hcz72_12, hcz72_13⟩ := kt14 BK189.out))
             go_ret
             exact ⟨xe, xb⟩
            ·rw [if_neg c67] at H
             have c67b0 : decide (2 < a0_4) = false := decide_eq_false c67
             clear c67
             by_cases c73 : x4_8 = true
             ·subst c73
              rw [if_pos rfl] at H
              obtain rfl := Option.some.inj H
              obtain ⟨hcz74_0, hcz74_1, hcz74_2, hcz74_3, hcz74_4, hcz74_5, hcz74_6, hcz74_7, hcz74_8, hcz74_9, hcz74_10, hcz74_11, hcz74_12, hcz74_13⟩ := kt14 BK189.out
              go_wp2_with (first | ((with_reducible refine gate_callee (f := 32) rfl ?_); refine goesL_ (some 35) rfl rfl Tryz.func32 (by kernel_rfl) rfl #[.agg #[.bool a0_0, .slice A0_1 l0_1.length c0_1, .slice A0_2 l0_2.length c0_2, .slice A0_3 l0_3.length c0_3, .int .i64 a0_4, .slice A0_5 l0_5.length c0_5, .bool a0_6, .int .i64 a0_7, .string a0_8, .bool true, .int .i64 a0_10, .bool a0_11, .bool a0_12, .int .i64 a0_13]] rfl xr ?_; (with_reducible refine (job_Job_goes.calls kj8 a0_0 _ _ l0_1 _ _ l0_2 _ _ l0_3 a0_4 _ _ l0_5 a0_6 a0_7 a0_8 true a0_10 a0_11 a0_12 a0_13 true _ (Tabs.below hT xf) ?side1 ?side2 ?side3 ?side4 ?side5 ?side6 ?side7 ?side8 A17.out).mono ?_); (case side1 => exact Kd.C_below HR0_1.out xb); (case side2 => exact HC0_1.out); (case side3 => exact Kd.C_below HR0_2.out xb); (case side4 => exact HC0_2.out); (case side5 => exact Kd.C_below HR0_3.out xb); (case side6 => exact HC0_3.out); (case side7 => exact Kd.C_below HR0_5.out xb); (case side8 => exact HC0_5.out); rintro e w75 ⟨rfl, hb⟩; refine ⟨_, rfl, ?_⟩; replace BK189 := xd BK189.out hb; replace HB := xy (below_step xb hb); (try clear hb); (try clear hb2); (try clear hk); (try clear hi); obtain ⟨hcz76_0, hcz76_1, hcz76_2, hcz76_3, hcz76_4, hcz76_5, hcz76_6, hcz76_7, hcz76_8, hcz76_9, hcz76_10, hcz76_11, hcz76_12, hcz76_13⟩ := kt14 BK189.out) | (go_at_call 33; (with_reducible refine (job_isVal.calls a0_6 a0_7 a0_8 true _ (Tabs.below hT xf) A64.out).mono ?_); rintro e w77 ⟨rfl, hb⟩; replace BK189 := xd BK189.out hb; replace HB := xy (below_step xb hb); (try clear hb); (try clear hb2); (try clear hk); (try clear hi); obtain ⟨hcz78_0, hcz78_1, hcz78_2, hcz78_3, hcz78_4, hcz78_5, hcz78_6, hcz78_7, hcz78_8, hcz78_9, hcz78_10, hcz78_11, hcz78_12, hcz78_13⟩ := kt14 BK189.out))
              go_ret
              exact ⟨xe, xb⟩
             ·replace c73 := Bool.eq_false_iff.mpr c73
              subst c73
              rw [if_neg (show ¬ (false = true) by decide)] at H
              obtain rfl := Option.some.inj H
              obtain ⟨hcz79_0, hcz79_1, hcz79_2, hcz79_3, hcz79_4, hcz79_5, hcz79_6, hcz79_7, hcz79_8, hcz79_9, hcz79_10, hcz79_11, hcz79_12, hcz79_13⟩ := kt14 BK189.out
              go_wp2_with (first | ((with_reducible refine gate_callee (f := 32) rfl ?_); refine goesL_ (some 35) rfl rfl Tryz.func32 (by kernel_rfl) rfl #[.agg #[.bool a0_0, .slice A0_1 l0_1.length c0_1, .slice A0_2 l0_2.length c0_2, .slice A0_3 l0_3.length c0_3, .int .i64 a0_4, .slice A0_5 l0_5.length c0_5, .bool a0_6, .int .i64 a0_7, .string a0_8, .bool true, .int .i64 a0_10, .bool a0_11, .bool a0_12, .int .i64 a0_13]] rfl xr ?_; (with_reducible refine (job_Job_goes.calls kj8 a0_0 _ _ l0_1 _ _ l0_2 _ _ l0_3 a0_4 _ _ l0_5 a0_6 a0_7 a0_8 true a0_10 a0_11 a0_12 a0_13 true _ (Tabs.below hT xf) ?side1 ?side2 ?side3 ?side4 ?side5 ?side6 ?side7 ?side8 A17.out).mono ?_); (case side1 => exact Kd.C_below HR0_1.out xb); (case side2 => exact HC0_1.out); (case side3 => exact Kd.C_below HR0_2.out xb); (case side4 => exact HC0_2.out); (case side5 => exact Kd.C_below HR0_3.out xb); (case side6 => exact HC0_3.out); (case side7 => exact Kd.C_below HR0_5.out xb); (case side8 => exact HC0_5.out); rintro e w80 ⟨rfl, hb⟩; refine ⟨_, rfl, ?_⟩; replace BK189 := xd BK189.out hb; replace HB := xy (below_step xb hb); (try clear hb); (try clear hb2); (try clear hk); (try clear hi); obtain ⟨hcz81_0, hcz81_1, hcz81_2, hcz81_3, hcz81_4, hcz81_5, hcz81_6, hcz81_7, hcz81_8, hcz81_9, hcz81_10, hcz81_11, hcz81_12, hcz81_13⟩ := kt14 BK189.out) | (go_at_call 33; (with_reducible refine (job_isVal.calls a0_6 a0_7 a0_8 true _ (Tabs.below hT xf) A64.out).mono ?_); rintro e w82 ⟨rfl, hb⟩; replace BK189 := xd BK189.out hb; replace HB := xy (below_step xb hb); (try clear hb); (try clear hb2); (try clear hk); (try clear hi); obtain ⟨hcz83_0, hcz83_1, hcz83_2, hcz83_3, hcz83_4, hcz83_5, hcz83_6, hcz83_7, hcz83_8, hcz83_9, hcz83_10, hcz83_11, hcz83_12, hcz83_13⟩ := kt14 BK189.out))
              go_ret
              exact ⟨xe, xb⟩
           ·replace c66 := Bool.eq_false_iff.mpr c66
            subst c66
            rw [if_neg (show ¬ (false = true) by decide)] at H
            by_cases c84 : x4_8 = true
            ·subst c84
             rw [if_pos rfl] at H
             obtain rfl := Option.some.inj H
             obtain ⟨hcz85_0, hcz85_1, hcz85_2, hcz85_3, hcz85_4, hcz85_5, hcz85_6, hcz85_7, hcz85_8, hcz85_9, hcz85_10, hcz85_11, hcz85_12, hcz85_13⟩ := kt14 BK189.out
             go_wp2_with (first | ((with_reducible refine gate_callee (f := 32) rfl ?_); refine goesL_ (some 35) rfl rfl Tryz.func32 (by kernel_rfl) rfl #[.agg #[.bool a0_0, .slice A0_1 l0_1.length c0_1, .slice A0_2 l0_2.length c0_2, .slice A0_3 l0_3.length c0_3, .int .i64 a0_4, .slice A0_5 l0_5.length c0_5, .bool a0_6, .int .i64 a0_7, .string a0_8, .bool false, .int .i64 a0_10, .bool a0_11, .bool a0_12, .int .i64 a0_13]] rfl xr ?_; (with_reducible refine (job_Job_goes.calls kj8 a0_0 _ _ l0_1 _ _ l0_2 _ _ l0_3 a0_4 _ _ l0_5 a0_6 a0_7 a0_8 false a0_10 a0_11 a0_12 a0_13 true _ (Tabs.below hT xf) ?side1 ?side2 ?side3 ?side4 ?side5 ?side6 ?side7 ?side8 A17.out).mono ?_); (case side1 => exact Kd.C_below HR0_1.out xb); (case side2 => exact HC0_1.out); (case side3 => exact Kd.C_below HR0_2.out xb); (case side4 => exact HC0_2.out); (case side5 => exact Kd.C_below HR0_3.out xb); (case side6 => exact HC0_3.out); (case side7 => exact Kd.C_below HR0_5.out xb); (case side8 => exact HC0_5.out); rintro e w86 ⟨rfl, hb⟩; refine ⟨_, rfl, ?_⟩; replace BK189 := xd BK189.out hb; replace HB := xy (below_step xb hb); (try clear hb); (try clear hb2); (try clear hk); (try clear hi); obtain ⟨hcz87_0, hcz87_1, hcz87_2, hcz87_3, hcz87_4, hcz87_5, hcz87_6, hcz87_7, hcz87_8, hcz87_9, hcz87_10, hcz87_11, hcz87_12, hcz87_13⟩ := kt14 BK189.out) | (go_at_call 33; (with_reducible refine (job_isVal.calls a0_6 a0_7 a0_8 true _ (Tabs.below hT xf) A64.out).mono ?_); rintro e w88 ⟨rfl, hb⟩; replace BK189 := xd BK189.out hb; replace HB := xy (below_step xb hb); (try clear hb); (try clear hb2); (try clear hk); (try clear hi); obtain ⟨hcz89_0, hcz89_1, hcz89_2, hcz89_3, hcz89_4, hcz89_5, hcz89_6, hcz89_7, hcz89_8, hcz89_9, hcz89_10, hcz89_11, hcz89_12, hcz89_13⟩ := kt14 BK189.out))
             go_ret
             exact ⟨xe, xb⟩
            ·replace c84 := Bool.eq_false_iff.mpr c84
             subst c84
             rw [if_neg (show ¬ (false = true) by decide)] at H
             obtain rfl := Option.some.inj H
             obtain ⟨hcz90_0, hcz90_1, hcz90_2, hcz90_3, hcz90_4, hcz90_5, hcz90_6, hcz90_7, hcz90_8, hcz90_9, hcz90_10, hcz90_11, hcz90_12, hcz90_13⟩ := kt14 BK189.out
             go_wp2_with (first | ((with_reducible refine gate_callee (f := 32) rfl ?_); refine goesL_ (some 35) rfl rfl Tryz.func32 (by kernel_rfl) rfl #[.agg #[.bool a0_0, .slice A0_1 l0_1.length c0_1, .slice A0_2 l0_2.length c0_2, .slice A0_3 l0_3.length c0_3, .int .i64 a0_4, .slice A0_5 l0_5.length c0_5, .bool a0_6, .int .i64 a0_7, .string a0_8, .bool false, .int .i64 a0_10, .bool a0_11, .bool a0_12, .int .i64 a0_13]] rfl xr ?_; (with_reducible refine (job_Job_goes.calls kj8 a0_0 _ _ l0_1 _ _ l0_2 _ _ l0_3 a0_4 _ _ l0_5 a0_6 a0_7 a0_8 false a0_10 a0_11 a0_12 a0_13 true _ (Tabs.below hT xf) ?side1 ?side2 ?side3 ?side4 ?side5 ?side6 ?side7 ?side8 A17.out).mono ?_); (case side1 => exact Kd.C_below HR0_1.out xb); (case side2 => exact HC0_1.out); (case side3 => exact Kd.C_below HR0_2.out xb); (case side4 => exact HC0_2.out); (case side5 => exact Kd.C_below HR0_3.out xb); (case side6 => exact HC0_3.out); (case side7 => exact Kd.C_below HR0_5.out xb); (case side8 => exact HC0_5.out); rintro e w91 ⟨rfl, hb⟩; refine ⟨_, rfl, ?_⟩; replace BK189 := xd BK189.out hb; replace HB := xy (below_step xb hb); (try clear hb); (try clear hb2); (try clear hk); (try clear hi); obtain ⟨hcz92_0, hcz92_1, hcz92_2, hcz92_3, hcz92_4, hcz92_5, hcz92_6, hcz92_7, hcz92_8, hcz92_9, hcz92_10, hcz92_11, hcz92_12, hcz92_13⟩ := kt14 BK189.out) | (go_at_call 33; (with_reducible refine (job_isVal.calls a0_6 a0_7 a0_8 true _ (Tabs.below hT xf) A64.out).mono ?_); rintro e w93 ⟨rfl, hb⟩; replace BK189 := xd BK189.out hb; replace HB := xy (below_step xb hb); (try clear hb); (try clear hb2); (try clear hk); (try clear hi); obtain ⟨hcz94_0, hcz94_1, hcz94_2, hcz94_3, hcz94_4, hcz94_5, hcz94_6, hcz94_7, hcz94_8, hcz94_9, hcz94_10, hcz94_11, hcz94_12, hcz94_13⟩ := kt14 BK189.out))
             go_ret
             exact ⟨xe, xb⟩
          ·replace c65 := Bool.eq_false_iff.mpr c65
           subst c65
           rw [if_neg (show ¬ (false = true) by decide)] at H
           obtain rfl := Option.some.inj H
           obtain ⟨hcz95_0, hcz95_1, hcz95_2, hcz95_3, hcz95_4, hcz95_5, hcz95_6, hcz95_7, hcz95_8, hcz95_9, hcz95_10, hcz95_11, hcz95_12, hcz95_13⟩ := kt14 BK189.out
           go_wp2_with (first | ((with_reducible refine gate_callee (f := 32) rfl ?_); refine goesL_ (some 35) rfl rfl Tryz.func32 (by kernel_rfl) rfl #[.agg #[.bool a0_0, .slice A0_1 l0_1.length c0_1, .slice A0_2 l0_2.length c0_2, .slice A0_3 l0_3.length c0_3, .int .i64 a0_4, .slice A0_5 l0_5.length c0_5, .bool a0_6, .int .i64 a0_7, .string a0_8, .bool a0_9, .int .i64 a0_10, .bool a0_11, .bool a0_12, .int .i64 a0_13]] rfl xr ?_; (with_reducible refine (job_Job_goes.calls kj8 a0_0 _ _ l0_1 _ _ l0_2 _ _ l0_3 a0_4 _ _ l0_5 a0_6 a0_7 a0_8 a0_9 a0_10 a0_11 a0_12 a0_13 true _ (Tabs.below hT xf) ?side1 ?side2 ?side3 ?side4 ?side5 ?side6 ?side7 ?side8 A17.out).mono ?_); (case side1 => exact Kd.C_below HR0_1.out xb); (case side2 => exact HC0_1.out); (case side3 => exact Kd.C_below HR0_2.out xb); (case side4 => exact HC0_2.out); (case side5 => exact Kd.C_below HR0_3.out xb); (case side6 => exact HC0_3.out); (case side7 => exact Kd.C_below HR0_5.out xb); (case side8 => exact HC0_5.out); rintro e w96 ⟨rfl, hb⟩; refine ⟨_, rfl, ?_⟩; replace BK189 := xd BK189.out hb; replace HB := xy (below_step xb hb); (try clear hb); (try clear hb2); (try clear hk); (try clear hi); obtain ⟨hcz97_0, hcz97_1, hcz97_2, hcz97_3, hcz97_4, hcz97_5, hcz97_6, hcz97_7, hcz97_8, hcz97_9, hcz97_10, hcz97_11, hcz97_12, hcz97_13⟩ := kt14 BK189.out) | (go_at_call 33; (with_reducible refine (job_isVal.calls a0_6 a0_7 a0_8 false _ (Tabs.below hT xf) A64.out).mono ?_); rintro e w98 ⟨rfl, hb⟩; replace BK189 := xd BK189.out hb; replace HB := xy (below_step xb hb); (try clear hb); (try clear hb2); (try clear hk); (try clear hi)))
           go_ret
           exact ⟨xe, xb⟩
         ·replace c63 := Bool.eq_false_iff.mpr c63
          subst c63
          rw [if_neg (show ¬ (false = true) by decide)] at H
          obtain rfl := Option.some.inj H
          obtain ⟨hcz99_0, hcz99_1, hcz99_2, hcz99_3, hcz99_4, hcz99_5, hcz99_6, hcz99_7, hcz99_8, hcz99_9, hcz99_10, hcz99_11, hcz99_12, hcz99_13⟩ := kt14 BK189.out
          go_wp2_with (first | ((with_reducible refine gate_callee (f := 32) rfl ?_); refine goesL_ (some 35) rfl rfl Tryz.func32 (by kernel_rfl) rfl #[.agg #[.bool a0_0, .slice A0_1 l0_1.length c0_1, .slice A0_2 l0_2.length c0_2, .slice A0_3 l0_3.length c0_3, .int .i64 a0_4, .slice A0_5 l0_5.length c0_5, .bool a0_6, .int .i64 a0_7, .string a0_8, .bool a0_9, .int .i64 a0_10, .bool a0_11, .bool a0_12, .int .i64 a0_13]] rfl xr ?_; (with_reducible refine (job_Job_goes.calls kj8 a0_0 _ _ l0_1 _ _ l0_2 _ _ l0_3 a0_4 _ _ l0_5 a0_6 a0_7 a0_8 a0_9 a0_10 a0_11 a0_12 a0_13 true _ (Tabs.below hT xf) ?side1 ?side2 ?side3 ?side4 ?side5 ?side6 ?side7 ?side8 A17.out).mono ?_); (case side1 => exact Kd.C_below HR0_1.out xb); (case side2 => exact HC0_1.out); (case side3 => exact Kd.C_below HR0_2.out xb); (case side4 => exact HC0_2.out); (case side5 => exact Kd.C_below HR0_3.out xb); (case side6 => exact HC0_3.out); (case side7 => exact Kd.C_below HR0_5.out xb); (case side8 => exact HC0_5.out); rintro e w100 ⟨rfl, hb⟩; refine ⟨_, rfl, ?_⟩; replace BK189 := xd BK189.out hb; replace HB := xy (below_step xb hb); (try clear hb); (try clear hb2); (try clear hk); (try clear hi); obtain ⟨hcz101_0, hcz101_1, hcz101_2, hcz101_3, hcz101_4, hcz101_5, hcz101_6, hcz101_7, hcz101_8, hcz101_9, hcz101_10, hcz101_11, hcz101_12, hcz101_13⟩ := kt14 BK189.out))
          go_ret
          exact ⟨xe, xb⟩
     ·replace c18 := Bool.eq_false_iff.mpr c18
      subst c18
      rw [if_neg (show ¬ (false = true) by decide)] at H
      obtain rfl := Option.some.inj H
      obtain ⟨hcz102_0, hcz102_1, hcz102_2, hcz102_3, hcz102_4, hcz102_5, hcz102_6, hcz102_7, hcz102_8, hcz102_9, hcz102_10, hcz102_11, hcz102_12, hcz102_13⟩ := kt14 BK189.out
      go_wp2_with (first | ((with_reducible refine gate_callee (f := 32) rfl ?_); refine goesL_ (some 35) rfl rfl Tryz.func32 (by kernel_rfl) rfl #[.agg #[.bool a0_0, .slice A0_1 l0_1.length c0_1, .slice A0_2 l0_2.length c0_2, .slice A0_3 l0_3.length c0_3, .int .i64 a0_4, .slice A0_5 l0_5.length c0_5, .bool a0_6, .int .i64 a0_7, .string a0_8, .bool a0_9, .int .i64 a0_10, .bool a0_11, .bool a0_12, .int .i64 a0_13]] rfl xr ?_; (with_reducible refine (job_Job_goes.calls kj8 a0_0 _ _ l0_1 _ _ l0_2 _ _ l0_3 a0_4 _ _ l0_5 a0_6 a0_7 a0_8 a0_9 a0_10 a0_11 a0_12 a0_13 false _ (Tabs.below hT xf) ?side1 ?side2 ?side3 ?side4 ?side5 ?side6 ?side7 ?side8 A17.out).mono ?_); (case side1 => exact Kd.C_below HR0_1.out xb); (case side2 => exact HC0_1.out); (case side3 => exact Kd.C_below HR0_2.out xb); (case side4 => exact HC0_2.out); (case side5 => exact Kd.C_below HR0_3.out xb); (case side6 => exact HC0_3.out); (case side7 => exact Kd.C_below HR0_5.out xb); (case side8 => exact HC0_5.out); rintro e w103 ⟨rfl, hb⟩; refine ⟨_, rfl, ?_⟩; replace BK189 := xd BK189.out hb; replace HB := xy (below_step xb hb); (try clear hb); (try clear hb2); (try clear hk); (try clear hi)))
      go_ret
      exact ⟨xe, xb⟩
end
end Go.Proofs.YtialoecplmnjfaaGreatDoor.PX
