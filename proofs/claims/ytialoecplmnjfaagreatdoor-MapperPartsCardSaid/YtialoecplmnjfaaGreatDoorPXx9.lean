/- Walked functions, by this session's program over the kit's print. -/
import Derived.Test.YtialoecplmnjfaaGreatDoorPXx0
import Derived.Test.YtialoecplmnjfaaGreatDoorPXx7
import Derived.Test.YtialoecplmnjfaaGreatDoorPXx5
namespace Go.Proofs.YtialoecplmnjfaaGreatDoor.PX
open Go.RowKit Go.Proofs.YtialoecplmnjfaaGreatDoorW.PrintWords Go.Proofs.YtialoecplmnjfaaGreatDoorW.PrintLast Go.Proofs.YtialoecplmnjfaaGreatDoorW.PrintMore
attribute [local go_sem] xm_gtr max2_int min2_int max_two min_two max_three min_three max_four min_four
set_option linter.unusedVariables false
set_option linter.unusedSimpArgs false
/- Walked functions, by this session's program over the kit's print. -/
mutual
def job_Job_goes.j0 : Nat → Bool → Bool → List (S50) → List (S50) → List (S50) → Int → List (S50) → Bool → Int → ByteArray → Bool → Int → Bool → Bool → Int → Option (Bool)
 | 0, _, _, _, _, _, _, _, _, _, _, _, _, _, _, _ => none
 | k + 1, x15, x166000, x166001, x166002, x166003, x166004, x166005, x166006, x166007, x166008, x166009, x166010, x166011, x166012, x166013 => if x15 = true then (some false) else ((job_one.f x166003).bind fun bt170 => (if bt170.2 = true then ((check_Check.f k x166002 ([] : List Bool) (([true] : List Bool))).bind fun t175 => (job_Job_goes.j1 k bt170.1 (t175 != 0) x166000 x166001 x166002 x166003 x166004 x166005 x166006 x166007 x166008 x166009 x166010 x166011 x166012 x166013)) else (job_Job_goes.j1 k bt170.1 true x166000 x166001 x166002 x166003 x166004 x166005 x166006 x166007 x166008 x166009 x166010 x166011 x166012 x166013)))
def job_Job_goes.j1 : Nat → Bool → Bool → Bool → List (S50) → List (S50) → List (S50) → Int → List (S50) → Bool → Int → ByteArray → Bool → Int → Bool → Bool → Int → Option (Bool)
 | 0, _, _, _, _, _, _, _, _, _, _, _, _, _, _, _, _ => none
 | k + 1, x3, x30, x166000, x166001, x166002, x166003, x166004, x166005, x166006, x166007, x166008, x166009, x166010, x166011, x166012, x166013 => if x30 = true then (some false) else (if x166004 = 0 then (job_Job_goes.j2 k x3 x166004 (x166004 == 0) x166000 x166001 x166002 x166003 x166004 x166005 x166006 x166007 x166008 x166009 x166010 x166011 x166012 x166013) else (if x166004 = 1 then (job_Job_goes.j2 k x3 x166004 (x166004 == 1) x166000 x166001 x166002 x166003 x166004 x166005 x166006 x166007 x166008 x166009 x166010 x166011 x166012 x166013) else (job_Job_goes.j2 k x3 x166004 (x166004 == 2) x166000 x166001 x166002 x166003 x166004 x166005 x166006 x166007 x166008 x166009 x166010 x166011 x166012 x166013)))
def job_Job_goes.j2 : Nat → Bool → Int → Bool → Bool → List (S50) → List (S50) → List (S50) → Int → List (S50) → Bool → Int → ByteArray → Bool → Int → Bool → Bool → Int → Option (Bool)
 | 0, _, _, _, _, _, _, _, _, _, _, _, _, _, _, _, _, _ => none
 | k + 1, x3, x32, x33, x166000, x166001, x166002, x166003, x166004, x166005, x166006, x166007, x166008, x166009, x166010, x166011, x166012, x166013 => if x33 = true then (some (!x3)) else (if x32 = 6 then (some x3) else (if x32 = 7 then ((check_Check.f k x166005 (([x166006, x3] : List Bool)) (([x166006] : List Bool))).bind fun t182 => (some (t182 == 0))) else (some true)))
end
def job_Job_goes.f (k : Nat) (a0_0 : Bool) (l0_1 : List (S50)) (l0_2 : List (S50)) (l0_3 : List (S50)) (a0_4 : Int) (l0_5 : List (S50)) (a0_6 : Bool) (a0_7 : Int) (a0_8 : ByteArray) (a0_9 : Bool) (a0_10 : Int) (a0_11 : Bool) (a0_12 : Bool) (a0_13 : Int) : Option (Bool) := if (l0_1.length : Int) > 0 then ((check_Check.f k l0_1 ([] : List Bool) (([false] : List Bool))).bind fun t169 => (job_Job_goes.j0 k (t169 != 0) a0_0 l0_1 l0_2 l0_3 a0_4 l0_5 a0_6 a0_7 a0_8 a0_9 a0_10 a0_11 a0_12 a0_13)) else (job_Job_goes.j0 k false a0_0 l0_1 l0_2 l0_3 a0_4 l0_5 a0_6 a0_7 a0_8 a0_9 a0_10 a0_11 a0_12 a0_13)
theorem job_Job_goes.mono_l : ∀ k, (∀ y0 y1 y2 y3 y4 y5 y6 y7 y8 y9 y10 y11 y12 y13 y14, LeO (job_Job_goes.j0 k y0 y1 y2 y3 y4 y5 y6 y7 y8 y9 y10 y11 y12 y13 y14) (job_Job_goes.j0 (k + 1) y0 y1 y2 y3 y4 y5 y6 y7 y8 y9 y10 y11 y12 y13 y14)) ∧ (∀ y0 y1 y2 y3 y4 y5 y6 y7 y8 y9 y10 y11 y12 y13 y14 y15, LeO (job_Job_goes.j1 k y0 y1 y2 y3 y4 y5 y6 y7 y8 y9 y10 y11 y12 y13 y14 y15) (job_Job_goes.j1 (k + 1) y0 y1 y2 y3 y4 y5 y6 y7 y8 y9 y10 y11 y12 y13 y14 y15)) ∧ (∀ y0 y1 y2 y3 y4 y5 y6 y7 y8 y9 y10 y11 y12 y13 y14 y15 y16, LeO (job_Job_goes.j2 k y0 y1 y2 y3 y4 y5 y6 y7 y8 y9 y10 y11 y12 y13 y14 y15 y16) (job_Job_goes.j2 (k + 1) y0 y1 y2 y3 y4 y5 y6 y7 y8 y9 y10 y11 y12 y13 y14 y15 y16))
 | 0 => ⟨fun _ _ _ _ _ _ _ _ _ _ _ _ _ _ _ r h => by simp [job_Job_goes.j0] at h, fun _ _ _ _ _ _ _ _ _ _ _ _ _ _ _ _ r h => by simp [job_Job_goes.j1] at h, fun _ _ _ _ _ _ _ _ _ _ _ _ _ _ _ _ _ r h => by simp [job_Job_goes.j2] at h⟩
 | k + 1 => by
  obtain ⟨ih0, ih1, ih2⟩ := job_Job_goes.mono_l k
  refine ⟨?_, ?_, ?_⟩
  ·intro y0 y1 y2 y3 y4 y5 y6 y7 y8 y9 y10 y11 y12 y13 y14
   unfold job_Job_goes.j0
   repeat' (with_reducible first | exact ih0 _ _ _ _ _ _ _ _ _ _ _ _ _ _ _ | exact ih1 _ _ _ _ _ _ _ _ _ _ _ _ _ _ _ _ | exact ih2 _ _ _ _ _ _ _ _ _ _ _ _ _ _ _ _ _ | exact check_Check.mono _ _ _ _ | exact LeO.refl _ | exact LeO.none _ | refine LeO.ite ?_ ?_ | refine LeO.bind ?_ (fun _ => ?_))
  ·intro y0 y1 y2 y3 y4 y5 y6 y7 y8 y9 y10 y11 y12 y13 y14 y15
   unfold job_Job_goes.j1
   repeat' (with_reducible first | exact ih0 _ _ _ _ _ _ _ _ _ _ _ _ _ _ _ | exact ih1 _ _ _ _ _ _ _ _ _ _ _ _ _ _ _ _ | exact ih2 _ _ _ _ _ _ _ _ _ _ _ _ _ _ _ _ _ | exact check_Check.mono _ _ _ _ | exact LeO.refl _ | exact LeO.none _ | refine LeO.ite ?_ ?_ | refine LeO.bind ?_ (fun _ => ?_))
  ·intro y0 y1 y2 y3 y4 y5 y6 y7 y8 y9 y10 y11 y12 y13 y14 y15 y16
   unfold job_Job_goes.j2
   repeat' (with_reducible first | exact ih0 _ _ _ _ _ _ _ _ _ _ _ _ _ _ _ | exact ih1 _ _ _ _ _ _ _ _ _ _ _ _ _ _ _ _ | exact ih2 _ _ _ _ _ _ _ _ _ _ _ _ _ _ _ _ _ | exact check_Check.mono _ _ _ _ | exact LeO.refl _ | exact LeO.none _ | refine LeO.ite ?_ ?_ | refine LeO.bind ?_ (fun _ => ?_))
theorem job_Job_goes.mono : ∀ a0 a1 a2 a3 a4 a5 a6 a7 a8 a9 a10 a11 a12 a13 k, LeO (job_Job_goes.f k a0 a1 a2 a3 a4 a5 a6 a7 a8 a9 a10 a11 a12 a13) (job_Job_goes.f (k + 1) a0 a1 a2 a3 a4 a5 a6 a7 a8 a9 a10 a11 a12 a13) := by
 intro a0 a1 a2 a3 a4 a5 a6 a7 a8 a9 a10 a11 a12 a13 k
 obtain ⟨ih0, ih1, ih2⟩ := job_Job_goes.mono_l k
 unfold job_Job_goes.f
 repeat' (with_reducible first | exact ih0 _ _ _ _ _ _ _ _ _ _ _ _ _ _ _ | exact ih1 _ _ _ _ _ _ _ _ _ _ _ _ _ _ _ _ | exact ih2 _ _ _ _ _ _ _ _ _ _ _ _ _ _ _ _ _ | exact check_Check.mono _ _ _ _ | exact LeO.refl _ | exact LeO.none _ | refine LeO.ite ?_ ?_ | refine LeO.bind ?_ (fun _ => ?_))
set_option maxHeartbeats 8000000 in
set_option maxRecDepth 100000 in
theorem job_Job_goes.calls (k : Nat) (a0_0 : Bool) (A0_1 : Option Addr) (c0_1 : Nat) (l0_1 : List (S50)) (A0_2 : Option Addr) (c0_2 : Nat) (l0_2 : List (S50)) (A0_3 : Option Addr) (c0_3 : Nat) (l0_3 : List (S50)) (a0_4 : Int) (A0_5 : Option Addr) (c0_5 : Nat) (l0_5 : List (S50)) (a0_6 : Bool) (a0_7 : Int) (a0_8 : ByteArray) (a0_9 : Bool) (a0_10 : Int) (a0_11 : Bool) (a0_12 : Bool) (a0_13 : Int) (r : Bool) (w : World) (hT : Tabs w) (hr0_1 : Kd.C k50 w A0_1 l0_1.length l0_1) (hc0_1 : l0_1.length ≤ c0_1) (hr0_2 : Kd.C k50 w A0_2 l0_2.length l0_2) (hc0_2 : l0_2.length ≤ c0_2) (hr0_3 : Kd.C k50 w A0_3 l0_3.length l0_3) (hc0_3 : l0_3.length ≤ c0_3) (hr0_5 : Kd.C k50 w A0_5 l0_5.length l0_5) (hc0_5 : l0_5.length ≤ c0_5) (h : job_Job_goes.f k a0_0 l0_1 l0_2 l0_3 a0_4 l0_5 a0_6 a0_7 a0_8 a0_9 a0_10 a0_11 a0_12 a0_13 = some r) :
  Calls Tryz.prog 32 #[.agg #[.bool a0_0, .slice A0_1 l0_1.length c0_1, .slice A0_2 l0_2.length c0_2, .slice A0_3 l0_3.length c0_3, .int .i64 a0_4, .slice A0_5 l0_5.length c0_5, .bool a0_6, .int .i64 a0_7, .string a0_8, .bool a0_9, .int .i64 a0_10, .bool a0_11, .bool a0_12, .int .i64 a0_13]] w fun e w' => e = .returned (.bool r) ∧ Below w.heap.size w w' := by
 have hu26 := Tryz.underlying26
 have HR0_1 := xy hr0_1
 have HC0_1 := xy hc0_1
 clear hr0_1 hc0_1
 have HR0_2 := xy hr0_2
 have HC0_2 := xy hc0_2
 clear hr0_2 hc0_2
 have HR0_3 := xy hr0_3
 have HC0_3 := xy hc0_3
 clear hr0_3 hc0_3
 have HR0_5 := xy hr0_5
 have HC0_5 := xy hc0_5
 clear hr0_5 hc0_5
 have HB := xy (Below.refl w.heap.size w)
 unfold job_Job_goes.f at h
 have H := h
 clear h
 have HC2 := xy H
 clear H
 go_enter Tryz.func32, Tryz.ntmps32
 go_upto_region 1 with (first | ((with_reducible refine gate_dst (N := 1) rfl ?_); (try (refine gate_guard (by rfl) ?_; dsimp only)); refine xq (N := 1) (cs := #[.bool a0_0, .slice A0_1 l0_1.length c0_1, .slice A0_2 l0_2.length c0_2, .slice A0_3 l0_3.length c0_3, .int .i64 a0_4, .slice A0_5 l0_5.length c0_5, .bool a0_6, .int .i64 a0_7, .string a0_8, .bool a0_9, .int .i64 a0_10, .bool a0_11, .bool a0_12, .int .i64 a0_13]) (t := 26) ?_; intro gb165 hg w3 hbox hb; have BK165 := xy (hbox); have GW165 := xs w hg; have GE165 := xs w hg; replace HB := xy (below_step xb hb); clear hb hbox hg))
 (try simp only [Act.put, List.setIfInBounds_toArray, List.set_cons_zero, List.set_cons_succ])
 go_cut [15] (fun v15 wc => ∃ (kq : Nat) (x15_1 : Bool), v15 = .bool x15_1 ∧ Aside0 (job_Job_goes.j0 kq x15_1 a0_0 l0_1 l0_2 l0_3 a0_4 l0_5 a0_6 a0_7 a0_8 a0_9 a0_10 a0_11 a0_12 a0_13 = some r) ∧ Aside0 (kq ≤ k) ∧ Aside0 (wc.heap[gb165]? = some (.cells #[.bool a0_0, (.slice A0_1 l0_1.length c0_1), (.slice A0_2 l0_2.length c0_2), (.slice A0_3 l0_3.length c0_3), .int .i64 a0_4, (.slice A0_5 l0_5.length c0_5), .bool a0_6, .int .i64 a0_7, .string a0_8, .bool a0_9, .int .i64 a0_10, .bool a0_11, .bool a0_12, .int .i64 a0_13] 26 (0, 0))) ∧ Aside0 (Below w.heap.size w wc))
 case first =>
  have H := HC2.out
  clear HC2
  by_cases c4 : (l0_1.length : Int) > 0
  ·rw [if_pos c4] at H
   have c4b0 : decide (0 < (l0_1.length : Int)) = true := decide_eq_true c4
   have c4b1 : decide (0 < l0_1.length) = true := decide_eq_true (by omega)
   clear c4
   (first | rw [c4b0] | (simp only [i64_w, i32_w]; rw [c4b0]) | skip)
   obtain ⟨y166, hy166⟩ : ∃ y_ : List Bool, y_ = (([false] : List Bool)) := ⟨_, rfl⟩
   replace H : ((check_Check.f k l0_1 ([] : List Bool) y166).bind fun t169 => (job_Job_goes.j0 k (t169 != 0) a0_0 l0_1 l0_2 l0_3 a0_4 l0_5 a0_6 a0_7 a0_8 a0_9 a0_10 a0_11 a0_12 a0_13)) = some r := by first | (rw [hy166]; with_reducible exact H) | (have H2_ := (Option.bind_some _ _).symm.trans H; rw [hy166]; with_reducible exact H2_) | (have H2_ := (Option.bind_some _ _).symm.trans H; with_reducible exact H2_) | with_reducible exact H | (rw [hy166]; exact H) | exact H
   have Ny166 := xy hy166
   clear hy166
   replace H := xj H
   obtain ⟨t169, A50, H⟩ := H
   try dsimp only at H
   have A5 := xy A50
   clear A50
   have H' := xy H
   clear H
   have hcz6_0 : w3.cell? ⟨gb165, 0, none⟩ = some (.bool a0_0) := (kc BK165.out 0).trans rfl
   have hcz6_1 : w3.cell? ⟨gb165, 1, none⟩ = some (.slice A0_1 l0_1.length c0_1) := (kc BK165.out 1).trans rfl
   have hcz6_2 : w3.cell? ⟨gb165, 2, none⟩ = some (.slice A0_2 l0_2.length c0_2) := (kc BK165.out 2).trans rfl
   have hcz6_3 : w3.cell? ⟨gb165, 3, none⟩ = some (.slice A0_3 l0_3.length c0_3) := (kc BK165.out 3).trans rfl
   have hcz6_4 : w3.cell? ⟨gb165, 4, none⟩ = some (.int .i64 a0_4) := (kc BK165.out 4).trans rfl
   have hcz6_5 : w3.cell? ⟨gb165, 5, none⟩ = some (.slice A0_5 l0_5.length c0_5) := (kc BK165.out 5).trans rfl
   have hcz6_6 : w3.cell? ⟨gb165, 6, none⟩ = some (.bool a0_6) := (kc BK165.out 6).trans rfl
   have hcz6_7 : w3.cell? ⟨gb165, 7, none⟩ = some (.int .i64 a0_7) := (kc BK165.out 7).trans rfl
   have hcz6_8 : w3.cell? ⟨gb165, 8, none⟩ = some (.string a0_8) := (kc BK165.out 8).trans rfl
   have hcz6_9 : w3.cell? ⟨gb165, 9, none⟩ = some (.bool a0_9) := (kc BK165.out 9).trans rfl
   have hcz6_10 : w3.cell? ⟨gb165, 10, none⟩ = some (.int .i64 a0_10) := (kc BK165.out 10).trans rfl
   have hcz6_11 : w3.cell? ⟨gb165, 11, none⟩ = some (.bool a0_11) := (kc BK165.out 11).trans rfl
   have hcz6_12 : w3.cell? ⟨gb165, 12, none⟩ = some (.bool a0_12) := (kc BK165.out 12).trans rfl
   have hcz6_13 : w3.cell? ⟨gb165, 13, none⟩ = some (.int .i64 a0_13) := (kc BK165.out 13).trans rfl
   have hfz6_0 := kf BK165.out 0
   have hfz6_1 := kf BK165.out 1
   have hfz6_2 := kf BK165.out 2
   have hfz6_3 := kf BK165.out 3
   have hfz6_4 := kf BK165.out 4
   have hfz6_5 := kf BK165.out 5
   have hfz6_6 := kf BK165.out 6
   have hfz6_7 := kf BK165.out 7
   have hfz6_8 := kf BK165.out 8
   have hfz6_9 := kf BK165.out 9
   have hfz6_10 := kf BK165.out 10
   have hfz6_11 := kf BK165.out 11
   have hfz6_12 := kf BK165.out 12
   have hfz6_13 := kf BK165.out 13
   go_wp2_with (first | ((with_reducible refine gate_dst (N := 12) rfl ?_); (try (refine gate_guard (by rfl) ?_; dsimp only)); refine Kd.R_lit Kd.bool _ 4 ?hg (N := 12) ?hd (xs := ([false] : List Bool)) (inner := [.bool false]) (ok := fun _ => True) (okp := fun _ => True) ?hr ?hp (fun _ hk => hk) trivial (Below.refl _ _) (Nat.le_refl _) (by simp) ?_; (case hd => rfl); (case hg => rfl); (case hr => exact xh); (case hp => exact (Reps.one (show Kd.M Kd.bool _ _ _ false [.bool false] from rfl) (Reps.none _ _))); intro v167 w7 ho8 hb hg_ hnew_; clear hg_ hnew_; (first | rw [← Ny166.out] at ho8 | (simp only [Int.reduceToNat] at ho8; rw [← Ny166.out] at ho8)); have HO168 := xy (Kd.R_lower ho8 (below_size xb)); replace BK165 := xd BK165.out hb; replace HB := xy (below_step xb hb); clear hb ho8; obtain ⟨Ao9, co9, eo9⟩ := Kd.R_slice HO168.out; subst eo9) | (go_at_call 37; (refine (check_Check.calls k _ _ l0_1 _ _ ([] : List Bool) _ _ y166 t169 _ (Tabs.below hT xf) ?side1 ?side2 ?side3 ?side4 ?side5 ?side6 A5.out).mono ?_); (case side1 => exact Kd.C_below HR0_1.out xb); (case side2 => exact HC0_1.out); (case side3 => exact Kd.C_nil _ _); (case side4 => exact Nat.le_refl _); (case side5 => repeat (first | exact (Kd.R_reads' HO168.out).2.2 | (with_reducible refine Kd.C_alloc ?_ _) | (with_reducible refine Kd.C_drewN ?_ _) | (with_reducible refine Kd.C_drew ?_))); (case side6 => exact (Kd.R_reads' HO168.out).2.1); rintro e w10 ⟨rfl, hb⟩; replace HO168 := xy (Kd.R_below (xo HO168.out) hb); replace BK165 := xd BK165.out hb; replace HB := xy (below_step xb hb); (try clear hb); (try clear hb2); (try clear hk); (try clear hi)))
   go_meet
   case rel => exact ⟨_, ((t169 != 0)), xg, H', ⟨by first | omega | exact Nat.le_refl _⟩, ⟨by (with_reducible repeat (first | refine blk_drewN ?_ _ | refine blk_drew ?_ | refine blk_alloc ?_ _)); exact BK165.out⟩, ⟨xb⟩⟩
  ·rw [if_neg c4] at H
   have c4b0 : decide (0 < (l0_1.length : Int)) = false := decide_eq_false c4
   have c4b1 : decide (0 < l0_1.length) = false := decide_eq_false (by omega)
   clear c4
   (first | rw [c4b0] | (simp only [i64_w, i32_w]; rw [c4b0]) | skip)
   have H' := xy H
   clear H
   have hcz11_0 : w3.cell? ⟨gb165, 0, none⟩ = some (.bool a0_0) := (kc BK165.out 0).trans rfl
   have hcz11_1 : w3.cell? ⟨gb165, 1, none⟩ = some (.slice A0_1 l0_1.length c0_1) := (kc BK165.out 1).trans rfl
   have hcz11_2 : w3.cell? ⟨gb165, 2, none⟩ = some (.slice A0_2 l0_2.length c0_2) := (kc BK165.out 2).trans rfl
   have hcz11_3 : w3.cell? ⟨gb165, 3, none⟩ = some (.slice A0_3 l0_3.length c0_3) := (kc BK165.out 3).trans rfl
   have hcz11_4 : w3.cell? ⟨gb165, 4, none⟩ = some (.int .i64 a0_4) := (kc BK165.out 4).trans rfl
   have hcz11_5 : w3.cell? ⟨gb165, 5, none⟩ = some (.slice A0_5 l0_5.length c0_5) := (kc BK165.out 5).trans rfl
   have hcz11_6 : w3.cell? ⟨gb165, 6, none⟩ = some (.bool a0_6) := (kc BK165.out 6).trans rfl
   have hcz11_7 : w3.cell? ⟨gb165, 7, none⟩ = some (.int .i64 a0_7) := (kc BK165.out 7).trans rfl
   have hcz11_8 : w3.cell? ⟨gb165, 8, none⟩ = some (.string a0_8) := (kc BK165.out 8).trans rfl
   have hcz11_9 : w3.cell? ⟨gb165, 9, none⟩ = some (.bool a0_9) := (kc BK165.out 9).trans rfl
   have hcz11_10 : w3.cell? ⟨gb165, 10, none⟩ = some (.int .i64 a0_10) := (kc BK165.out 10).trans rfl
   have hcz11_11 : w3.cell? ⟨gb165, 11, none⟩ = some (.bool a0_11) := (kc BK165.out 11).trans rfl
   have hcz11_12 : w3.cell? ⟨gb165, 12, none⟩ = some (.bool a0_12) := (kc BK165.out 12).trans rfl
   have hcz11_13 : w3.cell? ⟨gb165, 13, none⟩ = some (.int .i64 a0_13) := (kc BK165.out 13).trans rfl
   have hfz11_0 := kf BK165.out 0
   have hfz11_1 := kf BK165.out 1
   have hfz11_2 := kf BK165.out 2
   have hfz11_3 := kf BK165.out 3
   have hfz11_4 := kf BK165.out 4
   have hfz11_5 := kf BK165.out 5
   have hfz11_6 := kf BK165.out 6
   have hfz11_7 := kf BK165.out 7
   have hfz11_8 := kf BK165.out 8
   have hfz11_9 := kf BK165.out 9
   have hfz11_10 := kf BK165.out 10
   have hfz11_11 := kf BK165.out 11
   have hfz11_12 := kf BK165.out 12
   have hfz11_13 := kf BK165.out 13
   go_wp2
   go_meet
   case rel => exact ⟨_, (false), xg, H', ⟨by first | omega | exact Nat.le_refl _⟩, ⟨by (with_reducible repeat (first | refine blk_drewN ?_ _ | refine blk_drew ?_ | refine blk_alloc ?_ _)); exact BK165.out⟩, ⟨xb⟩⟩
 case rest =>
  clear HC2
  try clear p2
  try clear c3
  try clear c4
  try clear c4b0
  try clear c4b1
  try clear hcz11_0
  try clear hcz11_1
  try clear hcz11_10
  try clear hcz11_11
  try clear hcz11_12
  try clear hcz11_13
  try clear hcz11_2
  try clear hcz11_3
  try clear hcz11_4
  try clear hcz11_5
  try clear hcz11_6
  try clear hcz11_7
  try clear hcz11_8
  try clear hcz11_9
  try clear hcz6_0
  try clear hcz6_1
  try clear hcz6_10
  try clear hcz6_11
  try clear hcz6_12
  try clear hcz6_13
  try clear hcz6_2
  try clear hcz6_3
  try clear hcz6_4
  try clear hcz6_5
  try clear hcz6_6
  try clear hcz6_7
  try clear hcz6_8
  try clear hcz6_9
  try clear hfz11_0
  try clear hfz11_1
  try clear hfz11_10
  try clear hfz11_11
  try clear hfz11_12
  try clear hfz11_13
  try clear hfz11_2
  try clear hfz11_3
  try clear hfz11_4
  try clear hfz11_5
  try clear hfz11_6
  try clear hfz11_7
  try clear hfz11_8
  try clear hfz11_9
  try clear hfz6_0
  try clear hfz6_1
  try clear hfz6_10
  try clear hfz6_11
  try clear hfz6_12
  try clear hfz6_13
  try clear hfz6_2
  try clear hfz6_3
  try clear hfz6_4
  try clear hfz6_5
  try clear hfz6_6
  try clear hfz6_7
  try clear hfz6_8
  try clear hfz6_9
  obtain ⟨kq, x15_1, rfl, HA, HJ1, BK165, HB⟩ := hcut
  cases kq with
  | zero => exact absurd HA.out (by simp [job_Job_goes.j0])
  | succ kj1 =>
   have H := HA.out
   clear HA
   simp only [job_Job_goes.j0] at H
   by_cases c12 : x15_1 = true
   ·subst c12
    rw [if_pos rfl] at H
    obtain rfl := Option.some.inj H
    go_wp2
    go_ret
    exact ⟨xe, xb⟩
   ·replace c12 := Bool.eq_false_iff.mpr c12
    subst c12
    rw [if_neg (show ¬ (false = true) by decide)] at H
    replace H := xj H
    obtain ⟨⟨t170, t171⟩, A130, H⟩ := H
    try dsimp only at H
    have A13 := xy A130
    clear A130
    have HC14 := xy H
    clear H
    have hcz15_0 : wc.cell? ⟨gb165, 0, none⟩ = some (.bool a0_0) := (kc BK165.out 0).trans rfl
    have hcz15_1 : wc.cell? ⟨gb165, 1, none⟩ = some (.slice A0_1 l0_1.length c0_1) := (kc BK165.out 1).trans rfl
    have hcz15_2 : wc.cell? ⟨gb165, 2, none⟩ = some (.slice A0_2 l0_2.length c0_2) := (kc BK165.out 2).trans rfl
    have hcz15_3 : wc.cell? ⟨gb165, 3, none⟩ = some (.slice A0_3 l0_3.length c0_3) := (kc BK165.out 3).trans rfl
    have hcz15_4 : wc.cell? ⟨gb165, 4, none⟩ = some (.int .i64 a0_4) := (kc BK165.out 4).trans rfl
    have hcz15_5 : wc.cell? ⟨gb165, 5, none⟩ = some (.slice A0_5 l0_5.length c0_5) := (kc BK165.out 5).trans rfl
    have hcz15_6 : wc.cell? ⟨gb165, 6, none⟩ = some (.bool a0_6) := (kc BK165.out 6).trans rfl
    have hcz15_7 : wc.cell? ⟨gb165, 7, none⟩ = some (.int .i64 a0_7) := (kc BK165.out 7).trans rfl
    have hcz15_8 : wc.cell? ⟨gb165, 8, none⟩ = some (.string a0_8) := (kc BK165.out 8).trans rfl
    have hcz15_9 : wc.cell? ⟨gb165, 9, none⟩ = some (.bool a0_9) := (kc BK165.out 9).trans rfl
    have hcz15_10 : wc.cell? ⟨gb165, 10, none⟩ = some (.int .i64 a0_10) := (kc BK165.out 10).trans rfl
    have hcz15_11 : wc.cell? ⟨gb165, 11, none⟩ = some (.bool a0_11) := (kc BK165.out 11).trans rfl
    have hcz15_12 : wc.cell? ⟨gb165, 12, none⟩ = some (.bool a0_12) := (kc BK165.out 12).trans rfl
    have hcz15_13 : wc.cell? ⟨gb165, 13, none⟩ = some (.int .i64 a0_13) := (kc BK165.out 13).trans rfl
    have hfz15_0 := kf BK165.out 0
    have hfz15_1 := kf BK165.out 1
    have hfz15_2 := kf BK165.out 2
    have hfz15_3 := kf BK165.out 3
    have hfz15_4 := kf BK165.out 4
    have hfz15_5 := kf BK165.out 5
    have hfz15_6 := kf BK165.out 6
    have hfz15_7 := kf BK165.out 7
    have hfz15_8 := kf BK165.out 8
    have hfz15_9 := kf BK165.out 9
    have hfz15_10 := kf BK165.out 10
    have hfz15_11 := kf BK165.out 11
    have hfz15_12 := kf BK165.out 12
    have hfz15_13 := kf BK165.out 13
    go_upto_region 4 with (first | ((with_reducible refine gate_callee (f := 38) rfl ?_); refine goesL_ (some 19) rfl rfl Tryz.func38 (by kernel_rfl) rfl #[.slice A0_3 l0_3.length c0_3] rfl xr ?_; (with_reducible refine (job_one.calls _ _ l0_3 t170 t171 _ (Tabs.below hT xf) ?side1 ?side2 A13.out).mono ?_); (case side1 => exact Kd.C_below HR0_3.out xb); (case side2 => exact HC0_3.out); rintro e w16 ⟨rfl, hb⟩; refine ⟨_, rfl, ?_⟩; replace BK165 := xd BK165.out hb; replace HB := xy (below_step xb hb); (try clear hb); (try clear hb2); (try clear hk); (try clear hi)))
    (try simp only [Act.put, List.setIfInBounds_toArray, List.set_cons_zero, List.set_cons_succ])
    go_cut [30] (fun v30 wc => ∃ (kq : Nat) (x30_13 : Bool), v30 = .bool x30_13 ∧ Aside0 (job_Job_goes.j1 kq t170 x30_13 a0_0 l0_1 l0_2 l0_3 a0_4 l0_5 a0_6 a0_7 a0_8 a0_9 a0_10 a0_11 a0_12 a0_13 = some r) ∧ Aside0 (kq ≤ kj1) ∧ Aside0 (wc.heap[gb165]? = some (.cells #[.bool a0_0, (.slice A0_1 l0_1.length c0_1), (.slice A0_2 l0_2.length c0_2), (.slice A0_3 l0_3.length c0_3), .int .i64 a0_4, (.slice A0_5 l0_5.length c0_5), .bool a0_6, .int .i64 a0_7, .string a0_8, .bool a0_9, .int .i64 a0_10, .bool a0_11, .bool a0_12, .int .i64 a0_13] 26 (0, 0))) ∧ Aside0 (Below w.heap.size w wc))
    case first =>
     have H := HC14.out
     clear HC14
     by_cases c17 : t171 = true
     ·subst c17
      rw [if_pos rfl] at H
      obtain ⟨y172, hy172⟩ : ∃ y_ : List Bool, y_ = (([true] : List Bool)) := ⟨_, rfl⟩
      replace H : ((check_Check.f kj1 l0_2 ([] : List Bool) y172).bind fun t175 => (job_Job_goes.j1 kj1 t170 (t175 != 0) a0_0 l0_1 l0_2 l0_3 a0_4 l0_5 a0_6 a0_7 a0_8 a0_9 a0_10 a0_11 a0_12 a0_13)) = some r := by first | (rw [hy172]; with_reducible exact H) | (have H2_ := (Option.bind_some _ _).symm.trans H; rw [hy172]; with_reducible exact H2_) | (have H2_ := (Option.bind_some _ _).symm.trans H; with_reducible exact H2_) | with_reducible exact H | (rw [hy172]; exact H) | exact H
      have Ny172 := xy hy172
      clear hy172
      replace H := xj H
      obtain ⟨t175, A180, H⟩ := H
      try dsimp only at H
      have A18 := xy A180
      clear A180
      have H' := xy H
      clear H
      have hcz19_0 : w16.cell? ⟨gb165, 0, none⟩ = some (.bool a0_0) := (kc BK165.out 0).trans rfl
      have hcz19_1 : w16.cell? ⟨gb165, 1, none⟩ = some (.slice A0_1 l0_1.length c0_1) := (kc BK165.out 1).trans rfl
      have hcz19_2 : w16.cell? ⟨gb165, 2, none⟩ = some (.slice A0_2 l0_2.length c0_2) := (kc BK165.out 2).trans rfl
      have hcz19_3 : w16.cell? ⟨gb165, 3, none⟩ = some (.slice A0_3 l0_3.length c0_3) := (kc BK165.out 3).trans rfl
      have hcz19_4 : w16.cell? ⟨gb165, 4, none⟩ = some (.int .i64 a0_4) := (kc BK165.out 4).trans rfl
      have hcz19_5 : w16.cell? ⟨gb165, 5, none⟩ = some (.slice A0_5 l0_5.length c0_5) := (kc BK165.out 5).trans rfl
      have hcz19_6 : w16.cell? ⟨gb165, 6, none⟩ = some (.bool a0_6) := (kc BK165.out 6).trans rfl
      have hcz19_7 : w16.cell? ⟨gb165, 7, none⟩ = some (.int .i64 a0_7) := (kc BK165.out 7).trans rfl
      have hcz19_8 : w16.cell? ⟨gb165, 8, none⟩ = some (.string a0_8) := (kc BK165.out 8).trans rfl
      have hcz19_9 : w16.cell? ⟨gb165, 9, none⟩ = some (.bool a0_9) := (kc BK165.out 9).trans rfl
      have hcz19_10 : w16.cell? ⟨gb165, 10, none⟩ = some (.int .i64 a0_10) := (kc BK165.out 10).trans rfl
      have hcz19_11 : w16.cell? ⟨gb165, 11, none⟩ = some (.bool a0_11) := (kc BK165.out 11).trans rfl
      have hcz19_12 : w16.cell? ⟨gb165, 12, none⟩ = some (.bool a0_12) := (kc BK165.out 12).trans rfl
      have hcz19_13 : w16.cell? ⟨gb165, 13, none⟩ = some (.int .i64 a0_13) := (kc BK165.out 13).trans rfl
      have hfz19_0 := kf BK165.out 0
      have hfz19_1 := kf BK165.out 1
      have hfz19_2 := kf BK165.out 2
      have hfz19_3 := kf BK165.out 3
      have hfz19_4 := kf BK165.out 4
      have hfz19_5 := kf BK165.out 5
      have hfz19_6 := kf BK165.out 6
      have hfz19_7 := kf BK165.out 7
      have hfz19_8 := kf BK165.out 8
      have hfz19_9 := kf BK165.out 9
      have hfz19_10 := kf BK165.out 10
      have hfz19_11 := kf BK165.out 11
      have hfz19_12 := kf BK165.out 12
      have hfz19_13 := kf BK165.out 13
      go_wp2_with (first | ((with_reducible refine gate_dst (N := 27) rfl ?_); (try (refine gate_guard (by rfl) ?_; dsimp only)); refine Kd.R_lit Kd.bool _ 4 ?hg (N := 27) ?hd (xs := ([true] : List Bool)) (inner := [.bool true]) (ok := fun _ => True) (okp := fun _ => True) ?hr ?hp (fun _ hk => hk) trivial (Below.refl _ _) (Nat.le_refl _) (by simp) ?_; (case hd => rfl); (case hg => rfl); (case hr => exact xh); (case hp => exact (Reps.one (show Kd.M Kd.bool _ _ _ true [.bool true] from rfl) (Reps.none _ _))); intro v173 w20 ho21 hb hg_ hnew_; clear hg_ hnew_; (first | rw [← Ny172.out] at ho21 | (simp only [Int.reduceToNat] at ho21; rw [← Ny172.out] at ho21)); have HO174 := xy (Kd.R_lower ho21 (below_size xb)); replace BK165 := xd BK165.out hb; replace HB := xy (below_step xb hb); clear hb ho21; obtain ⟨Ao22, co22, eo22⟩ := Kd.R_slice HO174.out; subst eo22) | (go_at_call 37; (refine (check_Check.calls kj1 _ _ l0_2 _ _ ([] : List Bool) _ _ y172 t175 _ (Tabs.below hT xf) ?side1 ?side2 ?side3 ?side4 ?side5 ?side6 A18.out).mono ?_); (case side1 => exact Kd.C_below HR0_2.out xb); (case side2 => exact HC0_2.out); (case side3 => exact Kd.C_nil _ _); (case side4 => exact Nat.le_refl _); (case side5 => repeat (first | exact (Kd.R_reads' HO174.out).2.2 | (with_reducible refine Kd.C_alloc ?_ _) | (with_reducible refine Kd.C_drewN ?_ _) | (with_reducible refine Kd.C_drew ?_))); (case side6 => exact (Kd.R_reads' HO174.out).2.1); rintro e w23 ⟨rfl, hb⟩; replace HO174 := xy (Kd.R_below (xo HO174.out) hb); replace BK165 := xd BK165.out hb; replace HB := xy (below_step xb hb); (try clear hb); (try clear hb2); (try clear hk); (try clear hi)))
      go_meet
      case rel => exact ⟨_, ((t175 != 0)), xg, H', ⟨by have := HJ1.out; first | omega | exact Nat.le_refl _⟩, ⟨by (with_reducible repeat (first | refine blk_drewN ?_ _ | refine blk_drew ?_ | refine blk_alloc ?_ _)); exact BK165.out⟩, ⟨xb⟩⟩
     ·replace c17 := Bool.eq_false_iff.mpr c17
      subst c17
      rw [if_neg (show ¬ (false = true) by decide)] at H
      have H' := xy H
      clear H
      go_wp2
      go_meet
      case rel => exact ⟨_, (true), xg, H', ⟨by have := HJ1.out; first | omega | exact Nat.le_refl _⟩, ⟨by (with_reducible repeat (first | refine blk_drewN ?_ _ | refine blk_drew ?_ | refine blk_alloc ?_ _)); exact BK165.out⟩, ⟨xb⟩⟩
    case rest =>
     clear HC14
     try clear c1
     try clear p2
     try clear c3
     try clear c4
     try clear c4b0
     try clear c4b1
     try clear c12
     try clear c17
     try clear hcz11_0
     try clear hcz11_1
     try clear hcz11_10
     try clear hcz11_11
     try clear hcz11_12
     try clear hcz11_13
     try clear hcz11_2
     try clear hcz11_3
     try clear hcz11_4
     try clear hcz11_5
     try clear hcz11_6
     try clear hcz11_7
     try clear hcz11_8
     try clear hcz11_9
     try clear hcz15_0
     try clear hcz15_1
     try clear hcz15_10
     try clear hcz15_11
     try clear hcz15_12
     try clear hcz15_13
     try clear hcz15_2
     try clear hcz15_3
     try clear hcz15_4
     try clear hcz15_5
     try clear hcz15_6
     try clear hcz15_7
     try clear hcz15_8
     try clear hcz15_9
     try clear hcz19_0
     try clear hcz19_1
     try clear hcz19_10
     try clear hcz19_11
     try clear hcz19_12
     try clear hcz19_13
     try clear hcz19_2
     try clear hcz19_3
     try clear hcz19_4
     try clear hcz19_5
     try clear hcz19_6
     try clear hcz19_7
     try clear hcz19_8
     try clear hcz19_9
     try clear hcz6_0
     try clear hcz6_1
     try clear hcz6_10
     try clear hcz6_11
     try clear hcz6_12
     try clear hcz6_13
     try clear hcz6_2
     try clear hcz6_3
     try clear hcz6_4
     try clear hcz6_5
     try clear hcz6_6
     try clear hcz6_7
     try clear hcz6_8
     try clear hcz6_9
     try clear hfz11_0
     try clear hfz11_1
     try clear hfz11_10
     try clear hfz11_11
     try clear hfz11_12
     try clear hfz11_13
     try clear hfz11_2
     try clear hfz11_3
     try clear hfz11_4
     try clear hfz11_5
     try clear hfz11_6
     try clear hfz11_7
     try clear hfz11_8
     try clear hfz11_9
     try clear hfz15_0
     try clear hfz15_1
     try clear hfz15_10
     try clear hfz15_11
     try clear hfz15_12
     try clear hfz15_13
     try clear hfz15_2
     try clear hfz15_3
     try clear hfz15_4
     try clear hfz15_5
     try clear hfz15_6
     try clear hfz15_7
     try clear hfz15_8
     try clear hfz15_9
     try clear hfz19_0
     try clear hfz19_1
     try clear hfz19_10
     try clear hfz19_11
     try clear hfz19_12
     try clear hfz19_13
     try clear hfz19_2
     try clear hfz19_3
     try clear hfz19_4
     try clear hfz19_5
     try clear hfz19_6
     try clear hfz19_7
     try clear hfz19_8
     try clear hfz19_9
     try clear hfz6_0
     try clear hfz6_1
     try clear hfz6_10
     try clear hfz6_11
     try clear hfz6_12
     try clear hfz6_13
     try clear hfz6_2
     try clear hfz6_3
     try clear hfz6_4
     try clear hfz6_5
     try clear hfz6_6
     try clear hfz6_7
     try clear hfz6_8
     try clear hfz6_9
     try clear p2
     obtain ⟨kq, x30_13, rfl, HA, HJ13, BK165, HB⟩ := hcut
     cases kq with
     | zero => exact absurd HA.out (by simp [job_Job_goes.j1])
     | succ kj13 =>
      have H := HA.out
      clear HA
      simp only [job_Job_goes.j1] at H
      by_cases c24 : x30_13 = true
      ·subst c24
       rw [if_pos rfl] at H
       obtain rfl := Option.some.inj H
       go_wp2
       go_ret
       exact ⟨xe, xb⟩
      ·replace c24 := Bool.eq_false_iff.mpr c24
       subst c24
       rw [if_neg (show ¬ (false = true) by decide)] at H
       have HC25 := xy H
       clear H
       have hcz26_0 : wc.cell? ⟨gb165, 0, none⟩ = some (.bool a0_0) := (kc BK165.out 0).trans rfl
       have hcz26_1 : wc.cell? ⟨gb165, 1, none⟩ = some (.slice A0_1 l0_1.length c0_1) := (kc BK165.out 1).trans rfl
       have hcz26_2 : wc.cell? ⟨gb165, 2, none⟩ = some (.slice A0_2 l0_2.length c0_2) := (kc BK165.out 2).trans rfl
       have hcz26_3 : wc.cell? ⟨gb165, 3, none⟩ = some (.slice A0_3 l0_3.length c0_3) := (kc BK165.out 3).trans rfl
       have hcz26_4 : wc.cell? ⟨gb165, 4, none⟩ = some (.int .i64 a0_4) := (kc BK165.out 4).trans rfl
       have hcz26_5 : wc.cell? ⟨gb165, 5, none⟩ = some (.slice A0_5 l0_5.length c0_5) := (kc BK165.out 5).trans rfl
       have hcz26_6 : wc.cell? ⟨gb165, 6, none⟩ = some (.bool a0_6) := (kc BK165.out 6).trans rfl
       have hcz26_7 : wc.cell? ⟨gb165, 7, none⟩ = some (.int .i64 a0_7) := (kc BK165.out 7).trans rfl
       have hcz26_8 : wc.cell? ⟨gb165, 8, none⟩ = some (.string a0_8) := (kc BK165.out 8).trans rfl
       have hcz26_9 : wc.cell? ⟨gb165, 9, none⟩ = some (.bool a0_9) := (kc BK165.out 9).trans rfl
       have hcz26_10 : wc.cell? ⟨gb165, 10, none⟩ = some (.int .i64 a0_10) := (kc BK165.out 10).trans rfl
       have hcz26_11 : wc.cell? ⟨gb165, 11, none⟩ = some (.bool a0_11) := (kc BK165.out 11).trans rfl
       have hcz26_12 : wc.cell? ⟨gb165, 12, none⟩ = some (.bool a0_12) := (kc BK165.out 12).trans rfl
       have hcz26_13 : wc.cell? ⟨gb165, 13, none⟩ = some (.int .i64 a0_13) := (kc BK165.out 13).trans rfl
       have hfz26_0 := kf BK165.out 0
       have hfz26_1 := kf BK165.out 1
       have hfz26_2 := kf BK165.out 2
       have hfz26_3 := kf BK165.out 3
       have hfz26_4 := kf BK165.out 4
       have hfz26_5 := kf BK165.out 5
       have hfz26_6 := kf BK165.out 6
       have hfz26_7 := kf BK165.out 7
       have hfz26_8 := kf BK165.out 8
       have hfz26_9 := kf BK165.out 9
       have hfz26_10 := kf BK165.out 10
       have hfz26_11 := kf BK165.out 11
       have hfz26_12 := kf BK165.out 12
       have hfz26_13 := kf BK165.out 13
       go_upto_if 33 with (fail)
       go_cut [33] (fun v33 wc => ∃ (kq : Nat) (x33_24 : Bool), v33 = .bool x33_24 ∧ Aside0 (job_Job_goes.j2 kq t170 a0_4 x33_24 a0_0 l0_1 l0_2 l0_3 a0_4 l0_5 a0_6 a0_7 a0_8 a0_9 a0_10 a0_11 a0_12 a0_13 = some r) ∧ Aside0 (kq ≤ kj13) ∧ Aside0 (wc.heap[gb165]? = some (.cells #[.bool a0_0, (.slice A0_1 l0_1.length c0_1), (.slice A0_2 l0_2.length c0_2), (.slice A0_3 l0_3.length c0_3), .int .i64 a0_4, (.slice A0_5 l0_5.length c0_5), .bool a0_6, .int .i64 a0_7, .string a0_8, .bool a0_9, .int .i64 a0_10, .bool a0_11, .bool a0_12, .int .i64 a0_13] 26 (0, 0))) ∧ Aside0 (Below w.heap.size w wc))
       case first =>
        have H := HC25.out
        clear HC25
        by_cases c27 : a0_4 = 0
        ·rw [if_pos c27] at H
         have c27b0 : (a0_4 == 0) = true := beq_iff_eq.mpr c27
         have c27b1 : (a0_4 != 0) = false := bne_eq_false_iff_eq.mpr c27
         clear c27
         (first | rw [c27b0] | (simp only [i64_w, i32_w]; rw [c27b0]) | skip)
         have H' := xy H
         clear H
         go_wp2
         go_meet
         case rel => exact ⟨_, ((a0_4 == 0)), xg, H', ⟨by have := HJ1.out; have := HJ13.out; first | omega | exact Nat.le_refl _⟩, ⟨by (with_reducible repeat (first | refine blk_drewN ?_ _ | refine blk_drew ?_ | refine blk_alloc ?_ _)); exact BK165.out⟩, ⟨xb⟩⟩
        ·rw [if_neg c27] at H
         have c27b0 : (a0_4 == 0) = false := beq_eq_false_iff_ne.mpr c27
         have c27b1 : (a0_4 != 0) = true := bne_iff_ne.mpr c27
         (first | rw [c27b0] | (simp only [i64_w, i32_w]; rw [c27b0]) | skip)
         by_cases c28 : a0_4 = 1
         ·rw [if_pos c28] at H
          have c28b0 : (a0_4 == 1) = true := beq_iff_eq.mpr c28
          have c28b1 : (a0_4 != 1) = false := bne_eq_false_iff_eq.mpr c28
          clear c28
          have H' := xy H
          clear H
          go_wp2
          go_meet
          case rel => exact ⟨_, ((a0_4 == 1)), xg, H', ⟨by have := HJ1.out; have := HJ13.out; first | omega | exact Nat.le_refl _⟩, ⟨by (with_reducible repeat (first | refine blk_drewN ?_ _ | refine blk_drew ?_ | refine blk_alloc ?_ _)); exact BK165.out⟩, ⟨xb⟩⟩
         ·rw [if_neg c28] at H
          have c28b0 : (a0_4 == 1) = false := beq_eq_false_iff_ne.mpr c28
          have c28b1 : (a0_4 != 1) = true := bne_iff_ne.mpr c28
          have H' := xy H
          clear H
          go_wp2
          go_meet
          case rel => exact ⟨_, ((a0_4 == 2)), xg, H', ⟨by have := HJ1.out; have := HJ13.out; first | omega | exact Nat.le_refl _⟩, ⟨by (with_reducible repeat (first | refine blk_drewN ?_ _ | refine blk_drew ?_ | refine blk_alloc ?_ _)); exact BK165.out⟩, ⟨xb⟩⟩
       case rest =>
        clear HC25
        try clear c1
        try clear c2
        try clear p2
        try clear c3
        try clear c4
        try clear c4b0
        try clear c4b1
        try clear c12
        try clear c17
        try clear c24
        try clear c27
        try clear c27b0
        try clear c27b1
        try clear c28
        try clear c28b0
        try clear c28b1
        try clear hcz11_0
        try clear hcz11_1
        try clear hcz11_10
        try clear hcz11_11
        try clear hcz11_12
        try clear hcz11_13
        try clear hcz11_2
        try clear hcz11_3
        try clear hcz11_4
        try clear hcz11_5
        try clear hcz11_6
        try clear hcz11_7
        try clear hcz11_8
        try clear hcz11_9
        try clear hcz15_0
        try clear hcz15_1
        try clear hcz15_10
        try clear hcz15_11
        try clear hcz15_12
        try clear hcz15_13
        try clear hcz15_2
        try clear hcz15_3
        try clear hcz15_4
        try clear hcz15_5
        try clear hcz15_6
        try clear hcz15_7
        try clear hcz15_8
        try clear hcz15_9
        try clear hcz19_0
        try clear hcz19_1
        try clear hcz19_10
        try clear hcz19_11
        try clear hcz19_12
        try clear hcz19_13
        try clear hcz19_2
        try clear hcz19_3
        try clear hcz19_4
        try clear hcz19_5
        try clear hcz19_6
        try clear hcz19_7
        try clear hcz19_8
        try clear hcz19_9
        try clear hcz26_0
        try clear hcz26_1
        try clear hcz26_10
        try clear hcz26_11
        try clear hcz26_12
        try clear hcz26_13
        try clear hcz26_2
        try clear hcz26_3
        try clear hcz26_4
        try clear hcz26_5
        try clear hcz26_6
        try clear hcz26_7
        try clear hcz26_8
        try clear hcz26_9
        try clear hcz6_0
        try clear hcz6_1
        try clear hcz6_10
        try clear hcz6_11
        try clear hcz6_12
        try clear hcz6_13
        try clear hcz6_2
        try clear hcz6_3
        try clear hcz6_4
        try clear hcz6_5
        try clear hcz6_6
        try clear hcz6_7
        try clear hcz6_8
        try clear hcz6_9
        try clear hfz11_0
        try clear hfz11_1
        try clear hfz11_10
        try clear hfz11_11
        try clear hfz11_12
        try clear hfz11_13
        try clear hfz11_2
        try clear hfz11_3
        try clear hfz11_4
        try clear hfz11_5
        try clear hfz11_6
        try clear hfz11_7
        try clear hfz11_8
        try clear hfz11_9
        try clear hfz15_0
        try clear hfz15_1
        try clear hfz15_10
        try clear hfz15_11
        try clear hfz15_12
        try clear hfz15_13
        try clear hfz15_2
        try clear hfz15_3
        try clear hfz15_4
        try clear hfz15_5
        try clear hfz15_6
        try clear hfz15_7
        try clear hfz15_8
        try clear hfz15_9
        try clear hfz19_0
        try clear hfz19_1
        try clear hfz19_10
        try clear hfz19_11
        try clear hfz19_12
        try clear hfz19_13
        try clear hfz19_2
        try clear hfz19_3
        try clear hfz19_4
        try clear hfz19_5
        try clear hfz19_6
        try clear hfz19_7
        try clear hfz19_8
        try clear hfz19_9
        try clear hfz26_0
        try clear hfz26_1
        try clear hfz26_10
        try clear hfz26_11
        try clear hfz26_12
        try clear hfz26_13
        try clear hfz26_2
        try clear hfz26_3
        try clear hfz26_4
        try clear hfz26_5
        try clear hfz26_6
        try clear hfz26_7
        try clear hfz26_8
        try clear hfz26_9
        try clear hfz6_0
        try clear hfz6_1
        try clear hfz6_10
        try clear hfz6_11
        try clear hfz6_12
        try clear hfz6_13
        try clear hfz6_2
        try clear hfz6_3
        try clear hfz6_4
        try clear hfz6_5
        try clear hfz6_6
        try clear hfz6_7
        try clear hfz6_8
        try clear hfz6_9
        try clear p2
        obtain ⟨kq, x33_24, rfl, HA, HJ24, BK165, HB⟩ := hcut
        cases kq with
        | zero => exact absurd HA.out (by simp [job_Job_goes.j2])
        | succ kj24 =>
         have H := HA.out
         clear HA
         simp only [job_Job_goes.j2] at H
         by_cases c29 : x33_24 = true
         ·subst c29
          rw [if_pos rfl] at H
          obtain rfl := Option.some.inj H
          go_wp2
          go_ret
          exact ⟨xe, xb⟩
         ·replace c29 := Bool.eq_false_iff.mpr c29
          subst c29
          rw [if_neg (show ¬ (false = true) by decide)] at H
          by_cases c30 : a0_4 = 6
          ·rw [if_pos c30] at H
           have c30b0 : (a0_4 == 6) = true := beq_iff_eq.mpr c30
           have c30b1 : (a0_4 != 6) = false := bne_eq_false_iff_eq.mpr c30
           clear c30
           obtain rfl := Option.some.inj H
           go_wp2
           go_ret
           exact ⟨xe, xb⟩
          ·rw [if_neg c30] at H
           have c30b0 : (a0_4 == 6) = false := beq_eq_false_iff_ne.mpr c30
           have c30b1 : (a0_4 != 6) = true := bne_iff_ne.mpr c30
           by_cases c31 : a0_4 = 7
           ·rw [if_pos c31] at H
            have c31b0 : (a0_4 == 7) = true := beq_iff_eq.mpr c31
            have c31b1 : (a0_4 != 7) = false := bne_eq_false_iff_eq.mpr c31
            clear c31
            obtain ⟨y176, hy176⟩ : ∃ y_ : List Bool, y_ = (([a0_6, t170] : List Bool)) := ⟨_, rfl⟩
            replace H : ((check_Check.f kj24 l0_5 y176 (([a0_6] : List Bool))).bind fun t182 => (some (t182 == 0))) = some r := by first | (rw [hy176]; with_reducible exact H) | (have H2_ := (Option.bind_some _ _).symm.trans H; rw [hy176]; with_reducible exact H2_) | (have H2_ := (Option.bind_some _ _).symm.trans H; with_reducible exact H2_) | with_reducible exact H | (rw [hy176]; exact H) | exact H
            have Ny176 := xy hy176
            clear hy176
            obtain ⟨y179, hy179⟩ : ∃ y_ : List Bool, y_ = (([a0_6] : List Bool)) := ⟨_, rfl⟩
            replace H : ((check_Check.f kj24 l0_5 y176 y179).bind fun t182 => (some (t182 == 0))) = some r := by first | (rw [hy179]; with_reducible exact H) | (have H2_ := (Option.bind_some _ _).symm.trans H; rw [hy179]; with_reducible exact H2_) | (have H2_ := (Option.bind_some _ _).symm.trans H; with_reducible exact H2_) | with_reducible exact H | (rw [hy179]; exact H) | exact H
            have Ny179 := xy hy179
            clear hy179
            replace H := xj H
            obtain ⟨t182, A320, H⟩ := H
            try dsimp only at H
            have A32 := xy A320
            clear A320
            obtain rfl := Option.some.inj H
            have hcz33_0 : wc.cell? ⟨gb165, 0, none⟩ = some (.bool a0_0) := (kc BK165.out 0).trans rfl
            have hcz33_1 : wc.cell? ⟨gb165, 1, none⟩ = some (.slice A0_1 l0_1.length c0_1) := (kc BK165.out 1).trans rfl
            have hcz33_2 : wc.cell? ⟨gb165, 2, none⟩ = some (.slice A0_2 l0_2.length c0_2) := (kc BK165.out 2).trans rfl
            have hcz33_3 : wc.cell? ⟨gb165, 3, none⟩ = some (.slice A0_3 l0_3.length c0_3) := (kc BK165.out 3).trans rfl
            have hcz33_4 : wc.cell? ⟨gb165, 4, none⟩ = some (.int .i64 a0_4) := (kc BK165.out 4).trans rfl
            have hcz33_5 : wc.cell? ⟨gb165, 5, none⟩ = some (.slice A0_5 l0_5.length c0_5) := (kc BK165.out 5).trans rfl
            have hcz33_6 : wc.cell? ⟨gb165, 6, none⟩ = some (.bool a0_6) := (kc BK165.out 6).trans rfl
            have hcz33_7 : wc.cell? ⟨gb165, 7, none⟩ = some (.int .i64 a0_7) := (kc BK165.out 7).trans rfl
            have hcz33_8 : wc.cell? ⟨gb165, 8, none⟩ = some (.string a0_8) := (kc BK165.out 8).trans rfl
            have hcz33_9 : wc.cell? ⟨gb165, 9, none⟩ = some (.bool a0_9) := (kc BK165.out 9).trans rfl
            have hcz33_10 : wc.cell? ⟨gb165, 10, none⟩ = some (.int .i64 a0_10) := (kc BK165.out 10).trans rfl
            have hcz33_11 : wc.cell? ⟨gb165, 11, none⟩ = some (.bool a0_11) := (kc BK165.out 11).trans rfl
            have hcz33_12 : wc.cell? ⟨gb165, 12, none⟩ = some (.bool a0_12) := (kc BK165.out 12).trans rfl
            have hcz33_13 : wc.cell? ⟨gb165, 13, none⟩ = some (.int .i64 a0_13) := (kc BK165.out 13).trans rfl
            have hfz33_0 := kf BK165.out 0
            have hfz33_1 := kf BK165.out 1
            have hfz33_2 := kf BK165.out 2
            have hfz33_3 := kf BK165.out 3
            have hfz33_4 := kf BK165.out 4
            have hfz33_5 := kf BK165.out 5
            have hfz33_6 := kf BK165.out 6
            have hfz33_7 := kf BK165.out 7
            have hfz33_8 := kf BK165.out 8
            have hfz33_9 := kf BK165.out 9
            have hfz33_10 := kf BK165.out 10
            have hfz33_11 := kf BK165.out 11
            have hfz33_12 := kf BK165.out 12
            have hfz33_13 := kf BK165.out 13
            go_wp2_with (first | ((with_reducible refine gate_dst (N := 50) rfl ?_); (try (refine gate_guard (by rfl) ?_; dsimp only)); refine Kd.R_lit Kd.bool _ 4 ?hg (N := 50) ?hd (xs := ([a0_6, t170] : List Bool)) (inner := [.bool a0_6, .bool t170]) (ok := fun _ => True) (okp := fun _ => True) ?hr ?hp (fun _ hk => hk) trivial (Below.refl _ _) (Nat.le_refl _) (by simp) ?_; (case hd => rfl); (case hg => rfl); (case hr => exact xh); (case hp => exact (Reps.one (show Kd.M Kd.bool _ _ _ a0_6 [.bool a0_6] from rfl) (Reps.one (show Kd.M Kd.bool _ _ _ t170 [.bool t170] from rfl) (Reps.none _ _)))); intro v177 w34 ho35 hb hg_ hnew_; clear hg_ hnew_; (first | rw [← Ny176.out] at ho35 | (simp only [Int.reduceToNat] at ho35; rw [← Ny176.out] at ho35)); have HO178 := xy (Kd.R_lower ho35 (below_size xb)); replace BK165 := xd BK165.out hb; replace HB := xy (below_step xb hb); clear hb ho35; have hcz36_0 : w34.cell? ⟨gb165, 0, none⟩ = some (.bool a0_0) := (kc BK165.out 0).trans rfl; have hcz36_1 : w34.cell? ⟨gb165, 1, none⟩ = some (.slice A0_1 l0_1.length c0_1) := (kc BK165.out 1).trans rfl; have hcz36_2 : w34.cell? ⟨gb165, 2, none⟩ = some (.slice A0_2 l0_2.length c0_2) := (kc BK165.out 2).trans rfl; have hcz36_3 : w34.cell? ⟨gb165, 3, none⟩ = some (.slice A0_3 l0_3.length c0_3) := (kc BK165.out 3).trans rfl; have hcz36_4 : w34.cell? ⟨gb165, 4, none⟩ = some (.int .i64 a0_4) := (kc BK165.out 4).trans rfl; have hcz36_5 : w34.cell? ⟨gb165, 5, none⟩ = some (.slice A0_5 l0_5.length c0_5) := (kc BK165.out 5).trans rfl; have hcz36_6 : w34.cell? ⟨gb165, 6, none⟩ = some (.bool a0_6) := (kc BK165.out 6).trans rfl; have hcz36_7 : w34.cell? ⟨gb165, 7, none⟩ = some (.int .i64 a0_7) := (kc BK165.out 7).trans rfl; have hcz36_8 : w34.cell? ⟨gb165, 8, none⟩ = some (.string a0_8) := (kc BK165.out 8).trans rfl; have hcz36_9 : w34.cell? ⟨gb165, 9, none⟩ = some (.bool a0_9) := (kc BK165.out 9).trans rfl; have hcz36_10 : w34.cell? ⟨gb165, 10, none⟩ = some (.int .i64 a0_10) := (kc BK165.out 10).trans rfl; have hcz36_11 : w34.cell? ⟨gb165, 11, none⟩ = some (.bool a0_11) := (kc BK165.out 11).trans rfl; have hcz36_12 : w34.cell? ⟨gb165, 12, none⟩ = some (.bool a0_12) := (kc BK165.out 12).trans rfl; have hcz36_13 : w34.cell? ⟨gb165, 13, none⟩ = some (.int .i64 a0_13) := (kc BK165.out 13).trans rfl; have hfz36_0 := kf BK165.out 0; have hfz36_1 := kf BK165.out 1; have hfz36_2 := kf BK165.out 2; have hfz36_3 := kf BK165.out 3; have hfz36_4 := kf BK165.out 4; have hfz36_5 := kf BK165.out 5; have hfz36_6 := kf BK165.out 6; have hfz36_7 := kf BK165.out 7; have hfz36_8 := kf BK165.out 8; have hfz36_9 := kf BK165.out 9; have hfz36_10 := kf BK165.out 10; have hfz36_11 := kf BK165.out 11; have hfz36_12 := kf BK165.out 12; have hfz36_13 := kf BK165.out 13) | ((with_reducible refine gate_dst (N := 54) rfl ?_); (try (refine gate_guard (by rfl) ?_; dsimp only)); refine Kd.R_lit Kd.bool _ 4 ?hg (N := 54) ?hd (xs := ([a0_6] : List Bool)) (inner := [.bool a0_6]) (ok := fun _ => True) (okp := fun _ => True) ?hr ?hp (fun _ hk => hk) trivial (Below.refl _ _) (Nat.le_refl _) (by simp) ?_; (case hd => rfl); (case hg => rfl); (case hr => exact xh); (case hp => exact (Reps.one (show Kd.M Kd.bool _ _ _ a0_6 [.bool a0_6] from rfl) (Reps.none _ _))); intro v180 w37 ho38 hb hg_ hnew_; clear hg_ hnew_; (first | rw [← Ny179.out] at ho38 | (simp only [Int.reduceToNat] at ho38; rw [← Ny179.out] at ho38)); have HO181 := xy (Kd.R_lower (Kd.R_new' ho38 (Kd.R_lt (xo HO178.out))) (below_size xb)); replace HO178 := xy (Kd.R_elder' (xo HO178.out) (Kd.R_base ho38) hb); replace BK165 := xd BK165.out hb; replace HB := xy (below_step xb hb); clear hb ho38; obtain ⟨Ao39, co39, eo39⟩ := Kd.R_slice HO178.out; subst eo39; obtain ⟨Ao40, co40, eo40⟩ := Kd.R_slice HO181.out; subst eo40) | ((with_reducible refine gate_callee (f := 37) rfl ?_); refine goesL_ (some 55) rfl rfl Tryz.func37 (by kernel_rfl) rfl #[.slice A0_5 l0_5.length c0_5, .slice Ao39 y176.length co39, .slice Ao40 y179.length co40] rfl xr ?_; (with_reducible refine (check_Check.calls kj24 _ _ l0_5 _ _ y176 _ _ y179 t182 _ (Tabs.below hT xf) ?side1 ?side2 ?side3 ?side4 ?side5 ?side6 A32.out).mono ?_); (case side1 => exact Kd.C_below HR0_5.out xb); (case side2 => exact HC0_5.out); (case side3 => repeat (first | exact (Kd.R_reads' HO178.out).2.2 | (with_reducible refine Kd.C_alloc ?_ _) | (with_reducible refine Kd.C_drewN ?_ _) | (with_reducible refine Kd.C_drew ?_))); (case side4 => exact (Kd.R_reads' HO178.out).2.1); (case side5 => repeat (first | exact (Kd.R_reads' HO181.out).2.2 | (with_reducible refine Kd.C_alloc ?_ _) | (with_reducible refine Kd.C_drewN ?_ _) | (with_reducible refine Kd.C_drew ?_))); (case side6 => exact (Kd.R_reads' HO181.out).2.1); rintro e w41 ⟨rfl, hb⟩; refine ⟨_, rfl, ?_⟩; replace HO178 := xy (Kd.R_below (xo HO178.out) hb); replace HO181 := xy (Kd.R_below (xo HO181.out) hb); replace BK165 := xd BK165.out hb; replace HB := xy (below_step xb hb); (try clear hb); (try clear hb2); (try clear hk); (try clear hi)))
            go_ret
            exact ⟨xe, xb⟩
           ·rw [if_neg c31] at H
            have c31b0 : (a0_4 == 7) = false := beq_eq_false_iff_ne.mpr c31
            have c31b1 : (a0_4 != 7) = true := bne_iff_ne.mpr c31
            obtain rfl := Option.some.inj H
            go_wp2
            go_ret
            exact ⟨xe, xb⟩
section
/- Walked functions, by this session's program over the kit's print. -/
attribute [local go_sem high] eqA24
def value_Text.f (a0 : ByteArray) : Option (Bool × Int × ByteArray) := if 0 ≤ (mn (a0.size : Int) 1000) then (if (mn (a0.size : Int) 1000) ≤ (a0.size : Int) then (some (true, 0, a0.extract 0 ((mn (a0.size : Int) 1000) : Int).toNat)) else (none)) else (none)
set_option maxHeartbeats 8000000 in
set_option maxRecDepth 100000 in
theorem value_Text.calls (a0 : ByteArray) (r1 : Bool) (r2 : Int) (r3 : ByteArray) (w : World) (hT : Tabs w) (h : value_Text.f a0 = some (r1, r2, r3)) :
  Calls Tryz.prog 39 #[.string a0] w fun e w' => e = .returned (.agg #[.bool r1, .int .i64 r2, .string r3]) ∧ Below w.heap.size w w' := by
 have hu24 := Tryz.underlying24
 have HB := xy (Below.refl w.heap.size w)
 unfold value_Text.f at h
 have H := h
 clear h
 obtain ⟨ji2, hji2⟩ : ∃ j_ : Int, (mn (a0.size : Int) 1000) = j_ := ⟨_, rfl⟩
 replace H : (if 0 ≤ (ji2) then (if (ji2) ≤ (a0.size : Int) then (some (true, 0, a0.extract 0 ((ji2) : Int).toNat)) else (none)) else (none)) = some (r1, r2, r3) := by first | (rw [hji2] at H; exact H) | (simp only [hji2] at H ⊢; exact H)
 (try (have hji2h : ji2 ≤ 1000 := by (rw [← hji2]; unfold mn; (repeat' split) <;> omega)))
 (try (have hji2g : ji2 ≤ 64 := by omega))
 (try (have hji2l : 0 ≤ ji2 := by (rw [← hji2]; unfold mn; (repeat' split) <;> omega)))
 (try (have hji2m : 0 ≤ ji2 := by omega))
 have hji2_ : (if 1000 < (a0.size : Int) then 1000 else (a0.size : Int)) = ji2 := hji2
 by_cases c3 : 0 ≤ (ji2)
 ·rw [if_pos c3] at H
  have c3b0 := eq_true c3
  have c3b1 : decide (0 ≤ (ji2)) = true := decide_eq_true c3
  clear c3
  by_cases c4 : (ji2) ≤ (a0.size : Int)
  ·rw [if_pos c4] at H
   have c4b0 := eq_true c4
   have c4b1 : decide ((ji2) ≤ (a0.size : Int)) = true := decide_eq_true c4
   clear c4
   simp only [Option.some.injEq, Prod.mk.injEq] at H
   obtain ⟨rfl, rfl, rfl⟩ := H
   go_enter Tryz.func39, Tryz.ntmps39
   go_wp2_with (((with_reducible refine gate_dst (N := 2) rfl ?_); refine xq (N := 2) (cs := #[.bool false, .int .i64 0, .string (⟨#[]⟩ : ByteArray)]) (t := 24) ?_; intro gb183 hg w5 hbox hb; have BK183 := xy (hbox); have GW183 := xs w hg; have GE183 := xs w hg; replace HB := xy (below_step xb hb); clear hb hbox hg; have hcz6_0 : w5.cell? ⟨gb183, 0, none⟩ = some (.bool false) := (kc BK183.out 0).trans rfl; have hcz6_1 : w5.cell? ⟨gb183, 1, none⟩ = some (.int .i64 0) := (kc BK183.out 1).trans rfl; have hcz6_2 : w5.cell? ⟨gb183, 2, none⟩ = some (.string (⟨#[]⟩ : ByteArray)) := (kc BK183.out 2).trans rfl; have hfz6_0 := kf BK183.out 0; have hfz6_1 := kf BK183.out 1; have hfz6_2 := kf BK183.out 2))
   refine bodyPost_ret (results_cell_row rfl _ _ gb183 24 #[.bool true, .int .i64 0, .string (a0.extract 0 ((ji2) : Int).toNat)] (0, 0) _ rfl (kp BK183.out) Tryz.underlying24 rfl (by kernel_rfl)) rfl ?_
   exact ⟨by first | rfl | (simp [errW_none, errW_some] <;> rfl) | (simp only [← hji2]; first | rfl | (simp [errW_none, errW_some] <;> rfl)) | (simp [*, errW_none, errW_some] <;> rfl), xb⟩
  ·rw [if_neg c4] at H
   exact absurd H (by simp)
 ·rw [if_neg c3] at H
  exact absurd H (by simp)
def job_isVal.f (a0_0 : Bool) (a0_1 : Int) (a0_2 : ByteArray) : Option (Bool) := (value_Text.f a0_2).bind fun bt185 => (if (a0_0 == bt185.1 && (a0_1 == bt185.2.1 && (a0_2.toList == bt185.2.2.toList))) = true then (some true) else ((value_Num.f a0_1).bind fun bt188 => (some (a0_0 == bt188.1 && (a0_1 == bt188.2.1 && (a0_2.toList == bt188.2.2.toList))))))
def job_isVal.T1 : Bool × List (List Nat × List Nat) := (true, [([], []), ([], []), ([1], [1]), ([2], [2]), ([0, 3], [0, 3]), ([4, 3], [4]), ([5], [5]), ([5], [5]), ([7, 5], [5, 7]), ([8, 5, 5], [5, 8]), ([6, 9, 5], [5, 6, 9]), ([5, 10], [5, 10]), ([11, 9, 0, 1, 2, 3, 4, 5, 6, 7, 8, 9, 10, 11], [11])])
def job_isVal.B1 : List Nat := [0, 0, 2, 6, 15, 31, 63, 63, 191, 447, 1023, 2047, 4095]
theorem job_isVal.tab1 : rtab .any (opsOf Tryz.f33 1) = job_isVal.T1 := by kernel_rfl
theorem job_isVal.bits1 : waitsOk job_isVal.T1.2 job_isVal.B1 = true := by kernel_rfl
set_option maxHeartbeats 8000000 in
set_option maxRecDepth 100000 in
theorem job_isVal.calls (a0_0 : Bool) (a0_1 : Int) (a0_2 : ByteArray) (r : Bool) (w : World) (hT : Tabs w) (h : job_isVal.f a0_0 a0_1 a0_2 = some r) :
  Calls Tryz.prog 33 #[.agg #[.bool a0_0, .int .i64 a0_1, .string a0_2]] w fun e w' => e = .returned (.bool r) ∧ Below w.heap.size w w' := by
 have hu24 := Tryz.underlying24
 have HB := xy (Below.refl w.heap.size w)
 unfold job_isVal.f at h
 have H := h
 clear h
 replace H := xj H
 obtain ⟨⟨t185, t186, t187⟩, A20, H⟩ := H
 try dsimp only at H
 have A2 := xy A20
 clear A20
 by_cases c3 : (a0_0 == t185 && (a0_1 == t186 && (a0_2.toList == t187.toList))) = true
 ·rw [if_pos c3] at H
  have c3b0 : (a0_0 == t185 && (a0_1 == t186 && (a0_2.toList == t187.toList))) = true := c3
  (try (have c3b1 : decide (a0_0 = t185 && (a0_1 == t186 && (a0_2.toList == t187.toList))) = true := by simpa using c3))
  (try (have c3b2 : (a0_0 == t185 && (a0_1 == t186 && (a0_2.toList == t187.toList))) = true := by simpa using c3))
  clear c3
  obtain rfl := Option.some.inj H
  go_enter Tryz.func33, Tryz.ntmps33
  try go_wp2_with (first | ((with_reducible refine gate_dst (N := 1) rfl ?_); refine xq (N := 1) (cs := #[.bool a0_0, .int .i64 a0_1, .string a0_2]) (t := 24) ?_; intro gb184 hg w4 hbox hb; have BK184 := xy (hbox); have GW184 := xs w hg; have GE184 := xs w hg; replace HB := xy (below_step xb hb); clear hb hbox hg))
  replace BK184 := xy (blk_drew BK184.out)
  replace HB := xy (below_drew1 HB.out)
  refine start_ (n := 13) (S := fun w' => w'.cell? ⟨gb184, 0, none⟩ = some (.bool a0_0) ∧ w'.cell? ⟨gb184, 1, none⟩ = some (.int .i64 a0_1) ∧ w'.cell? ⟨gb184, 2, none⟩ = some (.string a0_2)) (ds := []) #[false, false, false, false, false, false, false, false, false, false, false, false, false] (by kernel_rfl) rfl rfl ⟨(kc BK184.out 0).trans rfl, (kc BK184.out 1).trans rfl, (kc BK184.out 2).trans rfl⟩ (fun hHeld => ?_); refine with_tabW job_isVal.tab1 job_isVal.bits1 (fun HT_ HW_ => ?_)
  generalize w4.drew = w5 at BK184 HB hHeld ⊢
  refine yz 1 (some 4) (bs 13 2) HT_.out (h := ?_)
  refine yt 0 (some 3) (bs 13 3) HT_.out HW_.out hHeld (h := ?_)
  refine yt 2 (some 5) (bs 13 7) HT_.out HW_.out hHeld (h := ?_)
  refine one_ (i := 3) (N := some 6) #[true, true, true, true, false, false, false, false, false, false, false, false, false] rfl rfl (one_of HT_.out (by kernel_rfl)) (by decide) (fun K hK => ?_)
  refine goes_ Tryz.func39 (by kernel_rfl) rfl #[.string a0_2] (by rfl) rfl rfl xr ?_
  with_reducible refine (value_Text.calls a0_2 t185 t186 t187 _ (Tabs.below hT xf) A2.out).mono ?_
  rintro e w6 ⟨rfl, hb⟩
  refine ⟨_, rfl, ?_⟩
  replace BK184 := xd BK184.out hb
  replace HB := xy (below_step xb hb)
  (try clear hb)
  (try clear hb2)
  (try clear hk)
  (try clear hi)
  refine hK.out _ _ ⟨(kc BK184.out 0).trans rfl, (kc BK184.out 1).trans rfl, (kc BK184.out 2).trans rfl⟩ (fun hHeld => ?_)
  clear hK K
  refine norm_ (a' := ?_) ?_ ?_
  rotate_left
  ·show Act.put _ (some 6) _ = _
   simp only [Act.put, List.setIfInBounds_toArray, List.set_cons_zero, List.set_cons_succ, i64_w, i32_w]
   rfl
  refine yz 4 (some 7) (bs 13 31) HT_.out (h := ?_)
  refine yz 5 (some 8) (bs 13 63) HT_.out (h := ?_)
  refine yu 6 (some 9) (bs 13 127) HT_.out (h := ?_)
  refine yu 7 (some 10) (bs 13 255) HT_.out (h := ?_)
  refine yu 8 (some 11) (bs 13 511) HT_.out (h := ?_)
  refine yu 9 (some 12) (bs 13 1023) HT_.out (h := ?_)
  refine yu 10 (some 13) (bs 13 2047) HT_.out (h := ?_)
  refine yz 11 (some 14) (bs 13 4095) HT_.out (h := ?_)
  refine yz 12 (some 2) (bs 13 8191) HT_.out (h := ?_)
  refine done_ (done_of HT_.out (by kernel_rfl)) ?_
  try go_wp2
  go_ret
  exact ⟨xe, xb⟩
 ·rw [if_neg c3] at H
  have c3b0 : (a0_0 == t185 && (a0_1 == t186 && (a0_2.toList == t187.toList))) = false := by simpa using c3
  (try (have c3b1 : decide (a0_0 = t185 && (a0_1 == t186 && (a0_2.toList == t187.toList))) = false := by simpa using c3))
  (try (have c3b2 : (a0_0 == t185 && (a0_1 == t186 && (a0_2.toList == t187.toList))) = false := by simpa using c3))
  (try (have c3b3 : ¬ (a0_0 = t185 && (a0_1 == t186 && (a0_2.toList == t187.toList))) := by simpa using c3))
  clear c3
  replace H := xj H
  obtain ⟨⟨t188, t189, t190⟩, A70, H⟩ := H
  try dsimp only at H
  have A7 := xy A70
  clear A70
  obtain rfl := Option.some.inj H
  go_enter Tryz.func33, Tryz.ntmps33
  try go_wp2_with (first | ((with_reducible refine gate_dst (N := 1) rfl ?_); refine xq (N := 1) (cs := #[.bool a0_0, .int .i64 a0_1, .string a0_2]) (t := 24) ?_; intro gb184 hg w8 hbox hb; have BK184 := xy (hbox); have GW184 := xs w hg; have GE184 := xs w hg; replace HB := xy (below_step xb hb); clear hb hbox hg))
  replace BK184 := xy (blk_drew BK184.out)
  replace HB := xy (below_drew1 HB.out)
  refine start_ (n := 13) (S := fun w' => w'.cell? ⟨gb184, 0, none⟩ = some (.bool a0_0) ∧ w'.cell? ⟨gb184, 1, none⟩ = some (.int .i64 a0_1) ∧ w'.cell? ⟨gb184, 2, none⟩ = some (.string a0_2)) (ds := []) #[false, false, false, false, false, false, false, false, false, false, false, false, false] (by kernel_rfl) rfl rfl ⟨(kc BK184.out 0).trans rfl, (kc BK184.out 1).trans rfl, (kc BK184.out 2).trans rfl⟩ (fun hHeld => ?_); refine with_tabW job_isVal.tab1 job_isVal.bits1 (fun HT_ HW_ => ?_)
  generalize w8.drew = w9 at BK184 HB hHeld ⊢
  refine yz 1 (some 4) (bs 13 2) HT_.out (h := ?_)
  refine yt 0 (some 3) (bs 13 3) HT_.out HW_.out hHeld (h := ?_)
  refine yt 2 (some 5) (bs 13 7) HT_.out HW_.out hHeld (h := ?_)
  refine one_ (i := 3) (N := some 6) #[true, true, true, true, false, false, false, false, false, false, false, false, false] rfl rfl (one_of HT_.out (by kernel_rfl)) (by decide) (fun K hK => ?_)
  refine goes_ Tryz.func39 (by kernel_rfl) rfl #[.string a0_2] (by rfl) rfl rfl xr ?_
  with_reducible refine (value_Text.calls a0_2 t185 t186 t187 _ (Tabs.below hT xf) A2.out).mono ?_
  rintro e w10 ⟨rfl, hb⟩
  refine ⟨_, rfl, ?_⟩
  replace BK184 := xd BK184.out hb
  replace HB := xy (below_step xb hb)
  (try clear hb)
  (try clear hb2)
  (try clear hk)
  (try clear hi)
  refine hK.out _ _ ⟨(kc BK184.out 0).trans rfl, (kc BK184.out 1).trans rfl, (kc BK184.out 2).trans rfl⟩ (fun hHeld => ?_)
  clear hK K
  refine norm_ (a' := ?_) ?_ ?_
  rotate_left
  ·show Act.put _ (some 6) _ = _
   simp only [Act.put, List.setIfInBounds_toArray, List.set_cons_zero, List.set_cons_succ, i64_w, i32_w]
   rfl
  refine yz 4 (some 7) (bs 13 31) HT_.out (h := ?_)
  refine yz 5 (some 8) (bs 13 63) HT_.out (h := ?_)
  refine yz 7 (some 10) (bs 13 191) HT_.out (h := ?_)
  refine yt 6 (some 9) (bs 13 255) HT_.out HW_.out hHeld (h := ?_)
  refine yt 8 (some 11) (bs 13 511) HT_.out HW_.out hHeld (h := ?_)
  refine one_ (i := 9) (N := some 12) #[true, true, true, true, true, true, true, true, true, true, false, false, false] rfl rfl (one_of HT_.out (by kernel_rfl)) (by decide) (fun K hK => ?_)
  refine goes_ Tryz.func31 (by kernel_rfl) rfl #[.int .i64 a0_1] (by rfl) rfl rfl xr ?_
  with_reducible refine (value_Num.calls a0_1 t188 t189 t190 _ (Tabs.below hT xf) A7.out).mono ?_
  rintro e w11 ⟨rfl, hb⟩
  refine ⟨_, rfl, ?_⟩
  replace BK184 := xd BK184.out hb
  replace HB := xy (below_step xb hb)
  (try clear hb)
  (try clear hb2)
  (try clear hk)
  (try clear hi)
  refine hK.out _ _ ⟨(kc BK184.out 0).trans rfl, (kc BK184.out 1).trans rfl, (kc BK184.out 2).trans rfl⟩ (fun hHeld => ?_)
  clear hK K
  refine norm_ (a' := ?_) ?_ ?_
  rotate_left
  ·show Act.put _ (some 12) _ = _
   simp only [Act.put, List.setIfInBounds_toArray, List.set_cons_zero, List.set_cons_succ, i64_w, i32_w]
   rfl
  refine yz 10 (some 13) (bs 13 2047) HT_.out (h := ?_)
  refine yz 11 (some 14) (bs 13 4095) HT_.out (h := ?_)
  refine yz 12 (some 2) (bs 13 8191) HT_.out (h := ?_)
  refine done_ (done_of HT_.out (by kernel_rfl)) ?_
  try go_wp2
  go_ret
  exact ⟨xe, xb⟩
end
end Go.Proofs.YtialoecplmnjfaaGreatDoor.PX
