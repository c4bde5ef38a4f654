/- Walked functions, by this session's program over the kit's print. -/
import Derived.Test.YtebofnoljebakaaGreatDoorPXx0
namespace Go.Proofs.YtebofnoljebakaaGreatDoor.PX
open Go.RowKit Go.Proofs.YtebofnoljebakaaGreatDoorW.PrintWords Go.Proofs.YtebofnoljebakaaGreatDoorW.PrintLast Go.Proofs.YtebofnoljebakaaGreatDoorW.PrintMore
attribute [local go_sem] xm_gtr max2_int min2_int max_two min_two max_three min_three max_four min_four
set_option linter.unusedVariables false
set_option linter.unusedSimpArgs false
/- Walked functions, by this session's program over the kit's print. -/
def r13_div.f (a0 : Int) (a1 : Int) : Option (Int × Int) := if a1 = 0 then (some (0, 0)) else (if a1 = (-1) then (some (wrap64 (-a0), 0)) else (some (wrap64 (Int.tdiv a0 a1), Int.tmod a0 a1)))
set_option maxHeartbeats 8000000 in
set_option maxRecDepth 100000 in
theorem r13_div.calls (a0 : Int) (a1 : Int) (r1 : Int) (r2 : Int) (w : World) (hT : Tabs w) (h : r13_div.f a0 a1 = some (r1, r2)) :
  Calls Tryz.prog 64 #[.int .i64 a0, .int .i64 a1] w fun e w' => e = .returned (.tuple #[.int .i64 r1, .int .i64 r2]) ∧ Drawn0 w w' := by
 unfold r13_div.f at h
 have H := h
 clear h
 by_cases c3 : a1 = 0
 ·rw [if_pos c3] at H
  have c3b0 : (a1 == 0) = true := beq_iff_eq.mpr c3
  have c3b1 : (a1 != 0) = false := bne_eq_false_iff_eq.mpr c3
  clear c3
  simp only [Option.some.injEq, Prod.mk.injEq] at H
  obtain ⟨rfl, rfl⟩ := H
  go_enter Tryz.func64, Tryz.ntmps64
  go_wp2
  repeat (go_quiet (fail); try go_wp2)
  go_ret2
  exact ⟨xg, xz⟩
 ·rw [if_neg c3] at H
  have c3b0 : (a1 == 0) = false := beq_eq_false_iff_ne.mpr c3
  have c3b1 : (a1 != 0) = true := bne_iff_ne.mpr c3
  by_cases c4 : a1 = (-1)
  ·rw [if_pos c4] at H
   have c4b0 : (a1 == (-1)) = true := beq_iff_eq.mpr c4
   have c4b1 : (a1 != (-1)) = false := bne_eq_false_iff_eq.mpr c4
   clear c4
   simp only [Option.some.injEq, Prod.mk.injEq] at H
   obtain ⟨rfl, rfl⟩ := H
   go_enter Tryz.func64, Tryz.ntmps64
   go_wp2
   repeat (go_quiet (fail); try go_wp2)
   go_ret2
   exact ⟨xg, xz⟩
  ·rw [if_neg c4] at H
   have c4b0 : (a1 == (-1)) = false := beq_eq_false_iff_ne.mpr c4
   have c4b1 : (a1 != (-1)) = true := bne_iff_ne.mpr c4
   simp only [Option.some.injEq, Prod.mk.injEq] at H
   obtain ⟨rfl, rfl⟩ := H
   go_enter Tryz.func64, Tryz.ntmps64
   go_wp2
   repeat (go_quiet (fail); try go_wp2)
   go_ret2
   exact ⟨xg, xz⟩
def r13_Num.f (a0 : Int) : Option (Bool × Int × ByteArray) := some (false, a0, (⟨#[]⟩ : ByteArray))
set_option maxHeartbeats 8000000 in
set_option maxRecDepth 100000 in
theorem r13_Num.calls (a0 : Int) (r1 : Bool) (r2 : Int) (r3 : ByteArray) (w : World) (hT : Tabs w) (h : r13_Num.f a0 = some (r1, r2, r3)) :
  Calls Tryz.prog 65 #[.int .i64 a0] w fun e w' => e = .returned (.agg #[.bool r1, .int .i64 r2, .string r3]) ∧ Below w.heap.size w w' := by
 have hu24 := Tryz.underlying24
 have HB := xy (Below.refl w.heap.size w)
 unfold r13_Num.f at h
 have H := h
 clear h
 simp only [Option.some.injEq, Prod.mk.injEq] at H
 obtain ⟨rfl, rfl, rfl⟩ := H
 go_enter Tryz.func65, Tryz.ntmps65
 go_wp2_with (((with_reducible refine gate_dst (N := 2) rfl ?_); refine xq (N := 2) (cs := #[.bool false, .int .i64 0, .string (⟨#[]⟩ : ByteArray)]) (t := 24) ?_; intro gb333 hg w2 hbox hb; have BK333 := xy (hbox); have GW333 := xs w hg; have GE333 := xs w hg; replace HB := xy (below_step xb hb); clear hb hbox hg; have hcz3_0 : w2.cell? ⟨gb333, 0, none⟩ = some (.bool false) := (kc BK333.out 0).trans rfl; have hcz3_1 : w2.cell? ⟨gb333, 1, none⟩ = some (.int .i64 0) := (kc BK333.out 1).trans rfl; have hcz3_2 : w2.cell? ⟨gb333, 2, none⟩ = some (.string (⟨#[]⟩ : ByteArray)) := (kc BK333.out 2).trans rfl; have hfz3_0 := kf BK333.out 0; have hfz3_1 := kf BK333.out 1; have hfz3_2 := kf BK333.out 2))
 refine bodyPost_ret (results_cell_row rfl _ _ gb333 24 #[.bool false, .int .i64 a0, .string (⟨#[]⟩ : ByteArray)] (0, 0) _ rfl (kp BK333.out) Tryz.underlying24 rfl (by kernel_rfl)) rfl ?_
 exact ⟨xe, xb⟩
def r13_yes.f (a0 : Bool) : Option (Bool × Int × ByteArray) := if a0 = true then ((r13_Num.f 1).bind fun bt335 => (some (bt335.1, bt335.2.1, bt335.2.2))) else ((r13_Num.f 0).bind fun bt338 => (some (bt338.1, bt338.2.1, bt338.2.2)))
set_option maxHeartbeats 8000000 in
set_option maxRecDepth 100000 in
theorem r13_yes.calls (a0 : Bool) (r1 : Bool) (r2 : Int) (r3 : ByteArray) (w : World) (hT : Tabs w) (h : r13_yes.f a0 = some (r1, r2, r3)) :
  Calls Tryz.prog 66 #[.bool a0] w fun e w' => e = .returned (.agg #[.bool r1, .int .i64 r2, .string r3]) ∧ Below w.heap.size w w' := by
 have hu24 := Tryz.underlying24
 have HB := xy (Below.refl w.heap.size w)
 unfold r13_yes.f at h
 have H := h
 clear h
 by_cases c2 : a0 = true
 ·subst c2
  rw [if_pos rfl] at H
  replace H := xj H
  obtain ⟨⟨t335, t336, t337⟩, A30, H⟩ := H
  try dsimp only at H
  have A3 := xy A30
  clear A30
  simp only [Option.some.injEq, Prod.mk.injEq] at H
  obtain ⟨rfl, rfl, rfl⟩ := H
  go_enter Tryz.func66, Tryz.ntmps66
  go_wp2_with (first | ((with_reducible refine gate_dst (N := 2) rfl ?_); refine xq (N := 2) (cs := #[.bool false, .int .i64 0, .string (⟨#[]⟩ : ByteArray)]) (t := 24) ?_; intro gb334 hg w4 hbox hb; have BK334 := xy (hbox); have GW334 := xs w hg; have GE334 := xs w hg; replace HB := xy (below_step xb hb); clear hb hbox hg) | ((with_reducible refine gate_callee (f := 65) rfl ?_); refine goesL_ (some 4) rfl rfl Tryz.func65 (by kernel_rfl) rfl #[.int .i64 1] rfl xr ?_; (with_reducible refine (r13_Num.calls 1 t335 t336 t337 _ (Tabs.below hT xf) A3.out).mono ?_); rintro e w5 ⟨rfl, hb⟩; refine ⟨_, rfl, ?_⟩; replace BK334 := xd BK334.out hb; replace HB := xy (below_step xb hb); (try clear hb); (try clear hb2); (try clear hk); (try clear hi); have hcz6_0 : w5.cell? ⟨gb334, 0, none⟩ = some (.bool false) := (kc BK334.out 0).trans rfl; have hcz6_1 : w5.cell? ⟨gb334, 1, none⟩ = some (.int .i64 0) := (kc BK334.out 1).trans rfl; have hcz6_2 : w5.cell? ⟨gb334, 2, none⟩ = some (.string (⟨#[]⟩ : ByteArray)) := (kc BK334.out 2).trans rfl; have hfz6_0 := kf BK334.out 0; have hfz6_1 := kf BK334.out 1; have hfz6_2 := kf BK334.out 2))
  refine bodyPost_ret (results_cell_row rfl _ _ gb334 24 #[.bool t335, .int .i64 t336, .string t337] (0, 0) _ rfl (kp BK334.out) Tryz.underlying24 rfl (by kernel_rfl)) rfl ?_
  exact ⟨xe, xb⟩
 ·replace c2 := Bool.eq_false_iff.mpr c2
  subst c2
  rw [if_neg (show ¬ (false = true) by decide)] at H
  replace H := xj H
  obtain ⟨⟨t338, t339, t340⟩, A70, H⟩ := H
  try dsimp only at H
  have A7 := xy A70
  clear A70
  simp only [Option.some.injEq, Prod.mk.injEq] at H
  obtain ⟨rfl, rfl, rfl⟩ := H
  go_enter Tryz.func66, Tryz.ntmps66
  go_wp2_with (first | ((with_reducible refine gate_dst (N := 2) rfl ?_); refine xq (N := 2) (cs := #[.bool false, .int .i64 0, .string (⟨#[]⟩ : ByteArray)]) (t := 24) ?_; intro gb334 hg w8 hbox hb; have BK334 := xy (hbox); have GW334 := xs w hg; have GE334 := xs w hg; replace HB := xy (below_step xb hb); clear hb hbox hg) | ((with_reducible refine gate_callee (f := 65) rfl ?_); refine goesL_ (some 5) rfl rfl Tryz.func65 (by kernel_rfl) rfl #[.int .i64 0] rfl xr ?_; (with_reducible refine (r13_Num.calls 0 t338 t339 t340 _ (Tabs.below hT xf) A7.out).mono ?_); rintro e w9 ⟨rfl, hb⟩; refine ⟨_, rfl, ?_⟩; replace BK334 := xd BK334.out hb; replace HB := xy (below_step xb hb); (try clear hb); (try clear hb2); (try clear hk); (try clear hi); have hcz10_0 : w9.cell? ⟨gb334, 0, none⟩ = some (.bool false) := (kc BK334.out 0).trans rfl; have hcz10_1 : w9.cell? ⟨gb334, 1, none⟩ = some (.int .i64 0) := (kc BK334.out 1).trans rfl; have hcz10_2 : w9.cell? ⟨gb334, 2, none⟩ = some (.string (⟨#[]⟩ : ByteArray)) := (kc BK334.out 2).trans rfl; have hfz10_0 := kf BK334.out 0; have hfz10_1 := kf BK334.out 1; have hfz10_2 := kf BK334.out 2))
  refine bodyPost_ret (results_cell_row rfl _ _ gb334 24 #[.bool t338, .int .i64 t339, .string t340] (0, 0) _ rfl (kp BK334.out) Tryz.underlying24 rfl (by kernel_rfl)) rfl ?_
  exact ⟨xe, xb⟩
def r13_Compare.j0 : Nat → Bool → Bool → Int → ByteArray → Bool → Int → ByteArray → Option (Int)
 | 0, _, _, _, _, _, _, _ => none
 | k + 1, x30, x342000, x342001, x342002, x343000, x343001, x343002 => if x30 = true then (some (-1)) else (if x342001 = x343001 then (if x342002.toList = x343002.toList then (some 0) else (some 1)) else (some 1))
def r13_Compare.f (k : Nat) (a0_0 : Bool) (a0_1 : Int) (a0_2 : ByteArray) (a1_0 : Bool) (a1_1 : Int) (a1_2 : ByteArray) : Option (Int) := if (a0_0 != a1_0) = true then (if a1_0 = true then (some (-1)) else (some 1)) else (if a0_1 < a1_1 then (r13_Compare.j0 k true a0_0 a0_1 a0_2 a1_0 a1_1 a1_2) else (if a0_1 = a1_1 then (r13_Compare.j0 k (Op.bytesLess a0_2.toList a1_2.toList) a0_0 a0_1 a0_2 a1_0 a1_1 a1_2) else (r13_Compare.j0 k false a0_0 a0_1 a0_2 a1_0 a1_1 a1_2)))
theorem r13_Compare.mono_l : ∀ k, (∀ y0 y1 y2 y3 y4 y5 y6, LeO (r13_Compare.j0 k y0 y1 y2 y3 y4 y5 y6) (r13_Compare.j0 (k + 1) y0 y1 y2 y3 y4 y5 y6))
 | 0 => fun _ _ _ _ _ _ _ r h => by simp [r13_Compare.j0] at h
 | k + 1 => by
  have ih0 := r13_Compare.mono_l k
  ·intro y0 y1 y2 y3 y4 y5 y6
   unfold r13_Compare.j0
   repeat' (with_reducible first | exact ih0 _ _ _ _ _ _ _ | exact LeO.refl _ | exact LeO.none _ | refine LeO.ite ?_ ?_ | refine LeO.bind ?_ (fun _ => ?_))
theorem r13_Compare.mono : ∀ a0 a1 a2 a3 a4 a5 k, LeO (r13_Compare.f k a0 a1 a2 a3 a4 a5) (r13_Compare.f (k + 1) a0 a1 a2 a3 a4 a5) := by
 intro a0 a1 a2 a3 a4 a5 k
 have ih0 := r13_Compare.mono_l k
 unfold r13_Compare.f
 repeat' (with_reducible first | exact ih0 _ _ _ _ _ _ _ | exact LeO.refl _ | exact LeO.none _ | refine LeO.ite ?_ ?_ | refine LeO.bind ?_ (fun _ => ?_))
set_option maxHeartbeats 8000000 in
set_option maxRecDepth 100000 in
theorem r13_Compare.calls (k : Nat) (a0_0 : Bool) (a0_1 : Int) (a0_2 : ByteArray) (a1_0 : Bool) (a1_1 : Int) (a1_2 : ByteArray) (r : Int) (w : World) (hT : Tabs w) (h : r13_Compare.f k a0_0 a0_1 a0_2 a1_0 a1_1 a1_2 = some r) :
  Calls Tryz.prog 67 #[.agg #[.bool a0_0, .int .i64 a0_1, .string a0_2], .agg #[.bool a1_0, .int .i64 a1_1, .string a1_2]] w fun e w' => e = .returned (.int .i64 r) ∧ Below w.heap.size w w' := by
 have hu24 := Tryz.underlying24
 have HB := xy (Below.refl w.heap.size w)
 unfold r13_Compare.f at h
 have H := h
 clear h
 by_cases c3 : (a0_0 != a1_0) = true
 ·rw [if_pos c3] at H
  have c3b0 : (a0_0 != a1_0) = true := c3
  (try (have c3b1 : decide (a0_0 = a1_0) = false := by simpa using c3))
  (try (have c3b2 : (a0_0 == a1_0) = false := by simpa using c3))
  (try (have c3b3 : ¬ (a0_0 = a1_0) := by simpa using c3))
  clear c3
  by_cases c4 : a1_0 = true
  ·subst c4
   rw [if_pos rfl] at H
   obtain rfl := Option.some.inj H
   go_enter Tryz.func67, Tryz.ntmps67
   go_wp2_with (first | ((with_reducible refine gate_dst (N := 2) rfl ?_); refine xq (N := 2) (cs := #[.bool a0_0, .int .i64 a0_1, .string a0_2]) (t := 24) ?_; intro gb341 hg w5 hbox hb; have BK341 := xy (hbox); have GW341 := xs w hg; have GE341 := xs w hg; replace HB := xy (below_step xb hb); clear hb hbox hg) | ((with_reducible refine gate_dst (N := 3) rfl ?_); refine xq (N := 3) (cs := #[.bool true, .int .i64 a1_1, .string a1_2]) (t := 24) ?_; intro gb342 hg w6 hbox hb; have BK342 := xy (hbox); have GW342 := xs w hg; have GE342 := xs w hg; replace HB := xy (below_step xb hb); have NB341_342 := xn hg BK341.out; have NB342_341 := xp hg BK341.out; replace BK341 := xd BK341.out hb; clear hb hbox hg; have hnb7 := NB341_342.out; have hnc7 := NB342_341.out; have hcz8_0 : w6.cell? ⟨gb341, 0, none⟩ = some (.bool a0_0) := (kc BK341.out 0).trans rfl; have hcz8_1 : w6.cell? ⟨gb341, 1, none⟩ = some (.int .i64 a0_1) := (kc BK341.out 1).trans rfl; have hcz8_2 : w6.cell? ⟨gb341, 2, none⟩ = some (.string a0_2) := (kc BK341.out 2).trans rfl; have hfz8_0 := kf BK341.out 0; have hfz8_1 := kf BK341.out 1; have hfz8_2 := kf BK341.out 2; have hcz9_0 : w6.cell? ⟨gb342, 0, none⟩ = some (.bool true) := (kc BK342.out 0).trans rfl; have hcz9_1 : w6.cell? ⟨gb342, 1, none⟩ = some (.int .i64 a1_1) := (kc BK342.out 1).trans rfl; have hcz9_2 : w6.cell? ⟨gb342, 2, none⟩ = some (.string a1_2) := (kc BK342.out 2).trans rfl; have hfz9_0 := kf BK342.out 0; have hfz9_1 := kf BK342.out 1; have hfz9_2 := kf BK342.out 2))
   go_ret
   exact ⟨xe, xb⟩
  ·replace c4 := Bool.eq_false_iff.mpr c4
   subst c4
   rw [if_neg (show ¬ (false = true) by decide)] at H
   obtain rfl := Option.some.inj H
   go_enter Tryz.func67, Tryz.ntmps67
   go_wp2_with (first | ((with_reducible refine gate_dst (N := 2) rfl ?_); refine xq (N := 2) (cs := #[.bool a0_0, .int .i64 a0_1, .string a0_2]) (t := 24) ?_; intro gb341 hg w10 hbox hb; have BK341 := xy (hbox); have GW341 := xs w hg; have GE341 := xs w hg; replace HB := xy (below_step xb hb); clear hb hbox hg) | ((with_reducible refine gate_dst (N := 3) rfl ?_); refine xq (N := 3) (cs := #[.bool false, .int .i64 a1_1, .string a1_2]) (t := 24) ?_; intro gb342 hg w11 hbox hb; have BK342 := xy (hbox); have GW342 := xs w hg; have GE342 := xs w hg; replace HB := xy (below_step xb hb); have NB341_342 := xn hg BK341.out; have NB342_341 := xp hg BK341.out; replace BK341 := xd BK341.out hb; clear hb hbox hg; have hnb12 := NB341_342.out; have hnc12 := NB342_341.out; have hcz13_0 : w11.cell? ⟨gb341, 0, none⟩ = some (.bool a0_0) := (kc BK341.out 0).trans rfl; have hcz13_1 : w11.cell? ⟨gb341, 1, none⟩ = some (.int .i64 a0_1) := (kc BK341.out 1).trans rfl; have hcz13_2 : w11.cell? ⟨gb341, 2, none⟩ = some (.string a0_2) := (kc BK341.out 2).trans rfl; have hfz13_0 := kf BK341.out 0; have hfz13_1 := kf BK341.out 1; have hfz13_2 := kf BK341.out 2; have hcz14_0 : w11.cell? ⟨gb342, 0, none⟩ = some (.bool false) := (kc BK342.out 0).trans rfl; have hcz14_1 : w11.cell? ⟨gb342, 1, none⟩ = some (.int .i64 a1_1) := (kc BK342.out 1).trans rfl; have hcz14_2 : w11.cell? ⟨gb342, 2, none⟩ = some (.string a1_2) := (kc BK342.out 2).trans rfl; have hfz14_0 := kf BK342.out 0; have hfz14_1 := kf BK342.out 1; have hfz14_2 := kf BK342.out 2))
   go_ret
   exact ⟨xe, xb⟩
 ·rw [if_neg c3] at H
  have c3b0 : (a0_0 != a1_0) = false := by simpa using c3
  (try (have c3b1 : decide (a0_0 = a1_0) = true := by simpa using c3))
  (try (have c3b2 : (a0_0 == a1_0) = true := by simpa using c3))
  clear c3
  have HC15 := xy H
  clear H
  go_enter Tryz.func67, Tryz.ntmps67
  go_upto_region 5 with (first | ((with_reducible refine gate_dst (N := 2) rfl ?_); refine xq (N := 2) (cs := #[.bool a0_0, .int .i64 a0_1, .string a0_2]) (t := 24) ?_; intro gb341 hg w16 hbox hb; have BK341 := xy (hbox); have GW341 := xs w hg; have GE341 := xs w hg; replace HB := xy (below_step xb hb); clear hb hbox hg) | ((with_reducible refine gate_dst (N := 3) rfl ?_); refine xq (N := 3) (cs := #[.bool a1_0, .int .i64 a1_1, .string a1_2]) (t := 24) ?_; intro gb342 hg w17 hbox hb; have BK342 := xy (hbox); have GW342 := xs w hg; have GE342 := xs w hg; replace HB := xy (below_step xb hb); have NB341_342 := xn hg BK341.out; have NB342_341 := xp hg BK341.out; replace BK341 := xd BK341.out hb; clear hb hbox hg; have hnb18 := NB341_342.out; have hnc18 := NB342_341.out; have hcz19_0 : w17.cell? ⟨gb341, 0, none⟩ = some (.bool a0_0) := (kc BK341.out 0).trans rfl; have hcz19_1 : w17.cell? ⟨gb341, 1, none⟩ = some (.int .i64 a0_1) := (kc BK341.out 1).trans rfl; have hcz19_2 : w17.cell? ⟨gb341, 2, none⟩ = some (.string a0_2) := (kc BK341.out 2).trans rfl; have hfz19_0 := kf BK341.out 0; have hfz19_1 := kf BK341.out 1; have hfz19_2 := kf BK341.out 2; have hcz20_0 : w17.cell? ⟨gb342, 0, none⟩ = some (.bool a1_0) := (kc BK342.out 0).trans rfl; have hcz20_1 : w17.cell? ⟨gb342, 1, none⟩ = some (.int .i64 a1_1) := (kc BK342.out 1).trans rfl; have hcz20_2 : w17.cell? ⟨gb342, 2, none⟩ = some (.string a1_2) := (kc BK342.out 2).trans rfl; have hfz20_0 := kf BK342.out 0; have hfz20_1 := kf BK342.out 1; have hfz20_2 := kf BK342.out 2))
  (try simp only [Act.put, List.setIfInBounds_toArray, List.set_cons_zero, List.set_cons_succ])
  go_cut [30] (fun v30 wc => ∃ (kq : Nat) (x30_14 : Bool), v30 = .bool x30_14 ∧ Aside0 (r13_Compare.j0 kq x30_14 a0_0 a0_1 a0_2 a1_0 a1_1 a1_2 = some r) ∧ Aside0 (kq ≤ k) ∧ Aside0 (wc.heap[gb341]? = some (.cells #[.bool a0_0, .int .i64 a0_1, .string a0_2] 24 (0, 0))) ∧ Aside0 (wc.heap[gb342]? = some (.cells #[.bool a1_0, .int .i64 a1_1, .string a1_2] 24 (0, 0))) ∧ Aside0 (Below w.heap.size w wc))
  case first =>
   have H := HC15.out
   clear HC15
   by_cases c21 : a0_1 < a1_1
   ·rw [if_pos c21] at H
    have c21b0 : decide (a0_1 < a1_1) = true := decide_eq_true c21
    clear c21
    (first | rw [c21b0] | (simp only [i64_w, i32_w]; rw [c21b0]) | skip)
    have H' := xy H
    clear H
    have hnb22 := NB341_342.out
    have hnc22 := NB342_341.out
    have hcz23_0 : w17.cell? ⟨gb341, 0, none⟩ = some (.bool a0_0) := (kc BK341.out 0).trans rfl
    have hcz23_1 : w17.cell? ⟨gb341, 1, none⟩ = some (.int .i64 a0_1) := (kc BK341.out 1).trans rfl
    have hcz23_2 : w17.cell? ⟨gb341, 2, none⟩ = some (.string a0_2) := (kc BK341.out 2).trans rfl
    have hfz23_0 := kf BK341.out 0
    have hfz23_1 := kf BK341.out 1
    have hfz23_2 := kf BK341.out 2
    have hcz24_0 : w17.cell? ⟨gb342, 0, none⟩ = some (.bool a1_0) := (kc BK342.out 0).trans rfl
    have hcz24_1 : w17.cell? ⟨gb342, 1, none⟩ = some (.int .i64 a1_1) := (kc BK342.out 1).trans rfl
    have hcz24_2 : w17.cell? ⟨gb342, 2, none⟩ = some (.string a1_2) := (kc BK342.out 2).trans rfl
    have hfz24_0 := kf BK342.out 0
    have hfz24_1 := kf BK342.out 1
    have hfz24_2 := kf BK342.out 2
    go_wp2
    go_meet
    case rel => exact ⟨_, (true), xg, H', ⟨by first | omega | exact Nat.le_refl _⟩, ⟨by (with_reducible repeat (first | refine blk_drewN ?_ _ | refine blk_drew ?_ | refine blk_alloc ?_ _)); exact BK341.out⟩, ⟨by (with_reducible repeat (first | refine blk_drewN ?_ _ | refine blk_drew ?_ | refine blk_alloc ?_ _)); exact BK342.out⟩, ⟨xb⟩⟩
   ·rw [if_neg c21] at H
    have c21b0 : decide (a0_1 < a1_1) = false := decide_eq_false c21
    clear c21
    (first | rw [c21b0] | (simp only [i64_w, i32_w]; rw [c21b0]) | skip)
    by_cases c25 : a0_1 = a1_1
    ·rw [if_pos c25] at H
     have c25b0 : (a0_1 == a1_1) = true := beq_iff_eq.mpr c25
     have c25b1 : (a0_1 != a1_1) = false := bne_eq_false_iff_eq.mpr c25
     clear c25
     have H' := xy H
     clear H
     have hnb26 := NB341_342.out
     have hnc26 := NB342_341.out
     have hcz27_0 : w17.cell? ⟨gb341, 0, none⟩ = some (.bool a0_0) := (kc BK341.out 0).trans rfl
     have hcz27_1 : w17.cell? ⟨gb341, 1, none⟩ = some (.int .i64 a0_1) := (kc BK341.out 1).trans rfl
     have hcz27_2 : w17.cell? ⟨gb341, 2, none⟩ = some (.string a0_2) := (kc BK341.out 2).trans rfl
     have hfz27_0 := kf BK341.out 0
     have hfz27_1 := kf BK341.out 1
     have hfz27_2 := kf BK341.out 2
     have hcz28_0 : w17.cell? ⟨gb342, 0, none⟩ = some (.bool a1_0) := (kc BK342.out 0).trans rfl
     have hcz28_1 : w17.cell? ⟨gb342, 1, none⟩ = some (.int .i64 a1_1) := (kc BK342.out 1).trans rfl
     have hcz28_2 : w17.cell? ⟨gb342, 2, none⟩ = some (.string a1_2) := (kc BK342.out 2).trans rfl
     have hfz28_0 := kf BK342.out 0
     have hfz28_1 := kf BK342.out 1
     have hfz28_2 := kf BK342.out 2
     go_wp2
     go_meet
     case rel => exact ⟨_, ((Op.bytesLess a0_2.toList a1_2.toList)), xg, H', ⟨by first | omega | exact Nat.le_refl _⟩, ⟨by (with_reducible repeat (first | refine blk_drewN ?_ _ | refine blk_drew ?_ | refine blk_alloc ?_ _)); exact BK341.out⟩, ⟨by (with_reducible repeat (first | refine blk_drewN ?_ _ | refine blk_drew ?_ | refine blk_alloc ?_ _)); exact BK342.out⟩, ⟨xb⟩⟩
    ·rw [if_neg c25] at H
     have c25b0 : (a0_1 == a1_1) = false := beq_eq_false_iff_ne.mpr c25
     have c25b1 : (a0_1 != a1_1) = true := bne_iff_ne.mpr c25
     have H' := xy H
     clear H
     have hnb29 := NB341_342.out
     have hnc29 := NB342_341.out
     have hcz30_0 : w17.cell? ⟨gb341, 0, none⟩ = some (.bool a0_0) := (kc BK341.out 0).trans rfl
     have hcz30_1 : w17.cell? ⟨gb341, 1, none⟩ = some (.int .i64 a0_1) := (kc BK341.out 1).trans rfl
     have hcz30_2 : w17.cell? ⟨gb341, 2, none⟩ = some (.string a0_2) := (kc BK341.out 2).trans rfl
     have hfz30_0 := kf BK341.out 0
     have hfz30_1 := kf BK341.out 1
     have hfz30_2 := kf BK341.out 2
     have hcz31_0 : w17.cell? ⟨gb342, 0, none⟩ = some (.bool a1_0) := (kc BK342.out 0).trans rfl
     have hcz31_1 : w17.cell? ⟨gb342, 1, none⟩ = some (.int .i64 a1_1) := (kc BK342.out 1).trans rfl
     have hcz31_2 : w17.cell? ⟨gb342, 2, none⟩ = some (.string a1_2) := (kc BK342.out 2).trans rfl
     have hfz31_0 := kf BK342.out 0
     have hfz31_1 := kf BK342.out 1
     have hfz31_2 := kf BK342.out 2
     go_wp2
     go_meet
     case rel => exact ⟨_, (false), xg, H', ⟨by first | omega | exact Nat.le_refl _⟩, ⟨by (with_reducible repeat (first | refine blk_drewN ?_ _ | refine blk_drew ?_ | refine blk_alloc ?_ _)); exact BK341.out⟩, ⟨by (with_reducible repeat (first | refine blk_drewN ?_ _ | refine blk_drew ?_ | refine blk_alloc ?_ _)); exact BK342.out⟩, ⟨xb⟩⟩
  case rest =>
   clear HC15
   try clear c1
   try clear c2
   try clear p2
   try clear c3
   try clear c3b0
   try clear c3b1
   try clear c3b2
   try clear c4
   try clear c6
   try clear c7
   try clear c12
   try clear c18
   try clear c21
   try clear c21b0
   try clear c22
   try clear c25
   try clear c25b0
   try clear c25b1
   try clear c26
   try clear c29
   try clear hcz13_0
   try clear hcz13_1
   try clear hcz13_2
   try clear hcz14_0
   try clear hcz14_1
   try clear hcz14_2
   try clear hcz19_0
   try clear hcz19_1
   try clear hcz19_2
   try clear hcz20_0
   try clear hcz20_1
   try clear hcz20_2
   try clear hcz23_0
   try clear hcz23_1
   try clear hcz23_2
   try clear hcz24_0
   try clear hcz24_1
   try clear hcz24_2
   try clear hcz27_0
   try clear hcz27_1
   try clear hcz27_2
   try clear hcz28_0
   try clear hcz28_1
   try clear hcz28_2
   try clear hcz30_0
   try clear hcz30_1
   try clear hcz30_2
   try clear hcz31_0
   try clear hcz31_1
   try clear hcz31_2
   try clear hcz8_0
   try clear hcz8_1
   try clear hcz8_2
   try clear hcz9_0
   try clear hcz9_1
   try clear hcz9_2
   try clear hfz13_0
   try clear hfz13_1
   try clear hfz13_2
   try clear hfz14_0
   try clear hfz14_1
   try clear hfz14_2
   try clear hfz19_0
   try clear hfz19_1
   try clear hfz19_2
   try clear hfz20_0
   try clear hfz20_1
   try clear hfz20_2
   try clear hfz23_0
   try clear hfz23_1
   try clear hfz23_2
   try clear hfz24_0
   try clear hfz24_1
   try clear hfz24_2
   try clear hfz27_0
   try clear hfz27_1
   try clear hfz27_2
   try clear hfz28_0
   try clear hfz28_1
   try clear hfz28_2
   try clear hfz30_0
   try clear hfz30_1
   try clear hfz30_2
   try clear hfz31_0
   try clear hfz31_1
   try clear hfz31_2
   try clear hfz8_0
   try clear hfz8_1
   try clear hfz8_2
   try clear hfz9_0
   try clear hfz9_1
   try clear hfz9_2
   obtain ⟨kq, x30_14, rfl, HA, HJ14, BK341, BK342, HB⟩ := hcut
   cases kq with
   | zero => exact absurd HA.out (by simp [r13_Compare.j0])
   | succ kj14 =>
    have H := HA.out
    clear HA
    simp only [r13_Compare.j0] at H
    by_cases c32 : x30_14 = true
    ·subst c32
     rw [if_pos rfl] at H
     obtain rfl := Option.some.inj H
     go_wp2
     go_ret
     exact ⟨xe, xb⟩
    ·replace c32 := Bool.eq_false_iff.mpr c32
     subst c32
     rw [if_neg (show ¬ (false = true) by decide)] at H
     by_cases c33 : a0_1 = a1_1
     ·rw [if_pos c33] at H
      have c33b0 : (a0_1 == a1_1) = true := beq_iff_eq.mpr c33
      have c33b1 : (a0_1 != a1_1) = false := bne_eq_false_iff_eq.mpr c33
      clear c33
      by_cases c34 : a0_2.toList = a1_2.toList
      ·rw [if_pos c34] at H
       have c34b0 : (a0_2.toList == a1_2.toList) = true := beq_iff_eq.mpr c34
       have c34b1 : (a0_2.toList != a1_2.toList) = false := bne_eq_false_iff_eq.mpr c34
       clear c34
       obtain rfl := Option.some.inj H
       have hnb35 := NB341_342.out
       have hnc35 := NB342_341.out
       have hcz36_0 : wc.cell? ⟨gb341, 0, none⟩ = some (.bool a0_0) := (kc BK341.out 0).trans rfl
       have hcz36_1 : wc.cell? ⟨gb341, 1, none⟩ = some (.int .i64 a0_1) := (kc BK341.out 1).trans rfl
       have hcz36_2 : wc.cell? ⟨gb341, 2, none⟩ = some (.string a0_2) := (kc BK341.out 2).trans rfl
       have hfz36_0 := kf BK341.out 0
       have hfz36_1 := kf BK341.out 1
       have hfz36_2 := kf BK341.out 2
       have hcz37_0 : wc.cell? ⟨gb342, 0, none⟩ = some (.bool a1_0) := (kc BK342.out 0).trans rfl
       have hcz37_1 : wc.cell? ⟨gb342, 1, none⟩ = some (.int .i64 a1_1) := (kc BK342.out 1).trans rfl
       have hcz37_2 : wc.cell? ⟨gb342, 2, none⟩ = some (.string a1_2) := (kc BK342.out 2).trans rfl
       have hfz37_0 := kf BK342.out 0
       have hfz37_1 := kf BK342.out 1
       have hfz37_2 := kf BK342.out 2
       go_wp2
       go_ret
       exact ⟨xe, xb⟩
      ·rw [if_neg c34] at H
       have c34b0 : (a0_2.toList == a1_2.toList) = false := beq_eq_false_iff_ne.mpr c34
       have c34b1 : (a0_2.toList != a1_2.toList) = true := bne_iff_ne.mpr c34
       obtain rfl := Option.some.inj H
       have hnb38 := NB341_342.out
       have hnc38 := NB342_341.out
       have hcz39_0 : wc.cell? ⟨gb341, 0, none⟩ = some (.bool a0_0) := (kc BK341.out 0).trans rfl
       have hcz39_1 : wc.cell? ⟨gb341, 1, none⟩ = some (.int .i64 a0_1) := (kc BK341.out 1).trans rfl
       have hcz39_2 : wc.cell? ⟨gb341, 2, none⟩ = some (.string a0_2) := (kc BK341.out 2).trans rfl
       have hfz39_0 := kf BK341.out 0
       have hfz39_1 := kf BK341.out 1
       have hfz39_2 := kf BK341.out 2
       have hcz40_0 : wc.cell? ⟨gb342, 0, none⟩ = some (.bool a1_0) := (kc BK342.out 0).trans rfl
       have hcz40_1 : wc.cell? ⟨gb342, 1, none⟩ = some (.int .i64 a1_1) := (kc BK342.out 1).trans rfl
       have hcz40_2 : wc.cell? ⟨gb342, 2, none⟩ = some (.string a1_2) := (kc BK342.out 2).trans rfl
       have hfz40_0 := kf BK342.out 0
       have hfz40_1 := kf BK342.out 1
       have hfz40_2 := kf BK342.out 2
       go_wp2
       go_ret
       exact ⟨xe, xb⟩
     ·rw [if_neg c33] at H
      have c33b0 : (a0_1 == a1_1) = false := beq_eq_false_iff_ne.mpr c33
      have c33b1 : (a0_1 != a1_1) = true := bne_iff_ne.mpr c33
      obtain rfl := Option.some.inj H
      have hnb41 := NB341_342.out
      have hnc41 := NB342_341.out
      have hcz42_0 : wc.cell? ⟨gb341, 0, none⟩ = some (.bool a0_0) := (kc BK341.out 0).trans rfl
      have hcz42_1 : wc.cell? ⟨gb341, 1, none⟩ = some (.int .i64 a0_1) := (kc BK341.out 1).trans rfl
      have hcz42_2 : wc.cell? ⟨gb341, 2, none⟩ = some (.string a0_2) := (kc BK341.out 2).trans rfl
      have hfz42_0 := kf BK341.out 0
      have hfz42_1 := kf BK341.out 1
      have hfz42_2 := kf BK341.out 2
      have hcz43_0 : wc.cell? ⟨gb342, 0, none⟩ = some (.bool a1_0) := (kc BK342.out 0).trans rfl
      have hcz43_1 : wc.cell? ⟨gb342, 1, none⟩ = some (.int .i64 a1_1) := (kc BK342.out 1).trans rfl
      have hcz43_2 : wc.cell? ⟨gb342, 2, none⟩ = some (.string a1_2) := (kc BK342.out 2).trans rfl
      have hfz43_0 := kf BK342.out 0
      have hfz43_1 := kf BK342.out 1
      have hfz43_2 := kf BK342.out 2
      go_wp2
      go_ret
      exact ⟨xe, xb⟩
/- Walked functions, by this session's program over the kit's print. -/
def r13_reckoned.f (k : Nat) (a0 : Int) (a1_0 : Bool) (a1_1 : Int) (a1_2 : ByteArray) (a2_0 : Bool) (a2_1 : Int) (a2_2 : ByteArray) (a3_0 : Bool) (a3_1 : Int) (a3_2 : ByteArray) : Option (Bool × Int × ByteArray) := (r13_div.f a1_1 a2_1).bind fun d => (if a0 = 4 then (r13_Num.f (wrap64 (a1_1 + a2_1))) else (if a0 = 5 then (r13_Num.f (wrap64 (a1_1 - a2_1))) else (if a0 = 6 then (r13_Num.f (wrap64 (a1_1 * a2_1))) else (if a0 = 7 then (r13_Num.f d.1) else (if a0 = 8 then (r13_Num.f d.2) else (if a0 = 14 then ((r13_Compare.f k a1_0 a1_1 a1_2 a2_0 a2_1 a2_2).bind fun t => r13_yes.f (t == 0)) else (if a0 = 15 then ((r13_Compare.f k a1_0 a1_1 a1_2 a2_0 a2_1 a2_2).bind fun t => r13_yes.f (decide (t < 0))) else (if a0 = 16 then (r13_yes.f (a1_1 == 0)) else (if a0 = 17 then (if a1_1 = 0 then (some (a3_0, a3_1, a3_2)) else (some (a2_0, a2_1, a2_2))) else none)))))))))
theorem r13_reckoned.mono : ∀ a0 a1 a2 a3 a4 a5 a6 a7 a8 a9 k, LeO (r13_reckoned.f k a0 a1 a2 a3 a4 a5 a6 a7 a8 a9) (r13_reckoned.f (k + 1) a0 a1 a2 a3 a4 a5 a6 a7 a8 a9) := by
 intro a0 a1 a2 a3 a4 a5 a6 a7 a8 a9 k r h
 unfold r13_reckoned.f at h ⊢
 obtain ⟨d, hd, h⟩ := Option.bind_eq_some_iff.1 h
 refine Option.bind_eq_some_iff.2 ⟨d, hd, ?_⟩
 by_cases c14 : a0 = 14
 ·subst c14
  obtain ⟨t, ht, h⟩ := Option.bind_eq_some_iff.1 h
  exact Option.bind_eq_some_iff.2 ⟨t, r13_Compare.mono _ _ _ _ _ _ k _ ht, h⟩
 by_cases c15 : a0 = 15
 ·subst c15
  obtain ⟨t, ht, h⟩ := Option.bind_eq_some_iff.1 h
  exact Option.bind_eq_some_iff.2 ⟨t, r13_Compare.mono _ _ _ _ _ _ k _ ht, h⟩
 simp only [if_neg c14, if_neg c15] at h ⊢
 exact h
structure r13_reckoned.Box (w W : World) (a b c : S24) (r : Array Value) : Prop where
 ba : W.heap[w.heap.size]? = some (.cells #[.bool a.f0, .int .i64 a.f1, .string a.f2] 24 (0, 0))
 bb : W.heap[w.heap.size + 1]? = some (.cells #[.bool b.f0, .int .i64 b.f1, .string b.f2] 24 (0, 0))
 bc : W.heap[w.heap.size + 1 + 1]? = some (.cells #[.bool c.f0, .int .i64 c.f1, .string c.f2] 24 (0, 0))
 br : W.heap[w.heap.size + 1 + 1 + 1]? = some (.cells r 24 (0, 0))
 below : Below w.heap.size w W
theorem r13_reckoned.Box.then_ {w W W' : World} {a b c : S24} {r : Array Value} (h : r13_reckoned.Box w W a b c r) (hb : Below W.heap.size W W') : r13_reckoned.Box w W' a b c r :=
 ⟨(hb.block _ (blk_lt h.ba)).trans h.ba, (hb.block _ (blk_lt h.bb)).trans h.bb, (hb.block _ (blk_lt h.bc)).trans h.bc, (hb.block _ (blk_lt h.br)).trans h.br, below_then h.below h.below.size hb⟩
theorem r13_reckoned.Box.start (w : World) (a b c : S24) (r : Array Value) : r13_reckoned.Box w ((((w.alloc (.cells #[.bool a.f0, .int .i64 a.f1, .string a.f2] 24)).alloc (.cells #[.bool b.f0, .int .i64 b.f1, .string b.f2] 24)).alloc (.cells #[.bool c.f0, .int .i64 c.f1, .string c.f2] 24)).alloc (.cells r 24)) a b c r := by
 generalize h0 : w.alloc (.cells #[.bool a.f0, .int .i64 a.f1, .string a.f2] 24) = w1
 have e1 : w1.heap.size = w.heap.size + 1 := by rw [← h0]; simp
 have k1 : w1.heap[w.heap.size]? = some (.cells #[.bool a.f0, .int .i64 a.f1, .string a.f2] 24 (0, 0)) := by rw [← h0]; exact heap_alloc_new w _
 have b1 : Below w.heap.size w w1 := by rw [← h0]; exact below_alloc (Below.refl _ _) _
 clear h0
 generalize h0 : w1.alloc (.cells #[.bool b.f0, .int .i64 b.f1, .string b.f2] 24) = w2
 have e2 : w2.heap.size = w.heap.size + 1 + 1 := by rw [← h0, ← e1]; simp
 have k2 : w2.heap[w.heap.size + 1]? = some (.cells #[.bool b.f0, .int .i64 b.f1, .string b.f2] 24 (0, 0)) := by rw [← h0, ← e1]; exact heap_alloc_new w1 _
 have b2 : Below w1.heap.size w1 w2 := by rw [← h0]; exact below_alloc (Below.refl _ _) _
 clear h0
 generalize h0 : w2.alloc (.cells #[.bool c.f0, .int .i64 c.f1, .string c.f2] 24) = w3
 have e3 : w3.heap.size = w.heap.size + 1 + 1 + 1 := by rw [← h0, ← e2]; simp
 have k3 : w3.heap[w.heap.size + 1 + 1]? = some (.cells #[.bool c.f0, .int .i64 c.f1, .string c.f2] 24 (0, 0)) := by rw [← h0, ← e2]; exact heap_alloc_new w2 _
 have b3 : Below w2.heap.size w2 w3 := by rw [← h0]; exact below_alloc (Below.refl _ _) _
 clear h0
 have k4 := heap_alloc_new w3 (.cells r 24)
 rw [e3] at k4
 have b4 : Below w3.heap.size w3 (w3.alloc (.cells r 24)) := below_alloc (Below.refl _ _) _
 have f3 : ∀ g, g < w3.heap.size → (w3.alloc (.cells r 24)).heap[g]? = w3.heap[g]? := fun g hg => b4.block g hg
 have f2 : ∀ g, g < w2.heap.size → (w3.alloc (.cells r 24)).heap[g]? = w2.heap[g]? := fun g hg => (f3 g (by omega)).trans (b3.block g hg)
 have f1 : ∀ g, g < w1.heap.size → (w3.alloc (.cells r 24)).heap[g]? = w1.heap[g]? := fun g hg => (f2 g (by omega)).trans (b2.block g hg)
 exact ⟨(f1 _ (by omega)).trans k1, (f2 _ (by omega)).trans k2, (f3 _ (by omega)).trans k3, k4, below_then (below_then (below_then b1 b1.size b2) (by omega) b3) (by omega) b4⟩
set_option maxHeartbeats 8000000 in
set_option maxRecDepth 100000 in
theorem r13_reckoned.calls (k : Nat) (a0 : Int) (a1_0 : Bool) (a1_1 : Int) (a1_2 : ByteArray) (a2_0 : Bool) (a2_1 : Int) (a2_2 : ByteArray) (a3_0 : Bool) (a3_1 : Int) (a3_2 : ByteArray) (r1 : Bool) (r2 : Int) (r3 : ByteArray) (w : World) (hT : Tabs w) (h : r13_reckoned.f k a0 a1_0 a1_1 a1_2 a2_0 a2_1 a2_2 a3_0 a3_1 a3_2 = some (r1, r2, r3)) :
  Calls Tryz.prog 56 #[.int .i64 a0, .agg #[.bool a1_0, .int .i64 a1_1, .string a1_2], .agg #[.bool a2_0, .int .i64 a2_1, .string a2_2], .agg #[.bool a3_0, .int .i64 a3_1, .string a3_2]] w fun e w' => e = .returned (.agg #[.bool r1, .int .i64 r2, .string r3]) ∧ Below w.heap.size w w' := by
 have hu1 := Tryz.underlying24
 have HS := fun w => r13_reckoned.Box.start w ⟨a1_0, a1_1, a1_2⟩ ⟨a2_0, a2_1, a2_2⟩ ⟨a3_0, a3_1, a3_2⟩ #[.bool false, .int .i64 0, .string (⟨#[]⟩ : ByteArray)]
 unfold r13_reckoned.f at h
 obtain ⟨⟨q1, q2⟩, hd, h⟩ := Option.bind_eq_some_iff.1 h
 have Hd := Lib.hid hd
 clear hd
 by_cases c4 : a0 = 4
 ·subst c4
  replace h : r13_Num.f (wrap64 (a1_1 + a2_1)) = some (r1, r2, r3) := h
  have Hh := Lib.hid h
  clear h
  go_enter Tryz.func56, Tryz.ntmps56
  go_wp2_with (first | (go_at_call 64; refine (r13_div.calls _ _ q1 q2 _ (hT.below (HS w).below) Hd.out).mono ?_; rintro e W1 ⟨rfl, n1, rfl⟩; have HX0 := (HS w).then_ (pw_below_drewN (Below.refl _ _) n1); generalize hW1 : World.drewN _ n1 = W1 at HX0; have HX := HX0; clear hW1; have pa0 := (blk_cell HX.ba 0).trans rfl; have pa1 := (blk_cell HX.ba 1).trans rfl; have pa2 := (blk_cell HX.ba 2).trans rfl; have pb0 := (blk_cell HX.bb 0).trans rfl; have pb1 := (blk_cell HX.bb 1).trans rfl; have pb2 := (blk_cell HX.bb 2).trans rfl; have pc0 := (blk_cell HX.bc 0).trans rfl; have pc1 := (blk_cell HX.bc 1).trans rfl; have pc2 := (blk_cell HX.bc 2).trans rfl; have pr0 := (blk_cell HX.br 0).trans rfl; have pr1 := (blk_cell HX.br 1).trans rfl; have pr2 := (blk_cell HX.br 2).trans rfl; have fr0 := blk_frozen HX.br 0; have fr1 := blk_frozen HX.br 1; have fr2 := blk_frozen HX.br 2; clear HX) | (go_at_call 65; refine (r13_Num.calls _ _ _ _ _ (hT.below HX0.below) Hh.out).mono ?_; rintro e W2 ⟨rfl, hb2⟩; have HX2 := HX0.then_ hb2; clear pa0 pa1 pa2 pb0 pb1 pb2 pc0 pc1 pc2 pr0 pr1 pr2 fr0 fr1 fr2; have HX := HX2; have pa0 := (blk_cell HX.ba 0).trans rfl; have pa1 := (blk_cell HX.ba 1).trans rfl; have pa2 := (blk_cell HX.ba 2).trans rfl; have pb0 := (blk_cell HX.bb 0).trans rfl; have pb1 := (blk_cell HX.bb 1).trans rfl; have pb2 := (blk_cell HX.bb 2).trans rfl; have pc0 := (blk_cell HX.bc 0).trans rfl; have pc1 := (blk_cell HX.bc 1).trans rfl; have pc2 := (blk_cell HX.bc 2).trans rfl; have pr0 := (blk_cell HX.br 0).trans rfl; have pr1 := (blk_cell HX.br 1).trans rfl; have pr2 := (blk_cell HX.br 2).trans rfl; have fr0 := blk_frozen HX.br 0; have fr1 := blk_frozen HX.br 1; have fr2 := blk_frozen HX.br 2; clear HX))
  refine bodyPost_ret (results_cell_row rfl _ _ (w.heap.size + 1 + 1 + 1) 24 #[.bool r1, .int .i64 r2, .string r3] (0, 0) _ rfl (blk_set (blk_set (blk_set HX2.br 0 _) 1 _) 2 _) hu1 rfl (by kernel_rfl)) rfl ?_
  exact ⟨rfl, below_set (below_set (below_set HX2.below (by show w.heap.size ≤ w.heap.size + 1 + 1 + 1; omega)) (by show w.heap.size ≤ w.heap.size + 1 + 1 + 1; omega)) (by show w.heap.size ≤ w.heap.size + 1 + 1 + 1; omega)⟩
 by_cases c5 : a0 = 5
 ·subst c5
  replace h : r13_Num.f (wrap64 (a1_1 - a2_1)) = some (r1, r2, r3) := h
  have Hh := Lib.hid h
  clear h
  go_enter Tryz.func56, Tryz.ntmps56
  go_wp2_with (first | (go_at_call 64; refine (r13_div.calls _ _ q1 q2 _ (hT.below (HS w).below) Hd.out).mono ?_; rintro e W1 ⟨rfl, n1, rfl⟩; have HX0 := (HS w).then_ (pw_below_drewN (Below.refl _ _) n1); generalize hW1 : World.drewN _ n1 = W1 at HX0; have HX := HX0; clear hW1; have pa0 := (blk_cell HX.ba 0).trans rfl; have pa1 := (blk_cell HX.ba 1).trans rfl; have pa2 := (blk_cell HX.ba 2).trans rfl; have pb0 := (blk_cell HX.bb 0).trans rfl; have pb1 := (blk_cell HX.bb 1).trans rfl; have pb2 := (blk_cell HX.bb 2).trans rfl; have pc0 := (blk_cell HX.bc 0).trans rfl; have pc1 := (blk_cell HX.bc 1).trans rfl; have pc2 := (blk_cell HX.bc 2).trans rfl; have pr0 := (blk_cell HX.br 0).trans rfl; have pr1 := (blk_cell HX.br 1).trans rfl; have pr2 := (blk_cell HX.br 2).trans rfl; have fr0 := blk_frozen HX.br 0; have fr1 := blk_frozen HX.br 1; have fr2 := blk_frozen HX.br 2; clear HX) | (go_at_call 65; refine (r13_Num.calls _ _ _ _ _ (hT.below HX0.below) Hh.out).mono ?_; rintro e W2 ⟨rfl, hb2⟩; have HX2 := HX0.then_ hb2; clear pa0 pa1 pa2 pb0 pb1 pb2 pc0 pc1 pc2 pr0 pr1 pr2 fr0 fr1 fr2; have HX := HX2; have pa0 := (blk_cell HX.ba 0).trans rfl; have pa1 := (blk_cell HX.ba 1).trans rfl; have pa2 := (blk_cell HX.ba 2).trans rfl; have pb0 := (blk_cell HX.bb 0).trans rfl; have pb1 := (blk_cell HX.bb 1).trans rfl; have pb2 := (blk_cell HX.bb 2).trans rfl; have pc0 := (blk_cell HX.bc 0).trans rfl; have pc1 := (blk_cell HX.bc 1).trans rfl; have pc2 := (blk_cell HX.bc 2).trans rfl; have pr0 := (blk_cell HX.br 0).trans rfl; have pr1 := (blk_cell HX.br 1).trans rfl; have pr2 := (blk_cell HX.br 2).trans rfl; have fr0 := blk_frozen HX.br 0; have fr1 := blk_frozen HX.br 1; have fr2 := blk_frozen HX.br 2; clear HX))
  refine bodyPost_ret (results_cell_row rfl _ _ (w.heap.size + 1 + 1 + 1) 24 #[.bool r1, .int .i64 r2, .string r3] (0, 0) _ rfl (blk_set (blk_set (blk_set HX2.br 0 _) 1 _) 2 _) hu1 rfl (by kernel_rfl)) rfl ?_
  exact ⟨rfl, below_set (below_set (below_set HX2.below (by show w.heap.size ≤ w.heap.size + 1 + 1 + 1; omega)) (by show w.heap.size ≤ w.heap.size + 1 + 1 + 1; omega)) (by show w.heap.size ≤ w.heap.size + 1 + 1 + 1; omega)⟩
 by_cases c6 : a0 = 6
 ·subst c6
  replace h : r13_Num.f (wrap64 (a1_1 * a2_1)) = some (r1, r2, r3) := h
  have Hh := Lib.hid h
  clear h
  go_enter Tryz.func56, Tryz.ntmps56
  go_wp2_with (first | (go_at_call 64; refine (r13_div.calls _ _ q1 q2 _ (hT.below (HS w).below) Hd.out).mono ?_; rintro e W1 ⟨rfl, n1, rfl⟩; have HX0 := (HS w).then_ (pw_below_drewN (Below.refl _ _) n1); generalize hW1 : World.drewN _ n1 = W1 at HX0; have HX := HX0; clear hW1; have pa0 := (blk_cell HX.ba 0).trans rfl; have pa1 := (blk_cell HX.ba 1).trans rfl; have pa2 := (blk_cell HX.ba 2).trans rfl; have pb0 := (blk_cell HX.bb 0).trans rfl; have pb1 := (blk_cell HX.bb 1).trans rfl; have pb2 := (blk_cell HX.bb 2).trans rfl; have pc0 := (blk_cell HX.bc 0).trans rfl; have pc1 := (blk_cell HX.bc 1).trans rfl; have pc2 := (blk_cell HX.bc 2).trans rfl; have pr0 := (blk_cell HX.br 0).trans rfl; have pr1 := (blk_cell HX.br 1).trans rfl; have pr2 := (blk_cell HX.br 2).trans rfl; have fr0 := blk_frozen HX.br 0; have fr1 := blk_frozen HX.br 1; have fr2 := blk_frozen HX.br 2; clear HX) | (go_at_call 65; refine (r13_Num.calls _ _ _ _ _ (hT.below HX0.below) Hh.out).mono ?_; rintro e W2 ⟨rfl, hb2⟩; have HX2 := HX0.then_ hb2; clear pa0 pa1 pa2 pb0 pb1 pb2 pc0 pc1 pc2 pr0 pr1 pr2 fr0 fr1 fr2; have HX := HX2; have pa0 := (blk_cell HX.ba 0).trans rfl; have pa1 := (blk_cell HX.ba 1).trans rfl; have pa2 := (blk_cell HX.ba 2).trans rfl; have pb0 := (blk_cell HX.bb 0).trans rfl; have pb1 := (blk_cell HX.bb 1).trans rfl; have pb2 := (blk_cell HX.bb 2).trans rfl; have pc0 := (blk_cell HX.bc 0).trans rfl; have pc1 := (blk_cell HX.bc 1).trans rfl; have pc2 := (blk_cell HX.bc 2).trans rfl; have pr0 := (blk_cell HX.br 0).trans rfl; have pr1 := (blk_cell HX.br 1).trans rfl; have pr2 := (blk_cell HX.br 2).trans rfl; have fr0 := blk_frozen HX.br 0; have fr1 := blk_frozen HX.br 1; have fr2 := blk_frozen HX.br 2; clear HX))
  refine bodyPost_ret (results_cell_row rfl _ _ (w.heap.size + 1 + 1 + 1) 24 #[.bool r1, .int .i64 r2, .string r3] (0, 0) _ rfl (blk_set (blk_set (blk_set HX2.br 0 _) 1 _) 2 _) hu1 rfl (by kernel_rfl)) rfl ?_
  exact ⟨rfl, below_set (below_set (below_set HX2.below (by show w.heap.size ≤ w.heap.size + 1 + 1 + 1; omega)) (by show w.heap.size ≤ w.heap.size + 1 + 1 + 1; omega)) (by show w.heap.size ≤ w.heap.size + 1 + 1 + 1; omega)⟩
 by_cases c7 : a0 = 7
 ·subst c7
  replace h : r13_Num.f q1 = some (r1, r2, r3) := h
  have Hh := Lib.hid h
  clear h
  go_enter Tryz.func56, Tryz.ntmps56
  go_wp2_with (first | (go_at_call 64; refine (r13_div.calls _ _ q1 q2 _ (hT.below (HS w).below) Hd.out).mono ?_; rintro e W1 ⟨rfl, n1, rfl⟩; have HX0 := (HS w).then_ (pw_below_drewN (Below.refl _ _) n1); generalize hW1 : World.drewN _ n1 = W1 at HX0; have HX := HX0; clear hW1; have pa0 := (blk_cell HX.ba 0).trans rfl; have pa1 := (blk_cell HX.ba 1).trans rfl; have pa2 := (blk_cell HX.ba 2).trans rfl; have pb0 := (blk_cell HX.bb 0).trans rfl; have pb1 := (blk_cell HX.bb 1).trans rfl; have pb2 := (blk_cell HX.bb 2).trans rfl; have pc0 := (blk_cell HX.bc 0).trans rfl; have pc1 := (blk_cell HX.bc 1).trans rfl; have pc2 := (blk_cell HX.bc 2).trans rfl; have pr0 := (blk_cell HX.br 0).trans rfl; have pr1 := (blk_cell HX.br 1).trans rfl; have pr2 := (blk_cell HX.br 2).trans rfl; have fr0 := blk_frozen HX.br 0; have fr1 := blk_frozen HX.br 1; have fr2 := blk_frozen HX.br 2; clear HX) | (go_at_call 65; refine (r13_Num.calls _ _ _ _ _ (hT.below HX0.below) Hh.out).mono ?_; rintro e W2 ⟨rfl, hb2⟩; have HX2 := HX0.then_ hb2; clear pa0 pa1 pa2 pb0 pb1 pb2 pc0 pc1 pc2 pr0 pr1 pr2 fr0 fr1 fr2; have HX := HX2; have pa0 := (blk_cell HX.ba 0).trans rfl; have pa1 := (blk_cell HX.ba 1).trans rfl; have pa2 := (blk_cell HX.ba 2).trans rfl; have pb0 := (blk_cell HX.bb 0).trans rfl; have pb1 := (blk_cell HX.bb 1).trans rfl; have pb2 := (blk_cell HX.bb 2).trans rfl; have pc0 := (blk_cell HX.bc 0).trans rfl; have pc1 := (blk_cell HX.bc 1).trans rfl; have pc2 := (blk_cell HX.bc 2).trans rfl; have pr0 := (blk_cell HX.br 0).trans rfl; have pr1 := (blk_cell HX.br 1).trans rfl; have pr2 := (blk_cell HX.br 2).trans rfl; have fr0 := blk_frozen HX.br 0; have fr1 := blk_frozen HX.br 1; have fr2 := blk_frozen HX.br 2; clear HX))
  refine bodyPost_ret (results_cell_row rfl _ _ (w.heap.size + 1 + 1 + 1) 24 #[.bool r1, .int .i64 r2, .string r3] (0, 0) _ rfl (blk_set (blk_set (blk_set HX2.br 0 _) 1 _) 2 _) hu1 rfl (by kernel_rfl)) rfl ?_
  exact ⟨rfl, below_set (below_set (below_set HX2.below (by show w.heap.size ≤ w.heap.size + 1 + 1 + 1; omega)) (by show w.heap.size ≤ w.heap.size + 1 + 1 + 1; omega)) (by show w.heap.size ≤ w.heap.size + 1 + 1 + 1; omega)⟩
 by_cases c8 : a0 = 8
 ·subst c8
  replace h : r13_Num.f q2 = some (r1, r2, r3) := h
  have Hh := Lib.hid h
  clear h
  go_enter Tryz.func56, Tryz.ntmps56
  go_wp2_with (first | (go_at_call 64; refine (r13_div.calls _ _ q1 q2 _ (hT.below (HS w).below) Hd.out).mono ?_; rintro e W1 ⟨rfl, n1, rfl⟩; have HX0 := (HS w).then_ (pw_below_drewN (Below.refl _ _) n1); generalize hW1 : World.drewN _ n1 = W1 at HX0; have HX := HX0; clear hW1; have pa0 := (blk_cell HX.ba 0).trans rfl; have pa1 := (blk_cell HX.ba 1).trans rfl; have pa2 := (blk_cell HX.ba 2).trans rfl; have pb0 := (blk_cell HX.bb 0).trans rfl; have pb1 := (blk_cell HX.bb 1).trans rfl; have pb2 := (blk_cell HX.bb 2).trans rfl; have pc0 := (blk_cell HX.bc 0).trans rfl; have pc1 := (blk_cell HX.bc 1).trans rfl; have pc2 := (blk_cell HX.bc 2).trans rfl; have pr0 := (blk_cell HX.br 0).trans rfl; have pr1 := (blk_cell HX.br 1).trans rfl; have pr2 := (blk_cell HX.br 2).trans rfl; have fr0 := blk_frozen HX.br 0; have fr1 := blk_frozen HX.br 1; have fr2 := blk_frozen HX.br 2; clear HX) | (go_at_call 65; refine (r13_Num.calls _ _ _ _ _ (hT.below HX0.below) Hh.out).mono ?_; rintro e W2 ⟨rfl, hb2⟩; have HX2 := HX0.then_ hb2; clear pa0 pa1 pa2 pb0 pb1 pb2 pc0 pc1 pc2 pr0 pr1 pr2 fr0 fr1 fr2; have HX := HX2; have pa0 := (blk_cell HX.ba 0).trans rfl; have pa1 := (blk_cell HX.ba 1).trans rfl; have pa2 := (blk_cell HX.ba 2).trans rfl; have pb0 := (blk_cell HX.bb 0).trans rfl; have pb1 := (blk_cell HX.bb 1).trans rfl; have pb2 := (blk_cell HX.bb 2).trans rfl; have pc0 := (blk_cell HX.bc 0).trans rfl; have pc1 := (blk_cell HX.bc 1).trans rfl; have pc2 := (blk_cell HX.bc 2).trans rfl; have pr0 := (blk_cell HX.br 0).trans rfl; have pr1 := (blk_cell HX.br 1).trans rfl; have pr2 := (blk_cell HX.br 2).trans rfl; have fr0 := blk_frozen HX.br 0; have fr1 := blk_frozen HX.br 1; have fr2 := blk_frozen HX.br 2; clear HX))
  refine bodyPost_ret (results_cell_row rfl _ _ (w.heap.size + 1 + 1 + 1) 24 #[.bool r1, .int .i64 r2, .string r3] (0, 0) _ rfl (blk_set (blk_set (blk_set HX2.br 0 _) 1 _) 2 _) hu1 rfl (by kernel_rfl)) rfl ?_
  exact ⟨rfl, below_set (below_set (below_set HX2.below (by show w.heap.size ≤ w.heap.size + 1 + 1 + 1; omega)) (by show w.heap.size ≤ w.heap.size + 1 + 1 + 1; omega)) (by show w.heap.size ≤ w.heap.size + 1 + 1 + 1; omega)⟩
 by_cases c14 : a0 = 14
 ·subst c14
  obtain ⟨t, ht, h⟩ := Option.bind_eq_some_iff.1 (show (r13_Compare.f k a1_0 a1_1 a1_2 a2_0 a2_1 a2_2).bind (fun t => r13_yes.f (t == 0)) = some (r1, r2, r3) from h)
  have Ht := Lib.hid ht
  have Hh := Lib.hid h
  clear h ht
  go_enter Tryz.func56, Tryz.ntmps56
  go_wp2_with (first | (go_at_call 64; refine (r13_div.calls _ _ q1 q2 _ (hT.below (HS w).below) Hd.out).mono ?_; rintro e W1 ⟨rfl, n1, rfl⟩; have HX0 := (HS w).then_ (pw_below_drewN (Below.refl _ _) n1); generalize hW1 : World.drewN _ n1 = W1 at HX0; have HX := HX0; clear hW1; have pa0 := (blk_cell HX.ba 0).trans rfl; have pa1 := (blk_cell HX.ba 1).trans rfl; have pa2 := (blk_cell HX.ba 2).trans rfl; have pb0 := (blk_cell HX.bb 0).trans rfl; have pb1 := (blk_cell HX.bb 1).trans rfl; have pb2 := (blk_cell HX.bb 2).trans rfl; have pc0 := (blk_cell HX.bc 0).trans rfl; have pc1 := (blk_cell HX.bc 1).trans rfl; have pc2 := (blk_cell HX.bc 2).trans rfl; have pr0 := (blk_cell HX.br 0).trans rfl; have pr1 := (blk_cell HX.br 1).trans rfl; have pr2 := (blk_cell HX.br 2).trans rfl; have fr0 := blk_frozen HX.br 0; have fr1 := blk_frozen HX.br 1; have fr2 := blk_frozen HX.br 2; clear HX) | (go_at_call 67; refine (r13_Compare.calls k _ _ _ _ _ _ t _ (hT.below HX0.below) Ht.out).mono ?_; rintro e W3 ⟨rfl, hb3⟩; have HX1 := HX0.then_ hb3; clear pa0 pa1 pa2 pb0 pb1 pb2 pc0 pc1 pc2 pr0 pr1 pr2 fr0 fr1 fr2; have HX := HX1; have pa0 := (blk_cell HX.ba 0).trans rfl; have pa1 := (blk_cell HX.ba 1).trans rfl; have pa2 := (blk_cell HX.ba 2).trans rfl; have pb0 := (blk_cell HX.bb 0).trans rfl; have pb1 := (blk_cell HX.bb 1).trans rfl; have pb2 := (blk_cell HX.bb 2).trans rfl; have pc0 := (blk_cell HX.bc 0).trans rfl; have pc1 := (blk_cell HX.bc 1).trans rfl; have pc2 := (blk_cell HX.bc 2).trans rfl; have pr0 := (blk_cell HX.br 0).trans rfl; have pr1 := (blk_cell HX.br 1).trans rfl; have pr2 := (blk_cell HX.br 2).trans rfl; have fr0 := blk_frozen HX.br 0; have fr1 := blk_frozen HX.br 1; have fr2 := blk_frozen HX.br 2; clear HX) | (go_at_call 66; refine (r13_yes.calls _ _ _ _ _ (hT.below HX1.below) Hh.out).mono ?_; rintro e W2 ⟨rfl, hb2⟩; have HX2 := HX1.then_ hb2; clear pa0 pa1 pa2 pb0 pb1 pb2 pc0 pc1 pc2 pr0 pr1 pr2 fr0 fr1 fr2; have HX := HX2; have pa0 := (blk_cell HX.ba 0).trans rfl; have pa1 := (blk_cell HX.ba 1).trans rfl; have pa2 := (blk_cell HX.ba 2).trans rfl; have pb0 := (blk_cell HX.bb 0).trans rfl; have pb1 := (blk_cell HX.bb 1).trans rfl; have pb2 := (blk_cell HX.bb 2).trans rfl; have pc0 := (blk_cell HX.bc 0).trans rfl; have pc1 := (blk_cell HX.bc 1).trans rfl; have pc2 := (blk_cell HX.bc 2).trans rfl; have pr0 := (blk_cell HX.br 0).trans rfl; have pr1 := (blk_cell HX.br 1).trans rfl; have pr2 := (blk_cell HX.br 2).trans rfl; have fr0 := blk_frozen HX.br 0; have fr1 := blk_frozen HX.br 1; have fr2 := blk_frozen HX.br 2; clear HX))
  refine bodyPost_ret (results_cell_row rfl _ _ (w.heap.size + 1 + 1 + 1) 24 #[.bool r1, .int .i64 r2, .string r3] (0, 0) _ rfl (blk_set (blk_set (blk_set HX2.br 0 _) 1 _) 2 _) hu1 rfl (by kernel_rfl)) rfl ?_
  exact ⟨rfl, below_set (below_set (below_set HX2.below (by show w.heap.size ≤ w.heap.size + 1 + 1 + 1; omega)) (by show w.heap.size ≤ w.heap.size + 1 + 1 + 1; omega)) (by show w.heap.size ≤ w.heap.size + 1 + 1 + 1; omega)⟩
 by_cases c15 : a0 = 15
 ·subst c15
  obtain ⟨t, ht, h⟩ := Option.bind_eq_some_iff.1 (show (r13_Compare.f k a1_0 a1_1 a1_2 a2_0 a2_1 a2_2).bind (fun t => r13_yes.f (decide (t < 0))) = some (r1, r2, r3) from h)
  have Ht := Lib.hid ht
  have Hh := Lib.hid h
  clear h ht
  go_enter Tryz.func56, Tryz.ntmps56
  go_wp2_with (first | (go_at_call 64; refine (r13_div.calls _ _ q1 q2 _ (hT.below (HS w).below) Hd.out).mono ?_; rintro e W1 ⟨rfl, n1, rfl⟩; have HX0 := (HS w).then_ (pw_below_drewN (Below.refl _ _) n1); generalize hW1 : World.drewN _ n1 = W1 at HX0; have HX := HX0; clear hW1; have pa0 := (blk_cell HX.ba 0).trans rfl; have pa1 := (blk_cell HX.ba 1).trans rfl; have pa2 := (blk_cell HX.ba 2).trans rfl; have pb0 := (blk_cell HX.bb 0).trans rfl; have pb1 := (blk_cell HX.bb 1).trans rfl; have pb2 := (blk_cell HX.bb 2).trans rfl; have pc0 := (blk_cell HX.bc 0).trans rfl; have pc1 := (blk_cell HX.bc 1).trans rfl; have pc2 := (blk_cell HX.bc 2).trans rfl; have pr0 := (blk_cell HX.br 0).trans rfl; have pr1 := (blk_cell HX.br 1).trans rfl; have pr2 := (blk_cell HX.br 2).trans rfl; have fr0 := blk_frozen HX.br 0; have fr1 := blk_frozen HX.br 1; have fr2 := blk_frozen HX.br 2; clear HX) | (go_at_call 67; refine (r13_Compare.calls k _ _ _ _ _ _ t _ (hT.below HX0.below) Ht.out).mono ?_; rintro e W3 ⟨rfl, hb3⟩; have HX1 := HX0.then_ hb3; clear pa0 pa1 pa2 pb0 pb1 pb2 pc0 pc1 pc2 pr0 pr1 pr2 fr0 fr1 fr2; have HX := HX1; have pa0 := (blk_cell HX.ba 0).trans rfl; have pa1 := (blk_cell HX.ba 1).trans rfl; have pa2 := (blk_cell HX.ba 2).trans rfl; have pb0 := (blk_cell HX.bb 0).trans rfl; have pb1 := (blk_cell HX.bb 1).trans rfl; have pb2 := (blk_cell HX.bb 2).trans rfl; have pc0 := (blk_cell HX.bc 0).trans rfl; have pc1 := (blk_cell HX.bc 1).trans rfl; have pc2 := (blk_cell HX.bc 2).trans rfl; have pr0 := (blk_cell HX.br 0).trans rfl; have pr1 := (blk_cell HX.br 1).trans rfl; have pr2 := (blk_cell HX.br 2).trans rfl; have fr0 := blk_frozen HX.br 0; have fr1 := blk_frozen HX.br 1; have fr2 := blk_frozen HX.br 2; clear HX) | (go_at_call 66; refine (r13_yes.calls _ _ _ _ _ (hT.below HX1.below) Hh.out).mono ?_; rintro e W2 ⟨rfl, hb2⟩; have HX2 := HX1.then_ hb2; clear pa0 pa1 pa2 pb0 pb1 pb2 pc0 pc1 pc2 pr0 pr1 pr2 fr0 fr1 fr2; have HX := HX2; have pa0 := (blk_cell HX.ba 0).trans rfl; have pa1 := (blk_cell HX.ba 1).trans rfl; have pa2 := (blk_cell HX.ba 2).trans rfl; have pb0 := (blk_cell HX.bb 0).trans rfl; have pb1 := (blk_cell HX.bb 1).trans rfl; have pb2 := (blk_cell HX.bb 2).trans rfl; have pc0 := (blk_cell HX.bc 0).trans rfl; have pc1 := (blk_cell HX.bc 1).trans rfl; have pc2 := (blk_cell HX.bc 2).trans rfl; have pr0 := (blk_cell HX.br 0).trans rfl; have pr1 := (blk_cell HX.br 1).trans rfl; have pr2 := (blk_cell HX.br 2).trans rfl; have fr0 := blk_frozen HX.br 0; have fr1 := blk_frozen HX.br 1; have fr2 := blk_frozen HX.br 2; clear HX))
  refine bodyPost_ret (results_cell_row rfl _ _ (w.heap.size + 1 + 1 + 1) 24 #[.bool r1, .int .i64 r2, .string r3] (0, 0) _ rfl (blk_set (blk_set (blk_set HX2.br 0 _) 1 _) 2 _) hu1 rfl (by kernel_rfl)) rfl ?_
  exact ⟨rfl, below_set (below_set (below_set HX2.below (by show w.heap.size ≤ w.heap.size + 1 + 1 + 1; omega)) (by show w.heap.size ≤ w.heap.size + 1 + 1 + 1; omega)) (by show w.heap.size ≤ w.heap.size + 1 + 1 + 1; omega)⟩
 by_cases c16 : a0 = 16
 ·subst c16
  replace h : r13_yes.f (a1_1 == 0) = some (r1, r2, r3) := h
  have Hh := Lib.hid h
  clear h
  go_enter Tryz.func56, Tryz.ntmps56
  go_wp2_with (first | (go_at_call 64; refine (r13_div.calls _ _ q1 q2 _ (hT.below (HS w).below) Hd.out).mono ?_; rintro e W1 ⟨rfl, n1, rfl⟩; have HX0 := (HS w).then_ (pw_below_drewN (Below.refl _ _) n1); generalize hW1 : World.drewN _ n1 = W1 at HX0; have HX := HX0; clear hW1; have pa0 := (blk_cell HX.ba 0).trans rfl; have pa1 := (blk_cell HX.ba 1).trans rfl; have pa2 := (blk_cell HX.ba 2).trans rfl; have pb0 := (blk_cell HX.bb 0).trans rfl; have pb1 := (blk_cell HX.bb 1).trans rfl; have pb2 := (blk_cell HX.bb 2).trans rfl; have pc0 := (blk_cell HX.bc 0).trans rfl; have pc1 := (blk_cell HX.bc 1).trans rfl; have pc2 := (blk_cell HX.bc 2).trans rfl; have pr0 := (blk_cell HX.br 0).trans rfl; have pr1 := (blk_cell HX.br 1).trans rfl; have pr2 := (blk_cell HX.br 2).trans rfl; have fr0 := blk_frozen HX.br 0; have fr1 := blk_frozen HX.br 1; have fr2 := blk_frozen HX.br 2; clear HX) | (go_at_call 66; refine (r13_yes.calls _ _ _ _ _ (hT.below HX0.below) Hh.out).mono ?_; rintro e W2 ⟨rfl, hb2⟩; have HX2 := HX0.then_ hb2; clear pa0 pa1 pa2 pb0 pb1 pb2 pc0 pc1 pc2 pr0 pr1 pr2 fr0 fr1 fr2; have HX := HX2; have pa0 := (blk_cell HX.ba 0).trans rfl; have pa1 := (blk_cell HX.ba 1).trans rfl; have pa2 := (blk_cell HX.ba 2).trans rfl; have pb0 := (blk_cell HX.bb 0).trans rfl; have pb1 := (blk_cell HX.bb 1).trans rfl; have pb2 := (blk_cell HX.bb 2).trans rfl; have pc0 := (blk_cell HX.bc 0).trans rfl; have pc1 := (blk_cell HX.bc 1).trans rfl; have pc2 := (blk_cell HX.bc 2).trans rfl; have pr0 := (blk_cell HX.br 0).trans rfl; have pr1 := (blk_cell HX.br 1).trans rfl; have pr2 := (blk_cell HX.br 2).trans rfl; have fr0 := blk_frozen HX.br 0; have fr1 := blk_frozen HX.br 1; have fr2 := blk_frozen HX.br 2; clear HX))
  refine bodyPost_ret (results_cell_row rfl _ _ (w.heap.size + 1 + 1 + 1) 24 #[.bool r1, .int .i64 r2, .string r3] (0, 0) _ rfl (blk_set (blk_set (blk_set HX2.br 0 _) 1 _) 2 _) hu1 rfl (by kernel_rfl)) rfl ?_
  exact ⟨rfl, below_set (below_set (below_set HX2.below (by show w.heap.size ≤ w.heap.size + 1 + 1 + 1; omega)) (by show w.heap.size ≤ w.heap.size + 1 + 1 + 1; omega)) (by show w.heap.size ≤ w.heap.size + 1 + 1 + 1; omega)⟩
 by_cases c17 : a0 = 17
 case neg =>
  simp only [if_neg c4, if_neg c5, if_neg c6, if_neg c7, if_neg c8, if_neg c14, if_neg c15, if_neg c16, if_neg c17] at h
  cases h
 subst c17
 replace h : (if a1_1 = 0 then (some (a3_0, a3_1, a3_2)) else (some (a2_0, a2_1, a2_2))) = some (r1, r2, r3) := h
 clear c4 c5 c6 c7 c8 c14 c15 c16
 by_cases c : a1_1 = 0
 ·rw [if_pos c] at h
  simp only [Option.some.injEq, Prod.mk.injEq] at h
  obtain ⟨rfl, rfl, rfl⟩ := h
  have cb : (a1_1 != 0) = false := by simp [c]
  clear c
  go_enter Tryz.func56, Tryz.ntmps56
  go_wp2_with ((go_at_call 64; refine (r13_div.calls _ _ q1 q2 _ (hT.below (HS w).below) Hd.out).mono ?_; rintro e W1 ⟨rfl, n1, rfl⟩; have HX0 := (HS w).then_ (pw_below_drewN (Below.refl _ _) n1); generalize hW1 : World.drewN _ n1 = W1 at HX0; have HX := HX0; clear hW1; have pa0 := (blk_cell HX.ba 0).trans rfl; have pa1 := (blk_cell HX.ba 1).trans rfl; have pa2 := (blk_cell HX.ba 2).trans rfl; have pb0 := (blk_cell HX.bb 0).trans rfl; have pb1 := (blk_cell HX.bb 1).trans rfl; have pb2 := (blk_cell HX.bb 2).trans rfl; have pc0 := (blk_cell HX.bc 0).trans rfl; have pc1 := (blk_cell HX.bc 1).trans rfl; have pc2 := (blk_cell HX.bc 2).trans rfl; have pr0 := (blk_cell HX.br 0).trans rfl; have pr1 := (blk_cell HX.br 1).trans rfl; have pr2 := (blk_cell HX.br 2).trans rfl; have fr0 := blk_frozen HX.br 0; have fr1 := blk_frozen HX.br 1; have fr2 := blk_frozen HX.br 2; clear HX))
  have HX2 := HX0
  refine bodyPost_ret (results_cell_row rfl _ _ (w.heap.size + 1 + 1 + 1) 24 #[.bool a3_0, .int .i64 a3_1, .string a3_2] (0, 0) _ rfl (blk_set (blk_set (blk_set HX2.br 0 _) 1 _) 2 _) hu1 rfl (by kernel_rfl)) rfl ?_
  exact ⟨rfl, below_set (below_set (below_set HX2.below (by show w.heap.size ≤ w.heap.size + 1 + 1 + 1; omega)) (by show w.heap.size ≤ w.heap.size + 1 + 1 + 1; omega)) (by show w.heap.size ≤ w.heap.size + 1 + 1 + 1; omega)⟩
 ·rw [if_neg c] at h
  simp only [Option.some.injEq, Prod.mk.injEq] at h
  obtain ⟨rfl, rfl, rfl⟩ := h
  have cb : (a1_1 != 0) = true := by simp [c]
  clear c
  go_enter Tryz.func56, Tryz.ntmps56
  go_wp2_with ((go_at_call 64; refine (r13_div.calls _ _ q1 q2 _ (hT.below (HS w).below) Hd.out).mono ?_; rintro e W1 ⟨rfl, n1, rfl⟩; have HX0 := (HS w).then_ (pw_below_drewN (Below.refl _ _) n1); generalize hW1 : World.drewN _ n1 = W1 at HX0; have HX := HX0; clear hW1; have pa0 := (blk_cell HX.ba 0).trans rfl; have pa1 := (blk_cell HX.ba 1).trans rfl; have pa2 := (blk_cell HX.ba 2).trans rfl; have pb0 := (blk_cell HX.bb 0).trans rfl; have pb1 := (blk_cell HX.bb 1).trans rfl; have pb2 := (blk_cell HX.bb 2).trans rfl; have pc0 := (blk_cell HX.bc 0).trans rfl; have pc1 := (blk_cell HX.bc 1).trans rfl; have pc2 := (blk_cell HX.bc 2).trans rfl; have pr0 := (blk_cell HX.br 0).trans rfl; have pr1 := (blk_cell HX.br 1).trans rfl; have pr2 := (blk_cell HX.br 2).trans rfl; have fr0 := blk_frozen HX.br 0; have fr1 := blk_frozen HX.br 1; have fr2 := blk_frozen HX.br 2; clear HX))
  have HX2 := HX0
  refine bodyPost_ret (results_cell_row rfl _ _ (w.heap.size + 1 + 1 + 1) 24 #[.bool a2_0, .int .i64 a2_1, .string a2_2] (0, 0) _ rfl (blk_set (blk_set (blk_set HX2.br 0 _) 1 _) 2 _) hu1 rfl (by kernel_rfl)) rfl ?_
  exact ⟨rfl, below_set (below_set (below_set HX2.below (by show w.heap.size ≤ w.heap.size + 1 + 1 + 1; omega)) (by show w.heap.size ≤ w.heap.size + 1 + 1 + 1; omega)) (by show w.heap.size ≤ w.heap.size + 1 + 1 + 1; omega)⟩
def r13_clip.f (a0 : ByteArray) : Option (ByteArray) := if 0 ≤ (mn (a0.size : Int) 1000) then (if (mn (a0.size : Int) 1000) ≤ (a0.size : Int) then (some (a0.extract 0 ((mn (a0.size : Int) 1000) : Int).toNat)) else (none)) else (none)
set_option maxHeartbeats 8000000 in
set_option maxRecDepth 100000 in
theorem r13_clip.calls (a0 : ByteArray) (r : ByteArray) (w : World) (hT : Tabs w) (h : r13_clip.f a0 = some r) :
  Calls Tryz.prog 58 #[.string a0] w fun e w' => e = .returned (.string r) ∧ Below w.heap.size w w' := by
 have HB := xy (Below.refl w.heap.size w)
 unfold r13_clip.f at h
 have H := h
 clear h
 obtain ⟨ji2, hji2⟩ : ∃ j_ : Int, (mn (a0.size : Int) 1000) = j_ := ⟨_, rfl⟩
 replace H : (if 0 ≤ (ji2) then (if (ji2) ≤ (a0.size : Int) then (some (a0.extract 0 ((ji2) : Int).toNat)) else (none)) else (none)) = some r := by first | (rw [hji2] at H; exact H) | (simp only [hji2] at H ⊢; exact H)
 (try (have hji2h : ji2 ≤ 1000 := by (rw [← hji2]; unfold mn; (repeat' split) <;> omega)))
 (try (have hji2g : ji2 ≤ 64 := by omega))
 (try (have hji2l : 0 ≤ ji2 := by (rw [← hji2]; unfold mn; (repeat' split) <;> omega)))
 (try (have hji2m : 0 ≤ ji2 := by omega))
 have hji2_ : (if 1000 < (a0.size : Int) then 1000 else (a0.size : Int)) = ji2 := hji2
 by_cases c3 : 0 ≤ (ji2)
 ·rw [if_pos c3] at H
  have c3b0 := eq_true c3
  have c3b1 : decide (0 ≤ (ji2)) = true := decide_eq_true c3
  clear c3
  by_cases c4 : (ji2) ≤ (a0.size : Int)
  ·rw [if_pos c4] at H
   have c4b0 := eq_true c4
   have c4b1 : decide ((ji2) ≤ (a0.size : Int)) = true := decide_eq_true c4
   clear c4
   obtain rfl := Option.some.inj H
   go_enter Tryz.func58, Tryz.ntmps58
   go_wp2
   go_ret
   exact ⟨by first | rfl | (simp [errW_none, errW_some] <;> rfl) | (simp only [← hji2]; first | rfl | (simp [errW_none, errW_some] <;> rfl)) | (simp [*, errW_none, errW_some] <;> rfl), xb⟩
  ·rw [if_neg c4] at H
   exact absurd H (by simp)
 ·rw [if_neg c3] at H
  exact absurd H (by simp)
def r13_Text.f (a0 : ByteArray) : Option (Bool × Int × ByteArray) := (r13_clip.f a0).bind fun t344 => (some (true, 0, t344))
set_option maxHeartbeats 8000000 in
set_option maxRecDepth 100000 in
theorem r13_Text.calls (a0 : ByteArray) (r1 : Bool) (r2 : Int) (r3 : ByteArray) (w : World) (hT : Tabs w) (h : r13_Text.f a0 = some (r1, r2, r3)) :
  Calls Tryz.prog 48 #[.string a0] w fun e w' => e = .returned (.agg #[.bool r1, .int .i64 r2, .string r3]) ∧ Below w.heap.size w w' := by
 have hu24 := Tryz.underlying24
 have HB := xy (Below.refl w.heap.size w)
 unfold r13_Text.f at h
 have H := h
 clear h
 replace H := xj H
 obtain ⟨t344, A20, H⟩ := H
 try dsimp only at H
 have A2 := xy A20
 clear A20
 simp only [Option.some.injEq, Prod.mk.injEq] at H
 obtain ⟨rfl, rfl, rfl⟩ := H
 go_enter Tryz.func48, Tryz.ntmps48
 go_wp2_with (first | ((with_reducible refine gate_dst (N := 2) rfl ?_); refine xq (N := 2) (cs := #[.bool false, .int .i64 0, .string (⟨#[]⟩ : ByteArray)]) (t := 24) ?_; intro gb343 hg w3 hbox hb; have BK343 := xy (hbox); have GW343 := xs w hg; have GE343 := xs w hg; replace HB := xy (below_step xb hb); clear hb hbox hg) | ((with_reducible refine gate_callee (f := 58) rfl ?_); refine goesL_ (some 4) rfl rfl Tryz.func58 (by kernel_rfl) rfl #[.string a0] rfl xr ?_; (with_reducible refine (r13_clip.calls a0 t344 _ (Tabs.below hT xf) A2.out).mono ?_); rintro e w4 ⟨rfl, hb⟩; refine ⟨_, rfl, ?_⟩; replace BK343 := xd BK343.out hb; replace HB := xy (below_step xb hb); (try clear hb); (try clear hb2); (try clear hk); (try clear hi); have hcz5_0 : w4.cell? ⟨gb343, 0, none⟩ = some (.bool false) := (kc BK343.out 0).trans rfl; have hcz5_1 : w4.cell? ⟨gb343, 1, none⟩ = some (.int .i64 0) := (kc BK343.out 1).trans rfl; have hcz5_2 : w4.cell? ⟨gb343, 2, none⟩ = some (.string (⟨#[]⟩ : ByteArray)) := (kc BK343.out 2).trans rfl; have hfz5_0 := kf BK343.out 0; have hfz5_1 := kf BK343.out 1; have hfz5_2 := kf BK343.out 2))
 refine bodyPost_ret (results_cell_row rfl _ _ gb343 24 #[.bool true, .int .i64 0, .string t344] (0, 0) _ rfl (kp BK343.out) Tryz.underlying24 rfl (by kernel_rfl)) rfl ?_
 exact ⟨xe, xb⟩
def r13_slice.f (a0 : ByteArray) (a1 : Int) (a2 : Int) : Option (ByteArray) := if 0 ≤ (mn (mx a1 0) (a0.size : Int)) then (if (mn (mx a1 0) (a0.size : Int)) ≤ (wrap64 ((mn (mx a1 0) (a0.size : Int)) + (mn (mx a2 0) (wrap64 ((a0.size : Int) - (mn (mx a1 0) (a0.size : Int))))))) then (if (wrap64 ((mn (mx a1 0) (a0.size : Int)) + (mn (mx a2 0) (wrap64 ((a0.size : Int) - (mn (mx a1 0) (a0.size : Int))))))) ≤ (a0.size : Int) then (some (a0.extract ((mn (mx a1 0) (a0.size : Int)) : Int).toNat ((wrap64 ((mn (mx a1 0) (a0.size : Int)) + (mn (mx a2 0) (wrap64 ((a0.size : Int) - (mn (mx a1 0) (a0.size : Int))))))) : Int).toNat)) else (none)) else (none)) else (none)
set_option maxHeartbeats 8000000 in
set_option maxRecDepth 100000 in
theorem r13_slice.calls (a0 : ByteArray) (a1 : Int) (a2 : Int) (r : ByteArray) (w : World) (hT : Tabs w) (h : r13_slice.f a0 a1 a2 = some r) :
  Calls Tryz.prog 68 #[.string a0, .int .i64 a1, .int .i64 a2] w fun e w' => e = .returned (.string r) ∧ Below w.heap.size w w' := by
 have HB := xy (Below.refl w.heap.size w)
 unfold r13_slice.f at h
 have H := h
 clear h
 obtain ⟨ji4, hji4⟩ : ∃ j_ : Int, (mx a1 0) = j_ := ⟨_, rfl⟩
 replace H : (if 0 ≤ (mn (ji4) (a0.size : Int)) then (if (mn (ji4) (a0.size : Int)) ≤ (wrap64 ((mn (ji4) (a0.size : Int)) + (mn (mx a2 0) (wrap64 ((a0.size : Int) - (mn (ji4) (a0.size : Int))))))) then (if (wrap64 ((mn (ji4) (a0.size : Int)) + (mn (mx a2 0) (wrap64 ((a0.size : Int) - (mn (ji4) (a0.size : Int))))))) ≤ (a0.size : Int) then (some (a0.extract ((mn (ji4) (a0.size : Int)) : Int).toNat ((wrap64 ((mn (ji4) (a0.size : Int)) + (mn (mx a2 0) (wrap64 ((a0.size : Int) - (mn (ji4) (a0.size : Int))))))) : Int).toNat)) else (none)) else (none)) else (none)) = some r := by first | (rw [hji4] at H; exact H) | (simp only [hji4] at H ⊢; exact H)
 (try (have hji4l : 0 ≤ ji4 := by (rw [← hji4]; unfold mx; (repeat' split) <;> omega)))
 (try (have hji4m : 0 ≤ ji4 := by omega))
 have hji4_ : (if a1 < 0 then 0 else a1) = ji4 := hji4
 obtain ⟨ji5, hji5⟩ : ∃ j_ : Int, (mn (ji4) (a0.size : Int)) = j_ := ⟨_, rfl⟩
 replace H : (if 0 ≤ (ji5) then (if (ji5) ≤ (wrap64 ((ji5) + (mn (mx a2 0) (wrap64 ((a0.size : Int) - (ji5)))))) then (if (wrap64 ((ji5) + (mn (mx a2 0) (wrap64 ((a0.size : Int) - (ji5)))))) ≤ (a0.size : Int) then (some (a0.extract ((ji5) : Int).toNat ((wrap64 ((ji5) + (mn (mx a2 0) (wrap64 ((a0.size : Int) - (ji5)))))) : Int).toNat)) else (none)) else (none)) else (none)) = some r := by first | (rw [hji5] at H; exact H) | (simp only [hji5] at H ⊢; exact H)
 have hji5_ : (if (a0.size : Int) < (ji4) then (a0.size : Int) else (ji4)) = ji5 := hji5
 obtain ⟨ji6, hji6⟩ : ∃ j_ : Int, (mx a2 0) = j_ := ⟨_, rfl⟩
 replace H : (if 0 ≤ (ji5) then (if (ji5) ≤ (wrap64 ((ji5) + (mn (ji6) (wrap64 ((a0.size : Int) - (ji5)))))) then (if (wrap64 ((ji5) + (mn (ji6) (wrap64 ((a0.size : Int) - (ji5)))))) ≤ (a0.size : Int) then (some (a0.extract ((ji5) : Int).toNat ((wrap64 ((ji5) + (mn (ji6) (wrap64 ((a0.size : Int) - (ji5)))))) : Int).toNat)) else (none)) else (none)) else (none)) = some r := by first | (rw [hji6] at H; exact H) | (simp only [hji6] at H ⊢; exact H)
 (try (have hji6l : 0 ≤ ji6 := by (rw [← hji6]; unfold mx; (repeat' split) <;> omega)))
 (try (have hji6m : 0 ≤ ji6 := by omega))
 have hji6_ : (if a2 < 0 then 0 else a2) = ji6 := hji6
 obtain ⟨ji7, hji7⟩ : ∃ j_ : Int, (mn (ji6) (wrap64 ((a0.size : Int) - (ji5)))) = j_ := ⟨_, rfl⟩
 replace H : (if 0 ≤ (ji5) then (if (ji5) ≤ (wrap64 ((ji5) + (ji7))) then (if (wrap64 ((ji5) + (ji7))) ≤ (a0.size : Int) then (some (a0.extract ((ji5) : Int).toNat ((wrap64 ((ji5) + (ji7))) : Int).toNat)) else (none)) else (none)) else (none)) = some r := by first | (rw [hji7] at H; exact H) | (simp only [hji7] at H ⊢; exact H)
 have hji7_ : (if (wrap64 ((a0.size : Int) - (ji5))) < (ji6) then (wrap64 ((a0.size : Int) - (ji5))) else (ji6)) = ji7 := hji7
 by_cases c8 : 0 ≤ (ji5)
 ·rw [if_pos c8] at H
  have c8b0 := eq_true c8
  have c8b1 : decide (0 ≤ (ji5)) = true := decide_eq_true c8
  clear c8
  by_cases c9 : (ji5) ≤ (wrap64 ((ji5) + (ji7)))
  ·rw [if_pos c9] at H
   have c9b0 := eq_true c9
   have c9b1 : decide ((ji5) ≤ (wrap64 ((ji5) + (ji7)))) = true := decide_eq_true c9
   by_cases c10 : (wrap64 ((ji5) + (ji7))) ≤ (a0.size : Int)
   ·rw [if_pos c10] at H
    have c10b0 := eq_true c10
    have c10b1 : decide ((wrap64 ((ji5) + (ji7))) ≤ (a0.size : Int)) = true := decide_eq_true c10
    obtain rfl := Option.some.inj H
    go_enter Tryz.func68, Tryz.ntmps68
    go_wp2
    go_ret
    exact ⟨by first | rfl | (simp [errW_none, errW_some] <;> rfl) | (simp only [← hji4, ← hji5, ← hji6, ← hji7]; first | rfl | (simp [errW_none, errW_some] <;> rfl)) | (simp [*, errW_none, errW_some] <;> rfl), xb⟩
   ·rw [if_neg c10] at H
    exact absurd H (by simp)
  ·rw [if_neg c9] at H
   exact absurd H (by simp)
 ·rw [if_neg c8] at H
  exact absurd H (by simp)
def r13_turned.l0 : Nat → ByteArray → Int → List Int → Int → Option (ByteArray)
 | 0, _, _, _, _ => none
 | k + 1, x0, x1, x5, x6 => if x6 < (x0.size : Int) then (if 0 ≤ x6 then (if (bt x0 x6) ≥ x1 then (if (bt x0 x6) < ((x1 + 26) % 256) then (if x5.length < 140737488355328 then (r13_turned.l0 k x0 x1 (x5 ++ [Go.bits .xor .u8 (bt x0 x6) 32]) (wrap64 (x6 + 1))) else (none)) else (if x5.length < 140737488355328 then (r13_turned.l0 k x0 x1 (x5 ++ [bt x0 x6]) (wrap64 (x6 + 1))) else (none))) else (if x5.length < 140737488355328 then (r13_turned.l0 k x0 x1 (x5 ++ [bt x0 x6]) (wrap64 (x6 + 1))) else (none))) else (none)) else (some (strOfNums x5))
def r13_turned.f (k : Nat) (a0 : ByteArray) (a1 : Int) : Option (ByteArray) := r13_turned.l0 k a0 a1 (([] : List Int)) 0
theorem r13_turned.mono_l : ∀ k, (∀ y0 y1 y2 y3, LeO (r13_turned.l0 k y0 y1 y2 y3) (r13_turned.l0 (k + 1) y0 y1 y2 y3))
 | 0 => fun _ _ _ _ r h => by simp [r13_turned.l0] at h
 | k + 1 => by
  have ih0 := r13_turned.mono_l k
  ·intro y0 y1 y2 y3
   unfold r13_turned.l0
   repeat' (with_reducible first | exact ih0 _ _ _ _ | exact LeO.refl _ | exact LeO.none _ | refine LeO.ite ?_ ?_ | refine LeO.bind ?_ (fun _ => ?_))
theorem r13_turned.mono : ∀ a0 a1 k, LeO (r13_turned.f k a0 a1) (r13_turned.f (k + 1) a0 a1) := by
 intro a0 a1 k
 have ih0 := r13_turned.mono_l k
 unfold r13_turned.f
 repeat' (with_reducible first | exact ih0 _ _ _ _ | exact LeO.refl _ | exact LeO.none _ | refine LeO.ite ?_ ?_ | refine LeO.bind ?_ (fun _ => ?_))
set_option maxHeartbeats 8000000 in
set_option maxRecDepth 100000 in
theorem r13_turned.calls (k : Nat) (a0 : ByteArray) (a1 : Int) (r : ByteArray) (w : World) (hT : Tabs w) (h : r13_turned.f k a0 a1 = some r) :
  Calls Tryz.prog 69 #[.string a0, .int .u8 a1] w fun e w' => e = .returned (.string r) ∧ Below w.heap.size w w' := by
 have HB := xy (Below.refl w.heap.size w)
 unfold r13_turned.f at h
 have H := h
 clear h
 obtain ⟨y345, hy345⟩ : ∃ y_ : List Int, y_ = (([] : List Int)) := ⟨_, rfl⟩
 replace H : (r13_turned.l0 k a0 a1 y345 0) = some r := by first | (rw [hy345]; with_reducible exact H) | (have H2_ := (Option.bind_some _ _).symm.trans H; rw [hy345]; with_reducible exact H2_) | (have H2_ := (Option.bind_some _ _).symm.trans H; with_reducible exact H2_) | with_reducible exact H | (rw [hy345]; exact H) | exact H
 have Ny345 := xy hy345
 clear hy345
 have H' := xy H
 clear H
 go_enter Tryz.func69, Tryz.ntmps69
 go_wp2_with (((with_reducible refine gate_dst (N := 8) rfl ?_); refine Kd.R_lit (Kd.int .u8) _ 5 ?hg (N := 8) ?hd (xs := ([] : List Int)) (inner := []) (ok := fun _ => True) (okp := fun _ => True) ?hr ?hp (fun _ hk => hk) trivial (Below.refl _ _) (Nat.le_refl _) (by simp) ?_; (case hd => rfl); (case hg => rfl); (case hr => exact xh); (case hp => exact (Reps.none _ _)); intro v346 w3 ho4 hb hg_ hnew_; clear hg_ hnew_; (first | rw [← Ny345.out] at ho4 | (simp only [Int.reduceToNat] at ho4; rw [← Ny345.out] at ho4)); have HO347 := xy (Kd.R_lower ho4 (below_size xb)); replace HB := xy (below_step xb hb); clear hb ho4))
 go_loopg [5, 6] k (fun kq v5 v6 w' => ∃ (x5_1 : List Int) (x6_1 : Int), v6 = .int .i64 x6_1 ∧ Aside0 (r13_turned.l0 kq a0 a1 x5_1 x6_1 = some r) ∧ Aside0 (kq ≤ k) ∧ Aside0 (Kd.R (Kd.int .u8) 5 w' w.heap.size (fun _ => True) v5 x5_1) ∧ Aside0 (Below w.heap.size w w'))
 case atStart => exact ⟨(y345), (0), xg, H', ⟨Nat.le_refl _⟩, ⟨by (with_reducible repeat (first | apply Kd.R_alloc | apply Kd.R_drewN | apply Kd.R_drew)); exact HO347.out⟩, ⟨xb⟩⟩
 case round =>
  clear H'
  try clear p2
  obtain ⟨x5_1, x6_1, rfl, HA, HK1, HO_5, HB⟩ := hrel
  cases gk with
  | zero => exact absurd HA.out (by simp [r13_turned.l0])
  | succ k1 =>
   have H := HA.out
   clear HA
   simp only [r13_turned.l0] at H
   by_cases c5 : x6_1 < (a0.size : Int)
   ·rw [if_pos c5] at H
    have c5b0 : decide (x6_1 < (a0.size : Int)) = true := decide_eq_true c5
    clear c5
    by_cases c6 : 0 ≤ x6_1
    ·rw [if_pos c6] at H
     have c6b0 : decide (0 ≤ x6_1) = true := decide_eq_true c6
     clear c6
     by_cases c8 : (bt a0 x6_1) ≥ a1
     ·rw [if_pos c8] at H
      have c8b0 : decide (a1 ≤ (bt a0 x6_1)) = true := decide_eq_true c8
      clear c8
      by_cases c9 : (bt a0 x6_1) < ((a1 + 26) % 256)
      ·rw [if_pos c9] at H
       have c9b0 : decide ((bt a0 x6_1) < ((a1 + 26) % 256)) = true := decide_eq_true c9
       clear c9
       by_cases c10 : x5_1.length < 140737488355328
       ·rw [if_pos c10] at H
        have LMc10 := xy c10
        clear c10
        obtain ⟨y348, hy348⟩ : ∃ y_ : List Int, y_ = (x5_1 ++ [Go.bits .xor .u8 (bt a0 x6_1) 32]) := ⟨_, rfl⟩
        replace H : (r13_turned.l0 k1 a0 a1 y348 (wrap64 (x6_1 + 1))) = some r := by first | (rw [hy348]; with_reducible exact H) | (have H2_ := (Option.bind_some _ _).symm.trans H; rw [hy348]; with_reducible exact H2_) | (have H2_ := (Option.bind_some _ _).symm.trans H; with_reducible exact H2_) | with_reducible exact H | (rw [hy348]; exact H) | exact H
        have Ny348 := xy hy348
        clear hy348
        have H' := xy H
        clear H
        have p7 : 0 ≤ (x6_1 : Int) := xi
        have q7 : x6_1 < (a0.size : Int) := xi
        have hx7 := bt_at a0 x6_1
        replace p7 := eq_true p7
        replace q7 := eq_true q7
        go_wp2_with (((with_reducible refine gate_builtin (b := .append) (xs := #[.tmp 29, .tmp 31]) rfl ?_); at_builtin; refine Kd.R_append (Kd.int .u8) (w0 := w) w.heap.size rfl (.tmp 29) (.tmp 31) 124 5 (.int .u8 0) 1 rfl Tryz.underlying124 info5 rfl (by decide) (by omega) u5 x5_1 (Go.bits .xor .u8 (bt a0 x6_1) 32) [.int .u8 (Go.bits .xor .u8 (bt a0 x6_1) 32)] (fun _ => True) (fun _ => False) rfl rfl ?aP (fun _ hk => hk.elim) ?aF ?aO ?aB ?aS ?aL ?_; (case aP => exact rfl); (case aB => exact xb); (case aF => exact (fun _ _ => trivial)); (case aO => exact (xo HO_5.out)); (case aS => exact (below_size xb)); (case aL => have := LMc10.out; omega); intro v349 w11 ho hb hg hat; rw [← Ny348.out] at ho; replace HB := xy (hb); have HO350 := xy (ho); clear HO_5; clear ho hb hg hat))
        go_roundg k1
        case measure => have := HK1.out; omega
        case rel => exact ⟨(y348), (wrap64 (x6_1 + 1)), xg, H', ⟨by have := HK1.out; omega⟩, ⟨by (with_reducible repeat (first | apply Kd.R_alloc | apply Kd.R_drewN | apply Kd.R_drew)); exact HO350.out⟩, ⟨xb⟩⟩
       ·rw [if_neg c10] at H
        exact absurd H (by simp)
      ·rw [if_neg c9] at H
       have c9b0 : decide ((bt a0 x6_1) < ((a1 + 26) % 256)) = false := decide_eq_false c9
       clear c9
       by_cases c12 : x5_1.length < 140737488355328
       ·rw [if_pos c12] at H
        have LMc12 := xy c12
        clear c12
        obtain ⟨y351, hy351⟩ : ∃ y_ : List Int, y_ = (x5_1 ++ [bt a0 x6_1]) := ⟨_, rfl⟩
        replace H : (r13_turned.l0 k1 a0 a1 y351 (wrap64 (x6_1 + 1))) = some r := by first | (rw [hy351]; with_reducible exact H) | (have H2_ := (Option.bind_some _ _).symm.trans H; rw [hy351]; with_reducible exact H2_) | (have H2_ := (Option.bind_some _ _).symm.trans H; with_reducible exact H2_) | with_reducible exact H | (rw [hy351]; exact H) | exact H
        have Ny351 := xy hy351
        clear hy351
        have H' := xy H
        clear H
        have p7 : 0 ≤ (x6_1 : Int) := xi
        have q7 : x6_1 < (a0.size : Int) := xi
        have hx7 := bt_at a0 x6_1
        replace p7 := eq_true p7
        replace q7 := eq_true q7
        go_wp2_with (((with_reducible refine gate_builtin (b := .append) (xs := #[.tmp 29, .tmp 31]) rfl ?_); at_builtin; refine Kd.R_append (Kd.int .u8) (w0 := w) w.heap.size rfl (.tmp 29) (.tmp 31) 124 5 (.int .u8 0) 1 rfl Tryz.underlying124 info5 rfl (by decide) (by omega) u5 x5_1 (bt a0 x6_1) [.int .u8 (bt a0 x6_1)] (fun _ => True) (fun _ => False) rfl rfl ?aP (fun _ hk => hk.elim) ?aF ?aO ?aB ?aS ?aL ?_; (case aP => exact rfl); (case aB => exact xb); (case aF => exact (fun _ _ => trivial)); (case aO => exact (xo HO_5.out)); (case aS => exact (below_size xb)); (case aL => have := LMc12.out; omega); intro v352 w13 ho hb hg hat; rw [← Ny351.out] at ho; replace HB := xy (hb); have HO353 := xy (ho); clear HO_5; clear ho hb hg hat))
        go_roundg k1
        case measure => have := HK1.out; omega
        case rel => exact ⟨(y351), (wrap64 (x6_1 + 1)), xg, H', ⟨by have := HK1.out; omega⟩, ⟨by (with_reducible repeat (first | apply Kd.R_alloc | apply Kd.R_drewN | apply Kd.R_drew)); exact HO353.out⟩, ⟨xb⟩⟩
       ·rw [if_neg c12] at H
        exact absurd H (by simp)
     ·rw [if_neg c8] at H
      have c8b0 : decide (a1 ≤ (bt a0 x6_1)) = false := decide_eq_false c8
      clear c8
      by_cases c14 : x5_1.length < 140737488355328
      ·rw [if_pos c14] at H
       have LMc14 := xy c14
       clear c14
       obtain ⟨y354, hy354⟩ : ∃ y_ : List Int, y_ = (x5_1 ++ [bt a0 x6_1]) := ⟨_, rfl⟩
       replace H : (r13_turned.l0 k1 a0 a1 y354 (wrap64 (x6_1 + 1))) = some r := by first | (rw [hy354]; with_reducible exact H) | (have H2_ := (Option.bind_some _ _).symm.trans H; rw [hy354]; with_reducible exact H2_) | (have H2_ := (Option.bind_some _ _).symm.trans H; with_reducible exact H2_) | with_reducible exact H | (rw [hy354]; exact H) | exact H
       have Ny354 := xy hy354
       clear hy354
       have H' := xy H
       clear H
       have p7 : 0 ≤ (x6_1 : Int) := xi
       have q7 : x6_1 < (a0.size : Int) := xi
       have hx7 := bt_at a0 x6_1
       replace p7 := eq_true p7
       replace q7 := eq_true q7
       go_wp2_with (((with_reducible refine gate_builtin (b := .append) (xs := #[.tmp 29, .tmp 31]) rfl ?_); at_builtin; refine Kd.R_append (Kd.int .u8) (w0 := w) w.heap.size rfl (.tmp 29) (.tmp 31) 124 5 (.int .u8 0) 1 rfl Tryz.underlying124 info5 rfl (by decide) (by omega) u5 x5_1 (bt a0 x6_1) [.int .u8 (bt a0 x6_1)] (fun _ => True) (fun _ => False) rfl rfl ?aP (fun _ hk => hk.elim) ?aF ?aO ?aB ?aS ?aL ?_; (case aP => exact rfl); (case aB => exact xb); (case aF => exact (fun _ _ => trivial)); (case aO => exact (xo HO_5.out)); (case aS => exact (below_size xb)); (case aL => have := LMc14.out; omega); intro v355 w15 ho hb hg hat; rw [← Ny354.out] at ho; replace HB := xy (hb); have HO356 := xy (ho); clear HO_5; clear ho hb hg hat))
       go_roundg k1
       case measure => have := HK1.out; omega
       case rel => exact ⟨(y354), (wrap64 (x6_1 + 1)), xg, H', ⟨by have := HK1.out; omega⟩, ⟨by (with_reducible repeat (first | apply Kd.R_alloc | apply Kd.R_drewN | apply Kd.R_drew)); exact HO356.out⟩, ⟨xb⟩⟩
      ·rw [if_neg c14] at H
       exact absurd H (by simp)
    ·rw [if_neg c6] at H
     exact absurd H (by simp)
   ·rw [if_neg c5] at H
    have c5b0 : decide (x6_1 < (a0.size : Int)) = false := decide_eq_false c5
    clear c5
    obtain rfl := Option.some.inj H
    have hcv16 := own_string (P := Tryz.prog) Tryz.underlying124 Tryz.underlying5 Tryz.underlying9 (Kd.own_of_R HO_5.out)
    have hcv17 := fun (nq_ : Nat) => own_string (P := Tryz.prog) Tryz.underlying124 Tryz.underlying5 Tryz.underlying9 (Kd.own_of_R (Kd.R_drewN HO_5.out nq_))
    go_wp2
    go_ret
    exact ⟨xe, xb⟩
end Go.Proofs.YtebofnoljebakaaGreatDoor.PX
