/- Walked functions, by this session's program over the kit's print. -/
import Derived.Test.YtialoecplmnjfaaGreatDoorPXx0
import Derived.Test.YtialoecplmnjfaaGreatDoorPXx3
import Derived.Test.YtialoecplmnjfaaGreatDoorPXx5
import Derived.Test.YtialoecplmnjfaaGreatDoorPXx14
import Derived.Test.YtialoecplmnjfaaGreatDoorPXx15
import Derived.Test.YtialoecplmnjfaaGreatDoorPXx16
namespace Go.Proofs.YtialoecplmnjfaaGreatDoor.PX
open Go.RowKit Go.Proofs.YtialoecplmnjfaaGreatDoorW.PrintWords Go.Proofs.YtialoecplmnjfaaGreatDoorW.PrintLast Go.Proofs.YtialoecplmnjfaaGreatDoorW.PrintMore
attribute [local go_sem] xm_gtr max2_int min2_int max_two min_two max_three min_three max_four min_four
set_option linter.unusedVariables false
set_option linter.unusedSimpArgs false
/- Walked functions, by this session's program over the kit's print. -/
mutual
def w18_MapperParts.j0 : Nat → List (S55) → Bool → Bool → List (S50) → List (S50) → List (S50) → Int → List (S50) → Bool → Int → ByteArray → Bool → Int → Bool → Bool → Int → Option (Bool)
 | 0, _, _, _, _, _, _, _, _, _, _, _, _, _, _, _, _ => none
 | k + 1, x1, x16, x307000, x307001, x307002, x307003, x307004, x307005, x307006, x307007, x307008, x307009, x307010, x307011, x307012, x307013 => if x16 = true then ((w18_alive.f k).bind fun t309 => (some t309)) else ((mapper_Parts.f k x307000 x307001 x307002 x307003 x307004 x307005 x307006 x307007 x307008 x307009 x307010 x307011 x307012 x307013 x1).bind fun t310 => ((w18_plain.f x307000 x307001 x307002 x307003 x307004 x307005 x307006 x307007 x307008 x307009 x307010 x307011 x307012 x307013).bind fun bt313 => ((w18_items.f k x1).bind fun t335 => ((r18_Parts.f k bt313.1 bt313.2.1 bt313.2.2.1 bt313.2.2.2.1 bt313.2.2.2.2.1 bt313.2.2.2.2.2.1 bt313.2.2.2.2.2.2.1 bt313.2.2.2.2.2.2.2.1 bt313.2.2.2.2.2.2.2.2.1 bt313.2.2.2.2.2.2.2.2.2.1 bt313.2.2.2.2.2.2.2.2.2.2.1 bt313.2.2.2.2.2.2.2.2.2.2.2.1 bt313.2.2.2.2.2.2.2.2.2.2.2.2.1 bt313.2.2.2.2.2.2.2.2.2.2.2.2.2 t335).bind fun t338 => (if (t310.length : Int) = (t338.length : Int) then (w18_MapperParts.l0 k x1 t310 t338 0 0) else (some false))))))
def w18_MapperParts.l0 : Nat → List (S55) → List (List (S55)) → List (List (S58)) → Int → Int → Option (Bool)
 | 0, _, _, _, _, _ => none
 | k + 1, x1, x5, x6, x7, x8 => if x8 < (x5.length : Int) then (if 0 ≤ x8 then ((w18_items.f k (rd_L6 x5 x8)).bind fun t344 => (if x8 < (x6.length : Int) then ((r18_Same.f k t344 (rd_L12 x6 x8)).bind fun t348 => (if t348 = true then (w18_MapperParts.l0 k x1 x5 x6 (wrap64 (x7 + ((rd_L6 x5 x8).length : Int))) (wrap64 (x8 + 1))) else (some false))) else (none))) else (none)) else ((w18_alive.f k).bind fun t341 => (if t341 = true then (if (x5.length : Int) = 0 then (some true) else (some (x7 == (x1.length : Int)))) else (some false)))
end
def w18_MapperParts.f (k : Nat) (a0_0 : Bool) (l0_1 : List (S50)) (l0_2 : List (S50)) (l0_3 : List (S50)) (a0_4 : Int) (l0_5 : List (S50)) (a0_6 : Bool) (a0_7 : Int) (a0_8 : ByteArray) (a0_9 : Bool) (a0_10 : Int) (a0_11 : Bool) (a0_12 : Bool) (a0_13 : Int) (l1 : List (S55)) : Option (Bool) := (w18_little.f k a0_0 l0_1 l0_2 l0_3 a0_4 l0_5 a0_6 a0_7 a0_8 a0_9 a0_10 a0_11 a0_12 a0_13).bind fun t307 => (if t307 = true then ((w18_few.f k l1).bind fun t308 => (w18_MapperParts.j0 k l1 (!t308) a0_0 l0_1 l0_2 l0_3 a0_4 l0_5 a0_6 a0_7 a0_8 a0_9 a0_10 a0_11 a0_12 a0_13)) else (w18_MapperParts.j0 k l1 true a0_0 l0_1 l0_2 l0_3 a0_4 l0_5 a0_6 a0_7 a0_8 a0_9 a0_10 a0_11 a0_12 a0_13))
theorem w18_MapperParts.mono_l : ∀ k, (∀ y0 y1 y2 y3 y4 y5 y6 y7 y8 y9 y10 y11 y12 y13 y14 y15, LeO (w18_MapperParts.j0 k y0 y1 y2 y3 y4 y5 y6 y7 y8 y9 y10 y11 y12 y13 y14 y15) (w18_MapperParts.j0 (k + 1) y0 y1 y2 y3 y4 y5 y6 y7 y8 y9 y10 y11 y12 y13 y14 y15)) ∧ (∀ y0 y1 y2 y3 y4, LeO (w18_MapperParts.l0 k y0 y1 y2 y3 y4) (w18_MapperParts.l0 (k + 1) y0 y1 y2 y3 y4))
 | 0 => ⟨fun _ _ _ _ _ _ _ _ _ _ _ _ _ _ _ _ r h => by simp [w18_MapperParts.j0] at h, fun _ _ _ _ _ r h => by simp [w18_MapperParts.l0] at h⟩
 | k + 1 => by
  obtain ⟨ih0, ih1⟩ := w18_MapperParts.mono_l k
  refine ⟨?_, ?_⟩
  ·intro y0 y1 y2 y3 y4 y5 y6 y7 y8 y9 y10 y11 y12 y13 y14 y15
   unfold w18_MapperParts.j0
   repeat' (with_reducible first | exact ih0 _ _ _ _ _ _ _ _ _ _ _ _ _ _ _ _ | exact ih1 _ _ _ _ _ | exact mapper_Parts.mono _ _ _ _ _ _ _ _ _ _ _ _ _ _ _ _ | exact w18_alive.mono _ | exact w18_few.mono _ _ | exact w18_items.mono _ _ | exact w18_little.mono _ _ _ _ _ _ _ _ _ _ _ _ _ _ _ | exact r18_Parts.mono _ _ _ _ _ _ _ _ _ _ _ _ _ _ _ _ | exact r18_Same.mono _ _ _ | exact LeO.refl _ | exact LeO.none _ | refine LeO.ite ?_ ?_ | refine LeO.bind ?_ (fun _ => ?_))
  ·intro y0 y1 y2 y3 y4
   unfold w18_MapperParts.l0
   repeat' (with_reducible first | exact ih0 _ _ _ _ _ _ _ _ _ _ _ _ _ _ _ _ | exact ih1 _ _ _ _ _ | exact mapper_Parts.mono _ _ _ _ _ _ _ _ _ _ _ _ _ _ _ _ | exact w18_alive.mono _ | exact w18_few.mono _ _ | exact w18_items.mono _ _ | exact w18_little.mono _ _ _ _ _ _ _ _ _ _ _ _ _ _ _ | exact r18_Parts.mono _ _ _ _ _ _ _ _ _ _ _ _ _ _ _ _ | exact r18_Same.mono _ _ _ | exact LeO.refl _ | exact LeO.none _ | refine LeO.ite ?_ ?_ | refine LeO.bind ?_ (fun _ => ?_))
theorem w18_MapperParts.mono : ∀ a0 a1 a2 a3 a4 a5 a6 a7 a8 a9 a10 a11 a12 a13 a14 k, LeO (w18_MapperParts.f k a0 a1 a2 a3 a4 a5 a6 a7 a8 a9 a10 a11 a12 a13 a14) (w18_MapperParts.f (k + 1) a0 a1 a2 a3 a4 a5 a6 a7 a8 a9 a10 a11 a12 a13 a14) := by
 intro a0 a1 a2 a3 a4 a5 a6 a7 a8 a9 a10 a11 a12 a13 a14 k
 obtain ⟨ih0, ih1⟩ := w18_MapperParts.mono_l k
 unfold w18_MapperParts.f
 repeat' (with_reducible first | exact ih0 _ _ _ _ _ _ _ _ _ _ _ _ _ _ _ _ | exact ih1 _ _ _ _ _ | exact mapper_Parts.mono _ _ _ _ _ _ _ _ _ _ _ _ _ _ _ _ | exact w18_alive.mono _ | exact w18_few.mono _ _ | exact w18_items.mono _ _ | exact w18_little.mono _ _ _ _ _ _ _ _ _ _ _ _ _ _ _ | exact r18_Parts.mono _ _ _ _ _ _ _ _ _ _ _ _ _ _ _ _ | exact r18_Same.mono _ _ _ | exact LeO.refl _ | exact LeO.none _ | refine LeO.ite ?_ ?_ | refine LeO.bind ?_ (fun _ => ?_))
def w18_MapperParts.T3 : Bool × List (List Nat × List Nat) := (true, [([], []), ([], []), ([0, 1], [0, 1]), ([], []), ([3, 2], [3]), ([], []), ([5, 4], [5]), ([4, 6, 6], [4, 6]), ([2, 7, 0, 1, 2], [2]), ([7, 8, 0, 1, 2, 3, 4, 5, 6, 7, 8], [7])])
def w18_MapperParts.B3 : List Nat := [0, 0, 3, 0, 15, 0, 63, 127, 255, 511]
theorem w18_MapperParts.tab3 : rtab .any (opsOf Tryz.f3 3) = w18_MapperParts.T3 := by kernel_rfl
theorem w18_MapperParts.bits3 : waitsOk w18_MapperParts.T3.2 w18_MapperParts.B3 = true := by kernel_rfl
def w18_MapperParts.T11 : Bool × List (List Nat × List Nat) := (true, [([], []), ([], []), ([0, 1], [0, 1]), ([2], [2]), ([3], [3]), ([], []), ([], []), ([5, 6], [5, 6]), ([7], [7]), ([4, 8, 4], [4, 8]), ([9], [9])])
def w18_MapperParts.B11 : List Nat := [0, 0, 3, 7, 15, 0, 0, 96, 224, 511, 1023]
theorem w18_MapperParts.tab11 : rtab .any (opsOf Tryz.f3 11) = w18_MapperParts.T11 := by kernel_rfl
theorem w18_MapperParts.bits11 : waitsOk w18_MapperParts.T11.2 w18_MapperParts.B11 = true := by kernel_rfl
set_option maxHeartbeats 8000000 in
set_option maxRecDepth 100000 in
theorem w18_MapperParts.calls (k : Nat) (a0_0 : Bool) (A0_1 : Option Addr) (c0_1 : Nat) (l0_1 : List (S50)) (A0_2 : Option Addr) (c0_2 : Nat) (l0_2 : List (S50)) (A0_3 : Option Addr) (c0_3 : Nat) (l0_3 : List (S50)) (a0_4 : Int) (A0_5 : Option Addr) (c0_5 : Nat) (l0_5 : List (S50)) (a0_6 : Bool) (a0_7 : Int) (a0_8 : ByteArray) (a0_9 : Bool) (a0_10 : Int) (a0_11 : Bool) (a0_12 : Bool) (a0_13 : Int) (A1 : Option Addr) (c1 : Nat) (l1 : List (S55)) (r : Bool) (w : World) (hT : Tabs w) (hr0_1 : Kd.C k50 w A0_1 l0_1.length l0_1) (hc0_1 : l0_1.length ≤ c0_1) (hr0_2 : Kd.C k50 w A0_2 l0_2.length l0_2) (hc0_2 : l0_2.length ≤ c0_2) (hr0_3 : Kd.C k50 w A0_3 l0_3.length l0_3) (hc0_3 : l0_3.length ≤ c0_3) (hr0_5 : Kd.C k50 w A0_5 l0_5.length l0_5) (hc0_5 : l0_5.length ≤ c0_5) (hr1 : Kd.C k55 w A1 l1.length l1) (hc1 : l1.length ≤ c1) (h : w18_MapperParts.f k a0_0 l0_1 l0_2 l0_3 a0_4 l0_5 a0_6 a0_7 a0_8 a0_9 a0_10 a0_11 a0_12 a0_13 l1 = some r) (hr_ : r = true := by rfl) :
  Calls Tryz.prog 3 #[.agg #[.bool a0_0, .slice A0_1 l0_1.length c0_1, .slice A0_2 l0_2.length c0_2, .slice A0_3 l0_3.length c0_3, .int .i64 a0_4, .slice A0_5 l0_5.length c0_5, .bool a0_6, .int .i64 a0_7, .string a0_8, .bool a0_9, .int .i64 a0_10, .bool a0_11, .bool a0_12, .int .i64 a0_13], .slice A1 l1.length c1] w fun e w' => e = .returned (.bool r) ∧ Below w.heap.size w w' := by
 have hu26 := Tryz.underlying26
 have HR0_1 := xy hr0_1
 have HC0_1 := xy hc0_1
 clear hr0_1 hc0_1
 have HR0_2 := xy hr0_2
 have HC0_2 := xy hc0_2
 clear hr0_2 hc0_2
 have HR0_3 := xy hr0_3
 have HC0_3 := xy hc0_3
 clear hr0_3 hc0_3
 have HR0_5 := xy hr0_5
 have HC0_5 := xy hc0_5
 clear hr0_5 hc0_5
 have HR1 := xy hr1
 have HC1 := xy hc1
 clear hr1 hc1
 have HB := xy (Below.refl w.heap.size w)
 unfold w18_MapperParts.f at h
 have H := h
 clear h
 have HC3 := xy H
 clear H
 go_enter Tryz.func3, Tryz.ntmps3
 go_upto_region 1 with (first | ((with_reducible refine gate_dst (N := 2) rfl ?_); (try (refine gate_guard (by rfl) ?_; dsimp only)); refine xq (N := 2) (cs := #[.bool a0_0, .slice A0_1 l0_1.length c0_1, .slice A0_2 l0_2.length c0_2, .slice A0_3 l0_3.length c0_3, .int .i64 a0_4, .slice A0_5 l0_5.length c0_5, .bool a0_6, .int .i64 a0_7, .string a0_8, .bool a0_9, .int .i64 a0_10, .bool a0_11, .bool a0_12, .int .i64 a0_13]) (t := 26) ?_; intro gb306 hg w4 hbox hb; have BK306 := xy (hbox); have GW306 := xs w hg; have GE306 := xs w hg; replace HB := xy (below_step xb hb); clear hb hbox hg))
 (try simp only [Act.put, List.setIfInBounds_toArray, List.set_cons_zero, List.set_cons_succ])
 go_cut [16] (fun v16 wc => ∃ (kq : Nat) (x16_2 : Bool), v16 = .bool x16_2 ∧ Aside0 (w18_MapperParts.j0 kq l1 x16_2 a0_0 l0_1 l0_2 l0_3 a0_4 l0_5 a0_6 a0_7 a0_8 a0_9 a0_10 a0_11 a0_12 a0_13 = some r) ∧ Aside0 (kq ≤ k) ∧ Aside0 (wc.heap[gb306]? = some (.cells #[.bool a0_0, (.slice A0_1 l0_1.length c0_1), (.slice A0_2 l0_2.length c0_2), (.slice A0_3 l0_3.length c0_3), .int .i64 a0_4, (.slice A0_5 l0_5.length c0_5), .bool a0_6, .int .i64 a0_7, .string a0_8, .bool a0_9, .int .i64 a0_10, .bool a0_11, .bool a0_12, .int .i64 a0_13] 26 (0, 0))) ∧ Aside0 (Below w.heap.size w wc))
 case first =>
  have H := HC3.out
  clear HC3
  replace H := xj H
  obtain ⟨t307, A50, H⟩ := H
  try dsimp only at H
  have A5 := xy A50
  clear A50
  by_cases c6 : t307 = true
  ·subst c6
   rw [if_pos rfl] at H
   replace H := xj H
   obtain ⟨t308, A70, H⟩ := H
   try dsimp only at H
   have A7 := xy A70
   clear A70
   have H' := xy H
   clear H
   have hcz8_0 : w4.cell? ⟨gb306, 0, none⟩ = some (.bool a0_0) := (kc BK306.out 0).trans rfl
   have hcz8_1 : w4.cell? ⟨gb306, 1, none⟩ = some (.slice A0_1 l0_1.length c0_1) := (kc BK306.out 1).trans rfl
   have hcz8_2 : w4.cell? ⟨gb306, 2, none⟩ = some (.slice A0_2 l0_2.length c0_2) := (kc BK306.out 2).trans rfl
   have hcz8_3 : w4.cell? ⟨gb306, 3, none⟩ = some (.slice A0_3 l0_3.length c0_3) := (kc BK306.out 3).trans rfl
   have hcz8_4 : w4.cell? ⟨gb306, 4, none⟩ = some (.int .i64 a0_4) := (kc BK306.out 4).trans rfl
   have hcz8_5 : w4.cell? ⟨gb306, 5, none⟩ = some (.slice A0_5 l0_5.length c0_5) := (kc BK306.out 5).trans rfl
   have hcz8_6 : w4.cell? ⟨gb306, 6, none⟩ = some (.bool a0_6) := (kc BK306.out 6).trans rfl
   have hcz8_7 : w4.cell? ⟨gb306, 7, none⟩ = some (.int .i64 a0_7) := (kc BK306.out 7).trans rfl
   have hcz8_8 : w4.cell? ⟨gb306, 8, none⟩ = some (.string a0_8) := (kc BK306.out 8).trans rfl
   have hcz8_9 : w4.cell? ⟨gb306, 9, none⟩ = some (.bool a0_9) := (kc BK306.out 9).trans rfl
   have hcz8_10 : w4.cell? ⟨gb306, 10, none⟩ = some (.int .i64 a0_10) := (kc BK306.out 10).trans rfl
   have hcz8_11 : w4.cell? ⟨gb306, 11, none⟩ = some (.bool a0_11) := (kc BK306.out 11).trans rfl
   have hcz8_12 : w4.cell? ⟨gb306, 12, none⟩ = some (.bool a0_12) := (kc BK306.out 12).trans rfl
   have hcz8_13 : w4.cell? ⟨gb306, 13, none⟩ = some (.int .i64 a0_13) := (kc BK306.out 13).trans rfl
   have hfz8_0 := kf BK306.out 0
   have hfz8_1 := kf BK306.out 1
   have hfz8_2 := kf BK306.out 2
   have hfz8_3 := kf BK306.out 3
   have hfz8_4 := kf BK306.out 4
   have hfz8_5 := kf BK306.out 5
   have hfz8_6 := kf BK306.out 6
   have hfz8_7 := kf BK306.out 7
   have hfz8_8 := kf BK306.out 8
   have hfz8_9 := kf BK306.out 9
   have hfz8_10 := kf BK306.out 10
   have hfz8_11 := kf BK306.out 11
   have hfz8_12 := kf BK306.out 12
   have hfz8_13 := kf BK306.out 13
   go_wp2_with (first | ((with_reducible refine gate_callee (f := 5) rfl ?_); refine goesL_ (some 10) rfl rfl Tryz.func5 (by kernel_rfl) rfl #[.agg #[.bool a0_0, .slice A0_1 l0_1.length c0_1, .slice A0_2 l0_2.length c0_2, .slice A0_3 l0_3.length c0_3, .int .i64 a0_4, .slice A0_5 l0_5.length c0_5, .bool a0_6, .int .i64 a0_7, .string a0_8, .bool a0_9, .int .i64 a0_10, .bool a0_11, .bool a0_12, .int .i64 a0_13]] rfl xr ?_; (with_reducible refine (w18_little.calls k a0_0 _ _ l0_1 _ _ l0_2 _ _ l0_3 a0_4 _ _ l0_5 a0_6 a0_7 a0_8 a0_9 a0_10 a0_11 a0_12 a0_13 true _ (Tabs.below hT xf) ?side1 ?side2 ?side3 ?side4 ?side5 ?side6 ?side7 ?side8 A5.out).mono ?_); (case side1 => exact Kd.C_below HR0_1.out xb); (case side2 => exact HC0_1.out); (case side3 => exact Kd.C_below HR0_2.out xb); (case side4 => exact HC0_2.out); (case side5 => exact Kd.C_below HR0_3.out xb); (case side6 => exact HC0_3.out); (case side7 => exact Kd.C_below HR0_5.out xb); (case side8 => exact HC0_5.out); rintro e w9 ⟨rfl, hb⟩; refine ⟨_, rfl, ?_⟩; replace BK306 := xd BK306.out hb; replace HB := xy (below_step xb hb); (try clear hb); (try clear hb2); (try clear hk); (try clear hi)) | (go_at_call 6; (with_reducible refine (w18_few.calls k _ _ l1 t308 _ (Tabs.below hT xf) ?side1 ?side2 A7.out).mono ?_); (case side1 => exact Kd.C_below HR1.out xb); (case side2 => exact HC1.out); rintro e w' ⟨rfl, ⟨nd, rfl⟩⟩))
   go_meet
   case rel => exact ⟨_, (!t308), xg, H', ⟨by first | omega | exact Nat.le_refl _⟩, ⟨by (with_reducible repeat (first | refine blk_drewN ?_ _ | refine blk_drew ?_ | refine blk_alloc ?_ _)); exact BK306.out⟩, ⟨xb⟩⟩
  ·replace c6 := Bool.eq_false_iff.mpr c6
   subst c6
   rw [if_neg (show ¬ (false = true) by decide)] at H
   have H' := xy H
   clear H
   have hcz10_0 : w4.cell? ⟨gb306, 0, none⟩ = some (.bool a0_0) := (kc BK306.out 0).trans rfl
   have hcz10_1 : w4.cell? ⟨gb306, 1, none⟩ = some (.slice A0_1 l0_1.length c0_1) := (kc BK306.out 1).trans rfl
   have hcz10_2 : w4.cell? ⟨gb306, 2, none⟩ = some (.slice A0_2 l0_2.length c0_2) := (kc BK306.out 2).trans rfl
   have hcz10_3 : w4.cell? ⟨gb306, 3, none⟩ = some (.slice A0_3 l0_3.length c0_3) := (kc BK306.out 3).trans rfl
   have hcz10_4 : w4.cell? ⟨gb306, 4, none⟩ = some (.int .i64 a0_4) := (kc BK306.out 4).trans rfl
   have hcz10_5 : w4.cell? ⟨gb306, 5, none⟩ = some (.slice A0_5 l0_5.length c0_5) := (kc BK306.out 5).trans rfl
   have hcz10_6 : w4.cell? ⟨gb306, 6, none⟩ = some (.bool a0_6) := (kc BK306.out 6).trans rfl
   have hcz10_7 : w4.cell? ⟨gb306, 7, none⟩ = some (.int .i64 a0_7) := (kc BK306.out 7).trans rfl
   have hcz10_8 : w4.cell? ⟨gb306, 8, none⟩ = some (.string a0_8) := (kc BK306.out 8).trans rfl
   have hcz10_9 : w4.cell? ⟨gb306, 9, none⟩ = some (.bool a0_9) := (kc BK306.out 9).trans rfl
   have hcz10_10 : w4.cell? ⟨gb306, 10, none⟩ = some (.int .i64 a0_10) := (kc BK306.out 10).trans rfl
   have hcz10_11 : w4.cell? ⟨gb306, 11, none⟩ = some (.bool a0_11) := (kc BK306.out 11).trans rfl
   have hcz10_12 : w4.cell? ⟨gb306, 12, none⟩ = some (.bool a0_12) := (kc BK306.out 12).trans rfl
   have hcz10_13 : w4.cell? ⟨gb306, 13, none⟩ = some (.int .i64 a0_13) := (kc BK306.out 13).trans rfl
   have hfz10_0 := kf BK306.out 0
   have hfz10_1 := kf BK306.out 1
   have hfz10_2 := kf BK306.out 2
   have hfz10_3 := kf BK306.out 3
   have hfz10_4 := kf BK306.out 4
   have hfz10_5 := kf BK306.out 5
   have hfz10_6 := kf BK306.out 6
   have hfz10_7 := kf BK306.out 7
   have hfz10_8 := kf BK306.out 8
   have hfz10_9 := kf BK306.out 9
   have hfz10_10 := kf BK306.out 10
   have hfz10_11 := kf BK306.out 11
   have hfz10_12 := kf BK306.out 12
   have hfz10_13 := kf BK306.out 13
   go_wp2_with (first | ((with_reducible refine gate_callee (f := 5) rfl ?_); refine goesL_ (some 10) rfl rfl Tryz.func5 (by kernel_rfl) rfl #[.agg #[.bool a0_0, .slice A0_1 l0_1.length c0_1, .slice A0_2 l0_2.length c0_2, .slice A0_3 l0_3.length c0_3, .int .i64 a0_4, .slice A0_5 l0_5.length c0_5, .bool a0_6, .int .i64 a0_7, .string a0_8, .bool a0_9, .int .i64 a0_10, .bool a0_11, .bool a0_12, .int .i64 a0_13]] rfl xr ?_; (with_reducible refine (w18_little.calls k a0_0 _ _ l0_1 _ _ l0_2 _ _ l0_3 a0_4 _ _ l0_5 a0_6 a0_7 a0_8 a0_9 a0_10 a0_11 a0_12 a0_13 false _ (Tabs.below hT xf) ?side1 ?side2 ?side3 ?side4 ?side5 ?side6 ?side7 ?side8 A5.out).mono ?_); (case side1 => exact Kd.C_below HR0_1.out xb); (case side2 => exact HC0_1.out); (case side3 => exact Kd.C_below HR0_2.out xb); (case side4 => exact HC0_2.out); (case side5 => exact Kd.C_below HR0_3.out xb); (case side6 => exact HC0_3.out); (case side7 => exact Kd.C_below HR0_5.out xb); (case side8 => exact HC0_5.out); rintro e w11 ⟨rfl, hb⟩; refine ⟨_, rfl, ?_⟩; replace BK306 := xd BK306.out hb; replace HB := xy (below_step xb hb); (try clear hb); (try clear hb2); (try clear hk); (try clear hi)))
   go_meet
   case rel => exact ⟨_, (true), xg, H', ⟨by first | omega | exact Nat.le_refl _⟩, ⟨by (with_reducible repeat (first | refine blk_drewN ?_ _ | refine blk_drew ?_ | refine blk_alloc ?_ _)); exact BK306.out⟩, ⟨xb⟩⟩
 case rest =>
  clear HC3
  try clear c1
  try clear p2
  try clear c3
  try clear c5
  try clear c6
  try clear hcz10_0
  try clear hcz10_1
  try clear hcz10_10
  try clear hcz10_11
  try clear hcz10_12
  try clear hcz10_13
  try clear hcz10_2
  try clear hcz10_3
  try clear hcz10_4
  try clear hcz10_5
  try clear hcz10_6
  try clear hcz10_7
  try clear hcz10_8
  try clear hcz10_9
  try clear hcz8_0
  try clear hcz8_1
  try clear hcz8_10
  try clear hcz8_11
  try clear hcz8_12
  try clear hcz8_13
  try clear hcz8_2
  try clear hcz8_3
  try clear hcz8_4
  try clear hcz8_5
  try clear hcz8_6
  try clear hcz8_7
  try clear hcz8_8
  try clear hcz8_9
  try clear hfz10_0
  try clear hfz10_1
  try clear hfz10_10
  try clear hfz10_11
  try clear hfz10_12
  try clear hfz10_13
  try clear hfz10_2
  try clear hfz10_3
  try clear hfz10_4
  try clear hfz10_5
  try clear hfz10_6
  try clear hfz10_7
  try clear hfz10_8
  try clear hfz10_9
  try clear hfz8_0
  try clear hfz8_1
  try clear hfz8_10
  try clear hfz8_11
  try clear hfz8_12
  try clear hfz8_13
  try clear hfz8_2
  try clear hfz8_3
  try clear hfz8_4
  try clear hfz8_5
  try clear hfz8_6
  try clear hfz8_7
  try clear hfz8_8
  try clear hfz8_9
  obtain ⟨kq, x16_2, rfl, HA, HJ2, BK306, HB⟩ := hcut
  cases kq with
  | zero => exact absurd HA.out (by simp [w18_MapperParts.j0])
  | succ kj2 =>
   have H := HA.out
   clear HA
   simp only [w18_MapperParts.j0] at H
   by_cases c12 : x16_2 = true
   ·subst c12
    rw [if_pos rfl] at H
    replace H := xj H
    obtain ⟨t309, A130, H⟩ := H
    try dsimp only at H
    have A13 := xy A130
    clear A130
    obtain rfl := Option.some.inj H
    go_wp2_with (first | ((with_reducible refine gate_callee (f := 7) rfl ?_); refine goesL_ (some 17) rfl rfl Tryz.func7 (by kernel_rfl) rfl #[] rfl xr ?_; (with_reducible refine (w18_alive.calls kj2  t309 _ (Tabs.below hT xf) A13.out).mono ?_); rintro e w14 ⟨rfl, hb⟩; refine ⟨_, rfl, ?_⟩; replace BK306 := xd BK306.out hb; replace HB := xy (below_step xb hb); (try clear hb); (try clear hb2); (try clear hk); (try clear hi)))
    go_ret
    exact ⟨xe, xb⟩
   ·replace c12 := Bool.eq_false_iff.mpr c12
    subst c12
    rw [if_neg (show ¬ (false = true) by decide)] at H
    replace H := xj H
    obtain ⟨t310, A150, H⟩ := H
    try dsimp only at H
    have A15 := xy A150
    clear A150
    replace H := xj H
    obtain ⟨⟨t313, t314, t317, t320, t323, t324, t327, t328, t329, t330, t331, t332, t333, t334⟩, A160, H⟩ := H
    try dsimp only at H
    have A16 := xy A160
    clear A160
    replace H := xj H
    obtain ⟨t335, A170, H⟩ := H
    try dsimp only at H
    have A17 := xy A170
    clear A170
    replace H := xj H
    obtain ⟨t338, A180, H⟩ := H
    try dsimp only at H
    have A18 := xy A180
    clear A180
    by_cases c19 : (t310.length : Int) = (t338.length : Int)
    ·rw [if_pos c19] at H
     have c19b0 : ((t310.length : Int) == (t338.length : Int)) = true := beq_iff_eq.mpr c19
     have c19b1 : ((t310.length : Int) != (t338.length : Int)) = false := bne_eq_false_iff_eq.mpr c19
     have c19b2 : (t310.length == t338.length) = true := by first | simpa using c19 | (simp at c19 ⊢; omega)
     clear c19
     have H' := xy H
     clear H
     try go_wp2
     replace BK306 := xy (blk_drew BK306.out)
     replace HB := xy (below_drew1 HB.out)
     refine start_ (n := 10) (S := fun w' => w'.cell? ⟨gb306, 0, none⟩ = some (.bool a0_0) ∧ w'.cell? ⟨gb306, 1, none⟩ = some (.slice A0_1 l0_1.length c0_1) ∧ w'.cell? ⟨gb306, 2, none⟩ = some (.slice A0_2 l0_2.length c0_2) ∧ w'.cell? ⟨gb306, 3, none⟩ = some (.slice A0_3 l0_3.length c0_3) ∧ w'.cell? ⟨gb306, 4, none⟩ = some (.int .i64 a0_4) ∧ w'.cell? ⟨gb306, 5, none⟩ = some (.slice A0_5 l0_5.length c0_5) ∧ w'.cell? ⟨gb306, 6, none⟩ = some (.bool a0_6) ∧ w'.cell? ⟨gb306, 7, none⟩ = some (.int .i64 a0_7) ∧ w'.cell? ⟨gb306, 8, none⟩ = some (.string a0_8) ∧ w'.cell? ⟨gb306, 9, none⟩ = some (.bool a0_9) ∧ w'.cell? ⟨gb306, 10, none⟩ = some (.int .i64 a0_10) ∧ w'.cell? ⟨gb306, 11, none⟩ = some (.bool a0_11) ∧ w'.cell? ⟨gb306, 12, none⟩ = some (.bool a0_12) ∧ w'.cell? ⟨gb306, 13, none⟩ = some (.int .i64 a0_13)) (ds := []) #[false, false, false, false, false, false, false, false, false, false] (by kernel_rfl) rfl rfl ⟨(kc BK306.out 0).trans rfl, (kc BK306.out 1).trans rfl, (kc BK306.out 2).trans rfl, (kc BK306.out 3).trans rfl, (kc BK306.out 4).trans rfl, (kc BK306.out 5).trans rfl, (kc BK306.out 6).trans rfl, (kc BK306.out 7).trans rfl, (kc BK306.out 8).trans rfl, (kc BK306.out 9).trans rfl, (kc BK306.out 10).trans rfl, (kc BK306.out 11).trans rfl, (kc BK306.out 12).trans rfl, (kc BK306.out 13).trans rfl⟩ (fun hHeld => ?_); refine with_tabW w18_MapperParts.tab3 w18_MapperParts.bits3 (fun HT_ HW_ => ?_)
     generalize wc.drew = w20 at BK306 HB hHeld ⊢
     refine yz 1 (some 19) (bs 10 2) HT_.out (h := ?_)
     refine yz 5 (some 23) (bs 10 34) HT_.out (h := ?_)
     refine yt 0 (some 18) (bs 10 35) HT_.out HW_.out hHeld (h := ?_)
     refine yt 3 (some 21) (bs 10 43) HT_.out HW_.out hHeld (h := ?_)
     refine one_ (i := 2) (N := some 20) #[true, true, true, true, false, true, false, false, false, false] rfl rfl (one_of HT_.out (by kernel_rfl)) (by decide) (fun K hK => ?_)
     refine goes_ Tryz.func8 (by kernel_rfl) rfl #[.agg #[.bool a0_0, .slice A0_1 l0_1.length c0_1, .slice A0_2 l0_2.length c0_2, .slice A0_3 l0_3.length c0_3, .int .i64 a0_4, .slice A0_5 l0_5.length c0_5, .bool a0_6, .int .i64 a0_7, .string a0_8, .bool a0_9, .int .i64 a0_10, .bool a0_11, .bool a0_12, .int .i64 a0_13], .slice A1 l1.length c1] (by rfl) rfl rfl xr ?_
     with_reducible refine (mapper_Parts.calls kj2 a0_0 _ _ l0_1 _ _ l0_2 _ _ l0_3 a0_4 _ _ l0_5 a0_6 a0_7 a0_8 a0_9 a0_10 a0_11 a0_12 a0_13 _ _ l1 t310 _ (Tabs.below hT xf) ?side1 ?side2 ?side3 ?side4 ?side5 ?side6 ?side7 ?side8 ?side9 ?side10 A15.out).mono ?_
     (case side1 => exact Kd.C_below HR0_1.out xb)
     (case side2 => exact HC0_1.out)
     (case side3 => exact Kd.C_below HR0_2.out xb)
     (case side4 => exact HC0_2.out)
     (case side5 => exact Kd.C_below HR0_3.out xb)
     (case side6 => exact HC0_3.out)
     (case side7 => exact Kd.C_below HR0_5.out xb)
     (case side8 => exact HC0_5.out)
     (case side9 => exact Kd.C_below HR1.out xb)
     (case side10 => exact HC1.out)
     rintro e w21 ⟨v311, rfl, ho0, hb⟩
     refine ⟨_, rfl, ?_⟩
     have HO312 := xy (Kd.S_lower ho0 (below_size xb))
     replace BK306 := xd BK306.out hb
     replace HB := xy (below_step xb hb)
     (try clear hb)
     (try clear hb2)
     (try clear hk)
     (try clear hi)
     (try clear ho0)
     refine hK.out _ _ ⟨(kc BK306.out 0).trans rfl, (kc BK306.out 1).trans rfl, (kc BK306.out 2).trans rfl, (kc BK306.out 3).trans rfl, (kc BK306.out 4).trans rfl, (kc BK306.out 5).trans rfl, (kc BK306.out 6).trans rfl, (kc BK306.out 7).trans rfl, (kc BK306.out 8).trans rfl, (kc BK306.out 9).trans rfl, (kc BK306.out 10).trans rfl, (kc BK306.out 11).trans rfl, (kc BK306.out 12).trans rfl, (kc BK306.out 13).trans rfl⟩ (fun hHeld => ?_)
     clear hK K
     refine norm_ (a' := ?_) ?_ ?_
     rotate_left
     ·show Act.put _ (some 20) _ = _
      simp only [Act.put, List.setIfInBounds_toArray, List.set_cons_zero, List.set_cons_succ, i64_w, i32_w]
      rfl
     refine one_ (i := 4) (N := some 22) #[true, true, true, true, true, true, false, false, false, false] rfl rfl (one_of HT_.out (by kernel_rfl)) (by decide) (fun K hK => ?_)
     refine goes_ Tryz.func10 (by kernel_rfl) rfl #[.agg #[.bool a0_0, .slice A0_1 l0_1.length c0_1, .slice A0_2 l0_2.length c0_2, .slice A0_3 l0_3.length c0_3, .int .i64 a0_4, .slice A0_5 l0_5.length c0_5, .bool a0_6, .int .i64 a0_7, .string a0_8, .bool a0_9, .int .i64 a0_10, .bool a0_11, .bool a0_12, .int .i64 a0_13]] (by rfl) rfl rfl xr ?_
     with_reducible refine (w18_plain.calls a0_0 (fun k_ => k_ < w.heap.size) _ _ l0_1 (fun k_ => k_ < w.heap.size) _ _ l0_2 (fun k_ => k_ < w.heap.size) _ _ l0_3 a0_4 (fun k_ => k_ < w.heap.size) _ _ l0_5 a0_6 a0_7 a0_8 a0_9 a0_10 a0_11 a0_12 a0_13 t313 t314 t317 t320 t323 t324 t327 t328 t329 t330 t331 t332 t333 t334 _ (Tabs.below hT xf) ?side1 ?side2 ?side3 ?side4 A16.out).mono ?_
     (case side1 => exact Kd.V_mk HC0_1.out (Kd.F_below (Kd.C_F k50_heap HR0_1.out) xb))
     (case side2 => exact Kd.V_mk HC0_2.out (Kd.F_below (Kd.C_F k50_heap HR0_2.out) xb))
     (case side3 => exact Kd.V_mk HC0_3.out (Kd.F_below (Kd.C_F k50_heap HR0_3.out) xb))
     (case side4 => exact Kd.V_mk HC0_5.out (Kd.F_below (Kd.C_F k50_heap HR0_5.out) xb))
     rintro e w22 ⟨v315, v318, v321, v325, rfl, ho0, ho1, ho2, ho3, hb⟩
     refine ⟨_, rfl, ?_⟩
     have HO316 := xy (Kd.V_lower (Kd.V_mono (ok' := fun k_ => some k_ ≠ (v311 : Value).ownBlock ∧ k_ ≠ gb306) ho0 (fun k_ hk_ => ⟨Or.elim hk_ (fun hs_ => Or.elim hs_ (fun hs_ => fun e_ => Nat.not_le.2 hs_ (Kd.S_base HO312.out k_ e_.symm)) (fun hs_ => Or.elim hs_ (fun hs_ => fun e_ => Nat.not_le.2 hs_ (Kd.S_base HO312.out k_ e_.symm)) (fun hs_ => Or.elim hs_ (fun hs_ => fun e_ => Nat.not_le.2 hs_ (Kd.S_base HO312.out k_ e_.symm)) (fun hs_ => fun e_ => Nat.not_le.2 hs_ (Kd.S_base HO312.out k_ e_.symm))))) (fun hn_ => (Kd.fresh' (Kd.S_lt (by (with_reducible repeat (first | apply Kd.S_alloc | apply Kd.S_drewN | apply Kd.S_drew)); exact HO312.out)) k_ hn_)), Or.elim hk_ (fun hs_ => Or.elim hs_ (fun hs_ => fun e_ => Nat.not_le.2 hs_ (by rw [e_]; exact GW306.out)) (fun hs_ => Or.elim hs_ (fun hs_ => fun e_ => Nat.not_le.2 hs_ (by rw [e_]; exact GW306.out)) (fun hs_ => Or.elim hs_ (fun hs_ => fun e_ => Nat.not_le.2 hs_ (by rw [e_]; exact GW306.out)) (fun hs_ => fun e_ => Nat.not_le.2 hs_ (by rw [e_]; exact GW306.out))))) (fun hn_ => (Kd.freshB (g := gb306) (o := .cells #[.bool a0_0, .slice A0_1 l0_1.length c0_1, .slice A0_2 l0_2.length c0_2, .slice A0_3 l0_3.length c0_3, .int .i64 a0_4, .slice A0_5 l0_5.length c0_5, .bool a0_6, .int .i64 a0_7, .string a0_8, .bool a0_9, .int .i64 a0_10, .bool a0_11, .bool a0_12, .int .i64 a0_13] 26 (0, 0)) (xk BK306.out) k_ hn_))⟩)) (below_size xb))
     have HO319 := xy (Kd.V_lower (Kd.V_mono (ok' := fun k_ => some k_ ≠ (v311 : Value).ownBlock ∧ k_ ≠ gb306) ho1 (fun k_ hk_ => ⟨Or.elim hk_ (fun hs_ => Or.elim hs_ (fun hs_ => fun e_ => Nat.not_le.2 hs_ (Kd.S_base HO312.out k_ e_.symm)) (fun hs_ => Or.elim hs_ (fun hs_ => fun e_ => Nat.not_le.2 hs_ (Kd.S_base HO312.out k_ e_.symm)) (fun hs_ => Or.elim hs_ (fun hs_ => fun e_ => Nat.not_le.2 hs_ (Kd.S_base HO312.out k_ e_.symm)) (fun hs_ => fun e_ => Nat.not_le.2 hs_ (Kd.S_base HO312.out k_ e_.symm))))) (fun hn_ => (Kd.fresh' (Kd.S_lt (by (with_reducible repeat (first | apply Kd.S_alloc | apply Kd.S_drewN | apply Kd.S_drew)); exact HO312.out)) k_ hn_)), Or.elim hk_ (fun hs_ => Or.elim hs_ (fun hs_ => fun e_ => Nat.not_le.2 hs_ (by rw [e_]; exact GW306.out)) (fun hs_ => Or.elim hs_ (fun hs_ => fun e_ => Nat.not_le.2 hs_ (by rw [e_]; exact GW306.out)) (fun hs_ => Or.elim hs_ (fun hs_ => fun e_ => Nat.not_le.2 hs_ (by rw [e_]; exact GW306.out)) (fun hs_ => fun e_ => Nat.not_le.2 hs_ (by rw [e_]; exact GW306.out))))) (fun hn_ => (Kd.freshB (g := gb306) (o := .cells #[.bool a0_0, .slice A0_1 l0_1.length c0_1, .slice A0_2 l0_2.length c0_2, .slice A0_3 l0_3.length c0_3, .int .i64 a0_4, .slice A0_5 l0_5.length c0_5, .bool a0_6, .int .i64 a0_7, .string a0_8, .bool a0_9, .int .i64 a0_10, .bool a0_11, .bool a0_12, .int .i64 a0_13] 26 (0, 0)) (xk BK306.out) k_ hn_))⟩)) (below_size xb))
     have HO322 := xy (Kd.V_lower (Kd.V_mono (ok' := fun k_ => some k_ ≠ (v311 : Value).ownBlock ∧ k_ ≠ gb306) ho2 (fun k_ hk_ => ⟨Or.elim hk_ (fun hs_ => Or.elim hs_ (fun hs_ => fun e_ => Nat.not_le.2 hs_ (Kd.S_base HO312.out k_ e_.symm)) (fun hs_ => Or.elim hs_ (fun hs_ => fun e_ => Nat.not_le.2 hs_ (Kd.S_base HO312.out k_ e_.symm)) (fun hs_ => Or.elim hs_ (fun hs_ => fun e_ => Nat.not_le.2 hs_ (Kd.S_base HO312.out k_ e_.symm)) (fun hs_ => fun e_ => Nat.not_le.2 hs_ (Kd.S_base HO312.out k_ e_.symm))))) (fun hn_ => (Kd.fresh' (Kd.S_lt (by (with_reducible repeat (first | apply Kd.S_alloc | apply Kd.S_drewN | apply Kd.S_drew)); exact HO312.out)) k_ hn_)), Or.elim hk_ (fun hs_ => Or.elim hs_ (fun hs_ => fun e_ => Nat.not_le.2 hs_ (by rw [e_]; exact GW306.out)) (fun hs_ => Or.elim hs_ (fun hs_ => fun e_ => Nat.not_le.2 hs_ (by rw [e_]; exact GW306.out)) (fun hs_ => Or.elim hs_ (fun hs_ => fun e_ => Nat.not_le.2 hs_ (by rw [e_]; exact GW306.out)) (fun hs_ => fun e_ => Nat.not_le.2 hs_ (by rw [e_]; exact GW306.out))))) (fun hn_ => (Kd.freshB (g := gb306) (o := .cells #[.bool a0_0, .slice A0_1 l0_1.length c0_1, .slice A0_2 l0_2.length c0_2, .slice A0_3 l0_3.length c0_3, .int .i64 a0_4, .slice A0_5 l0_5.length c0_5, .bool a0_6, .int .i64 a0_7, .string a0_8, .bool a0_9, .int .i64 a0_10, .bool a0_11, .bool a0_12, .int .i64 a0_13] 26 (0, 0)) (xk BK306.out) k_ hn_))⟩)) (below_size xb))
     have HO326 := xy (Kd.V_lower (Kd.V_mono (ok' := fun k_ => some k_ ≠ (v311 : Value).ownBlock ∧ k_ ≠ gb306) ho3 (fun k_ hk_ => ⟨Or.elim hk_ (fun hs_ => Or.elim hs_ (fun hs_ => fun e_ => Nat.not_le.2 hs_ (Kd.S_base HO312.out k_ e_.symm)) (fun hs_ => Or.elim hs_ (fun hs_ => fun e_ => Nat.not_le.2 hs_ (Kd.S_base HO312.out k_ e_.symm)) (fun hs_ => Or.elim hs_ (fun hs_ => fun e_ => Nat.not_le.2 hs_ (Kd.S_base HO312.out k_ e_.symm)) (fun hs_ => fun e_ => Nat.not_le.2 hs_ (Kd.S_base HO312.out k_ e_.symm))))) (fun hn_ => (Kd.fresh' (Kd.S_lt (by (with_reducible repeat (first | apply Kd.S_alloc | apply Kd.S_drewN | apply Kd.S_drew)); exact HO312.out)) k_ hn_)), Or.elim hk_ (fun hs_ => Or.elim hs_ (fun hs_ => fun e_ => Nat.not_le.2 hs_ (by rw [e_]; exact GW306.out)) (fun hs_ => Or.elim hs_ (fun hs_ => fun e_ => Nat.not_le.2 hs_ (by rw [e_]; exact GW306.out)) (fun hs_ => Or.elim hs_ (fun hs_ => fun e_ => Nat.not_le.2 hs_ (by rw [e_]; exact GW306.out)) (fun hs_ => fun e_ => Nat.not_le.2 hs_ (by rw [e_]; exact GW306.out))))) (fun hn_ => (Kd.freshB (g := gb306) (o := .cells #[.bool a0_0, .slice A0_1 l0_1.length c0_1, .slice A0_2 l0_2.length c0_2, .slice A0_3 l0_3.length c0_3, .int .i64 a0_4, .slice A0_5 l0_5.length c0_5, .bool a0_6, .int .i64 a0_7, .string a0_8, .bool a0_9, .int .i64 a0_10, .bool a0_11, .bool a0_12, .int .i64 a0_13] 26 (0, 0)) (xk BK306.out) k_ hn_))⟩)) (below_size xb))
     replace HO312 := xy (Kd.S_below (by (with_reducible repeat (first | apply Kd.S_alloc | apply Kd.S_drewN | apply Kd.S_drew)); exact HO312.out) hb)
     replace BK306 := xd BK306.out hb
     replace HB := xy (below_step xb hb)
     (try clear hb)
     (try clear hb2)
     (try clear hk)
     (try clear hi)
     (try clear ho0)
     (try clear ho1)
     (try clear ho2)
     (try clear ho3)
     refine hK.out _ _ ⟨(kc BK306.out 0).trans rfl, (kc BK306.out 1).trans rfl, (kc BK306.out 2).trans rfl, (kc BK306.out 3).trans rfl, (kc BK306.out 4).trans rfl, (kc BK306.out 5).trans rfl, (kc BK306.out 6).trans rfl, (kc BK306.out 7).trans rfl, (kc BK306.out 8).trans rfl, (kc BK306.out 9).trans rfl, (kc BK306.out 10).trans rfl, (kc BK306.out 11).trans rfl, (kc BK306.out 12).trans rfl, (kc BK306.out 13).trans rfl⟩ (fun hHeld => ?_)
     clear hK K
     refine norm_ (a' := ?_) ?_ ?_
     rotate_left
     ·show Act.put _ (some 22) _ = _
      simp only [Act.put, List.setIfInBounds_toArray, List.set_cons_zero, List.set_cons_succ, i64_w, i32_w]
      rfl
     refine one_ (i := 6) (N := some 24) #[true, true, true, true, true, true, true, false, false, false] rfl rfl (one_of HT_.out (by kernel_rfl)) (by decide) (fun K hK => ?_)
     refine goes_ Tryz.func11 (by kernel_rfl) rfl #[.slice A1 l1.length c1] (by rfl) rfl rfl xr ?_
     with_reducible refine (w18_items.calls kj2 _ _ l1 t335 _ (Tabs.below hT xf) ?side1 ?side2 A17.out).mono ?_
     (case side1 => exact Kd.C_below HR1.out xb)
     (case side2 => exact HC1.out)
     rintro e w23 ⟨v336, rfl, ho0, hb⟩
     refine ⟨_, rfl, ?_⟩
     replace HO312 := xy (Kd.S_below (by (with_reducible repeat (first | apply Kd.S_alloc | apply Kd.S_drewN | apply Kd.S_drew)); exact HO312.out) hb)
     replace HO316 := xy (Kd.V_elder' (by (with_reducible repeat (first | apply Kd.V_alloc | apply Kd.V_drewN | apply Kd.V_drew)); exact HO316.out) (Kd.R_base ho0) hb)
     replace HO319 := xy (Kd.V_elder' (by (with_reducible repeat (first | apply Kd.V_alloc | apply Kd.V_drewN | apply Kd.V_drew)); exact HO319.out) (Kd.R_base ho0) hb)
     replace HO322 := xy (Kd.V_elder' (by (with_reducible repeat (first | apply Kd.V_alloc | apply Kd.V_drewN | apply Kd.V_drew)); exact HO322.out) (Kd.R_base ho0) hb)
     replace HO326 := xy (Kd.V_elder' (by (with_reducible repeat (first | apply Kd.V_alloc | apply Kd.V_drewN | apply Kd.V_drew)); exact HO326.out) (Kd.R_base ho0) hb)
     have HO337 := xy (Kd.R_lower ho0 (below_size xb))
     replace BK306 := xd BK306.out hb
     replace HB := xy (below_step xb hb)
     (try clear hb)
     (try clear hb2)
     (try clear hk)
     (try clear hi)
     (try clear ho0)
     obtain ⟨Ao24, co24, eo24⟩ := Kd.V_slice HO316.out
     (first | subst eo24 | (injection eo24 with f1_ f2_ f3_; have f4_ := f1_.symm; have f5_ := f3_.symm; clear f1_ f2_ f3_; subst f4_; subst f5_))
     obtain ⟨Ao25, co25, eo25⟩ := Kd.V_slice HO319.out
     (first | subst eo25 | (injection eo25 with f1_ f2_ f3_; have f4_ := f1_.symm; have f5_ := f3_.symm; clear f1_ f2_ f3_; subst f4_; subst f5_))
     obtain ⟨Ao26, co26, eo26⟩ := Kd.V_slice HO322.out
     (first | subst eo26 | (injection eo26 with f1_ f2_ f3_; have f4_ := f1_.symm; have f5_ := f3_.symm; clear f1_ f2_ f3_; subst f4_; subst f5_))
     obtain ⟨Ao27, co27, eo27⟩ := Kd.V_slice HO326.out
     (first | subst eo27 | (injection eo27 with f1_ f2_ f3_; have f4_ := f1_.symm; have f5_ := f3_.symm; clear f1_ f2_ f3_; subst f4_; subst f5_))
     obtain ⟨Ao28, co28, eo28⟩ := Kd.R_slice HO337.out
     (first | subst eo28 | (injection eo28 with f1_ f2_ f3_; have f4_ := f1_.symm; have f5_ := f3_.symm; clear f1_ f2_ f3_; subst f4_; subst f5_))
     refine hK.out _ _ ⟨(kc BK306.out 0).trans rfl, (kc BK306.out 1).trans rfl, (kc BK306.out 2).trans rfl, (kc BK306.out 3).trans rfl, (kc BK306.out 4).trans rfl, (kc BK306.out 5).trans rfl, (kc BK306.out 6).trans rfl, (kc BK306.out 7).trans rfl, (kc BK306.out 8).trans rfl, (kc BK306.out 9).trans rfl, (kc BK306.out 10).trans rfl, (kc BK306.out 11).trans rfl, (kc BK306.out 12).trans rfl, (kc BK306.out 13).trans rfl⟩ (fun hHeld => ?_)
     clear hK K
     refine norm_ (a' := ?_) ?_ ?_
     rotate_left
     ·show Act.put _ (some 24) _ = _
      simp only [Act.put, List.setIfInBounds_toArray, List.set_cons_zero, List.set_cons_succ, i64_w, i32_w]
      rfl
     refine one_ (i := 7) (N := some 25) #[true, true, true, true, true, true, true, true, false, false] rfl rfl (one_of HT_.out (by kernel_rfl)) (by decide) (fun K hK => ?_)
     refine goes_ Tryz.func9 (by kernel_rfl) rfl #[.agg #[.bool t313, .slice Ao24 t314.length co24, .slice Ao25 t317.length co25, .slice Ao26 t320.length co26, .int .i64 t323, .slice Ao27 t324.length co27, .bool t327, .int .i64 t328, .string t329, .bool t330, .int .i64 t331, .bool t332, .bool t333, .int .i64 t334], .slice Ao28 t335.length co28] (by rfl) rfl rfl xr ?_
     with_reducible refine (r18_Parts.calls kj2 t313 _ _ t314 _ _ t317 _ _ t320 t323 _ _ t324 t327 t328 t329 t330 t331 t332 t333 t334 _ _ t335 t338 _ (Tabs.below hT xf) ?side1 ?side2 ?side3 ?side4 ?side5 ?side6 ?side7 ?side8 ?side9 ?side10 A18.out).mono ?_
     (case side1 => repeat (first | exact (Kd.V_reads' HO316.out).2.2 | (with_reducible refine Kd.C_alloc ?_ _) | (with_reducible refine Kd.C_drewN ?_ _) | (with_reducible refine Kd.C_drew ?_)))
     (case side2 => exact (Kd.V_reads' HO316.out).2.1)
     (case side3 => repeat (first | exact (Kd.V_reads' HO319.out).2.2 | (with_reducible refine Kd.C_alloc ?_ _) | (with_reducible refine Kd.C_drewN ?_ _) | (with_reducible refine Kd.C_drew ?_)))
     (case side4 => exact (Kd.V_reads' HO319.out).2.1)
     (case side5 => repeat (first | exact (Kd.V_reads' HO322.out).2.2 | (with_reducible refine Kd.C_alloc ?_ _) | (with_reducible refine Kd.C_drewN ?_ _) | (with_reducible refine Kd.C_drew ?_)))
     (case side6 => exact (Kd.V_reads' HO322.out).2.1)
     (case side7 => repeat (first | exact (Kd.V_reads' HO326.out).2.2 | (with_reducible refine Kd.C_alloc ?_ _) | (with_reducible refine Kd.C_drewN ?_ _) | (with_reducible refine Kd.C_drew ?_)))
     (case side8 => exact (Kd.V_reads' HO326.out).2.1)
     (case side9 => repeat (first | exact (Kd.R_reads' HO337.out).2.2 | (with_reducible refine Kd.C_alloc ?_ _) | (with_reducible refine Kd.C_drewN ?_ _) | (with_reducible refine Kd.C_drew ?_)))
     (case side10 => exact (Kd.R_reads' HO337.out).2.1)
     rintro e w29 ⟨v339, rfl, ho0, hb⟩
     refine ⟨_, rfl, ?_⟩
     replace HO312 := xy (Kd.S_below (by (with_reducible repeat (first | apply Kd.S_alloc | apply Kd.S_drewN | apply Kd.S_drew)); exact HO312.out) hb)
     replace HO316 := xy (Kd.V_elder' (by (with_reducible repeat (first | apply Kd.V_alloc | apply Kd.V_drewN | apply Kd.V_drew)); exact HO316.out) (Kd.S_base ho0) hb)
     replace HO319 := xy (Kd.V_elder' (by (with_reducible repeat (first | apply Kd.V_alloc | apply Kd.V_drewN | apply Kd.V_drew)); exact HO319.out) (Kd.S_base ho0) hb)
     replace HO322 := xy (Kd.V_elder' (by (with_reducible repeat (first | apply Kd.V_alloc | apply Kd.V_drewN | apply Kd.V_drew)); exact HO322.out) (Kd.S_base ho0) hb)
     replace HO326 := xy (Kd.V_elder' (by (with_reducible repeat (first | apply Kd.V_alloc | apply Kd.V_drewN | apply Kd.V_drew)); exact HO326.out) (Kd.S_base ho0) hb)
     have HO340 := xy (Kd.S_lower (Kd.S_new' ho0 (Kd.R_lt (xo HO337.out))) (below_size xb))
     replace HO337 := xy (Kd.R_below (xo HO337.out) hb)
     replace BK306 := xd BK306.out hb
     replace HB := xy (below_step xb hb)
     (try clear hb)
     (try clear hb2)
     (try clear hk)
     (try clear hi)
     (try clear ho0)
     refine hK.out _ _ ⟨(kc BK306.out 0).trans rfl, (kc BK306.out 1).trans rfl, (kc BK306.out 2).trans rfl, (kc BK306.out 3).trans rfl, (kc BK306.out 4).trans rfl, (kc BK306.out 5).trans rfl, (kc BK306.out 6).trans rfl, (kc BK306.out 7).trans rfl, (kc BK306.out 8).trans rfl, (kc BK306.out 9).trans rfl, (kc BK306.out 10).trans rfl, (kc BK306.out 11).trans rfl, (kc BK306.out 12).trans rfl, (kc BK306.out 13).trans rfl⟩ (fun hHeld => ?_)
     clear hK K
     refine norm_ (a' := ?_) ?_ ?_
     rotate_left
     ·show Act.put _ (some 25) _ = _
      simp only [Act.put, List.setIfInBounds_toArray, List.set_cons_zero, List.set_cons_succ, i64_w, i32_w]
      rfl
     refine yz 8 (some 5) (bs 10 511) HT_.out (h := ?_)
     refine yz 9 (some 6) (bs 10 1023) HT_.out (h := ?_)
     refine done_ (done_of HT_.out (by kernel_rfl)) ?_
     obtain ⟨Ao30, co30, eo30⟩ := Kd.S_slice HO312.out
     subst eo30
     obtain ⟨Ao31, co31, eo31⟩ := Kd.S_slice HO340.out
     subst eo31
     try go_wp2
     go_loopg [7, 8] kj2 (fun kq v7 v8 w' => ∃ (x7_2 : Int) (x8_2 : Int), v7 = .int .i64 x7_2 ∧ v8 = .int .i64 x8_2 ∧ Aside0 (w18_MapperParts.l0 kq l1 t310 t338 x7_2 x8_2 = some r) ∧ Aside0 (kq ≤ kj2) ∧ Aside0 (Kd.S (Kd.slice 55 k55) 27 w' w.heap.size (fun _ => True) (.slice Ao30 t310.length co30) t310) ∧ Aside0 (Kd.S (Kd.slice 58 k58) 37 w' w.heap.size (fun _ => True) (.slice Ao31 t338.length co31) t338) ∧ Aside0 (w'.heap[gb306]? = some (.cells #[.bool a0_0, (.slice A0_1 l0_1.length c0_1), (.slice A0_2 l0_2.length c0_2), (.slice A0_3 l0_3.length c0_3), .int .i64 a0_4, (.slice A0_5 l0_5.length c0_5), .bool a0_6, .int .i64 a0_7, .string a0_8, .bool a0_9, .int .i64 a0_10, .bool a0_11, .bool a0_12, .int .i64 a0_13] 26 (0, 0))) ∧ Aside0 (Below w.heap.size w w'))
     case atStart => exact ⟨(0), (0), xg, xg, H', ⟨Nat.le_refl _⟩, ⟨by (with_reducible repeat (first | apply Kd.S_alloc | apply Kd.S_drewN | apply Kd.S_drew)); exact HO312.out⟩, ⟨by (with_reducible repeat (first | apply Kd.S_alloc | apply Kd.S_drewN | apply Kd.S_drew)); exact Kd.S_mono HO340.out (fun _ hk => trivial)⟩, ⟨by (with_reducible repeat (first | refine blk_drewN ?_ _ | refine blk_drew ?_ | refine blk_alloc ?_ _)); exact BK306.out⟩, ⟨xb⟩⟩
     case round =>
      clear H'
      try clear c1
      try clear p2
      try clear c3
      try clear c5
      try clear c6
      try clear c7
      try clear c8
      try clear c9
      try clear c10
      try clear c11
      try clear c12
      try clear c19
      try clear c19b0
      try clear c19b1
      try clear c19b2
      try clear hcz10_0
      try clear hcz10_1
      try clear hcz10_10
      try clear hcz10_11
      try clear hcz10_12
      try clear hcz10_13
      try clear hcz10_2
      try clear hcz10_3
      try clear hcz10_4
      try clear hcz10_5
      try clear hcz10_6
      try clear hcz10_7
      try clear hcz10_8
      try clear hcz10_9
      try clear hcz8_0
      try clear hcz8_1
      try clear hcz8_10
      try clear hcz8_11
      try clear hcz8_12
      try clear hcz8_13
      try clear hcz8_2
      try clear hcz8_3
      try clear hcz8_4
      try clear hcz8_5
      try clear hcz8_6
      try clear hcz8_7
      try clear hcz8_8
      try clear hcz8_9
      try clear hfz10_0
      try clear hfz10_1
      try clear hfz10_10
      try clear hfz10_11
      try clear hfz10_12
      try clear hfz10_13
      try clear hfz10_2
      try clear hfz10_3
      try clear hfz10_4
      try clear hfz10_5
      try clear hfz10_6
      try clear hfz10_7
      try clear hfz10_8
      try clear hfz10_9
      try clear hfz8_0
      try clear hfz8_1
      try clear hfz8_10
      try clear hfz8_11
      try clear hfz8_12
      try clear hfz8_13
      try clear hfz8_2
      try clear hfz8_3
      try clear hfz8_4
      try clear hfz8_5
      try clear hfz8_6
      try clear hfz8_7
      try clear hfz8_8
      try clear hfz8_9
      try clear p2
      obtain ⟨x7_2, x8_2, rfl, rfl, HA, HK2, HO_5, HO_6, BK306, HB⟩ := hrel
      cases gk with
      | zero => exact absurd HA.out (by simp [w18_MapperParts.l0])
      | succ k2 =>
       have H := HA.out
       clear HA
       simp only [w18_MapperParts.l0] at H
       by_cases c32 : x8_2 < (t310.length : Int)
       ·rw [if_pos c32] at H
        have c32b0 : decide (x8_2 < (t310.length : Int)) = true := decide_eq_true c32
        clear c32
        by_cases c33 : 0 ≤ x8_2
        ·rw [if_pos c33] at H
         have c33b0 : decide (0 ≤ x8_2) = true := decide_eq_true c33
         clear c33
         replace H := xj H
         obtain ⟨t344, A340, H⟩ := H
         try dsimp only at H
         have A34 := xy A340
         clear A340
         by_cases c35 : x8_2 < (t338.length : Int)
         ·rw [if_pos c35] at H
          have c35b0 : decide (x8_2 < (t338.length : Int)) = true := decide_eq_true c35
          clear c35
          replace H := xj H
          obtain ⟨t348, A360, H⟩ := H
          try dsimp only at H
          have A36 := xy A360
          clear A360
          by_cases c37 : t348 = true
          ·subst c37
           rw [if_pos rfl] at H
           have H' := xy H
           clear H
           have p342 : 0 ≤ (x8_2 : Int) := xi
           have q342 : x8_2 < (t310.length : Int) := xi
           obtain ⟨ad342, A342_0, c342_0, e342, hx342_0, hl342_0, hi342_0⟩ := at_L6 (Kd.S_reads' HO_5.out).2.2 x8_2 p342 q342
           cases e342
           obtain ⟨ce342, hce342, hMe342, hcc342⟩ := Kd.S_get HO_5.out [] x8_2 p342 (by first | exact q342 | exact xi | (have e_ := (Kd.S_reads' HO_5.out).1; omega))
           obtain ⟨ve342_0, rfl, ge342_0⟩ := hMe342
           have hv342_0 := hcc342 0 _ rfl
           rw [Nat.add_zero, show ((Kd.slice 55 k55)).sz = 1 from rfl, Nat.mul_one] at hv342_0
           replace hv342_0 := Option.some.inj (hv342_0.symm.trans hx342_0)
           rw [hv342_0] at ge342_0
           have HL342_0 := xy (show Kd.R k55 55 _ _ _ _ (rd_L6 t310 x8_2) from ge342_0)
           clear hv342_0 ge342_0
           clear hcc342 hce342
           have HR342_0 := xy hi342_0
           have HC342_0 := xy hl342_0
           clear hi342_0 hl342_0
           replace p342 := eq_true p342
           replace q342 := eq_true q342
           try go_wp2
           replace HO_5 := xy (Kd.S_drew HO_5.out)
           replace HO_6 := xy (Kd.S_drew HO_6.out)
           replace HL342_0 := xy (Kd.R_drew HL342_0.out)
           replace BK306 := xy (blk_drew BK306.out)
           replace HR342_0 := xy (Kd.C_drew HR342_0.out)
           replace HB := xy (below_drew1 HB.out)
           have p343 : 0 ≤ (x8_2 : Int) := xi
           have q343 : x8_2 < (t310.length : Int) := xi
           obtain ⟨ad343, A343_0, c343_0, e343, hx343_0, hl343_0, hi343_0⟩ := at_L6 (Kd.S_reads' HO_5.out).2.2 x8_2 p343 q343
           obtain rfl : ad342 = ad343 := (by injection e343)
           obtain ⟨ce343, hce343, hMe343, hcc343⟩ := Kd.S_get HO_5.out [] x8_2 p343 (by first | exact q343 | exact xi | (have e_ := (Kd.S_reads' HO_5.out).1; omega))
           obtain ⟨ve343_0, rfl, ge343_0⟩ := hMe343
           have hv343_0 := hcc343 0 _ rfl
           rw [Nat.add_zero, show ((Kd.slice 55 k55)).sz = 1 from rfl, Nat.mul_one] at hv343_0
           replace hv343_0 := Option.some.inj (hv343_0.symm.trans hx343_0)
           rw [hv343_0] at ge343_0
           have HL343_0 := xy (show Kd.R k55 55 _ _ _ _ (rd_L6 t310 x8_2) from ge343_0)
           clear hv343_0 ge343_0
           clear hcc343 hce343
           have HR343_0 := xy hi343_0
           have HC343_0 := xy hl343_0
           clear hi343_0 hl343_0
           replace p343 := eq_true p343
           replace q343 := eq_true q343
           have p347 : 0 ≤ (x8_2 : Int) := xi
           have q347 : x8_2 < (t338.length : Int) := xi
           obtain ⟨ad347, A347_0, c347_0, e347, hx347_0, hl347_0, hi347_0⟩ := at_L12 (Kd.S_reads' HO_6.out).2.2 x8_2 p347 q347
           cases e347
           obtain ⟨ce347, hce347, hMe347, hcc347⟩ := Kd.S_get HO_6.out [] x8_2 p347 (by first | exact q347 | exact xi | (have e_ := (Kd.S_reads' HO_6.out).1; omega))
           obtain ⟨ve347_0, rfl, ge347_0⟩ := hMe347
           have hv347_0 := hcc347 0 _ rfl
           rw [Nat.add_zero, show ((Kd.slice 58 k58)).sz = 1 from rfl, Nat.mul_one] at hv347_0
           replace hv347_0 := Option.some.inj (hv347_0.symm.trans hx347_0)
           rw [hv347_0] at ge347_0
           have HL347_0 := xy (show Kd.R k58 58 _ _ _ _ (rd_L12 t338 x8_2) from ge347_0)
           clear hv347_0 ge347_0
           clear hcc347 hce347
           have HR347_0 := xy hi347_0
           have HC347_0 := xy hl347_0
           clear hi347_0 hl347_0
           replace p347 := eq_true p347
           replace q347 := eq_true q347
           refine start_ (n := 11) (S := fun w' => w'.cell? (ad342.add (x8_2).toNat) = some (.slice A343_0 (rd_L6 t310 x8_2).length c343_0) ∧ w'.cell? (ad347.add (x8_2).toNat) = some (.slice A347_0 (rd_L12 t338 x8_2).length c347_0)) (ds := []) #[false, false, false, false, false, false, false, false, false, false, false] (by kernel_rfl) rfl rfl ⟨hx343_0, hx347_0⟩ (fun hHeld => ?_); refine with_tabW w18_MapperParts.tab11 w18_MapperParts.bits11 (fun HT_ HW_ => ?_)
           generalize wr.drew = w38 at HO_5 HO_6 HL342_0 BK306 HR342_0 HB HL343_0 HL347_0 HR343_0 HR347_0 hx343_0 hx347_0 hHeld ⊢
           refine yz 0 (some 44) (bs 11 1) HT_.out (h := ?_)
           refine yz 1 (some 45) (bs 11 3) HT_.out (h := ?_)
           refine yz 2 (some 46) (bs 11 7) HT_.out (h := ?_)
           refine yz 5 (some 49) (bs 11 39) HT_.out (h := ?_)
           refine yz 6 (some 50) (bs 11 103) HT_.out (h := ?_)
           refine yz 7 (some 51) (bs 11 231) HT_.out (h := ?_)
           refine yt 3 (some 47) (bs 11 239) HT_.out HW_.out hHeld (h := ?_)
           refine yt 8 (some 52) (bs 11 495) HT_.out HW_.out hHeld (h := ?_)
           refine one_ (i := 4) (N := some 48) #[true, true, true, true, true, true, true, true, true, false, false] rfl rfl (one_of HT_.out (by kernel_rfl)) (by decide) (fun K hK => ?_)
           refine goes_ Tryz.func11 (by kernel_rfl) rfl #[.slice A343_0 (rd_L6 t310 x8_2).length c343_0] (by rfl) rfl rfl xr ?_
           with_reducible refine (w18_items.calls k2 _ _ (rd_L6 t310 x8_2) t344 _ (Tabs.below hT xf) ?side1 ?side2 A34.out).mono ?_
           (case side1 => repeat (first | exact (by repeat (first | (with_reducible exact HR343_0.out) | (with_reducible refine Kd.C_alloc ?_ _) | (with_reducible refine Kd.C_drewN ?_ _) | (with_reducible refine Kd.C_drew ?_) | exact HR343_0.out)) | (with_reducible refine Kd.C_alloc ?_ _) | (with_reducible refine Kd.C_drewN ?_ _) | (with_reducible refine Kd.C_drew ?_)))
           (case side2 => exact HC343_0.out)
           rintro e w39 ⟨v345, rfl, ho0, hb⟩
           have HS0_ := (hb.cell (World.block_lt_of_cell? _ _ (hHeld.1))).trans (hHeld.1)
           have HS1_ := (hb.cell (World.block_lt_of_cell? _ _ (hHeld.2))).trans (hHeld.2)
           refine ⟨_, rfl, ?_⟩
           replace HO_5 := xy (Kd.S_below (by (with_reducible repeat (first | apply Kd.S_alloc | apply Kd.S_drewN | apply Kd.S_drew)); exact HO_5.out) hb)
           replace HO_6 := xy (Kd.S_elder' (by (with_reducible repeat (first | apply Kd.S_alloc | apply Kd.S_drewN | apply Kd.S_drew)); exact HO_6.out) (Kd.R_base ho0) hb)
           replace HL342_0 := xy (Kd.R_below (xo HL342_0.out) hb)
           replace HL343_0 := xy (Kd.R_below (xo HL343_0.out) hb)
           have HO346 := xy (Kd.R_lower (Kd.R_new' ho0 (Kd.R_lt (xo HL347_0.out))) (below_size xb))
           replace HL347_0 := xy (Kd.R_elder' (xo HL347_0.out) (Kd.R_base ho0) hb)
           replace BK306 := xd BK306.out hb
           replace HR342_0 := xy (Kd.C_below (by repeat (first | (with_reducible exact HR342_0.out) | (with_reducible refine Kd.C_alloc ?_ _) | (with_reducible refine Kd.C_drewN ?_ _) | (with_reducible refine Kd.C_drew ?_) | exact HR342_0.out)) hb)
           replace HR343_0 := xy (Kd.C_below (by repeat (first | (with_reducible exact HR343_0.out) | (with_reducible refine Kd.C_alloc ?_ _) | (with_reducible refine Kd.C_drewN ?_ _) | (with_reducible refine Kd.C_drew ?_) | exact HR343_0.out)) hb)
           replace HR347_0 := xy (Kd.C_below (by repeat (first | (with_reducible exact HR347_0.out) | (with_reducible refine Kd.C_alloc ?_ _) | (with_reducible refine Kd.C_drewN ?_ _) | (with_reducible refine Kd.C_drew ?_) | exact HR347_0.out)) hb)
           replace HB := xy (below_step xb hb)
           (try clear hb)
           (try clear hb2)
           (try clear hk)
           (try clear hi)
           (try clear ho0)
           obtain ⟨Ao40, co40, eo40⟩ := Kd.R_slice HO346.out
           (first | subst eo40 | (injection eo40 with f1_ f2_ f3_; have f4_ := f1_.symm; have f5_ := f3_.symm; clear f1_ f2_ f3_; subst f4_; subst f5_))
           refine hK.out _ _ ⟨HS0_, HS1_⟩ (fun hHeld => ?_)
           clear hK K
           refine norm_ (a' := ?_) ?_ ?_
           rotate_left
           ·show Act.put _ (some 48) _ = _
            simp only [Act.put, List.setIfInBounds_toArray, List.set_cons_zero, List.set_cons_succ, i64_w, i32_w]
            rfl
           refine one_ (i := 9) (N := some 53) #[true, true, true, true, true, true, true, true, true, true, false] rfl rfl (one_of HT_.out (by kernel_rfl)) (by decide) (fun K hK => ?_)
           refine goes_ Tryz.func12 (by kernel_rfl) rfl #[.slice Ao40 t344.length co40, .slice A347_0 (rd_L12 t338 x8_2).length c347_0] (by rfl) rfl rfl xr ?_
           with_reducible refine (r18_Same.calls k2 _ _ t344 _ _ (rd_L12 t338 x8_2) true _ (Tabs.below hT xf) ?side1 ?side2 ?side3 ?side4 A36.out).mono ?_
           (case side1 => repeat (first | exact (Kd.R_reads' HO346.out).2.2 | (with_reducible refine Kd.C_alloc ?_ _) | (with_reducible refine Kd.C_drewN ?_ _) | (with_reducible refine Kd.C_drew ?_)))
           (case side2 => exact (Kd.R_reads' HO346.out).2.1)
           (case side3 => repeat (first | exact (by repeat (first | (with_reducible exact HR347_0.out) | (with_reducible refine Kd.C_alloc ?_ _) | (with_reducible refine Kd.C_drewN ?_ _) | (with_reducible refine Kd.C_drew ?_) | exact HR347_0.out)) | (with_reducible refine Kd.C_alloc ?_ _) | (with_reducible refine Kd.C_drewN ?_ _) | (with_reducible refine Kd.C_drew ?_)))
           (case side4 => exact HC347_0.out)
           rintro e w' ⟨rfl, ⟨nd, rfl⟩⟩
           refine ⟨_, rfl, ?_⟩
           refine hK.out _ _ ⟨hHeld.1, hHeld.2⟩ (fun hHeld => ?_)
           clear hK K
           refine norm_ (a' := ?_) ?_ ?_
           rotate_left
           ·show Act.put _ (some 53) _ = _
            simp only [Act.put, List.setIfInBounds_toArray, List.set_cons_zero, List.set_cons_succ, i64_w, i32_w]
            rfl
           refine yz 10 (some 54) (bs 11 2047) HT_.out (h := ?_)
           refine done_ (done_of HT_.out (by kernel_rfl)) ?_
           try go_wp2
           go_roundg k2
           case measure => have := HJ2.out; have := HK2.out; omega
           case rel => exact ⟨(wrap64 (x7_2 + ((rd_L6 t310 x8_2).length : Int))), (wrap64 (x8_2 + 1)), xg, xg, H', ⟨by have := HJ2.out; have := HK2.out; omega⟩, ⟨by (with_reducible repeat (first | apply Kd.S_alloc | apply Kd.S_drewN | apply Kd.S_drew)); exact HO_5.out⟩, ⟨by (with_reducible repeat (first | apply Kd.S_alloc | apply Kd.S_drewN | apply Kd.S_drew)); exact Kd.S_mono HO_6.out (fun _ hk => trivial)⟩, ⟨by (with_reducible repeat (first | refine blk_drewN ?_ _ | refine blk_drew ?_ | refine blk_alloc ?_ _)); exact BK306.out⟩, ⟨xb⟩⟩
          ·replace c37 := Bool.eq_false_iff.mpr c37
           subst c37
           rw [if_neg (show ¬ (false = true) by decide)] at H
           exact absurd ((Option.some.inj H).trans hr_) (by decide)
         ·rw [if_neg c35] at H
          exact absurd H (by simp)
        ·rw [if_neg c33] at H
         exact absurd H (by simp)
       ·rw [if_neg c32] at H
        have c32b0 : decide (x8_2 < (t310.length : Int)) = false := decide_eq_false c32
        clear c32
        replace H := xj H
        obtain ⟨t341, A440, H⟩ := H
        try dsimp only at H
        have A44 := xy A440
        clear A440
        by_cases c45 : t341 = true
        ·subst c45
         rw [if_pos rfl] at H
         by_cases c46 : (t310.length : Int) = 0
         ·rw [if_pos c46] at H
          have c46b0 : ((t310.length : Int) == 0) = true := beq_iff_eq.mpr c46
          have c46b1 : ((t310.length : Int) != 0) = false := bne_eq_false_iff_eq.mpr c46
          clear c46
          obtain rfl := Option.some.inj H
          go_wp2_with (first | ((with_reducible refine gate_callee (f := 7) rfl ?_); refine goesL_ (some 55) rfl rfl Tryz.func7 (by kernel_rfl) rfl #[] rfl xr ?_; (with_reducible refine (w18_alive.calls k2  true _ (Tabs.below hT xf) A44.out).mono ?_); rintro e w47 ⟨rfl, hb⟩; refine ⟨_, rfl, ?_⟩; replace HO_5 := xy (Kd.S_below (by (with_reducible repeat (first | apply Kd.S_alloc | apply Kd.S_drewN | apply Kd.S_drew)); exact HO_5.out) hb); replace HO_6 := xy (Kd.S_below (by (with_reducible repeat (first | apply Kd.S_alloc | apply Kd.S_drewN | apply Kd.S_drew)); exact HO_6.out) hb); replace BK306 := xd BK306.out hb; replace HB := xy (below_step xb hb); (try clear hb); (try clear hb2); (try clear hk); (try clear hi)))
          go_ret
          exact ⟨xe, xb⟩
         ·rw [if_neg c46] at H
          have c46b0 : ((t310.length : Int) == 0) = false := beq_eq_false_iff_ne.mpr c46
          have c46b1 : ((t310.length : Int) != 0) = true := bne_iff_ne.mpr c46
          have c46b2 : ¬ (t310 = []) := fun h_ => c46 (by rw [h_]; rfl)
          obtain rfl := Option.some.inj H
          go_wp2_with (first | ((with_reducible refine gate_callee (f := 7) rfl ?_); refine goesL_ (some 55) rfl rfl Tryz.func7 (by kernel_rfl) rfl #[] rfl xr ?_; (with_reducible refine (w18_alive.calls k2  true _ (Tabs.below hT xf) A44.out).mono ?_); rintro e w48 ⟨rfl, hb⟩; refine ⟨_, rfl, ?_⟩; replace HO_5 := xy (Kd.S_below (by (with_reducible repeat (first | apply Kd.S_alloc | apply Kd.S_drewN | apply Kd.S_drew)); exact HO_5.out) hb); replace HO_6 := xy (Kd.S_below (by (with_reducible repeat (first | apply Kd.S_alloc | apply Kd.S_drewN | apply Kd.S_drew)); exact HO_6.out) hb); replace BK306 := xd BK306.out hb; replace HB := xy (below_step xb hb); (try clear hb); (try clear hb2); (try clear hk); (try clear hi)))
          go_ret
          exact ⟨xe, xb⟩
        ·replace c45 := Bool.eq_false_iff.mpr c45
         subst c45
         rw [if_neg (show ¬ (false = true) by decide)] at H
         exact absurd ((Option.some.inj H).trans hr_) (by decide)
    ·rw [if_neg c19] at H
     have c19b0 : ((t310.length : Int) == (t338.length : Int)) = false := beq_eq_false_iff_ne.mpr c19
     have c19b1 : ((t310.length : Int) != (t338.length : Int)) = true := bne_iff_ne.mpr c19
     have c19b2 : (t310.length == t338.length) = false := by first | simpa using c19 | (simp at c19 ⊢; omega)
     exact absurd ((Option.some.inj H).trans hr_) (by decide)
def w18_MapperParts.Pure : Prop := ∀ (x0 : S26) (x1 : List (S55)), (True ∧ (x0.f1.length * 32 ≤ 140737488351232 ∧ ∀ q0_ ∈ x0.f1, ((Lit.int .i64 q0_.f0).wf = true ∧ (Lit.int .i64 q0_.f1).wf = true ∧ q0_.f2.size ≤ 140737488351232)) ∧ (x0.f2.length * 32 ≤ 140737488351232 ∧ ∀ q0_ ∈ x0.f2, ((Lit.int .i64 q0_.f0).wf = true ∧ (Lit.int .i64 q0_.f1).wf = true ∧ q0_.f2.size ≤ 140737488351232)) ∧ (x0.f3.length * 32 ≤ 140737488351232 ∧ ∀ q0_ ∈ x0.f3, ((Lit.int .i64 q0_.f0).wf = true ∧ (Lit.int .i64 q0_.f1).wf = true ∧ q0_.f2.size ≤ 140737488351232)) ∧ (Lit.int .i64 x0.f4).wf = true ∧ (x0.f5.length * 32 ≤ 140737488351232 ∧ ∀ q0_ ∈ x0.f5, ((Lit.int .i64 q0_.f0).wf = true ∧ (Lit.int .i64 q0_.f1).wf = true ∧ q0_.f2.size ≤ 140737488351232)) ∧ (True ∧ (Lit.int .i64 x0.f6.f1).wf = true ∧ x0.f6.f2.size ≤ 140737488351232) ∧ True ∧ (Lit.int .i64 x0.f8).wf = true ∧ True ∧ True ∧ (Lit.int .i64 x0.f11).wf = true) → (x1.length * 48 ≤ 140737488351232 ∧ ∀ q0_ ∈ x1, (q0_.f0.size ≤ 140737488351232 ∧ (True ∧ (Lit.int .i64 q0_.f1.f1).wf = true ∧ q0_.f1.f2.size ≤ 140737488351232))) → ∃ k, w18_MapperParts.f k x0.f0 x0.f1 x0.f2 x0.f3 x0.f4 x0.f5 x0.f6.f0 x0.f6.f1 x0.f6.f2 x0.f7 x0.f8 x0.f9 x0.f10 x0.f11 x1 = some true
end Go.Proofs.YtialoecplmnjfaaGreatDoor.PX
