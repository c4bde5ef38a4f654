/- Walked functions, by this session's program over the kit's print. -/
import Derived.Test.YtebofnoljebakaaGreatDoorPXx0
import Derived.Test.YtebofnoljebakaaGreatDoorPXx3
import Derived.Test.YtebofnoljebakaaGreatDoorPXx9
namespace Go.Proofs.YtebofnoljebakaaGreatDoor.PX
open Go.RowKit Go.Proofs.YtebofnoljebakaaGreatDoorW.PrintWords Go.Proofs.YtebofnoljebakaaGreatDoorW.PrintLast Go.Proofs.YtebofnoljebakaaGreatDoorW.PrintMore
attribute [local go_sem] xm_gtr max2_int min2_int max_two min_two max_three min_three max_four min_four
set_option linter.unusedVariables false
set_option linter.unusedSimpArgs false
/- Walked functions, by this session's program over the kit's print. -/
mutual
def w19_SorterOrder.j0 : Nat → List (S38) → Bool → Bool → List (S81) → List (S81) → List (S81) → Int → List (S81) → Bool → Int → ByteArray → Bool → Int → Bool → Bool → Int → Option (Bool)
 | 0, _, _, _, _, _, _, _, _, _, _, _, _, _, _, _, _ => none
 | k + 1, x1, x17, x325000, x325001, x325002, x325003, x325004, x325005, x325006, x325007, x325008, x325009, x325010, x325011, x325012, x325013 => if x17 = true then ((w19_alive.f).bind fun t327 => (some t327)) else ((sorter_Sort.f k x325000 x325001 x325002 x325003 x325004 x325005 x325006 x325007 x325008 x325009 x325010 x325011 x325012 x325013 x1).bind fun t328 => ((sorter_InOrder.f k x325000 x325001 x325002 x325003 x325004 x325005 x325006 x325007 x325008 x325009 x325010 x325011 x325012 x325013 t328).bind fun t331 => (if t331 = true then (if (t328.length : Int) = (x1.length : Int) then ((sorter_Sort.f k x325000 x325001 x325002 x325003 x325004 x325005 x325006 x325007 x325008 x325009 x325010 x325011 x325012 x325013 t328).bind fun t332 => ((w19_items.f k t332).bind fun t335 => ((w19_items.f k t328).bind fun t338 => ((r18_Same.f k t335 t338).bind fun t341 => (w19_SorterOrder.j1 k x1 t328 (!t341) x325000 x325001 x325002 x325003 x325004 x325005 x325006 x325007 x325008 x325009 x325010 x325011 x325012 x325013))))) else (w19_SorterOrder.j1 k x1 t328 true x325000 x325001 x325002 x325003 x325004 x325005 x325006 x325007 x325008 x325009 x325010 x325011 x325012 x325013)) else (w19_SorterOrder.j1 k x1 t328 true x325000 x325001 x325002 x325003 x325004 x325005 x325006 x325007 x325008 x325009 x325010 x325011 x325012 x325013))))
def w19_SorterOrder.j1 : Nat → List (S38) → List (S38) → Bool → Bool → List (S81) → List (S81) → List (S81) → Int → List (S81) → Bool → Int → ByteArray → Bool → Int → Bool → Bool → Int → Option (Bool)
 | 0, _, _, _, _, _, _, _, _, _, _, _, _, _, _, _, _, _ => none
 | k + 1, x1, x5, x42, x325000, x325001, x325002, x325003, x325004, x325005, x325006, x325007, x325008, x325009, x325010, x325011, x325012, x325013 => if x42 = true then (some false) else (w19_SorterOrder.l0 k x1 x5 0 x325000 x325001 x325002 x325003 x325004 x325005 x325006 x325007 x325008 x325009 x325010 x325011 x325012 x325013)
def w19_SorterOrder.l0 : Nat → List (S38) → List (S38) → Int → Bool → List (S81) → List (S81) → List (S81) → Int → List (S81) → Bool → Int → ByteArray → Bool → Int → Bool → Bool → Int → Option (Bool)
 | 0, _, _, _, _, _, _, _, _, _, _, _, _, _, _, _, _, _ => none
 | k + 1, x1, x5, x6, x325000, x325001, x325002, x325003, x325004, x325005, x325006, x325007, x325008, x325009, x325010, x325011, x325012, x325013 => if x6 < (x1.length : Int) then (if 0 ≤ x6 then ((w19_count.f k x5 ((rd_T38 x1 x6).f0) ((rd_T38 x1 x6).f1.f0) ((rd_T38 x1 x6).f1.f1) ((rd_T38 x1 x6).f1.f2)).bind fun t343 => ((w19_count.f k x1 ((rd_T38 x1 x6).f0) ((rd_T38 x1 x6).f1.f0) ((rd_T38 x1 x6).f1.f1) ((rd_T38 x1 x6).f1.f2)).bind fun t345 => (if t343 = t345 then (w19_SorterOrder.l0 k x1 x5 (wrap64 (x6 + 1)) x325000 x325001 x325002 x325003 x325004 x325005 x325006 x325007 x325008 x325009 x325010 x325011 x325012 x325013) else (some false)))) else (none)) else ((sorter_Groups.f x325000 x325001 x325002 x325003 x325004 x325005 x325006 x325007 x325008 x325009 x325010 x325011 x325012 x325013 x5).bind fun t346 => (w19_SorterOrder.l1 k t346 0))
def w19_SorterOrder.l1 : Nat → List (S43) → Int → Option (Bool)
 | 0, _, _ => none
 | k + 1, x7, x8 => if x8 < (x7.length : Int) then (w19_SorterOrder.l2 k x7 x8 0) else ((w19_alive.f).bind fun t349 => (some t349))
def w19_SorterOrder.l2 : Nat → List (S43) → Int → Int → Option (Bool)
 | 0, _, _, _ => none
 | k + 1, x7, x8, x9 => if x9 < x8 then (if 0 ≤ x8 then (if x8 < (x7.length : Int) then (if 0 ≤ x9 then (if x9 < (x7.length : Int) then (if ((rd_T43 x7 x8).f0).toList = ((rd_T43 x7 x9).f0).toList then (some false) else (w19_SorterOrder.l2 k x7 x8 (wrap64 (x9 + 1)))) else (none)) else (none)) else (none)) else (none)) else (w19_SorterOrder.l1 k x7 (wrap64 (x8 + 1)))
end
def w19_SorterOrder.f (k : Nat) (a0_0 : Bool) (l0_1 : List (S81)) (l0_2 : List (S81)) (l0_3 : List (S81)) (a0_4 : Int) (l0_5 : List (S81)) (a0_6 : Bool) (a0_7 : Int) (a0_8 : ByteArray) (a0_9 : Bool) (a0_10 : Int) (a0_11 : Bool) (a0_12 : Bool) (a0_13 : Int) (l1 : List (S38)) : Option (Bool) := (w19_little.f k a0_0 l0_1 l0_2 l0_3 a0_4 l0_5 a0_6 a0_7 a0_8 a0_9 a0_10 a0_11 a0_12 a0_13).bind fun t325 => (if t325 = true then ((w19_few.f k l1).bind fun t326 => (w19_SorterOrder.j0 k l1 (!t326) a0_0 l0_1 l0_2 l0_3 a0_4 l0_5 a0_6 a0_7 a0_8 a0_9 a0_10 a0_11 a0_12 a0_13)) else (w19_SorterOrder.j0 k l1 true a0_0 l0_1 l0_2 l0_3 a0_4 l0_5 a0_6 a0_7 a0_8 a0_9 a0_10 a0_11 a0_12 a0_13))
theorem w19_SorterOrder.mono_l : ∀ k, (∀ y0 y1 y2 y3 y4 y5 y6 y7 y8 y9 y10 y11 y12 y13 y14 y15, LeO (w19_SorterOrder.j0 k y0 y1 y2 y3 y4 y5 y6 y7 y8 y9 y10 y11 y12 y13 y14 y15) (w19_SorterOrder.j0 (k + 1) y0 y1 y2 y3 y4 y5 y6 y7 y8 y9 y10 y11 y12 y13 y14 y15)) ∧ (∀ y0 y1 y2 y3 y4 y5 y6 y7 y8 y9 y10 y11 y12 y13 y14 y15 y16, LeO (w19_SorterOrder.j1 k y0 y1 y2 y3 y4 y5 y6 y7 y8 y9 y10 y11 y12 y13 y14 y15 y16) (w19_SorterOrder.j1 (k + 1) y0 y1 y2 y3 y4 y5 y6 y7 y8 y9 y10 y11 y12 y13 y14 y15 y16)) ∧ (∀ y0 y1 y2 y3 y4 y5 y6 y7 y8 y9 y10 y11 y12 y13 y14 y15 y16, LeO (w19_SorterOrder.l0 k y0 y1 y2 y3 y4 y5 y6 y7 y8 y9 y10 y11 y12 y13 y14 y15 y16) (w19_SorterOrder.l0 (k + 1) y0 y1 y2 y3 y4 y5 y6 y7 y8 y9 y10 y11 y12 y13 y14 y15 y16)) ∧ (∀ y0 y1, LeO (w19_SorterOrder.l1 k y0 y1) (w19_SorterOrder.l1 (k + 1) y0 y1)) ∧ (∀ y0 y1 y2, LeO (w19_SorterOrder.l2 k y0 y1 y2) (w19_SorterOrder.l2 (k + 1) y0 y1 y2))
 | 0 => ⟨fun _ _ _ _ _ _ _ _ _ _ _ _ _ _ _ _ r h => by simp [w19_SorterOrder.j0] at h, fun _ _ _ _ _ _ _ _ _ _ _ _ _ _ _ _ _ r h => by simp [w19_SorterOrder.j1] at h, fun _ _ _ _ _ _ _ _ _ _ _ _ _ _ _ _ _ r h => by simp [w19_SorterOrder.l0] at h, fun _ _ r h => by simp [w19_SorterOrder.l1] at h, fun _ _ _ r h => by simp [w19_SorterOrder.l2] at h⟩
 | k + 1 => by
  obtain ⟨ih0, ih1, ih2, ih3, ih4⟩ := w19_SorterOrder.mono_l k
  refine ⟨?_, ?_, ?_, ?_, ?_⟩
  ·intro y0 y1 y2 y3 y4 y5 y6 y7 y8 y9 y10 y11 y12 y13 y14 y15
   unfold w19_SorterOrder.j0
   repeat' (with_reducible first | exact ih0 _ _ _ _ _ _ _ _ _ _ _ _ _ _ _ _ | exact ih1 _ _ _ _ _ _ _ _ _ _ _ _ _ _ _ _ _ | exact ih2 _ _ _ _ _ _ _ _ _ _ _ _ _ _ _ _ _ | exact ih3 _ _ | exact ih4 _ _ _ | exact sorter_InOrder.mono _ _ _ _ _ _ _ _ _ _ _ _ _ _ _ _ | exact sorter_Sort.mono _ _ _ _ _ _ _ _ _ _ _ _ _ _ _ _ | exact w19_count.mono _ _ _ _ _ _ | exact w19_few.mono _ _ | exact w19_items.mono _ _ | exact w19_little.mono _ _ _ _ _ _ _ _ _ _ _ _ _ _ _ | exact r18_Same.mono _ _ _ | exact LeO.refl _ | exact LeO.none _ | refine LeO.ite ?_ ?_ | refine LeO.bind ?_ (fun _ => ?_))
  ·intro y0 y1 y2 y3 y4 y5 y6 y7 y8 y9 y10 y11 y12 y13 y14 y15 y16
   unfold w19_SorterOrder.j1
   repeat' (with_reducible first | exact ih0 _ _ _ _ _ _ _ _ _ _ _ _ _ _ _ _ | exact ih1 _ _ _ _ _ _ _ _ _ _ _ _ _ _ _ _ _ | exact ih2 _ _ _ _ _ _ _ _ _ _ _ _ _ _ _ _ _ | exact ih3 _ _ | exact ih4 _ _ _ | exact sorter_InOrder.mono _ _ _ _ _ _ _ _ _ _ _ _ _ _ _ _ | exact sorter_Sort.mono _ _ _ _ _ _ _ _ _ _ _ _ _ _ _ _ | exact w19_count.mono _ _ _ _ _ _ | exact w19_few.mono _ _ | exact w19_items.mono _ _ | exact w19_little.mono _ _ _ _ _ _ _ _ _ _ _ _ _ _ _ | exact r18_Same.mono _ _ _ | exact LeO.refl _ | exact LeO.none _ | refine LeO.ite ?_ ?_ | refine LeO.bind ?_ (fun _ => ?_))
  ·intro y0 y1 y2 y3 y4 y5 y6 y7 y8 y9 y10 y11 y12 y13 y14 y15 y16
   unfold w19_SorterOrder.l0
   repeat' (with_reducible first | exact ih0 _ _ _ _ _ _ _ _ _ _ _ _ _ _ _ _ | exact ih1 _ _ _ _ _ _ _ _ _ _ _ _ _ _ _ _ _ | exact ih2 _ _ _ _ _ _ _ _ _ _ _ _ _ _ _ _ _ | exact ih3 _ _ | exact ih4 _ _ _ | exact sorter_InOrder.mono _ _ _ _ _ _ _ _ _ _ _ _ _ _ _ _ | exact sorter_Sort.mono _ _ _ _ _ _ _ _ _ _ _ _ _ _ _ _ | exact w19_count.mono _ _ _ _ _ _ | exact w19_few.mono _ _ | exact w19_items.mono _ _ | exact w19_little.mono _ _ _ _ _ _ _ _ _ _ _ _ _ _ _ | exact r18_Same.mono _ _ _ | exact LeO.refl _ | exact LeO.none _ | refine LeO.ite ?_ ?_ | refine LeO.bind ?_ (fun _ => ?_))
  ·intro y0 y1
   unfold w19_SorterOrder.l1
   repeat' (with_reducible first | exact ih0 _ _ _ _ _ _ _ _ _ _ _ _ _ _ _ _ | exact ih1 _ _ _ _ _ _ _ _ _ _ _ _ _ _ _ _ _ | exact ih2 _ _ _ _ _ _ _ _ _ _ _ _ _ _ _ _ _ | exact ih3 _ _ | exact ih4 _ _ _ | exact sorter_InOrder.mono _ _ _ _ _ _ _ _ _ _ _ _ _ _ _ _ | exact sorter_Sort.mono _ _ _ _ _ _ _ _ _ _ _ _ _ _ _ _ | exact w19_count.mono _ _ _ _ _ _ | exact w19_few.mono _ _ | exact w19_items.mono _ _ | exact w19_little.mono _ _ _ _ _ _ _ _ _ _ _ _ _ _ _ | exact r18_Same.mono _ _ _ | exact LeO.refl _ | exact LeO.none _ | refine LeO.ite ?_ ?_ | refine LeO.bind ?_ (fun _ => ?_))
  ·intro y0 y1 y2
   unfold w19_SorterOrder.l2
   repeat' (with_reducible first | exact ih0 _ _ _ _ _ _ _ _ _ _ _ _ _ _ _ _ | exact ih1 _ _ _ _ _ _ _ _ _ _ _ _ _ _ _ _ _ | exact ih2 _ _ _ _ _ _ _ _ _ _ _ _ _ _ _ _ _ | exact ih3 _ _ | exact ih4 _ _ _ | exact sorter_InOrder.mono _ _ _ _ _ _ _ _ _ _ _ _ _ _ _ _ | exact sorter_Sort.mono _ _ _ _ _ _ _ _ _ _ _ _ _ _ _ _ | exact w19_count.mono _ _ _ _ _ _ | exact w19_few.mono _ _ | exact w19_items.mono _ _ | exact w19_little.mono _ _ _ _ _ _ _ _ _ _ _ _ _ _ _ | exact r18_Same.mono _ _ _ | exact LeO.refl _ | exact LeO.none _ | refine LeO.ite ?_ ?_ | refine LeO.bind ?_ (fun _ => ?_))
theorem w19_SorterOrder.mono : ∀ a0 a1 a2 a3 a4 a5 a6 a7 a8 a9 a10 a11 a12 a13 a14 k, LeO (w19_SorterOrder.f k a0 a1 a2 a3 a4 a5 a6 a7 a8 a9 a10 a11 a12 a13 a14) (w19_SorterOrder.f (k + 1) a0 a1 a2 a3 a4 a5 a6 a7 a8 a9 a10 a11 a12 a13 a14) := by
 intro a0 a1 a2 a3 a4 a5 a6 a7 a8 a9 a10 a11 a12 a13 a14 k
 obtain ⟨ih0, ih1, ih2, ih3, ih4⟩ := w19_SorterOrder.mono_l k
 unfold w19_SorterOrder.f
 repeat' (with_reducible first | exact ih0 _ _ _ _ _ _ _ _ _ _ _ _ _ _ _ _ | exact ih1 _ _ _ _ _ _ _ _ _ _ _ _ _ _ _ _ _ | exact ih2 _ _ _ _ _ _ _ _ _ _ _ _ _ _ _ _ _ | exact ih3 _ _ | exact ih4 _ _ _ | exact sorter_InOrder.mono _ _ _ _ _ _ _ _ _ _ _ _ _ _ _ _ | exact sorter_Sort.mono _ _ _ _ _ _ _ _ _ _ _ _ _ _ _ _ | exact w19_count.mono _ _ _ _ _ _ | exact w19_few.mono _ _ | exact w19_items.mono _ _ | exact w19_little.mono _ _ _ _ _ _ _ _ _ _ _ _ _ _ _ | exact r18_Same.mono _ _ _ | exact LeO.refl _ | exact LeO.none _ | refine LeO.ite ?_ ?_ | refine LeO.bind ?_ (fun _ => ?_))
def w19_SorterOrder.T9 : Bool × List (List Nat × List Nat) := (true, [([], []), ([], []), ([], []), ([1, 2], [1, 2]), ([3], [3]), ([0, 4], [0, 4]), ([], []), ([], []), ([], []), ([7, 8], [7, 8]), ([9], [9]), ([6, 10, 5], [6, 10]), ([5, 11], [5, 11])])
def w19_SorterOrder.B9 : List Nat := [0, 0, 0, 6, 14, 31, 0, 0, 0, 384, 896, 2047, 4095]
theorem w19_SorterOrder.tab9 : rtab .any (opsOf Tryz.f3 9) = w19_SorterOrder.T9 := by kernel_rfl
theorem w19_SorterOrder.bits9 : waitsOk w19_SorterOrder.T9.2 w19_SorterOrder.B9 = true := by kernel_rfl
def w19_SorterOrder.T18 : Bool × List (List Nat × List Nat) := (true, [([], []), ([], []), ([0, 1], [0, 1]), ([2], [2]), ([3], [3]), ([], []), ([], []), ([5, 6], [5, 6]), ([7], [7]), ([8], [8]), ([4, 9], [4, 9])])
def w19_SorterOrder.B18 : List Nat := [0, 0, 3, 7, 15, 0, 0, 96, 224, 480, 1023]
theorem w19_SorterOrder.tab18 : rtab .any (opsOf Tryz.f3 18) = w19_SorterOrder.T18 := by kernel_rfl
theorem w19_SorterOrder.bits18 : waitsOk w19_SorterOrder.T18.2 w19_SorterOrder.B18 = true := by kernel_rfl
set_option maxHeartbeats 8000000 in
set_option maxRecDepth 100000 in
theorem w19_SorterOrder.calls (k : Nat) (a0_0 : Bool) (A0_1 : Option Addr) (c0_1 : Nat) (l0_1 : List (S81)) (A0_2 : Option Addr) (c0_2 : Nat) (l0_2 : List (S81)) (A0_3 : Option Addr) (c0_3 : Nat) (l0_3 : List (S81)) (a0_4 : Int) (A0_5 : Option Addr) (c0_5 : Nat) (l0_5 : List (S81)) (a0_6 : Bool) (a0_7 : Int) (a0_8 : ByteArray) (a0_9 : Bool) (a0_10 : Int) (a0_11 : Bool) (a0_12 : Bool) (a0_13 : Int) (A1 : Option Addr) (c1 : Nat) (l1 : List (S38)) (r : Bool) (w : World) (hT : Tabs w) (hr0_1 : Kd.C k81 w A0_1 l0_1.length l0_1) (hc0_1 : l0_1.length ≤ c0_1) (hr0_2 : Kd.C k81 w A0_2 l0_2.length l0_2) (hc0_2 : l0_2.length ≤ c0_2) (hr0_3 : Kd.C k81 w A0_3 l0_3.length l0_3) (hc0_3 : l0_3.length ≤ c0_3) (hr0_5 : Kd.C k81 w A0_5 l0_5.length l0_5) (hc0_5 : l0_5.length ≤ c0_5) (hr1 : Kd.C k38 w A1 l1.length l1) (hc1 : l1.length ≤ c1) (h : w19_SorterOrder.f k a0_0 l0_1 l0_2 l0_3 a0_4 l0_5 a0_6 a0_7 a0_8 a0_9 a0_10 a0_11 a0_12 a0_13 l1 = some r) (hr_ : r = true := by rfl) :
  Calls Tryz.prog 3 #[.agg #[.bool a0_0, .slice A0_1 l0_1.length c0_1, .slice A0_2 l0_2.length c0_2, .slice A0_3 l0_3.length c0_3, .int .i64 a0_4, .slice A0_5 l0_5.length c0_5, .bool a0_6, .int .i64 a0_7, .string a0_8, .bool a0_9, .int .i64 a0_10, .bool a0_11, .bool a0_12, .int .i64 a0_13], .slice A1 l1.length c1] w fun e w' => e = .returned (.bool r) ∧ Below w.heap.size w w' := by
 have hu26 := Tryz.underlying26
 have hu38 := Tryz.underlying38
 have HR0_1 := xy hr0_1
 have HC0_1 := xy hc0_1
 clear hr0_1 hc0_1
 have HR0_2 := xy hr0_2
 have HC0_2 := xy hc0_2
 clear hr0_2 hc0_2
 have HR0_3 := xy hr0_3
 have HC0_3 := xy hc0_3
 clear hr0_3 hc0_3
 have HR0_5 := xy hr0_5
 have HC0_5 := xy hc0_5
 clear hr0_5 hc0_5
 have HR1 := xy hr1
 have HC1 := xy hc1
 clear hr1 hc1
 have HB := xy (Below.refl w.heap.size w)
 unfold w19_SorterOrder.f at h
 have H := h
 clear h
 have HC3 := xy H
 clear H
 go_enter Tryz.func3, Tryz.ntmps3
 go_upto_region 1 with (first | ((with_reducible refine gate_dst (N := 2) rfl ?_); (try (refine gate_guard (by rfl) ?_; dsimp only)); refine xq (N := 2) (cs := #[.bool a0_0, .slice A0_1 l0_1.length c0_1, .slice A0_2 l0_2.length c0_2, .slice A0_3 l0_3.length c0_3, .int .i64 a0_4, .slice A0_5 l0_5.length c0_5, .bool a0_6, .int .i64 a0_7, .string a0_8, .bool a0_9, .int .i64 a0_10, .bool a0_11, .bool a0_12, .int .i64 a0_13]) (t := 26) ?_; intro gb324 hg w4 hbox hb; have BK324 := xy (hbox); have GW324 := xs w hg; have GE324 := xs w hg; replace HB := xy (below_step xb hb); clear hb hbox hg))
 (try simp only [Act.put, List.setIfInBounds_toArray, List.set_cons_zero, List.set_cons_succ])
 go_cut [17] (fun v17 wc => ∃ (kq : Nat) (x17_2 : Bool), v17 = .bool x17_2 ∧ Aside0 (w19_SorterOrder.j0 kq l1 x17_2 a0_0 l0_1 l0_2 l0_3 a0_4 l0_5 a0_6 a0_7 a0_8 a0_9 a0_10 a0_11 a0_12 a0_13 = some r) ∧ Aside0 (kq ≤ k) ∧ Aside0 (wc.heap[gb324]? = some (.cells #[.bool a0_0, (.slice A0_1 l0_1.length c0_1), (.slice A0_2 l0_2.length c0_2), (.slice A0_3 l0_3.length c0_3), .int .i64 a0_4, (.slice A0_5 l0_5.length c0_5), .bool a0_6, .int .i64 a0_7, .string a0_8, .bool a0_9, .int .i64 a0_10, .bool a0_11, .bool a0_12, .int .i64 a0_13] 26 (0, 0))) ∧ Aside0 (Below w.heap.size w wc))
 case first =>
  have H := HC3.out
  clear HC3
  replace H := xj H
  obtain ⟨t325, A50, H⟩ := H
  try dsimp only at H
  have A5 := xy A50
  clear A50
  by_cases c6 : t325 = true
  ·subst c6
   rw [if_pos rfl] at H
   replace H := xj H
   obtain ⟨t326, A70, H⟩ := H
   try dsimp only at H
   have A7 := xy A70
   clear A70
   have H' := xy H
   clear H
   have hcz8_0 : w4.cell? ⟨gb324, 0, none⟩ = some (.bool a0_0) := (kc BK324.out 0).trans rfl
   have hcz8_1 : w4.cell? ⟨gb324, 1, none⟩ = some (.slice A0_1 l0_1.length c0_1) := (kc BK324.out 1).trans rfl
   have hcz8_2 : w4.cell? ⟨gb324, 2, none⟩ = some (.slice A0_2 l0_2.length c0_2) := (kc BK324.out 2).trans rfl
   have hcz8_3 : w4.cell? ⟨gb324, 3, none⟩ = some (.slice A0_3 l0_3.length c0_3) := (kc BK324.out 3).trans rfl
   have hcz8_4 : w4.cell? ⟨gb324, 4, none⟩ = some (.int .i64 a0_4) := (kc BK324.out 4).trans rfl
   have hcz8_5 : w4.cell? ⟨gb324, 5, none⟩ = some (.slice A0_5 l0_5.length c0_5) := (kc BK324.out 5).trans rfl
   have hcz8_6 : w4.cell? ⟨gb324, 6, none⟩ = some (.bool a0_6) := (kc BK324.out 6).trans rfl
   have hcz8_7 : w4.cell? ⟨gb324, 7, none⟩ = some (.int .i64 a0_7) := (kc BK324.out 7).trans rfl
   have hcz8_8 : w4.cell? ⟨gb324, 8, none⟩ = some (.string a0_8) := (kc BK324.out 8).trans rfl
   have hcz8_9 : w4.cell? ⟨gb324, 9, none⟩ = some (.bool a0_9) := (kc BK324.out 9).trans rfl
   have hcz8_10 : w4.cell? ⟨gb324, 10, none⟩ = some (.int .i64 a0_10) := (kc BK324.out 10).trans rfl
   have hcz8_11 : w4.cell? ⟨gb324, 11, none⟩ = some (.bool a0_11) := (kc BK324.out 11).trans rfl
   have hcz8_12 : w4.cell? ⟨gb324, 12, none⟩ = some (.bool a0_12) := (kc BK324.out 12).trans rfl
   have hcz8_13 : w4.cell? ⟨gb324, 13, none⟩ = some (.int .i64 a0_13) := (kc BK324.out 13).trans rfl
   have hfz8_0 := kf BK324.out 0
   have hfz8_1 := kf BK324.out 1
   have hfz8_2 := kf BK324.out 2
   have hfz8_3 := kf BK324.out 3
   have hfz8_4 := kf BK324.out 4
   have hfz8_5 := kf BK324.out 5
   have hfz8_6 := kf BK324.out 6
   have hfz8_7 := kf BK324.out 7
   have hfz8_8 := kf BK324.out 8
   have hfz8_9 := kf BK324.out 9
   have hfz8_10 := kf BK324.out 10
   have hfz8_11 := kf BK324.out 11
   have hfz8_12 := kf BK324.out 12
   have hfz8_13 := kf BK324.out 13
   go_wp2_with (first | ((with_reducible refine gate_callee (f := 7) rfl ?_); refine goesL_ (some 11) rfl rfl Tryz.func7 (by kernel_rfl) rfl #[.agg #[.bool a0_0, .slice A0_1 l0_1.length c0_1, .slice A0_2 l0_2.length c0_2, .slice A0_3 l0_3.length c0_3, .int .i64 a0_4, .slice A0_5 l0_5.length c0_5, .bool a0_6, .int .i64 a0_7, .string a0_8, .bool a0_9, .int .i64 a0_10, .bool a0_11, .bool a0_12, .int .i64 a0_13]] rfl xr ?_; (with_reducible refine (w19_little.calls k a0_0 _ _ l0_1 _ _ l0_2 _ _ l0_3 a0_4 _ _ l0_5 a0_6 a0_7 a0_8 a0_9 a0_10 a0_11 a0_12 a0_13 true _ (Tabs.below hT xf) ?side1 ?side2 ?side3 ?side4 ?side5 ?side6 ?side7 ?side8 A5.out).mono ?_); (case side1 => exact Kd.C_below HR0_1.out xb); (case side2 => exact HC0_1.out); (case side3 => exact Kd.C_below HR0_2.out xb); (case side4 => exact HC0_2.out); (case side5 => exact Kd.C_below HR0_3.out xb); (case side6 => exact HC0_3.out); (case side7 => exact Kd.C_below HR0_5.out xb); (case side8 => exact HC0_5.out); rintro e w9 ⟨rfl, hb⟩; refine ⟨_, rfl, ?_⟩; replace BK324 := xd BK324.out hb; replace HB := xy (below_step xb hb); (try clear hb); (try clear hb2); (try clear hk); (try clear hi)) | (go_at_call 8; (with_reducible refine (w19_few.calls k _ _ l1 t326 _ (Tabs.below hT xf) ?side1 ?side2 A7.out).mono ?_); (case side1 => exact Kd.C_below HR1.out xb); (case side2 => exact HC1.out); rintro e w' ⟨rfl, ⟨nd, rfl⟩⟩))
   go_meet
   case rel => exact ⟨_, (!t326), xg, H', ⟨by first | omega | exact Nat.le_refl _⟩, ⟨by (with_reducible repeat (first | refine blk_drewN ?_ _ | refine blk_drew ?_ | refine blk_alloc ?_ _)); exact BK324.out⟩, ⟨xb⟩⟩
  ·replace c6 := Bool.eq_false_iff.mpr c6
   subst c6
   rw [if_neg (show ¬ (false = true) by decide)] at H
   have H' := xy H
   clear H
   have hcz10_0 : w4.cell? ⟨gb324, 0, none⟩ = some (.bool a0_0) := (kc BK324.out 0).trans rfl
   have hcz10_1 : w4.cell? ⟨gb324, 1, none⟩ = some (.slice A0_1 l0_1.length c0_1) := (kc BK324.out 1).trans rfl
   have hcz10_2 : w4.cell? ⟨gb324, 2, none⟩ = some (.slice A0_2 l0_2.length c0_2) := (kc BK324.out 2).trans rfl
   have hcz10_3 : w4.cell? ⟨gb324, 3, none⟩ = some (.slice A0_3 l0_3.length c0_3) := (kc BK324.out 3).trans rfl
   have hcz10_4 : w4.cell? ⟨gb324, 4, none⟩ = some (.int .i64 a0_4) := (kc BK324.out 4).trans rfl
   have hcz10_5 : w4.cell? ⟨gb324, 5, none⟩ = some (.slice A0_5 l0_5.length c0_5) := (kc BK324.out 5).trans rfl
   have hcz10_6 : w4.cell? ⟨gb324, 6, none⟩ = some (.bool a0_6) := (kc BK324.out 6).trans rfl
   have hcz10_7 : w4.cell? ⟨gb324, 7, none⟩ = some (.int .i64 a0_7) := (kc BK324.out 7).trans rfl
   have hcz10_8 : w4.cell? ⟨gb324, 8, none⟩ = some (.string a0_8) := (kc BK324.out 8).trans rfl
   have hcz10_9 : w4.cell? ⟨gb324, 9, none⟩ = some (.bool a0_9) := (kc BK324.out 9).trans rfl
   have hcz10_10 : w4.cell? ⟨gb324, 10, none⟩ = some (.int .i64 a0_10) := (kc BK324.out 10).trans rfl
   have hcz10_11 : w4.cell? ⟨gb324, 11, none⟩ = some (.bool a0_11) := (kc BK324.out 11).trans rfl
   have hcz10_12 : w4.cell? ⟨gb324, 12, none⟩ = some (.bool a0_12) := (kc BK324.out 12).trans rfl
   have hcz10_13 : w4.cell? ⟨gb324, 13, none⟩ = some (.int .i64 a0_13) := (kc BK324.out 13).trans rfl
   have hfz10_0 := kf BK324.out 0
   have hfz10_1 := kf BK324.out 1
   have hfz10_2 := kf BK324.out 2
   have hfz10_3 := kf BK324.out 3
   have hfz10_4 := kf BK324.out 4
   have hfz10_5 := kf BK324.out 5
   have hfz10_6 := kf BK324.out 6
   have hfz10_7 := kf BK324.out 7
   have hfz10_8 := kf BK324.out 8
   have hfz10_9 := kf BK324.out 9
   have hfz10_10 := kf BK324.out 10
   have hfz10_11 := kf BK324.out 11
   have hfz10_12 := kf BK324.out 12
   have hfz10_13 := kf BK324.out 13
   go_wp2_with (first | ((with_reducible refine gate_callee (f := 7) rfl ?_); refine goesL_ (some 11) rfl rfl Tryz.func7 (by kernel_rfl) rfl #[.agg #[.bool a0_0, .slice A0_1 l0_1.length c0_1, .slice A0_2 l0_2.length c0_2, .slice A0_3 l0_3.length c0_3, .int .i64 a0_4, .slice A0_5 l0_5.length c0_5, .bool a0_6, .int .i64 a0_7, .string a0_8, .bool a0_9, .int .i64 a0_10, .bool a0_11, .bool a0_12, .int .i64 a0_13]] rfl xr ?_; (with_reducible refine (w19_little.calls k a0_0 _ _ l0_1 _ _ l0_2 _ _ l0_3 a0_4 _ _ l0_5 a0_6 a0_7 a0_8 a0_9 a0_10 a0_11 a0_12 a0_13 false _ (Tabs.below hT xf) ?side1 ?side2 ?side3 ?side4 ?side5 ?side6 ?side7 ?side8 A5.out).mono ?_); (case side1 => exact Kd.C_below HR0_1.out xb); (case side2 => exact HC0_1.out); (case side3 => exact Kd.C_below HR0_2.out xb); (case side4 => exact HC0_2.out); (case side5 => exact Kd.C_below HR0_3.out xb); (case side6 => exact HC0_3.out); (case side7 => exact Kd.C_below HR0_5.out xb); (case side8 => exact HC0_5.out); rintro e w11 ⟨rfl, hb⟩; refine ⟨_, rfl, ?_⟩; replace BK324 := xd BK324.out hb; replace HB := xy (below_step xb hb); (try clear hb); (try clear hb2); (try clear hk); (try clear hi)))
   go_meet
   case rel => exact ⟨_, (true), xg, H', ⟨by first | omega | exact Nat.le_refl _⟩, ⟨by (with_reducible repeat (first | refine blk_drewN ?_ _ | refine blk_drew ?_ | refine blk_alloc ?_ _)); exact BK324.out⟩, ⟨xb⟩⟩
 case rest =>
  clear HC3
  try clear c1
  try clear p2
  try clear c3
  try clear c6
  try clear c7
  try clear hcz10_0
  try clear hcz10_1
  try clear hcz10_10
  try clear hcz10_11
  try clear hcz10_12
  try clear hcz10_13
  try clear hcz10_2
  try clear hcz10_3
  try clear hcz10_4
  try clear hcz10_5
  try clear hcz10_6
  try clear hcz10_7
  try clear hcz10_8
  try clear hcz10_9
  try clear hcz8_0
  try clear hcz8_1
  try clear hcz8_10
  try clear hcz8_11
  try clear hcz8_12
  try clear hcz8_13
  try clear hcz8_2
  try clear hcz8_3
  try clear hcz8_4
  try clear hcz8_5
  try clear hcz8_6
  try clear hcz8_7
  try clear hcz8_8
  try clear hcz8_9
  try clear hfz10_0
  try clear hfz10_1
  try clear hfz10_10
  try clear hfz10_11
  try clear hfz10_12
  try clear hfz10_13
  try clear hfz10_2
  try clear hfz10_3
  try clear hfz10_4
  try clear hfz10_5
  try clear hfz10_6
  try clear hfz10_7
  try clear hfz10_8
  try clear hfz10_9
  try clear hfz8_0
  try clear hfz8_1
  try clear hfz8_10
  try clear hfz8_11
  try clear hfz8_12
  try clear hfz8_13
  try clear hfz8_2
  try clear hfz8_3
  try clear hfz8_4
  try clear hfz8_5
  try clear hfz8_6
  try clear hfz8_7
  try clear hfz8_8
  try clear hfz8_9
  obtain ⟨kq, x17_2, rfl, HA, HJ2, BK324, HB⟩ := hcut
  cases kq with
  | zero => exact absurd HA.out (by simp [w19_SorterOrder.j0])
  | succ kj2 =>
   have H := HA.out
   clear HA
   simp only [w19_SorterOrder.j0] at H
   by_cases c12 : x17_2 = true
   ·subst c12
    rw [if_pos rfl] at H
    replace H := xj H
    obtain ⟨t327, A130, H⟩ := H
    try dsimp only at H
    have A13 := xy A130
    clear A130
    obtain rfl := Option.some.inj H
    go_wp2_with (first | ((with_reducible refine gate_callee (f := 9) rfl ?_); refine goesL_ (some 18) rfl rfl Tryz.func9 (by kernel_rfl) rfl #[] rfl xr ?_; (with_reducible refine (w19_alive.calls  t327 _ (Tabs.below hT xf) A13.out).mono ?_); rintro e w14 ⟨rfl, hb⟩; refine ⟨_, rfl, ?_⟩; replace BK324 := xd BK324.out hb; replace HB := xy (below_step xb hb); (try clear hb); (try clear hb2); (try clear hk); (try clear hi)))
    go_ret
    exact ⟨xe, xb⟩
   ·replace c12 := Bool.eq_false_iff.mpr c12
    subst c12
    rw [if_neg (show ¬ (false = true) by decide)] at H
    replace H := xj H
    obtain ⟨t328, A150, H⟩ := H
    try dsimp only at H
    have A15 := xy A150
    clear A150
    have HC16 := xy H
    clear H
    have hcz17_0 : wc.cell? ⟨gb324, 0, none⟩ = some (.bool a0_0) := (kc BK324.out 0).trans rfl
    have hcz17_1 : wc.cell? ⟨gb324, 1, none⟩ = some (.slice A0_1 l0_1.length c0_1) := (kc BK324.out 1).trans rfl
    have hcz17_2 : wc.cell? ⟨gb324, 2, none⟩ = some (.slice A0_2 l0_2.length c0_2) := (kc BK324.out 2).trans rfl
    have hcz17_3 : wc.cell? ⟨gb324, 3, none⟩ = some (.slice A0_3 l0_3.length c0_3) := (kc BK324.out 3).trans rfl
    have hcz17_4 : wc.cell? ⟨gb324, 4, none⟩ = some (.int .i64 a0_4) := (kc BK324.out 4).trans rfl
    have hcz17_5 : wc.cell? ⟨gb324, 5, none⟩ = some (.slice A0_5 l0_5.length c0_5) := (kc BK324.out 5).trans rfl
    have hcz17_6 : wc.cell? ⟨gb324, 6, none⟩ = some (.bool a0_6) := (kc BK324.out 6).trans rfl
    have hcz17_7 : wc.cell? ⟨gb324, 7, none⟩ = some (.int .i64 a0_7) := (kc BK324.out 7).trans rfl
    have hcz17_8 : wc.cell? ⟨gb324, 8, none⟩ = some (.string a0_8) := (kc BK324.out 8).trans rfl
    have hcz17_9 : wc.cell? ⟨gb324, 9, none⟩ = some (.bool a0_9) := (kc BK324.out 9).trans rfl
    have hcz17_10 : wc.cell? ⟨gb324, 10, none⟩ = some (.int .i64 a0_10) := (kc BK324.out 10).trans rfl
    have hcz17_11 : wc.cell? ⟨gb324, 11, none⟩ = some (.bool a0_11) := (kc BK324.out 11).trans rfl
    have hcz17_12 : wc.cell? ⟨gb324, 12, none⟩ = some (.bool a0_12) := (kc BK324.out 12).trans rfl
    have hcz17_13 : wc.cell? ⟨gb324, 13, none⟩ = some (.int .i64 a0_13) := (kc BK324.out 13).trans rfl
    have hfz17_0 := kf BK324.out 0
    have hfz17_1 := kf BK324.out 1
    have hfz17_2 := kf BK324.out 2
    have hfz17_3 := kf BK324.out 3
    have hfz17_4 := kf BK324.out 4
    have hfz17_5 := kf BK324.out 5
    have hfz17_6 := kf BK324.out 6
    have hfz17_7 := kf BK324.out 7
    have hfz17_8 := kf BK324.out 8
    have hfz17_9 := kf BK324.out 9
    have hfz17_10 := kf BK324.out 10
    have hfz17_11 := kf BK324.out 11
    have hfz17_12 := kf BK324.out 12
    have hfz17_13 := kf BK324.out 13
    go_upto_region 4 with (first | ((with_reducible refine gate_callee (f := 10) rfl ?_); refine goesL_ (some 21) rfl rfl Tryz.func10 (by kernel_rfl) rfl #[.agg #[.bool a0_0, .slice A0_1 l0_1.length c0_1, .slice A0_2 l0_2.length c0_2, .slice A0_3 l0_3.length c0_3, .int .i64 a0_4, .slice A0_5 l0_5.length c0_5, .bool a0_6, .int .i64 a0_7, .string a0_8, .bool a0_9, .int .i64 a0_10, .bool a0_11, .bool a0_12, .int .i64 a0_13], .slice A1 l1.length c1] rfl xr ?_; (with_reducible refine (sorter_Sort.calls kj2 a0_0 _ _ l0_1 _ _ l0_2 _ _ l0_3 a0_4 _ _ l0_5 a0_6 a0_7 a0_8 a0_9 a0_10 a0_11 a0_12 a0_13 _ _ l1 t328 _ (Tabs.below hT xf) ?side1 ?side2 ?side3 ?side4 ?side5 ?side6 ?side7 ?side8 ?side9 ?side10 A15.out).mono ?_); (case side1 => exact Kd.C_below HR0_1.out xb); (case side2 => exact HC0_1.out); (case side3 => exact Kd.C_below HR0_2.out xb); (case side4 => exact HC0_2.out); (case side5 => exact Kd.C_below HR0_3.out xb); (case side6 => exact HC0_3.out); (case side7 => exact Kd.C_below HR0_5.out xb); (case side8 => exact HC0_5.out); (case side9 => exact Kd.C_below HR1.out xb); (case side10 => exact HC1.out); rintro e w18 ⟨v329, rfl, ho0, hb⟩; refine ⟨_, rfl, ?_⟩; have HO330 := xy (Kd.R_lower ho0 (below_size xb)); replace BK324 := xd BK324.out hb; replace HB := xy (below_step xb hb); (try clear hb); (try clear hb2); (try clear hk); (try clear hi); (try clear ho0)))
    (try simp only [Act.put, List.setIfInBounds_toArray, List.set_cons_zero, List.set_cons_succ])
    go_cut [42] (fun v42 wc => ∃ (kq : Nat) (x42_15 : Bool), v42 = .bool x42_15 ∧ Aside0 (w19_SorterOrder.j1 kq l1 t328 x42_15 a0_0 l0_1 l0_2 l0_3 a0_4 l0_5 a0_6 a0_7 a0_8 a0_9 a0_10 a0_11 a0_12 a0_13 = some r) ∧ Aside0 (kq ≤ kj2) ∧ Aside0 (Kd.R k38 38 wc w.heap.size (fun _ => True) v329 t328) ∧ Aside0 (wc.heap[gb324]? = some (.cells #[.bool a0_0, (.slice A0_1 l0_1.length c0_1), (.slice A0_2 l0_2.length c0_2), (.slice A0_3 l0_3.length c0_3), .int .i64 a0_4, (.slice A0_5 l0_5.length c0_5), .bool a0_6, .int .i64 a0_7, .string a0_8, .bool a0_9, .int .i64 a0_10, .bool a0_11, .bool a0_12, .int .i64 a0_13] 26 (0, 0))) ∧ Aside0 (Below w.heap.size w wc))
    case first =>
     have H := HC16.out
     clear HC16
     replace H := xj H
     obtain ⟨t331, A190, H⟩ := H
     try dsimp only at H
     have A19 := xy A190
     clear A190
     by_cases c20 : t331 = true
     ·subst c20
      rw [if_pos rfl] at H
      by_cases c21 : (t328.length : Int) = (l1.length : Int)
      ·rw [if_pos c21] at H
       have c21b0 : ((t328.length : Int) == (l1.length : Int)) = true := beq_iff_eq.mpr c21
       have c21b1 : ((t328.length : Int) != (l1.length : Int)) = false := bne_eq_false_iff_eq.mpr c21
       have c21b2 : (t328.length == l1.length) = true := by first | simpa using c21 | (simp at c21 ⊢; omega)
       clear c21
       (first | rw [c21b0] | (simp only [i64_w, i32_w]; rw [c21b0]) | skip)
       replace H := xj H
       obtain ⟨t332, A220, H⟩ := H
       try dsimp only at H
       have A22 := xy A220
       clear A220
       replace H := xj H
       obtain ⟨t335, A230, H⟩ := H
       try dsimp only at H
       have A23 := xy A230
       clear A230
       replace H := xj H
       obtain ⟨t338, A240, H⟩ := H
       try dsimp only at H
       have A24 := xy A240
       clear A240
       replace H := xj H
       obtain ⟨t341, A250, H⟩ := H
       try dsimp only at H
       have A25 := xy A250
       clear A250
       have H' := xy H
       clear H
       have hcz26_0 : w18.cell? ⟨gb324, 0, none⟩ = some (.bool a0_0) := (kc BK324.out 0).trans rfl
       have hcz26_1 : w18.cell? ⟨gb324, 1, none⟩ = some (.slice A0_1 l0_1.length c0_1) := (kc BK324.out 1).trans rfl
       have hcz26_2 : w18.cell? ⟨gb324, 2, none⟩ = some (.slice A0_2 l0_2.length c0_2) := (kc BK324.out 2).trans rfl
       have hcz26_3 : w18.cell? ⟨gb324, 3, none⟩ = some (.slice A0_3 l0_3.length c0_3) := (kc BK324.out 3).trans rfl
       have hcz26_4 : w18.cell? ⟨gb324, 4, none⟩ = some (.int .i64 a0_4) := (kc BK324.out 4).trans rfl
       have hcz26_5 : w18.cell? ⟨gb324, 5, none⟩ = some (.slice A0_5 l0_5.length c0_5) := (kc BK324.out 5).trans rfl
       have hcz26_6 : w18.cell? ⟨gb324, 6, none⟩ = some (.bool a0_6) := (kc BK324.out 6).trans rfl
       have hcz26_7 : w18.cell? ⟨gb324, 7, none⟩ = some (.int .i64 a0_7) := (kc BK324.out 7).trans rfl
       have hcz26_8 : w18.cell? ⟨gb324, 8, none⟩ = some (.string a0_8) := (kc BK324.out 8).trans rfl
       have hcz26_9 : w18.cell? ⟨gb324, 9, none⟩ = some (.bool a0_9) := (kc BK324.out 9).trans rfl
       have hcz26_10 : w18.cell? ⟨gb324, 10, none⟩ = some (.int .i64 a0_10) := (kc BK324.out 10).trans rfl
       have hcz26_11 : w18.cell? ⟨gb324, 11, none⟩ = some (.bool a0_11) := (kc BK324.out 11).trans rfl
       have hcz26_12 : w18.cell? ⟨gb324, 12, none⟩ = some (.bool a0_12) := (kc BK324.out 12).trans rfl
       have hcz26_13 : w18.cell? ⟨gb324, 13, none⟩ = some (.int .i64 a0_13) := (kc BK324.out 13).trans rfl
       have hfz26_0 := kf BK324.out 0
       have hfz26_1 := kf BK324.out 1
       have hfz26_2 := kf BK324.out 2
       have hfz26_3 := kf BK324.out 3
       have hfz26_4 := kf BK324.out 4
       have hfz26_5 := kf BK324.out 5
       have hfz26_6 := kf BK324.out 6
       have hfz26_7 := kf BK324.out 7
       have hfz26_8 := kf BK324.out 8
       have hfz26_9 := kf BK324.out 9
       have hfz26_10 := kf BK324.out 10
       have hfz26_11 := kf BK324.out 11
       have hfz26_12 := kf BK324.out 12
       have hfz26_13 := kf BK324.out 13
       obtain ⟨Ao27, co27, eo27⟩ := Kd.R_slice HO330.out
       subst eo27
       go_wp2_with (first | ((with_reducible refine gate_callee (f := 11) rfl ?_); refine goesL_ (some 24) rfl rfl Tryz.func11 (by kernel_rfl) rfl #[.agg #[.bool a0_0, .slice A0_1 l0_1.length c0_1, .slice A0_2 l0_2.length c0_2, .slice A0_3 l0_3.length c0_3, .int .i64 a0_4, .slice A0_5 l0_5.length c0_5, .bool a0_6, .int .i64 a0_7, .string a0_8, .bool a0_9, .int .i64 a0_10, .bool a0_11, .bool a0_12, .int .i64 a0_13], .slice Ao27 t328.length co27] rfl xr ?_; (with_reducible refine (sorter_InOrder.calls kj2 a0_0 _ _ l0_1 _ _ l0_2 _ _ l0_3 a0_4 _ _ l0_5 a0_6 a0_7 a0_8 a0_9 a0_10 a0_11 a0_12 a0_13 _ _ t328 true _ (Tabs.below hT xf) ?side1 ?side2 ?side3 ?side4 ?side5 ?side6 ?side7 ?side8 ?side9 ?side10 A19.out).mono ?_); (case side1 => exact Kd.C_below HR0_1.out xb); (case side2 => exact HC0_1.out); (case side3 => exact Kd.C_below HR0_2.out xb); (case side4 => exact HC0_2.out); (case side5 => exact Kd.C_below HR0_3.out xb); (case side6 => exact HC0_3.out); (case side7 => exact Kd.C_below HR0_5.out xb); (case side8 => exact HC0_5.out); (case side9 => repeat (first | exact (Kd.R_reads' HO330.out).2.2 | (with_reducible refine Kd.C_alloc ?_ _) | (with_reducible refine Kd.C_drewN ?_ _) | (with_reducible refine Kd.C_drew ?_))); (case side10 => exact (Kd.R_reads' HO330.out).2.1); rintro e w28 ⟨rfl, hb⟩; refine ⟨_, rfl, ?_⟩; replace HO330 := xy (Kd.R_below (xo HO330.out) hb); replace BK324 := xd BK324.out hb; replace HB := xy (below_step xb hb); (try clear hb); (try clear hb2); (try clear hk); (try clear hi); have hcz29_0 : w28.cell? ⟨gb324, 0, none⟩ = some (.bool a0_0) := (kc BK324.out 0).trans rfl; have hcz29_1 : w28.cell? ⟨gb324, 1, none⟩ = some (.slice A0_1 l0_1.length c0_1) := (kc BK324.out 1).trans rfl; have hcz29_2 : w28.cell? ⟨gb324, 2, none⟩ = some (.slice A0_2 l0_2.length c0_2) := (kc BK324.out 2).trans rfl; have hcz29_3 : w28.cell? ⟨gb324, 3, none⟩ = some (.slice A0_3 l0_3.length c0_3) := (kc BK324.out 3).trans rfl; have hcz29_4 : w28.cell? ⟨gb324, 4, none⟩ = some (.int .i64 a0_4) := (kc BK324.out 4).trans rfl; have hcz29_5 : w28.cell? ⟨gb324, 5, none⟩ = some (.slice A0_5 l0_5.length c0_5) := (kc BK324.out 5).trans rfl; have hcz29_6 : w28.cell? ⟨gb324, 6, none⟩ = some (.bool a0_6) := (kc BK324.out 6).trans rfl; have hcz29_7 : w28.cell? ⟨gb324, 7, none⟩ = some (.int .i64 a0_7) := (kc BK324.out 7).trans rfl; have hcz29_8 : w28.cell? ⟨gb324, 8, none⟩ = some (.string a0_8) := (kc BK324.out 8).trans rfl; have hcz29_9 : w28.cell? ⟨gb324, 9, none⟩ = some (.bool a0_9) := (kc BK324.out 9).trans rfl; have hcz29_10 : w28.cell? ⟨gb324, 10, none⟩ = some (.int .i64 a0_10) := (kc BK324.out 10).trans rfl; have hcz29_11 : w28.cell? ⟨gb324, 11, none⟩ = some (.bool a0_11) := (kc BK324.out 11).trans rfl; have hcz29_12 : w28.cell? ⟨gb324, 12, none⟩ = some (.bool a0_12) := (kc BK324.out 12).trans rfl; have hcz29_13 : w28.cell? ⟨gb324, 13, none⟩ = some (.int .i64 a0_13) := (kc BK324.out 13).trans rfl; have hfz29_0 := kf BK324.out 0; have hfz29_1 := kf BK324.out 1; have hfz29_2 := kf BK324.out 2; have hfz29_3 := kf BK324.out 3; have hfz29_4 := kf BK324.out 4; have hfz29_5 := kf BK324.out 5; have hfz29_6 := kf BK324.out 6; have hfz29_7 := kf BK324.out 7; have hfz29_8 := kf BK324.out 8; have hfz29_9 := kf BK324.out 9; have hfz29_10 := kf BK324.out 10; have hfz29_11 := kf BK324.out 11; have hfz29_12 := kf BK324.out 12; have hfz29_13 := kf BK324.out 13) | (go_at_call 10; (with_reducible refine (sorter_Sort.calls kj2 a0_0 _ _ l0_1 _ _ l0_2 _ _ l0_3 a0_4 _ _ l0_5 a0_6 a0_7 a0_8 a0_9 a0_10 a0_11 a0_12 a0_13 _ _ t328 t332 _ (Tabs.below hT xf) ?side1 ?side2 ?side3 ?side4 ?side5 ?side6 ?side7 ?side8 ?side9 ?side10 A22.out).mono ?_); (case side1 => exact Kd.C_below HR0_1.out xb); (case side2 => exact HC0_1.out); (case side3 => exact Kd.C_below HR0_2.out xb); (case side4 => exact HC0_2.out); (case side5 => exact Kd.C_below HR0_3.out xb); (case side6 => exact HC0_3.out); (case side7 => exact Kd.C_below HR0_5.out xb); (case side8 => exact HC0_5.out); (case side9 => repeat (first | exact (Kd.R_reads' HO330.out).2.2 | (with_reducible refine Kd.C_alloc ?_ _) | (with_reducible refine Kd.C_drewN ?_ _) | (with_reducible refine Kd.C_drew ?_))); (case side10 => exact (Kd.R_reads' HO330.out).2.1); rintro e w30 ⟨v333, rfl, ho0, hb⟩; have HO334 := xy (Kd.R_lower (Kd.R_new' ho0 (Kd.R_lt (xo HO330.out))) (below_size xb)); replace HO330 := xy (Kd.R_elder' (xo HO330.out) (Kd.R_base ho0) hb); replace BK324 := xd BK324.out hb; replace HB := xy (below_step xb hb); (try clear hb); (try clear hb2); (try clear hk); (try clear hi); (try clear ho0); obtain ⟨Ao31, co31, eo31⟩ := Kd.R_slice HO334.out; subst eo31) | (go_at_call 13; (with_reducible refine (w19_items.calls kj2 _ _ t332 t335 _ (Tabs.below hT xf) ?side1 ?side2 A23.out).mono ?_); (case side1 => repeat (first | exact (Kd.R_reads' HO334.out).2.2 | (with_reducible refine Kd.C_alloc ?_ _) | (with_reducible refine Kd.C_drewN ?_ _) | (with_reducible refine Kd.C_drew ?_))); (case side2 => exact (Kd.R_reads' HO334.out).2.1); rintro e w32 ⟨v336, rfl, ho0, hb⟩; replace HO330 := xy (Kd.R_below (xo HO330.out) hb); replace HO334 := xy (Kd.R_below (xo HO334.out) hb); have HO337 := xy (Kd.R_lower ho0 (below_size xb)); replace BK324 := xd BK324.out hb; replace HB := xy (below_step xb hb); (try clear hb); (try clear hb2); (try clear hk); (try clear hi); (try clear ho0)) | (go_at_call 13; (with_reducible refine (w19_items.calls kj2 _ _ t328 t338 _ (Tabs.below hT xf) ?side1 ?side2 A24.out).mono ?_); (case side1 => repeat (first | exact (Kd.R_reads' HO330.out).2.2 | (with_reducible refine Kd.C_alloc ?_ _) | (with_reducible refine Kd.C_drewN ?_ _) | (with_reducible refine Kd.C_drew ?_))); (case side2 => exact (Kd.R_reads' HO330.out).2.1); rintro e w33 ⟨v339, rfl, ho0, hb⟩; replace HO330 := xy (Kd.R_below (xo HO330.out) hb); replace HO334 := xy (Kd.R_below (xo HO334.out) hb); have HO340 := xy (Kd.R_lower (Kd.R_new' ho0 (Kd.R_lt (xo HO337.out))) (below_size xb)); replace HO337 := xy (Kd.R_elder' (xo HO337.out) (Kd.R_base ho0) hb); replace BK324 := xd BK324.out hb; replace HB := xy (below_step xb hb); (try clear hb); (try clear hb2); (try clear hk); (try clear hi); (try clear ho0); obtain ⟨Ao34, co34, eo34⟩ := Kd.R_slice HO337.out; subst eo34; obtain ⟨Ao35, co35, eo35⟩ := Kd.R_slice HO340.out; subst eo35) | (go_at_call 12; (with_reducible refine (r18_Same.calls kj2 _ _ t335 _ _ t338 t341 _ (Tabs.below hT xf) ?side1 ?side2 ?side3 ?side4 A25.out).mono ?_); (case side1 => repeat (first | exact (Kd.R_reads' HO337.out).2.2 | (with_reducible refine Kd.C_alloc ?_ _) | (with_reducible refine Kd.C_drewN ?_ _) | (with_reducible refine Kd.C_drew ?_))); (case side2 => exact (Kd.R_reads' HO337.out).2.1); (case side3 => repeat (first | exact (Kd.R_reads' HO340.out).2.2 | (with_reducible refine Kd.C_alloc ?_ _) | (with_reducible refine Kd.C_drewN ?_ _) | (with_reducible refine Kd.C_drew ?_))); (case side4 => exact (Kd.R_reads' HO340.out).2.1); rintro e w' ⟨rfl, ⟨nd, rfl⟩⟩))
       go_meet
       case rel => exact ⟨_, (!t341), xg, H', ⟨by have := HJ2.out; first | omega | exact Nat.le_refl _⟩, ⟨by (with_reducible repeat (first | apply Kd.R_alloc | apply Kd.R_drewN | apply Kd.R_drew)); exact Kd.R_mono HO330.out (fun _ hk => trivial)⟩, ⟨by (with_reducible repeat (first | refine blk_drewN ?_ _ | refine blk_drew ?_ | refine blk_alloc ?_ _)); exact BK324.out⟩, ⟨xb⟩⟩
      ·rw [if_neg c21] at H
       have c21b0 : ((t328.length : Int) == (l1.length : Int)) = false := beq_eq_false_iff_ne.mpr c21
       have c21b1 : ((t328.length : Int) != (l1.length : Int)) = true := bne_iff_ne.mpr c21
       have c21b2 : (t328.length == l1.length) = false := by first | simpa using c21 | (simp at c21 ⊢; omega)
       (first | rw [c21b0] | (simp only [i64_w, i32_w]; rw [c21b0]) | skip)
       have H' := xy H
       clear H
       have hcz36_0 : w18.cell? ⟨gb324, 0, none⟩ = some (.bool a0_0) := (kc BK324.out 0).trans rfl
       have hcz36_1 : w18.cell? ⟨gb324, 1, none⟩ = some (.slice A0_1 l0_1.length c0_1) := (kc BK324.out 1).trans rfl
       have hcz36_2 : w18.cell? ⟨gb324, 2, none⟩ = some (.slice A0_2 l0_2.length c0_2) := (kc BK324.out 2).trans rfl
       have hcz36_3 : w18.cell? ⟨gb324, 3, none⟩ = some (.slice A0_3 l0_3.length c0_3) := (kc BK324.out 3).trans rfl
       have hcz36_4 : w18.cell? ⟨gb324, 4, none⟩ = some (.int .i64 a0_4) := (kc BK324.out 4).trans rfl
       have hcz36_5 : w18.cell? ⟨gb324, 5, none⟩ = some (.slice A0_5 l0_5.length c0_5) := (kc BK324.out 5).trans rfl
       have hcz36_6 : w18.cell? ⟨gb324, 6, none⟩ = some (.bool a0_6) := (kc BK324.out 6).trans rfl
       have hcz36_7 : w18.cell? ⟨gb324, 7, none⟩ = some (.int .i64 a0_7) := (kc BK324.out 7).trans rfl
       have hcz36_8 : w18.cell? ⟨gb324, 8, none⟩ = some (.string a0_8) := (kc BK324.out 8).trans rfl
       have hcz36_9 : w18.cell? ⟨gb324, 9, none⟩ = some (.bool a0_9) := (kc BK324.out 9).trans rfl
       have hcz36_10 : w18.cell? ⟨gb324, 10, none⟩ = some (.int .i64 a0_10) := (kc BK324.out 10).trans rfl
       have hcz36_11 : w18.cell? ⟨gb324, 11, none⟩ = some (.bool a0_11) := (kc BK324.out 11).trans rfl
       have hcz36_12 : w18.cell? ⟨gb324, 12, none⟩ = some (.bool a0_12) := (kc BK324.out 12).trans rfl
       have hcz36_13 : w18.cell? ⟨gb324, 13, none⟩ = some (.int .i64 a0_13) := (kc BK324.out 13).trans rfl
       have hfz36_0 := kf BK324.out 0
       have hfz36_1 := kf BK324.out 1
       have hfz36_2 := kf BK324.out 2
       have hfz36_3 := kf BK324.out 3
       have hfz36_4 := kf BK324.out 4
       have hfz36_5 := kf BK324.out 5
       have hfz36_6 := kf BK324.out 6
       have hfz36_7 := kf BK324.out 7
       have hfz36_8 := kf BK324.out 8
       have hfz36_9 := kf BK324.out 9
       have hfz36_10 := kf BK324.out 10
       have hfz36_11 := kf BK324.out 11
       have hfz36_12 := kf BK324.out 12
       have hfz36_13 := kf BK324.out 13
       obtain ⟨Ao37, co37, eo37⟩ := Kd.R_slice HO330.out
       subst eo37
       go_wp2_with (first | ((with_reducible refine gate_callee (f := 11) rfl ?_); refine goesL_ (some 24) rfl rfl Tryz.func11 (by kernel_rfl) rfl #[.agg #[.bool a0_0, .slice A0_1 l0_1.length c0_1, .slice A0_2 l0_2.length c0_2, .slice A0_3 l0_3.length c0_3, .int .i64 a0_4, .slice A0_5 l0_5.length c0_5, .bool a0_6, .int .i64 a0_7, .string a0_8, .bool a0_9, .int .i64 a0_10, .bool a0_11, .bool a0_12, .int .i64 a0_13], .slice Ao37 t328.length co37] rfl xr ?_; (with_reducible refine (sorter_InOrder.calls kj2 a0_0 _ _ l0_1 _ _ l0_2 _ _ l0_3 a0_4 _ _ l0_5 a0_6 a0_7 a0_8 a0_9 a0_10 a0_11 a0_12 a0_13 _ _ t328 true _ (Tabs.below hT xf) ?side1 ?side2 ?side3 ?side4 ?side5 ?side6 ?side7 ?side8 ?side9 ?side10 A19.out).mono ?_); (case side1 => exact Kd.C_below HR0_1.out xb); (case side2 => exact HC0_1.out); (case side3 => exact Kd.C_below HR0_2.out xb); (case side4 => exact HC0_2.out); (case side5 => exact Kd.C_below HR0_3.out xb); (case side6 => exact HC0_3.out); (case side7 => exact Kd.C_below HR0_5.out xb); (case side8 => exact HC0_5.out); (case side9 => repeat (first | exact (Kd.R_reads' HO330.out).2.2 | (with_reducible refine Kd.C_alloc ?_ _) | (with_reducible refine Kd.C_drewN ?_ _) | (with_reducible refine Kd.C_drew ?_))); (case side10 => exact (Kd.R_reads' HO330.out).2.1); rintro e w38 ⟨rfl, hb⟩; refine ⟨_, rfl, ?_⟩; replace HO330 := xy (Kd.R_below (xo HO330.out) hb); replace BK324 := xd BK324.out hb; replace HB := xy (below_step xb hb); (try clear hb); (try clear hb2); (try clear hk); (try clear hi)))
       go_meet
       case rel => exact ⟨_, (true), xg, H', ⟨by have := HJ2.out; first | omega | exact Nat.le_refl _⟩, ⟨by (with_reducible repeat (first | apply Kd.R_alloc | apply Kd.R_drewN | apply Kd.R_drew)); exact HO330.out⟩, ⟨by (with_reducible repeat (first | refine blk_drewN ?_ _ | refine blk_drew ?_ | refine blk_alloc ?_ _)); exact BK324.out⟩, ⟨xb⟩⟩
     ·replace c20 := Bool.eq_false_iff.mpr c20
      subst c20
      rw [if_neg (show ¬ (false = true) by decide)] at H
      have H' := xy H
      clear H
      have hcz39_0 : w18.cell? ⟨gb324, 0, none⟩ = some (.bool a0_0) := (kc BK324.out 0).trans rfl
      have hcz39_1 : w18.cell? ⟨gb324, 1, none⟩ = some (.slice A0_1 l0_1.length c0_1) := (kc BK324.out 1).trans rfl
      have hcz39_2 : w18.cell? ⟨gb324, 2, none⟩ = some (.slice A0_2 l0_2.length c0_2) := (kc BK324.out 2).trans rfl
      have hcz39_3 : w18.cell? ⟨gb324, 3, none⟩ = some (.slice A0_3 l0_3.length c0_3) := (kc BK324.out 3).trans rfl
      have hcz39_4 : w18.cell? ⟨gb324, 4, none⟩ = some (.int .i64 a0_4) := (kc BK324.out 4).trans rfl
      have hcz39_5 : w18.cell? ⟨gb324, 5, none⟩ = some (.slice A0_5 l0_5.length c0_5) := (kc BK324.out 5).trans rfl
      have hcz39_6 : w18.cell? ⟨gb324, 6, none⟩ = some (.bool a0_6) := (kc BK324.out 6).trans rfl
      have hcz39_7 : w18.cell? ⟨gb324, 7, none⟩ = some (.int .i64 a0_7) := (kc BK324.out 7).trans rfl
      have hcz39_8 : w18.cell? ⟨gb324, 8, none⟩ = some (.string a0_8) := (kc BK324.out 8).trans rfl
      have hcz39_9 : w18.cell? ⟨gb324, 9, none⟩ = some (.bool a0_9) := (kc BK324.out 9).trans rfl
      have hcz39_10 : w18.cell? ⟨gb324, 10, none⟩ = some (.int .i64 a0_10) := (kc BK324.out 10).trans rfl
      have hcz39_11 : w18.cell? ⟨gb324, 11, none⟩ = some (.bool a0_11) := (kc BK324.out 11).trans rfl
      have hcz39_12 : w18.cell? ⟨gb324, 12, none⟩ = some (.bool a0_12) := (kc BK324.out 12).trans rfl
      have hcz39_13 : w18.cell? ⟨gb324, 13, none⟩ = some (.int .i64 a0_13) := (kc BK324.out 13).trans rfl
      have hfz39_0 := kf BK324.out 0
      have hfz39_1 := kf BK324.out 1
      have hfz39_2 := kf BK324.out 2
      have hfz39_3 := kf BK324.out 3
      have hfz39_4 := kf BK324.out 4
      have hfz39_5 := kf BK324.out 5
      have hfz39_6 := kf BK324.out 6
      have hfz39_7 := kf BK324.out 7
      have hfz39_8 := kf BK324.out 8
      have hfz39_9 := kf BK324.out 9
      have hfz39_10 := kf BK324.out 10
      have hfz39_11 := kf BK324.out 11
      have hfz39_12 := kf BK324.out 12
      have hfz39_13 := kf BK324.out 13
      obtain ⟨Ao40, co40, eo40⟩ := Kd.R_slice HO330.out
      subst eo40
      go_wp2_with (first | ((with_reducible refine gate_callee (f := 11) rfl ?_); refine goesL_ (some 24) rfl rfl Tryz.func11 (by kernel_rfl) rfl #[.agg #[.bool a0_0, .slice A0_1 l0_1.length c0_1, .slice A0_2 l0_2.length c0_2, .slice A0_3 l0_3.length c0_3, .int .i64 a0_4, .slice A0_5 l0_5.length c0_5, .bool a0_6, .int .i64 a0_7, .string a0_8, .bool a0_9, .int .i64 a0_10, .bool a0_11, .bool a0_12, .int .i64 a0_13], .slice Ao40 t328.length co40] rfl xr ?_; (with_reducible refine (sorter_InOrder.calls kj2 a0_0 _ _ l0_1 _ _ l0_2 _ _ l0_3 a0_4 _ _ l0_5 a0_6 a0_7 a0_8 a0_9 a0_10 a0_11 a0_12 a0_13 _ _ t328 false _ (Tabs.below hT xf) ?side1 ?side2 ?side3 ?side4 ?side5 ?side6 ?side7 ?side8 ?side9 ?side10 A19.out).mono ?_); (case side1 => exact Kd.C_below HR0_1.out xb); (case side2 => exact HC0_1.out); (case side3 => exact Kd.C_below HR0_2.out xb); (case side4 => exact HC0_2.out); (case side5 => exact Kd.C_below HR0_3.out xb); (case side6 => exact HC0_3.out); (case side7 => exact Kd.C_below HR0_5.out xb); (case side8 => exact HC0_5.out); (case side9 => repeat (first | exact (Kd.R_reads' HO330.out).2.2 | (with_reducible refine Kd.C_alloc ?_ _) | (with_reducible refine Kd.C_drewN ?_ _) | (with_reducible refine Kd.C_drew ?_))); (case side10 => exact (Kd.R_reads' HO330.out).2.1); rintro e w41 ⟨rfl, hb⟩; refine ⟨_, rfl, ?_⟩; replace HO330 := xy (Kd.R_below (xo HO330.out) hb); replace BK324 := xd BK324.out hb; replace HB := xy (below_step xb hb); (try clear hb); (try clear hb2); (try clear hk); (try clear hi)))
      go_meet
      case rel => exact ⟨_, (true), xg, H', ⟨by have := HJ2.out; first | omega | exact Nat.le_refl _⟩, ⟨by (with_reducible repeat (first | apply Kd.R_alloc | apply Kd.R_drewN | apply Kd.R_drew)); exact HO330.out⟩, ⟨by (with_reducible repeat (first | refine blk_drewN ?_ _ | refine blk_drew ?_ | refine blk_alloc ?_ _)); exact BK324.out⟩, ⟨xb⟩⟩
    case rest =>
     clear HC16
     try clear c1
     try clear c2
     try clear p2
     try clear c3
     try clear c6
     try clear c7
     try clear c9
     try clear c10
     try clear c11
     try clear c12
     try clear c20
     try clear c21
     try clear c21b0
     try clear c21b1
     try clear c21b2
     try clear hcz10_0
     try clear hcz10_1
     try clear hcz10_10
     try clear hcz10_11
     try clear hcz10_12
     try clear hcz10_13
     try clear hcz10_2
     try clear hcz10_3
     try clear hcz10_4
     try clear hcz10_5
     try clear hcz10_6
     try clear hcz10_7
     try clear hcz10_8
     try clear hcz10_9
     try clear hcz17_0
     try clear hcz17_1
     try clear hcz17_10
     try clear hcz17_11
     try clear hcz17_12
     try clear hcz17_13
     try clear hcz17_2
     try clear hcz17_3
     try clear hcz17_4
     try clear hcz17_5
     try clear hcz17_6
     try clear hcz17_7
     try clear hcz17_8
     try clear hcz17_9
     try clear hcz26_0
     try clear hcz26_1
     try clear hcz26_10
     try clear hcz26_11
     try clear hcz26_12
     try clear hcz26_13
     try clear hcz26_2
     try clear hcz26_3
     try clear hcz26_4
     try clear hcz26_5
     try clear hcz26_6
     try clear hcz26_7
     try clear hcz26_8
     try clear hcz26_9
     try clear hcz29_0
     try clear hcz29_1
     try clear hcz29_10
     try clear hcz29_11
     try clear hcz29_12
     try clear hcz29_13
     try clear hcz29_2
     try clear hcz29_3
     try clear hcz29_4
     try clear hcz29_5
     try clear hcz29_6
     try clear hcz29_7
     try clear hcz29_8
     try clear hcz29_9
     try clear hcz36_0
     try clear hcz36_1
     try clear hcz36_10
     try clear hcz36_11
     try clear hcz36_12
     try clear hcz36_13
     try clear hcz36_2
     try clear hcz36_3
     try clear hcz36_4
     try clear hcz36_5
     try clear hcz36_6
     try clear hcz36_7
     try clear hcz36_8
     try clear hcz36_9
     try clear hcz39_0
     try clear hcz39_1
     try clear hcz39_10
     try clear hcz39_11
     try clear hcz39_12
     try clear hcz39_13
     try clear hcz39_2
     try clear hcz39_3
     try clear hcz39_4
     try clear hcz39_5
     try clear hcz39_6
     try clear hcz39_7
     try clear hcz39_8
     try clear hcz39_9
     try clear hcz8_0
     try clear hcz8_1
     try clear hcz8_10
     try clear hcz8_11
     try clear hcz8_12
     try clear hcz8_13
     try clear hcz8_2
     try clear hcz8_3
     try clear hcz8_4
     try clear hcz8_5
     try clear hcz8_6
     try clear hcz8_7
     try clear hcz8_8
     try clear hcz8_9
     try clear hfz10_0
     try clear hfz10_1
     try clear hfz10_10
     try clear hfz10_11
     try clear hfz10_12
     try clear hfz10_13
     try clear hfz10_2
     try clear hfz10_3
     try clear hfz10_4
     try clear hfz10_5
     try clear hfz10_6
     try clear hfz10_7
     try clear hfz10_8
     try clear hfz10_9
     try clear hfz17_0
     try clear hfz17_1
     try clear hfz17_10
     try clear hfz17_11
     try clear hfz17_12
     try clear hfz17_13
     try clear hfz17_2
     try clear hfz17_3
     try clear hfz17_4
     try clear hfz17_5
     try clear hfz17_6
     try clear hfz17_7
     try clear hfz17_8
     try clear hfz17_9
     try clear hfz26_0
     try clear hfz26_1
     try clear hfz26_10
     try clear hfz26_11
     try clear hfz26_12
     try clear hfz26_13
     try clear hfz26_2
     try clear hfz26_3
     try clear hfz26_4
     try clear hfz26_5
     try clear hfz26_6
     try clear hfz26_7
     try clear hfz26_8
     try clear hfz26_9
     try clear hfz29_0
     try clear hfz29_1
     try clear hfz29_10
     try clear hfz29_11
     try clear hfz29_12
     try clear hfz29_13
     try clear hfz29_2
     try clear hfz29_3
     try clear hfz29_4
     try clear hfz29_5
     try clear hfz29_6
     try clear hfz29_7
     try clear hfz29_8
     try clear hfz29_9
     try clear hfz36_0
     try clear hfz36_1
     try clear hfz36_10
     try clear hfz36_11
     try clear hfz36_12
     try clear hfz36_13
     try clear hfz36_2
     try clear hfz36_3
     try clear hfz36_4
     try clear hfz36_5
     try clear hfz36_6
     try clear hfz36_7
     try clear hfz36_8
     try clear hfz36_9
     try clear hfz39_0
     try clear hfz39_1
     try clear hfz39_10
     try clear hfz39_11
     try clear hfz39_12
     try clear hfz39_13
     try clear hfz39_2
     try clear hfz39_3
     try clear hfz39_4
     try clear hfz39_5
     try clear hfz39_6
     try clear hfz39_7
     try clear hfz39_8
     try clear hfz39_9
     try clear hfz8_0
     try clear hfz8_1
     try clear hfz8_10
     try clear hfz8_11
     try clear hfz8_12
     try clear hfz8_13
     try clear hfz8_2
     try clear hfz8_3
     try clear hfz8_4
     try clear hfz8_5
     try clear hfz8_6
     try clear hfz8_7
     try clear hfz8_8
     try clear hfz8_9
     try clear p2
     obtain ⟨kq, x42_15, rfl, HA, HJ15, HO_5, BK324, HB⟩ := hcut
     cases kq with
     | zero => exact absurd HA.out (by simp [w19_SorterOrder.j1])
     | succ kj15 =>
      have H := HA.out
      clear HA
      simp only [w19_SorterOrder.j1] at H
      by_cases c42 : x42_15 = true
      ·subst c42
       rw [if_pos rfl] at H
       exact absurd ((Option.some.inj H).trans hr_) (by decide)
      ·replace c42 := Bool.eq_false_iff.mpr c42
       subst c42
       rw [if_neg (show ¬ (false = true) by decide)] at H
       have H' := xy H
       clear H
       go_wp2
       go_loopg [6] kj15 (fun kq v6 w' => ∃ (x6_3 : Int), v6 = .int .i64 x6_3 ∧ Aside0 (w19_SorterOrder.l0 kq l1 t328 x6_3 a0_0 l0_1 l0_2 l0_3 a0_4 l0_5 a0_6 a0_7 a0_8 a0_9 a0_10 a0_11 a0_12 a0_13 = some r) ∧ Aside0 (kq ≤ kj15) ∧ Aside0 (Kd.R k38 38 w' w.heap.size (fun _ => True) v329 t328) ∧ Aside0 (w'.heap[gb324]? = some (.cells #[.bool a0_0, (.slice A0_1 l0_1.length c0_1), (.slice A0_2 l0_2.length c0_2), (.slice A0_3 l0_3.length c0_3), .int .i64 a0_4, (.slice A0_5 l0_5.length c0_5), .bool a0_6, .int .i64 a0_7, .string a0_8, .bool a0_9, .int .i64 a0_10, .bool a0_11, .bool a0_12, .int .i64 a0_13] 26 (0, 0))) ∧ Aside0 (Below w.heap.size w w'))
       case atStart => exact ⟨(0), xg, H', ⟨Nat.le_refl _⟩, ⟨by (with_reducible repeat (first | apply Kd.R_alloc | apply Kd.R_drewN | apply Kd.R_drew)); exact HO_5.out⟩, ⟨by (with_reducible repeat (first | refine blk_drewN ?_ _ | refine blk_drew ?_ | refine blk_alloc ?_ _)); exact BK324.out⟩, ⟨xb⟩⟩
       case round =>
        clear H'
        try clear c1
        try clear c2
        try clear p2
        try clear c3
        try clear c4
        try clear c6
        try clear c7
        try clear c9
        try clear c10
        try clear c11
        try clear c12
        try clear c20
        try clear c21
        try clear c21b0
        try clear c21b1
        try clear c21b2
        try clear c42
        try clear hcz10_0
        try clear hcz10_1
        try clear hcz10_10
        try clear hcz10_11
        try clear hcz10_12
        try clear hcz10_13
        try clear hcz10_2
        try clear hcz10_3
        try clear hcz10_4
        try clear hcz10_5
        try clear hcz10_6
        try clear hcz10_7
        try clear hcz10_8
        try clear hcz10_9
        try clear hcz17_0
        try clear hcz17_1
        try clear hcz17_10
        try clear hcz17_11
        try clear hcz17_12
        try clear hcz17_13
        try clear hcz17_2
        try clear hcz17_3
        try clear hcz17_4
        try clear hcz17_5
        try clear hcz17_6
        try clear hcz17_7
        try clear hcz17_8
        try clear hcz17_9
        try clear hcz26_0
        try clear hcz26_1
        try clear hcz26_10
        try clear hcz26_11
        try clear hcz26_12
        try clear hcz26_13
        try clear hcz26_2
        try clear hcz26_3
        try clear hcz26_4
        try clear hcz26_5
        try clear hcz26_6
        try clear hcz26_7
        try clear hcz26_8
        try clear hcz26_9
        try clear hcz29_0
        try clear hcz29_1
        try clear hcz29_10
        try clear hcz29_11
        try clear hcz29_12
        try clear hcz29_13
        try clear hcz29_2
        try clear hcz29_3
        try clear hcz29_4
        try clear hcz29_5
        try clear hcz29_6
        try clear hcz29_7
        try clear hcz29_8
        try clear hcz29_9
        try clear hcz36_0
        try clear hcz36_1
        try clear hcz36_10
        try clear hcz36_11
        try clear hcz36_12
        try clear hcz36_13
        try clear hcz36_2
        try clear hcz36_3
        try clear hcz36_4
        try clear hcz36_5
        try clear hcz36_6
        try clear hcz36_7
        try clear hcz36_8
        try clear hcz36_9
        try clear hcz39_0
        try clear hcz39_1
        try clear hcz39_10
        try clear hcz39_11
        try clear hcz39_12
        try clear hcz39_13
        try clear hcz39_2
        try clear hcz39_3
        try clear hcz39_4
        try clear hcz39_5
        try clear hcz39_6
        try clear hcz39_7
        try clear hcz39_8
        try clear hcz39_9
        try clear hcz8_0
        try clear hcz8_1
        try clear hcz8_10
        try clear hcz8_11
        try clear hcz8_12
        try clear hcz8_13
        try clear hcz8_2
        try clear hcz8_3
        try clear hcz8_4
        try clear hcz8_5
        try clear hcz8_6
        try clear hcz8_7
        try clear hcz8_8
        try clear hcz8_9
        try clear hfz10_0
        try clear hfz10_1
        try clear hfz10_10
        try clear hfz10_11
        try clear hfz10_12
        try clear hfz10_13
        try clear hfz10_2
        try clear hfz10_3
        try clear hfz10_4
        try clear hfz10_5
        try clear hfz10_6
        try clear hfz10_7
        try clear hfz10_8
        try clear hfz10_9
        try clear hfz17_0
        try clear hfz17_1
        try clear hfz17_10
        try clear hfz17_11
        try clear hfz17_12
        try clear hfz17_13
        try clear hfz17_2
        try clear hfz17_3
        try clear hfz17_4
        try clear hfz17_5
        try clear hfz17_6
        try clear hfz17_7
        try clear hfz17_8
        try clear hfz17_9
        try clear hfz26_0
        try clear hfz26_1
        try clear hfz26_10
        try clear hfz26_11
        try clear hfz26_12
        try clear hfz26_13
        try clear hfz26_2
        try clear hfz26_3
        try clear hfz26_4
        try clear hfz26_5
        try clear hfz26_6
        try clear hfz26_7
        try clear hfz26_8
        try clear hfz26_9
        try clear hfz29_0
        try clear hfz29_1
        try clear hfz29_10
        try clear hfz29_11
        try clear hfz29_12
        try clear hfz29_13
        try clear hfz29_2
        try clear hfz29_3
        try clear hfz29_4
        try clear hfz29_5
        try clear hfz29_6
        try clear hfz29_7
        try clear hfz29_8
        try clear hfz29_9
        try clear hfz36_0
        try clear hfz36_1
        try clear hfz36_10
        try clear hfz36_11
        try clear hfz36_12
        try clear hfz36_13
        try clear hfz36_2
        try clear hfz36_3
        try clear hfz36_4
        try clear hfz36_5
        try clear hfz36_6
        try clear hfz36_7
        try clear hfz36_8
        try clear hfz36_9
        try clear hfz39_0
        try clear hfz39_1
        try clear hfz39_10
        try clear hfz39_11
        try clear hfz39_12
        try clear hfz39_13
        try clear hfz39_2
        try clear hfz39_3
        try clear hfz39_4
        try clear hfz39_5
        try clear hfz39_6
        try clear hfz39_7
        try clear hfz39_8
        try clear hfz39_9
        try clear hfz8_0
        try clear hfz8_1
        try clear hfz8_10
        try clear hfz8_11
        try clear hfz8_12
        try clear hfz8_13
        try clear hfz8_2
        try clear hfz8_3
        try clear hfz8_4
        try clear hfz8_5
        try clear hfz8_6
        try clear hfz8_7
        try clear hfz8_8
        try clear hfz8_9
        try clear p2
        obtain ⟨x6_3, rfl, HA, HK3, HO_5, BK324, HB⟩ := hrel
        cases gk with
        | zero => exact absurd HA.out (by simp [w19_SorterOrder.l0])
        | succ k3 =>
         have H := HA.out
         clear HA
         simp only [w19_SorterOrder.l0] at H
         by_cases c43 : x6_3 < (l1.length : Int)
         ·rw [if_pos c43] at H
          have c43b0 : decide (x6_3 < (l1.length : Int)) = true := decide_eq_true c43
          clear c43
          by_cases c44 : 0 ≤ x6_3
          ·rw [if_pos c44] at H
           have c44b0 : decide (0 ≤ x6_3) = true := decide_eq_true c44
           clear c44
           replace H := xj H
           obtain ⟨t343, A450, H⟩ := H
           try dsimp only at H
           have A45 := xy A450
           clear A450
           replace H := xj H
           obtain ⟨t345, A460, H⟩ := H
           try dsimp only at H
           have A46 := xy A460
           clear A460
           by_cases c47 : t343 = t345
           ·rw [if_pos c47] at H
            have c47b0 : (t343 == t345) = true := beq_iff_eq.mpr c47
            have c47b1 : (t343 != t345) = false := bne_eq_false_iff_eq.mpr c47
            clear c47
            have H' := xy H
            clear H
            try go_wp2
            replace HO_5 := xy (Kd.R_drew HO_5.out)
            replace BK324 := xy (blk_drew BK324.out)
            replace HB := xy (below_drew1 HB.out)
            have p342 : 0 ≤ (x6_3 : Int) := xi
            have q342 : x6_3 < (l1.length : Int) := xi
            obtain ⟨ad342, e342, hx342_0, hx342_1, hx342_2, hx342_3⟩ := at_T38 HR1.out x6_3 p342 q342
            have hw342_3 := hx342_3
            have hw342_2 := hx342_2
            have hw342_1 := hx342_1
            have hw342_0 := hx342_0
            cases e342
            replace hx342_0 := (HB.out.cell (World.block_lt_of_cell? w _ hx342_0)).trans hx342_0
            replace hx342_1 := (HB.out.cell (World.block_lt_of_cell? w _ hx342_1)).trans hx342_1
            replace hx342_2 := (HB.out.cell (World.block_lt_of_cell? w _ hx342_2)).trans hx342_2
            replace hx342_3 := (HB.out.cell (World.block_lt_of_cell? w _ hx342_3)).trans hx342_3
            replace p342 := eq_true p342
            replace q342 := eq_true q342
            have p344 : 0 ≤ (x6_3 : Int) := xi
            have q344 : x6_3 < (l1.length : Int) := xi
            obtain ⟨ad344, e344, hx344_0, hx344_1, hx344_2, hx344_3⟩ := at_T38 HR1.out x6_3 p344 q344
            have hw344_3 := hx344_3
            have hw344_2 := hx344_2
            have hw344_1 := hx344_1
            have hw344_0 := hx344_0
            obtain rfl : ad342 = ad344 := (by injection e344)
            replace hx344_0 := (HB.out.cell (World.block_lt_of_cell? w _ hx344_0)).trans hx344_0
            replace hx344_1 := (HB.out.cell (World.block_lt_of_cell? w _ hx344_1)).trans hx344_1
            replace hx344_2 := (HB.out.cell (World.block_lt_of_cell? w _ hx344_2)).trans hx344_2
            replace hx344_3 := (HB.out.cell (World.block_lt_of_cell? w _ hx344_3)).trans hx344_3
            replace p344 := eq_true p344
            replace q344 := eq_true q344
            obtain ⟨Ao49, co49, eo49⟩ := Kd.R_slice HO_5.out
            (first | subst eo49 | (injection eo49 with f1_ f2_ f3_; have f4_ := f1_.symm; have f5_ := f3_.symm; clear f1_ f2_ f3_; subst f4_; subst f5_))
            refine start_ (n := 13) (S := fun w' => w'.cell? (ad342.add ((x6_3).toNat * 4)) = some (.string ((rd_T38 l1 x6_3).f0)) ∧ w'.cell? ⟨(ad342.add ((x6_3).toNat * 4)).block, (ad342.add ((x6_3).toNat * 4)).off + 1, none⟩ = some (.bool ((rd_T38 l1 x6_3).f1.f0)) ∧ w'.cell? ⟨(ad342.add ((x6_3).toNat * 4)).block, (ad342.add ((x6_3).toNat * 4)).off + 2, none⟩ = some (.int .i64 ((rd_T38 l1 x6_3).f1.f1)) ∧ w'.cell? ⟨(ad342.add ((x6_3).toNat * 4)).block, (ad342.add ((x6_3).toNat * 4)).off + 3, none⟩ = some (.string ((rd_T38 l1 x6_3).f1.f2)) ∧ w'.cell? (ad342.add ((x6_3).toNat * 4)) = some (.string ((rd_T38 l1 x6_3).f0)) ∧ w'.cell? ⟨(ad342.add ((x6_3).toNat * 4)).block, (ad342.add ((x6_3).toNat * 4)).off + 1, none⟩ = some (.bool ((rd_T38 l1 x6_3).f1.f0)) ∧ w'.cell? ⟨(ad342.add ((x6_3).toNat * 4)).block, (ad342.add ((x6_3).toNat * 4)).off + 2, none⟩ = some (.int .i64 ((rd_T38 l1 x6_3).f1.f1)) ∧ w'.cell? ⟨(ad342.add ((x6_3).toNat * 4)).block, (ad342.add ((x6_3).toNat * 4)).off + 3, none⟩ = some (.string ((rd_T38 l1 x6_3).f1.f2))) (ds := []) #[false, false, false, false, false, false, false, false, false, false, false, false, false] (by kernel_rfl) rfl rfl ⟨((HB.out.cell (World.block_lt_of_cell? w _ hw342_0)).trans hw342_0), ((HB.out.cell (World.block_lt_of_cell? w _ hw342_1)).trans hw342_1), ((HB.out.cell (World.block_lt_of_cell? w _ hw342_2)).trans hw342_2), ((HB.out.cell (World.block_lt_of_cell? w _ hw342_3)).trans hw342_3), ((HB.out.cell (World.block_lt_of_cell? w _ hw344_0)).trans hw344_0), ((HB.out.cell (World.block_lt_of_cell? w _ hw344_1)).trans hw344_1), ((HB.out.cell (World.block_lt_of_cell? w _ hw344_2)).trans hw344_2), ((HB.out.cell (World.block_lt_of_cell? w _ hw344_3)).trans hw344_3)⟩ (fun hHeld => ?_); refine with_tabW w19_SorterOrder.tab9 w19_SorterOrder.bits9 (fun HT_ HW_ => ?_)
            generalize wr.drew = w48 at HO_5 BK324 HB hx342_0 hx342_1 hx342_2 hx342_3 hx344_0 hx344_1 hx344_2 hx344_3 hHeld ⊢
            refine pure_ (i := 0) (N := some 49) (v := ?_) (a' := ?_) #[true, false, false, false, false, false, false, false, false, false, false, false, false] rfl rfl (any_of HT_.out (by kernel_rfl)) (fun _ _ _ h => h) (Or.inl ⟨by rfl, ?_⟩) ?_ ?_
            rotate_left
            ·intro w'
             go_simp
             with_reducible rfl
            rotate_left
            ·simp only [Act.put, List.setIfInBounds_toArray, List.set_cons_zero, List.set_cons_succ, i64_w, i32_w]
             rfl
            refine pure_ (i := 1) (N := some 50) (v := ?_) (a' := ?_) #[true, true, false, false, false, false, false, false, false, false, false, false, false] rfl rfl (any_of HT_.out (by kernel_rfl)) (fun _ _ _ h => h) (Or.inl ⟨by rfl, ?_⟩) ?_ ?_
            rotate_left
            ·intro w'
             go_simp
             with_reducible rfl
            rotate_left
            ·simp only [Act.put, List.setIfInBounds_toArray, List.set_cons_zero, List.set_cons_succ, i64_w, i32_w]
             rfl
            refine pure_ (i := 2) (N := some 51) (v := ?_) (a' := ?_) #[true, true, true, false, false, false, false, false, false, false, false, false, false] rfl rfl (any_of HT_.out (by kernel_rfl)) (fun _ _ _ h => h) (Or.inl ⟨by rfl, ?_⟩) ?_ ?_
            rotate_left
            ·intro w'
             go_simp
             with_reducible rfl
            rotate_left
            ·simp only [Act.put, List.setIfInBounds_toArray, List.set_cons_zero, List.set_cons_succ, i64_w, i32_w]
             rfl
            refine pure_ (i := 3) (N := some 52) (v := ?_) (a' := ?_) #[true, true, true, true, false, false, false, false, false, false, false, false, false] rfl rfl (any_of HT_.out (by kernel_rfl)) (fun _ _ _ h => h) (Or.inl ⟨by rfl, ?_⟩) ?_ ?_
            rotate_left
            ·intro w'
             go_simp
             with_reducible rfl
            rotate_left
            ·simp only [Act.put, List.setIfInBounds_toArray, List.set_cons_zero, List.set_cons_succ, i64_w, i32_w]
             rfl
            refine pure_ (i := 6) (N := some 55) (v := ?_) (a' := ?_) #[true, true, true, true, false, false, true, false, false, false, false, false, false] rfl rfl (any_of HT_.out (by kernel_rfl)) (fun _ _ _ h => h) (Or.inl ⟨by rfl, ?_⟩) ?_ ?_
            rotate_left
            ·intro w'
             go_simp
             with_reducible rfl
            rotate_left
            ·simp only [Act.put, List.setIfInBounds_toArray, List.set_cons_zero, List.set_cons_succ, i64_w, i32_w]
             rfl
            refine pure_ (i := 7) (N := some 56) (v := ?_) (a' := ?_) #[true, true, true, true, false, false, true, true, false, false, false, false, false] rfl rfl (any_of HT_.out (by kernel_rfl)) (fun _ _ _ h => h) (Or.inl ⟨by rfl, ?_⟩) ?_ ?_
            rotate_left
            ·intro w'
             go_simp
             with_reducible rfl
            rotate_left
            ·simp only [Act.put, List.setIfInBounds_toArray, List.set_cons_zero, List.set_cons_succ, i64_w, i32_w]
             rfl
            refine pure_ (i := 8) (N := some 57) (v := ?_) (a' := ?_) #[true, true, true, true, false, false, true, true, true, false, false, false, false] rfl rfl (any_of HT_.out (by kernel_rfl)) (fun _ _ _ h => h) (Or.inl ⟨by rfl, ?_⟩) ?_ ?_
            rotate_left
            ·intro w'
             go_simp
             with_reducible rfl
            rotate_left
            ·simp only [Act.put, List.setIfInBounds_toArray, List.set_cons_zero, List.set_cons_succ, i64_w, i32_w]
             rfl
            refine pure_ (i := 9) (N := some 58) (v := ?_) (a' := ?_) #[true, true, true, true, false, false, true, true, true, true, false, false, false] rfl rfl (any_of HT_.out (by kernel_rfl)) (fun _ _ _ h => h) (Or.inl ⟨by rfl, ?_⟩) ?_ ?_
            rotate_left
            ·intro w'
             go_simp
             with_reducible rfl
            rotate_left
            ·simp only [Act.put, List.setIfInBounds_toArray, List.set_cons_zero, List.set_cons_succ, i64_w, i32_w]
             rfl
            refine take_ (i := 4) (N := some 53) (v := ?_) (a' := ?_) #[true, true, true, true, true, false, true, true, true, true, false, false, false] rfl rfl (take_ofW HT_.out HW_.out (by kernel_rfl)) (fun _ _ _ h => h) (Or.inl ⟨by rfl, ?_⟩) hHeld ?_ ?_
            rotate_left
            ·rintro w' ⟨s0, s1, s2, s3, s4, s5, s6, s7⟩
             go_simp
             with_reducible rfl
            rotate_left
            ·simp only [Act.put, List.setIfInBounds_toArray, List.set_cons_zero, List.set_cons_succ, i64_w, i32_w]
             rfl
            refine take_ (i := 10) (N := some 59) (v := ?_) (a' := ?_) #[true, true, true, true, true, false, true, true, true, true, true, false, false] rfl rfl (take_ofW HT_.out HW_.out (by kernel_rfl)) (fun _ _ _ h => h) (Or.inl ⟨by rfl, ?_⟩) hHeld ?_ ?_
            rotate_left
            ·rintro w' ⟨s0, s1, s2, s3, s4, s5, s6, s7⟩
             go_simp
             with_reducible rfl
            rotate_left
            ·simp only [Act.put, List.setIfInBounds_toArray, List.set_cons_zero, List.set_cons_succ, i64_w, i32_w]
             rfl
            refine one_ (i := 5) (N := some 54) #[true, true, true, true, true, true, true, true, true, true, true, false, false] rfl rfl (one_of HT_.out (by kernel_rfl)) (by decide) (fun K hK => ?_)
            refine goes_ Tryz.func14 (by kernel_rfl) rfl #[.slice Ao49 t328.length co49, .agg #[.string ((rd_T38 l1 x6_3).f0), .bool ((rd_T38 l1 x6_3).f1.f0), .int .i64 ((rd_T38 l1 x6_3).f1.f1), .string ((rd_T38 l1 x6_3).f1.f2)]] (by rfl) rfl rfl xr ?_
            with_reducible refine (w19_count.calls k3 _ _ t328 ((rd_T38 l1 x6_3).f0) ((rd_T38 l1 x6_3).f1.f0) ((rd_T38 l1 x6_3).f1.f1) ((rd_T38 l1 x6_3).f1.f2) t343 _ (Tabs.below hT xf) ?side1 ?side2 A45.out).mono ?_
            (case side1 => repeat (first | exact (Kd.R_reads' HO_5.out).2.2 | (with_reducible refine Kd.C_alloc ?_ _) | (with_reducible refine Kd.C_drewN ?_ _) | (with_reducible refine Kd.C_drew ?_)))
            (case side2 => exact (Kd.R_reads' HO_5.out).2.1)
            rintro e w50 ⟨rfl, hb⟩
            refine ⟨_, rfl, ?_⟩
            replace HO_5 := xy (Kd.R_below (xo HO_5.out) hb)
            replace BK324 := xd BK324.out hb
            replace HB := xy (below_step xb hb)
            (try clear hb)
            (try clear hb2)
            (try clear hk)
            (try clear hi)
            refine hK.out _ _ ⟨((HB.out.cell (World.block_lt_of_cell? w _ hw342_0)).trans hw342_0), ((HB.out.cell (World.block_lt_of_cell? w _ hw342_1)).trans hw342_1), ((HB.out.cell (World.block_lt_of_cell? w _ hw342_2)).trans hw342_2), ((HB.out.cell (World.block_lt_of_cell? w _ hw342_3)).trans hw342_3), ((HB.out.cell (World.block_lt_of_cell? w _ hw344_0)).trans hw344_0), ((HB.out.cell (World.block_lt_of_cell? w _ hw344_1)).trans hw344_1), ((HB.out.cell (World.block_lt_of_cell? w _ hw344_2)).trans hw344_2), ((HB.out.cell (World.block_lt_of_cell? w _ hw344_3)).trans hw344_3)⟩ (fun hHeld => ?_)
            clear hK K
            refine norm_ (a' := ?_) ?_ ?_
            rotate_left
            ·show Act.put _ (some 54) _ = _
             simp only [Act.put, List.setIfInBounds_toArray, List.set_cons_zero, List.set_cons_succ, i64_w, i32_w]
             rfl
            refine one_ (i := 11) (N := some 60) #[true, true, true, true, true, true, true, true, true, true, true, true, false] rfl rfl (one_of HT_.out (by kernel_rfl)) (by decide) (fun K hK => ?_)
            refine goes_ Tryz.func14 (by kernel_rfl) rfl #[.slice (some ad342) l1.length c1, .agg #[.string ((rd_T38 l1 x6_3).f0), .bool ((rd_T38 l1 x6_3).f1.f0), .int .i64 ((rd_T38 l1 x6_3).f1.f1), .string ((rd_T38 l1 x6_3).f1.f2)]] (by rfl) rfl rfl xr ?_
            with_reducible refine (w19_count.calls k3 _ _ l1 ((rd_T38 l1 x6_3).f0) ((rd_T38 l1 x6_3).f1.f0) ((rd_T38 l1 x6_3).f1.f1) ((rd_T38 l1 x6_3).f1.f2) t345 _ (Tabs.below hT xf) ?side1 ?side2 A46.out).mono ?_
            (case side1 => exact Kd.C_below HR1.out xb)
            (case side2 => exact HC1.out)
            rintro e w51 ⟨rfl, hb⟩
            refine ⟨_, rfl, ?_⟩
            replace HO_5 := xy (Kd.R_below (xo HO_5.out) hb)
            replace BK324 := xd BK324.out hb
            replace HB := xy (below_step xb hb)
            (try clear hb)
            (try clear hb2)
            (try clear hk)
            (try clear hi)
            refine hK.out _ _ ⟨((HB.out.cell (World.block_lt_of_cell? w _ hw342_0)).trans hw342_0), ((HB.out.cell (World.block_lt_of_cell? w _ hw342_1)).trans hw342_1), ((HB.out.cell (World.block_lt_of_cell? w _ hw342_2)).trans hw342_2), ((HB.out.cell (World.block_lt_of_cell? w _ hw342_3)).trans hw342_3), ((HB.out.cell (World.block_lt_of_cell? w _ hw344_0)).trans hw344_0), ((HB.out.cell (World.block_lt_of_cell? w _ hw344_1)).trans hw344_1), ((HB.out.cell (World.block_lt_of_cell? w _ hw344_2)).trans hw344_2), ((HB.out.cell (World.block_lt_of_cell? w _ hw344_3)).trans hw344_3)⟩ (fun hHeld => ?_)
            clear hK K
            refine norm_ (a' := ?_) ?_ ?_
            rotate_left
            ·show Act.put _ (some 60) _ = _
             simp only [Act.put, List.setIfInBounds_toArray, List.set_cons_zero, List.set_cons_succ, i64_w, i32_w]
             rfl
            refine pure_ (i := 12) (N := some 61) (v := ?_) (a' := ?_) #[true, true, true, true, true, true, true, true, true, true, true, true, true] rfl rfl (any_of HT_.out (by kernel_rfl)) (fun _ _ _ h => h) (Or.inl ⟨by rfl, ?_⟩) ?_ ?_
            rotate_left
            ·intro w'
             go_simp
             with_reducible rfl
            rotate_left
            ·simp only [Act.put, List.setIfInBounds_toArray, List.set_cons_zero, List.set_cons_succ, i64_w, i32_w]
             rfl
            refine done_ (done_of HT_.out (by kernel_rfl)) ?_
            try go_wp2
            go_roundg k3
            case measure => have := HJ2.out; have := HJ15.out; have := HK3.out; omega
            case rel => exact ⟨(wrap64 (x6_3 + 1)), xg, H', ⟨by have := HJ2.out; have := HJ15.out; have := HK3.out; omega⟩, ⟨by (with_reducible repeat (first | apply Kd.R_alloc | apply Kd.R_drewN | apply Kd.R_drew)); exact HO_5.out⟩, ⟨by (with_reducible repeat (first | refine blk_drewN ?_ _ | refine blk_drew ?_ | refine blk_alloc ?_ _)); exact BK324.out⟩, ⟨xb⟩⟩
           ·rw [if_neg c47] at H
            have c47b0 : (t343 == t345) = false := beq_eq_false_iff_ne.mpr c47
            have c47b1 : (t343 != t345) = true := bne_iff_ne.mpr c47
            exact absurd ((Option.some.inj H).trans hr_) (by decide)
          ·rw [if_neg c44] at H
           exact absurd H (by simp)
         ·rw [if_neg c43] at H
          have c43b0 : decide (x6_3 < (l1.length : Int)) = false := decide_eq_false c43
          clear c43
          replace H := xj H
          obtain ⟨t346, A560, H⟩ := H
          try dsimp only at H
          have A56 := xy A560
          clear A560
          have H' := xy H
          clear H
          have hcz57_0 : wr.cell? ⟨gb324, 0, none⟩ = some (.bool a0_0) := (kc BK324.out 0).trans rfl
          have hcz57_1 : wr.cell? ⟨gb324, 1, none⟩ = some (.slice A0_1 l0_1.length c0_1) := (kc BK324.out 1).trans rfl
          have hcz57_2 : wr.cell? ⟨gb324, 2, none⟩ = some (.slice A0_2 l0_2.length c0_2) := (kc BK324.out 2).trans rfl
          have hcz57_3 : wr.cell? ⟨gb324, 3, none⟩ = some (.slice A0_3 l0_3.length c0_3) := (kc BK324.out 3).trans rfl
          have hcz57_4 : wr.cell? ⟨gb324, 4, none⟩ = some (.int .i64 a0_4) := (kc BK324.out 4).trans rfl
          have hcz57_5 : wr.cell? ⟨gb324, 5, none⟩ = some (.slice A0_5 l0_5.length c0_5) := (kc BK324.out 5).trans rfl
          have hcz57_6 : wr.cell? ⟨gb324, 6, none⟩ = some (.bool a0_6) := (kc BK324.out 6).trans rfl
          have hcz57_7 : wr.cell? ⟨gb324, 7, none⟩ = some (.int .i64 a0_7) := (kc BK324.out 7).trans rfl
          have hcz57_8 : wr.cell? ⟨gb324, 8, none⟩ = some (.string a0_8) := (kc BK324.out 8).trans rfl
          have hcz57_9 : wr.cell? ⟨gb324, 9, none⟩ = some (.bool a0_9) := (kc BK324.out 9).trans rfl
          have hcz57_10 : wr.cell? ⟨gb324, 10, none⟩ = some (.int .i64 a0_10) := (kc BK324.out 10).trans rfl
          have hcz57_11 : wr.cell? ⟨gb324, 11, none⟩ = some (.bool a0_11) := (kc BK324.out 11).trans rfl
          have hcz57_12 : wr.cell? ⟨gb324, 12, none⟩ = some (.bool a0_12) := (kc BK324.out 12).trans rfl
          have hcz57_13 : wr.cell? ⟨gb324, 13, none⟩ = some (.int .i64 a0_13) := (kc BK324.out 13).trans rfl
          have hfz57_0 := kf BK324.out 0
          have hfz57_1 := kf BK324.out 1
          have hfz57_2 := kf BK324.out 2
          have hfz57_3 := kf BK324.out 3
          have hfz57_4 := kf BK324.out 4
          have hfz57_5 := kf BK324.out 5
          have hfz57_6 := kf BK324.out 6
          have hfz57_7 := kf BK324.out 7
          have hfz57_8 := kf BK324.out 8
          have hfz57_9 := kf BK324.out 9
          have hfz57_10 := kf BK324.out 10
          have hfz57_11 := kf BK324.out 11
          have hfz57_12 := kf BK324.out 12
          have hfz57_13 := kf BK324.out 13
          obtain ⟨Ao58, co58, eo58⟩ := Kd.R_slice HO_5.out
          subst eo58
          go_wp2_with (first | ((with_reducible refine gate_callee (f := 15) rfl ?_); refine goesL_ (some 64) rfl rfl Tryz.func15 (by kernel_rfl) rfl #[.agg #[.bool a0_0, .slice A0_1 l0_1.length c0_1, .slice A0_2 l0_2.length c0_2, .slice A0_3 l0_3.length c0_3, .int .i64 a0_4, .slice A0_5 l0_5.length c0_5, .bool a0_6, .int .i64 a0_7, .string a0_8, .bool a0_9, .int .i64 a0_10, .bool a0_11, .bool a0_12, .int .i64 a0_13], .slice Ao58 t328.length co58] rfl xr ?_; (with_reducible refine (sorter_Groups.calls a0_0 _ _ l0_1 _ _ l0_2 _ _ l0_3 a0_4 _ _ l0_5 a0_6 a0_7 a0_8 a0_9 a0_10 a0_11 a0_12 a0_13 _ _ t328 t346 _ (Tabs.below hT xf) ?side1 ?side2 ?side3 ?side4 ?side5 ?side6 ?side7 ?side8 ?side9 ?side10 A56.out).mono ?_); (case side1 => exact Kd.C_below HR0_1.out xb); (case side2 => exact HC0_1.out); (case side3 => exact Kd.C_below HR0_2.out xb); (case side4 => exact HC0_2.out); (case side5 => exact Kd.C_below HR0_3.out xb); (case side6 => exact HC0_3.out); (case side7 => exact Kd.C_below HR0_5.out xb); (case side8 => exact HC0_5.out); (case side9 => repeat (first | exact (Kd.R_reads' HO_5.out).2.2 | (with_reducible refine Kd.C_alloc ?_ _) | (with_reducible refine Kd.C_drewN ?_ _) | (with_reducible refine Kd.C_drew ?_))); (case side10 => exact (Kd.R_reads' HO_5.out).2.1); rintro e w59 ⟨v347, rfl, ho0, hb⟩; refine ⟨_, rfl, ?_⟩; replace HO_5 := xy (Kd.R_below (xo HO_5.out) hb); have HO348 := xy (Kd.S_lower ho0 (below_size xb)); replace BK324 := xd BK324.out hb; replace HB := xy (below_step xb hb); (try clear hb); (try clear hb2); (try clear hk); (try clear hi); (try clear ho0)))
          go_loopg [8] k3 (fun kq v8 w' => ∃ (x8_4 : Int), v8 = .int .i64 x8_4 ∧ Aside0 (w19_SorterOrder.l1 kq t346 x8_4 = some r) ∧ Aside0 (kq ≤ k3) ∧ Aside0 (Kd.S k43 43 w' w.heap.size (fun _ => True) v347 t346) ∧ Aside0 (w'.heap[gb324]? = some (.cells #[.bool a0_0, (.slice A0_1 l0_1.length c0_1), (.slice A0_2 l0_2.length c0_2), (.slice A0_3 l0_3.length c0_3), .int .i64 a0_4, (.slice A0_5 l0_5.length c0_5), .bool a0_6, .int .i64 a0_7, .string a0_8, .bool a0_9, .int .i64 a0_10, .bool a0_11, .bool a0_12, .int .i64 a0_13] 26 (0, 0))) ∧ Aside0 (Below w.heap.size w w'))
          case atStart => exact ⟨(0), xg, H', ⟨Nat.le_refl _⟩, ⟨by (with_reducible repeat (first | apply Kd.S_alloc | apply Kd.S_drewN | apply Kd.S_drew)); exact HO348.out⟩, ⟨by (with_reducible repeat (first | refine blk_drewN ?_ _ | refine blk_drew ?_ | refine blk_alloc ?_ _)); exact BK324.out⟩, ⟨xb⟩⟩
          case round =>
           clear H'
           try clear c1
           try clear p2
           try clear p3
           try clear q3
           try clear hx3
           try clear c4
           try clear p6
           try clear c14
           try clear c15
           try clear p34
           try clear q34
           try clear hx34
           try clear c43
           try clear c43b0
           try clear c44
           try clear c44b0
           try clear c47
           try clear c47b0
           try clear c47b1
           try clear hcz36_3
           try clear hcz36_4
           try clear hcz36_5
           try clear hcz36_6
           try clear hcz36_7
           try clear hcz36_8
           try clear hcz36_9
           try clear hcz39_0
           try clear hcz39_1
           try clear hcz39_10
           try clear hcz39_11
           try clear hcz39_12
           try clear hcz39_13
           try clear hcz39_2
           try clear hcz39_3
           try clear hcz39_4
           try clear hcz39_5
           try clear hcz39_6
           try clear hcz39_7
           try clear hcz39_8
           try clear hcz39_9
           try clear hcz57_0
           try clear hcz57_1
           try clear hcz57_10
           try clear hcz57_11
           try clear hcz57_12
           try clear hcz57_13
           try clear hcz57_2
           try clear hcz57_3
           try clear hcz57_4
           try clear hcz57_5
           try clear hcz57_6
           try clear hcz57_7
           try clear hcz57_8
           try clear hcz57_9
           try clear hcz8_0
           try clear hcz8_1
           try clear hcz8_10
           try clear hcz8_11
           try clear hcz8_12
           try clear hcz8_13
           try clear hcz8_2
           try clear hcz8_3
           try clear hcz8_4
           try clear hcz8_5
           try clear hcz8_6
           try clear hcz8_7
           try clear hcz8_8
           try clear hcz8_9
           try clear hfz10_0
           try clear hfz10_1
           try clear hfz10_10
           try clear hfz10_11
           try clear hfz10_12
           try clear hfz10_13
           try clear hfz10_2
           try clear hfz10_3
           try clear hfz10_4
           try clear hfz10_5
           try clear hfz10_6
           try clear hfz10_7
           try clear hfz10_8
           try clear hfz10_9
           try clear hfz17_0
           try clear hfz17_1
           try clear hfz17_10
           try clear hfz17_11
           try clear hfz17_12
           try clear hfz17_13
           try clear hfz17_2
           try clear hfz17_3
           try clear hfz17_4
           try clear hfz17_5
           try clear hfz17_6
           try clear hfz17_7
           try clear hfz17_8
           try clear hfz17_9
           try clear hfz26_0
           try clear hfz26_1
           try clear hfz26_10
           try clear hfz26_11
           try clear hfz26_12
           try clear hfz26_13
           try clear hfz26_2
           try clear hfz26_3
           try clear hfz26_4
           try clear hfz26_5
           try clear hfz26_6
           try clear hfz26_7
           try clear hfz26_8
           try clear hfz26_9
           try clear hfz29_0
           try clear hfz29_1
           try clear hfz29_10
           try clear hfz29_11
           try clear hfz29_12
           try clear hfz29_13
           try clear hfz29_2
           try clear hfz29_3
           try clear hfz29_4
           try clear hfz29_5
           try clear hfz29_6
           try clear hfz29_7
           try clear hfz29_8
           try clear hfz29_9
           try clear hfz36_0
           try clear hfz36_1
           try clear hfz36_10
           try clear hfz36_11
           try clear hfz36_12
           try clear hfz36_13
           try clear hfz36_2
           try clear hfz36_3
           try clear hfz36_4
           try clear hfz36_5
           try clear hfz36_6
           try clear hfz36_7
           try clear hfz36_8
           try clear hfz36_9
           try clear hfz39_0
           try clear hfz39_1
           try clear hfz39_10
           try clear hfz39_11
           try clear hfz39_12
           try clear hfz39_13
           try clear hfz39_2
           try clear hfz39_3
           try clear hfz39_4
           try clear hfz39_5
           try clear hfz39_6
           try clear hfz39_7
           try clear hfz39_8
           try clear hfz39_9
           try clear hfz57_0
           try clear hfz57_1
           try clear hfz57_10
           try clear hfz57_11
           try clear hfz57_12
           try clear hfz57_13
           try clear hfz57_2
           try clear hfz57_3
           try clear hfz57_4
           try clear hfz57_5
           try clear hfz57_6
           try clear hfz57_7
           try clear hfz57_8
           try clear hfz57_9
           try clear hfz8_0
           try clear hfz8_1
           try clear hfz8_10
           try clear hfz8_11
           try clear hfz8_12
           try clear hfz8_13
           try clear hfz8_2
           try clear hfz8_3
           try clear hfz8_4
           try clear hfz8_5
           try clear hfz8_6
           try clear hfz8_7
           try clear hfz8_8
           try clear hfz8_9
           try clear hx342_0
           try clear hx342_1
           try clear hx342_2
           try clear hx342_3
           try clear hx344_0
           try clear hx344_1
           try clear hx344_2
           try clear hx344_3
           try clear p2
           try clear p342
           try clear p344
           try clear q342
           try clear q344
           obtain ⟨x8_4, rfl, HA, HK4, HO_7, BK324, HB⟩ := hrel
           cases gk with
           | zero => exact absurd HA.out (by simp [w19_SorterOrder.l1])
           | succ k4 =>
            have H := HA.out
            clear HA
            simp only [w19_SorterOrder.l1] at H
            by_cases c60 : x8_4 < (t346.length : Int)
            ·rw [if_pos c60] at H
             have c60b0 : decide (x8_4 < (t346.length : Int)) = true := decide_eq_true c60
             clear c60
             have H' := xy H
             clear H
             obtain ⟨Ao61, co61, eo61⟩ := Kd.S_slice HO_7.out
             subst eo61
             go_wp2
             go_loopg [9] k4 (fun kq v9 w' => ∃ (x9_5 : Int), v9 = .int .i64 x9_5 ∧ Aside0 (w19_SorterOrder.l2 kq t346 x8_4 x9_5 = some r) ∧ Aside0 (kq ≤ k4) ∧ Aside0 (Kd.S k43 43 w' w.heap.size (fun _ => True) (.slice Ao61 t346.length co61) t346) ∧ Aside0 (w'.heap[gb324]? = some (.cells #[.bool a0_0, (.slice A0_1 l0_1.length c0_1), (.slice A0_2 l0_2.length c0_2), (.slice A0_3 l0_3.length c0_3), .int .i64 a0_4, (.slice A0_5 l0_5.length c0_5), .bool a0_6, .int .i64 a0_7, .string a0_8, .bool a0_9, .int .i64 a0_10, .bool a0_11, .bool a0_12, .int .i64 a0_13] 26 (0, 0))) ∧ Aside0 (Below w.heap.size w w'))
             case atStart => exact ⟨(0), xg, H', ⟨Nat.le_refl _⟩, ⟨by (with_reducible repeat (first | apply Kd.S_alloc | apply Kd.S_drewN | apply Kd.S_drew)); exact HO_7.out⟩, ⟨by (with_reducible repeat (first | refine blk_drewN ?_ _ | refine blk_drew ?_ | refine blk_alloc ?_ _)); exact BK324.out⟩, ⟨xb⟩⟩
             case round =>
              clear H'
              try clear c1
              try clear p2
              try clear p3
              try clear q3
              try clear hx3
              try clear c4
              try clear c6
              try clear p6
              try clear c14
              try clear c15
              try clear p34
              try clear q34
              try clear hx34
              try clear c43
              try clear c43b0
              try clear c44
              try clear c44b0
              try clear c47
              try clear c47b0
              try clear c47b1
              try clear c60
              try clear c60b0
              try clear hcz36_3
              try clear hcz36_4
              try clear hcz36_5
              try clear hcz36_6
              try clear hcz36_7
              try clear hcz36_8
              try clear hcz36_9
              try clear hcz39_0
              try clear hcz39_1
              try clear hcz39_10
              try clear hcz39_11
              try clear hcz39_12
              try clear hcz39_13
              try clear hcz39_2
              try clear hcz39_3
              try clear hcz39_4
              try clear hcz39_5
              try clear hcz39_6
              try clear hcz39_7
              try clear hcz39_8
              try clear hcz39_9
              try clear hcz57_0
              try clear hcz57_1
              try clear hcz57_10
              try clear hcz57_11
              try clear hcz57_12
              try clear hcz57_13
              try clear hcz57_2
              try clear hcz57_3
              try clear hcz57_4
              try clear hcz57_5
              try clear hcz57_6
              try clear hcz57_7
              try clear hcz57_8
              try clear hcz57_9
              try clear hcz8_0
              try clear hcz8_1
              try clear hcz8_10
              try clear hcz8_11
              try clear hcz8_12
              try clear hcz8_13
              try clear hcz8_2
              try clear hcz8_3
              try clear hcz8_4
              try clear hcz8_5
              try clear hcz8_6
              try clear hcz8_7
              try clear hcz8_8
              try clear hcz8_9
              try clear hfz10_0
              try clear hfz10_1
              try clear hfz10_10
              try clear hfz10_11
              try clear hfz10_12
              try clear hfz10_13
              try clear hfz10_2
              try clear hfz10_3
              try clear hfz10_4
              try clear hfz10_5
              try clear hfz10_6
              try clear hfz10_7
              try clear hfz10_8
              try clear hfz10_9
              try clear hfz17_0
              try clear hfz17_1
              try clear hfz17_10
              try clear hfz17_11
              try clear hfz17_12
              try clear hfz17_13
              try clear hfz17_2
              try clear hfz17_3
              try clear hfz17_4
              try clear hfz17_5
              try clear hfz17_6
              try clear hfz17_7
              try clear hfz17_8
              try clear hfz17_9
              try clear hfz26_0
              try clear hfz26_1
              try clear hfz26_10
              try clear hfz26_11
              try clear hfz26_12
              try clear hfz26_13
              try clear hfz26_2
              try clear hfz26_3
              try clear hfz26_4
              try clear hfz26_5
              try clear hfz26_6
              try clear hfz26_7
              try clear hfz26_8
              try clear hfz26_9
              try clear hfz29_0
              try clear hfz29_1
              try clear hfz29_10
              try clear hfz29_11
              try clear hfz29_12
              try clear hfz29_13
              try clear hfz29_2
              try clear hfz29_3
              try clear hfz29_4
              try clear hfz29_5
              try clear hfz29_6
              try clear hfz29_7
              try clear hfz29_8
              try clear hfz29_9
              try clear hfz36_0
              try clear hfz36_1
              try clear hfz36_10
              try clear hfz36_11
              try clear hfz36_12
              try clear hfz36_13
              try clear hfz36_2
              try clear hfz36_3
              try clear hfz36_4
              try clear hfz36_5
              try clear hfz36_6
              try clear hfz36_7
              try clear hfz36_8
              try clear hfz36_9
              try clear hfz39_0
              try clear hfz39_1
              try clear hfz39_10
              try clear hfz39_11
              try clear hfz39_12
              try clear hfz39_13
              try clear hfz39_2
              try clear hfz39_3
              try clear hfz39_4
              try clear hfz39_5
              try clear hfz39_6
              try clear hfz39_7
              try clear hfz39_8
              try clear hfz39_9
              try clear hfz57_0
              try clear hfz57_1
              try clear hfz57_10
              try clear hfz57_11
              try clear hfz57_12
              try clear hfz57_13
              try clear hfz57_2
              try clear hfz57_3
              try clear hfz57_4
              try clear hfz57_5
              try clear hfz57_6
              try clear hfz57_7
              try clear hfz57_8
              try clear hfz57_9
              try clear hfz8_0
              try clear hfz8_1
              try clear hfz8_10
              try clear hfz8_11
              try clear hfz8_12
              try clear hfz8_13
              try clear hfz8_2
              try clear hfz8_3
              try clear hfz8_4
              try clear hfz8_5
              try clear hfz8_6
              try clear hfz8_7
              try clear hfz8_8
              try clear hfz8_9
              try clear hx342_0
              try clear hx342_1
              try clear hx342_2
              try clear hx342_3
              try clear hx344_0
              try clear hx344_1
              try clear hx344_2
              try clear hx344_3
              try clear p2
              try clear p3
              try clear p34
              try clear p342
              try clear p344
              try clear p6
              try clear q3
              try clear q34
              try clear q342
              try clear q344
              obtain ⟨x9_5, rfl, HA, HK5, HO_7, BK324, HB⟩ := hrel
              cases gk with
              | zero => exact absurd HA.out (by simp [w19_SorterOrder.l2])
              | succ k5 =>
               have H := HA.out
               clear HA
               simp only [w19_SorterOrder.l2] at H
               by_cases c62 : x9_5 < x8_4
               ·rw [if_pos c62] at H
                have c62b0 : decide (x9_5 < x8_4) = true := decide_eq_true c62
                clear c62
                by_cases c63 : 0 ≤ x8_4
                ·rw [if_pos c63] at H
                 have c63b0 : decide (0 ≤ x8_4) = true := decide_eq_true c63
                 clear c63
                 by_cases c64 : x8_4 < (t346.length : Int)
                 ·rw [if_pos c64] at H
                  have c64b0 : decide (x8_4 < (t346.length : Int)) = true := decide_eq_true c64
                  clear c64
                  by_cases c65 : 0 ≤ x9_5
                  ·rw [if_pos c65] at H
                   have c65b0 : decide (0 ≤ x9_5) = true := decide_eq_true c65
                   clear c65
                   by_cases c66 : x9_5 < (t346.length : Int)
                   ·rw [if_pos c66] at H
                    have c66b0 : decide (x9_5 < (t346.length : Int)) = true := decide_eq_true c66
                    clear c66
                    by_cases c67 : ((rd_T43 t346 x8_4).f0).toList = ((rd_T43 t346 x9_5).f0).toList
                    ·rw [if_pos c67] at H
                     have c67b0 : (((rd_T43 t346 x8_4).f0).toList == ((rd_T43 t346 x9_5).f0).toList) = true := beq_iff_eq.mpr c67
                     have c67b1 : (((rd_T43 t346 x8_4).f0).toList != ((rd_T43 t346 x9_5).f0).toList) = false := bne_eq_false_iff_eq.mpr c67
                     clear c67
                     exact absurd ((Option.some.inj H).trans hr_) (by decide)
                    ·rw [if_neg c67] at H
                     have c67b0 : (((rd_T43 t346 x8_4).f0).toList == ((rd_T43 t346 x9_5).f0).toList) = false := beq_eq_false_iff_ne.mpr c67
                     have c67b1 : (((rd_T43 t346 x8_4).f0).toList != ((rd_T43 t346 x9_5).f0).toList) = true := bne_iff_ne.mpr c67
                     have H' := xy H
                     clear H
                     try go_wp2
                     replace HO_7 := xy (Kd.S_drew HO_7.out)
                     replace BK324 := xy (blk_drew BK324.out)
                     replace HB := xy (below_drew1 HB.out)
                     have p350 : 0 ≤ (x8_4 : Int) := xi
                     have q350 : x8_4 < (t346.length : Int) := xi
                     obtain ⟨ad350, A350_1, c350_1, e350, hx350_0, hx350_1, hl350_1, hi350_1⟩ := at_T43 (Kd.S_reads' HO_7.out).2.2 x8_4 p350 q350
                     cases e350
                     obtain ⟨ce350, hce350, hMe350, hcc350⟩ := Kd.S_get HO_7.out z43 x8_4 p350 (by first | exact q350 | exact xi | (have e_ := (Kd.S_reads' HO_7.out).1; omega))
                     obtain ⟨ve350_1, rfl, ge350_1⟩ := k43_openM hMe350
                     have hv350_1 := hcc350 1 _ rfl
                     rw [add_field _ _ 1 (by omega)] at hv350_1
                     replace hv350_1 := Option.some.inj (hv350_1.symm.trans hx350_1)
                     rw [hv350_1] at ge350_1
                     have HL350_1 := xy (show Kd.R k24 24 _ _ _ _ ((rd_T43 t346 x8_4).f1) from ge350_1)
                     clear hv350_1 ge350_1
                     clear hcc350 hce350
                     have HR350_1 := xy hi350_1
                     have HC350_1 := xy hl350_1
                     clear hi350_1 hl350_1
                     replace p350 := eq_true p350
                     replace q350 := eq_true q350
                     have p351 : 0 ≤ (x9_5 : Int) := xi
                     have q351 : x9_5 < (t346.length : Int) := xi
                     obtain ⟨ad351, A351_1, c351_1, e351, hx351_0, hx351_1, hl351_1, hi351_1⟩ := at_T43 (Kd.S_reads' HO_7.out).2.2 x9_5 p351 q351
                     obtain rfl : ad350 = ad351 := (by injection e351)
                     obtain ⟨ce351, hce351, hMe351, hcc351⟩ := Kd.S_get HO_7.out z43 x9_5 p351 (by first | exact q351 | exact xi | (have e_ := (Kd.S_reads' HO_7.out).1; omega))
                     obtain ⟨ve351_1, rfl, ge351_1⟩ := k43_openM hMe351
                     have hv351_1 := hcc351 1 _ rfl
                     rw [add_field _ _ 1 (by omega)] at hv351_1
                     replace hv351_1 := Option.some.inj (hv351_1.symm.trans hx351_1)
                     rw [hv351_1] at ge351_1
                     have HL351_1 := xy (show Kd.R k24 24 _ _ _ _ ((rd_T43 t346 x9_5).f1) from ge351_1)
                     clear hv351_1 ge351_1
                     clear hcc351 hce351
                     have HR351_1 := xy hi351_1
                     have HC351_1 := xy hl351_1
                     clear hi351_1 hl351_1
                     replace p351 := eq_true p351
                     replace q351 := eq_true q351
                     refine start_ (n := 11) (S := fun w' => w'.cell? (ad350.add ((x8_4).toNat * 2)) = some (.string ((rd_T43 t346 x8_4).f0)) ∧ w'.cell? ⟨(ad350.add ((x8_4).toNat * 2)).block, (ad350.add ((x8_4).toNat * 2)).off + 1, none⟩ = some (.slice A350_1 ((rd_T43 t346 x8_4).f1).length c350_1) ∧ w'.cell? (ad350.add ((x9_5).toNat * 2)) = some (.string ((rd_T43 t346 x9_5).f0)) ∧ w'.cell? ⟨(ad350.add ((x9_5).toNat * 2)).block, (ad350.add ((x9_5).toNat * 2)).off + 1, none⟩ = some (.slice A351_1 ((rd_T43 t346 x9_5).f1).length c351_1)) (ds := []) #[false, false, false, false, false, false, false, false, false, false, false] (by kernel_rfl) rfl rfl ⟨hx350_0, hx350_1, hx351_0, hx351_1⟩ (fun hHeld => ?_); refine with_tabW w19_SorterOrder.tab18 w19_SorterOrder.bits18 (fun HT_ HW_ => ?_)
                     generalize wr.drew = w69 at HO_7 BK324 HB HL350_1 HL351_1 HR350_1 HR351_1 hx350_0 hx350_1 hx351_0 hx351_1 hHeld ⊢
                     refine pure_ (i := 0) (N := some 76) (v := ?_) (a' := ?_) #[true, false, false, false, false, false, false, false, false, false, false] rfl rfl (any_of HT_.out (by kernel_rfl)) (fun _ _ _ h => h) (Or.inl ⟨by rfl, ?_⟩) ?_ ?_
                     rotate_left
                     ·intro w'
                      go_simp
                      with_reducible rfl
                     rotate_left
                     ·simp only [Act.put, List.setIfInBounds_toArray, List.set_cons_zero, List.set_cons_succ, i64_w, i32_w]
                      rfl
                     refine pure_ (i := 1) (N := some 77) (v := ?_) (a' := ?_) #[true, true, false, false, false, false, false, false, false, false, false] rfl rfl (any_of HT_.out (by kernel_rfl)) (fun _ _ _ h => h) (Or.inl ⟨by rfl, ?_⟩) ?_ ?_
                     rotate_left
                     ·intro w'
                      go_simp
                      with_reducible rfl
                     rotate_left
                     ·simp only [Act.put, List.setIfInBounds_toArray, List.set_cons_zero, List.set_cons_succ, i64_w, i32_w]
                      rfl
                     refine pure_ (i := 2) (N := some 78) (v := ?_) (a' := ?_) #[true, true, true, false, false, false, false, false, false, false, false] rfl rfl (any_of HT_.out (by kernel_rfl)) (fun _ _ _ h => h) (Or.inl ⟨by rfl, ?_⟩) ?_ ?_
                     rotate_left
                     ·intro w'
                      go_simp
                      with_reducible rfl
                     rotate_left
                     ·simp only [Act.put, List.setIfInBounds_toArray, List.set_cons_zero, List.set_cons_succ, i64_w, i32_w]
                      rfl
                     refine pure_ (i := 3) (N := some 79) (v := ?_) (a' := ?_) #[true, true, true, true, false, false, false, false, false, false, false] rfl rfl (any_of HT_.out (by kernel_rfl)) (fun _ _ _ h => h) (Or.inl ⟨by rfl, ?_⟩) ?_ ?_
                     rotate_left
                     ·intro w'
                      go_simp
                      with_reducible rfl
                     rotate_left
                     ·simp only [Act.put, List.setIfInBounds_toArray, List.set_cons_zero, List.set_cons_succ, i64_w, i32_w]
                      rfl
                     refine pure_ (i := 5) (N := some 81) (v := ?_) (a' := ?_) #[true, true, true, true, false, true, false, false, false, false, false] rfl rfl (any_of HT_.out (by kernel_rfl)) (fun _ _ _ h => h) (Or.inl ⟨by rfl, ?_⟩) ?_ ?_
                     rotate_left
                     ·intro w'
                      go_simp
                      with_reducible rfl
                     rotate_left
                     ·simp only [Act.put, List.setIfInBounds_toArray, List.set_cons_zero, List.set_cons_succ, i64_w, i32_w]
                      rfl
                     refine pure_ (i := 6) (N := some 82) (v := ?_) (a' := ?_) #[true, true, true, true, false, true, true, false, false, false, false] rfl rfl (any_of HT_.out (by kernel_rfl)) (fun _ _ _ h => h) (Or.inl ⟨by rfl, ?_⟩) ?_ ?_
                     rotate_left
                     ·intro w'
                      go_simp
                      with_reducible rfl
                     rotate_left
                     ·simp only [Act.put, List.setIfInBounds_toArray, List.set_cons_zero, List.set_cons_succ, i64_w, i32_w]
                      rfl
                     refine pure_ (i := 7) (N := some 83) (v := ?_) (a' := ?_) #[true, true, true, true, false, true, true, true, false, false, false] rfl rfl (any_of HT_.out (by kernel_rfl)) (fun _ _ _ h => h) (Or.inl ⟨by rfl, ?_⟩) ?_ ?_
                     rotate_left
                     ·intro w'
                      go_simp
                      with_reducible rfl
                     rotate_left
                     ·simp only [Act.put, List.setIfInBounds_toArray, List.set_cons_zero, List.set_cons_succ, i64_w, i32_w]
                      rfl
                     refine pure_ (i := 8) (N := some 84) (v := ?_) (a' := ?_) #[true, true, true, true, false, true, true, true, true, false, false] rfl rfl (any_of HT_.out (by kernel_rfl)) (fun _ _ _ h => h) (Or.inl ⟨by rfl, ?_⟩) ?_ ?_
                     rotate_left
                     ·intro w'
                      go_simp
                      with_reducible rfl
                     rotate_left
                     ·simp only [Act.put, List.setIfInBounds_toArray, List.set_cons_zero, List.set_cons_succ, i64_w, i32_w]
                      rfl
                     refine take_ (i := 4) (N := some 80) (v := ?_) (a' := ?_) #[true, true, true, true, true, true, true, true, true, false, false] rfl rfl (take_ofW HT_.out HW_.out (by kernel_rfl)) (fun _ _ _ h => h) (Or.inl ⟨by rfl, ?_⟩) hHeld ?_ ?_
                     rotate_left
                     ·rintro w' ⟨s0, s1, s2, s3⟩
                      go_simp
                      with_reducible rfl
                     rotate_left
                     ·simp only [Act.put, List.setIfInBounds_toArray, List.set_cons_zero, List.set_cons_succ, i64_w, i32_w]
                      rfl
                     refine take_ (i := 9) (N := some 85) (v := ?_) (a' := ?_) #[true, true, true, true, true, true, true, true, true, true, false] rfl rfl (take_ofW HT_.out HW_.out (by kernel_rfl)) (fun _ _ _ h => h) (Or.inl ⟨by rfl, ?_⟩) hHeld ?_ ?_
                     rotate_left
                     ·rintro w' ⟨s0, s1, s2, s3⟩
                      go_simp
                      with_reducible rfl
                     rotate_left
                     ·simp only [Act.put, List.setIfInBounds_toArray, List.set_cons_zero, List.set_cons_succ, i64_w, i32_w]
                      rfl
                     refine pure_ (i := 10) (N := some 86) (v := ?_) (a' := ?_) #[true, true, true, true, true, true, true, true, true, true, true] rfl rfl (any_of HT_.out (by kernel_rfl)) (fun _ _ _ h => h) (Or.inl ⟨by rfl, ?_⟩) ?_ ?_
                     rotate_left
                     ·intro w'
                      go_simp
                      with_reducible rfl
                     rotate_left
                     ·simp only [Act.put, List.setIfInBounds_toArray, List.set_cons_zero, List.set_cons_succ, i64_w, i32_w]
                      rfl
                     refine done_ (done_of HT_.out (by kernel_rfl)) ?_
                     try go_wp2
                     go_roundg k5
                     case measure => have := HJ2.out; have := HJ15.out; have := HK3.out; have := HK4.out; have := HK5.out; omega
                     case rel => exact ⟨(wrap64 (x9_5 + 1)), xg, H', ⟨by have := HJ2.out; have := HJ15.out; have := HK3.out; have := HK4.out; have := HK5.out; omega⟩, ⟨by (with_reducible repeat (first | apply Kd.S_alloc | apply Kd.S_drewN | apply Kd.S_drew)); exact HO_7.out⟩, ⟨by (with_reducible repeat (first | refine blk_drewN ?_ _ | refine blk_drew ?_ | refine blk_alloc ?_ _)); exact BK324.out⟩, ⟨xb⟩⟩
                   ·rw [if_neg c66] at H
                    exact absurd H (by simp)
                  ·rw [if_neg c65] at H
                   exact absurd H (by simp)
                 ·rw [if_neg c64] at H
                  exact absurd H (by simp)
                ·rw [if_neg c63] at H
                 exact absurd H (by simp)
               ·rw [if_neg c62] at H
                have c62b0 : decide (x9_5 < x8_4) = false := decide_eq_false c62
                clear c62
                have H' := xy H
                clear H
                go_wp2
                go_roundg k5
                case measure => have := HJ2.out; have := HJ15.out; have := HK3.out; have := HK4.out; have := HK5.out; omega
                case rel => exact ⟨(wrap64 (x8_4 + 1)), xg, H', ⟨by have := HJ2.out; have := HJ15.out; have := HK3.out; have := HK4.out; have := HK5.out; omega⟩, ⟨by (with_reducible repeat (first | apply Kd.S_alloc | apply Kd.S_drewN | apply Kd.S_drew)); exact HO_7.out⟩, ⟨by (with_reducible repeat (first | refine blk_drewN ?_ _ | refine blk_drew ?_ | refine blk_alloc ?_ _)); exact BK324.out⟩, ⟨xb⟩⟩
            ·rw [if_neg c60] at H
             have c60b0 : decide (x8_4 < (t346.length : Int)) = false := decide_eq_false c60
             clear c60
             replace H := xj H
             obtain ⟨t349, A700, H⟩ := H
             try dsimp only at H
             have A70 := xy A700
             clear A700
             obtain rfl := Option.some.inj H
             obtain ⟨Ao71, co71, eo71⟩ := Kd.S_slice HO_7.out
             subst eo71
             go_wp2_with (first | ((with_reducible refine gate_callee (f := 9) rfl ?_); refine goesL_ (some 87) rfl rfl Tryz.func9 (by kernel_rfl) rfl #[] rfl xr ?_; (with_reducible refine (w19_alive.calls  t349 _ (Tabs.below hT xf) A70.out).mono ?_); rintro e w72 ⟨rfl, hb⟩; refine ⟨_, rfl, ?_⟩; replace HO_7 := xy (Kd.S_below (by (with_reducible repeat (first | apply Kd.S_alloc | apply Kd.S_drewN | apply Kd.S_drew)); exact HO_7.out) hb); replace BK324 := xd BK324.out hb; replace HB := xy (below_step xb hb); (try clear hb); (try clear hb2); (try clear hk); (try clear hi)))
             go_ret
             exact ⟨xe, xb⟩
def w19_SorterOrder.Pure : Prop := ∀ (x0 : S26) (x1 : List (S38)), (True ∧ (x0.f1.length * 32 ≤ 140737488351232 ∧ ∀ q0_ ∈ x0.f1, ((Lit.int .i64 q0_.f0).wf = true ∧ (Lit.int .i64 q0_.f1).wf = true ∧ q0_.f2.size ≤ 140737488351232)) ∧ (x0.f2.length * 32 ≤ 140737488351232 ∧ ∀ q0_ ∈ x0.f2, ((Lit.int .i64 q0_.f0).wf = true ∧ (Lit.int .i64 q0_.f1).wf = true ∧ q0_.f2.size ≤ 140737488351232)) ∧ (x0.f3.length * 32 ≤ 140737488351232 ∧ ∀ q0_ ∈ x0.f3, ((Lit.int .i64 q0_.f0).wf = true ∧ (Lit.int .i64 q0_.f1).wf = true ∧ q0_.f2.size ≤ 140737488351232)) ∧ (Lit.int .i64 x0.f4).wf = true ∧ (x0.f5.length * 32 ≤ 140737488351232 ∧ ∀ q0_ ∈ x0.f5, ((Lit.int .i64 q0_.f0).wf = true ∧ (Lit.int .i64 q0_.f1).wf = true ∧ q0_.f2.size ≤ 140737488351232)) ∧ (True ∧ (Lit.int .i64 x0.f6.f1).wf = true ∧ x0.f6.f2.size ≤ 140737488351232) ∧ True ∧ (Lit.int .i64 x0.f8).wf = true ∧ True ∧ True ∧ (Lit.int .i64 x0.f11).wf = true) → (x1.length * 48 ≤ 140737488351232 ∧ ∀ q0_ ∈ x1, (q0_.f0.size ≤ 140737488351232 ∧ (True ∧ (Lit.int .i64 q0_.f1.f1).wf = true ∧ q0_.f1.f2.size ≤ 140737488351232))) → ∃ k, w19_SorterOrder.f k x0.f0 x0.f1 x0.f2 x0.f3 x0.f4 x0.f5 x0.f6.f0 x0.f6.f1 x0.f6.f2 x0.f7 x0.f8 x0.f9 x0.f10 x0.f11 x1 = some true
end Go.Proofs.YtebofnoljebakaaGreatDoor.PX
