/- Walked functions, by this session's program over the kit's print. -/
import Derived.Test.YtmkkbkbfhjndcaaDoorPXx0
import Derived.Test.YtmkkbkbfhjndcaaDoorPXx1
import Derived.Test.YtmkkbkbfhjndcaaDoorPXx4
import Derived.Test.YtmkkbkbfhjndcaaDoorPXx5
import Derived.Test.YtmkkbkbfhjndcaaDoorPXx6
namespace Go.Proofs.YtmkkbkbfhjndcaaDoor.PX
open Go.RowKit Go.Proofs.YtmkkbkbfhjndcaaDoorW.PrintWords Go.Proofs.YtmkkbkbfhjndcaaDoorW.PrintLast Go.Proofs.YtmkkbkbfhjndcaaDoorW.PrintMore
attribute [local go_sem] xm_gtr max2_int min2_int max_two min_two max_three min_three max_four min_four   -- for this text's walks alone
set_option linter.unusedVariables false
set_option linter.unusedSimpArgs false

attribute [local go_sem high] eqA43
/-! ### threshinglaw13_ValueOrder: function 6 -/
mutual
def threshinglaw13_ValueOrder.j0 : Nat → Bool → Bool → Int → ByteArray → Bool → Int → ByteArray → Bool → Int → ByteArray → Option (Bool)
  | 0, _, _, _, _, _, _, _, _, _, _ => none
  | k + 1, x23, x271000, x271001, x271002, x271003, x271004, x271005, x271006, x271007, x271008 => if x23 = true then ((threshinglaw13_alive.f k).bind fun t274 => (some t274)) else ((value_Compare.f k x271000 x271001 x271002 x271003 x271004 x271005).bind fun t275 => ((value_Compare.f k x271003 x271004 x271005 x271006 x271007 x271008).bind fun t276 => ((value_Compare.f k x271000 x271001 x271002 x271006 x271007 x271008).bind fun t277 => ((value_Compare.f k x271003 x271004 x271005 x271000 x271001 x271002).bind fun t278 => (if t278 = (wrap64 (-t275)) then (if ((t275 == 0) != (x271000 == x271003 && (x271001 == x271004 && (x271002.toList == x271005.toList)))) = true then (threshinglaw13_ValueOrder.j1 k t275 true x271000 x271001 x271002 x271003 x271004 x271005 x271006 x271007 x271008) else (if t275 < 0 then (if t276 < 0 then (threshinglaw13_ValueOrder.j1 k t275 (decide (t277 ≥ 0)) x271000 x271001 x271002 x271003 x271004 x271005 x271006 x271007 x271008) else (threshinglaw13_ValueOrder.j1 k t275 false x271000 x271001 x271002 x271003 x271004 x271005 x271006 x271007 x271008)) else (threshinglaw13_ValueOrder.j1 k t275 false x271000 x271001 x271002 x271003 x271004 x271005 x271006 x271007 x271008))) else (threshinglaw13_ValueOrder.j1 k t275 true x271000 x271001 x271002 x271003 x271004 x271005 x271006 x271007 x271008))))))
def threshinglaw13_ValueOrder.j1 : Nat → Int → Bool → Bool → Int → ByteArray → Bool → Int → ByteArray → Bool → Int → ByteArray → Option (Bool)
  | 0, _, _, _, _, _, _, _, _, _, _, _ => none
  | k + 1, x3, x69, x271000, x271001, x271002, x271003, x271004, x271005, x271006, x271007, x271008 => if x69 = true then (some false) else ((value_Do.f k 15 (([(⟨x271000, x271001, x271002⟩ : S43), (⟨x271003, x271004, x271005⟩ : S43)] : List (S43)))).bind fun bt282 => (if (x271000 != x271003) = true then ((threshinglaw13_alive.f k).bind fun t287 => (if t287 = true then (some (bt282.2.2.2 == 11)) else (some false))) else ((threshinglaw13_alive.f k).bind fun t288 => (if t288 = true then (if bt282.2.2.2 = 0 then (if ((bt282.2.1 == 1) == (decide (x3 < 0))) = true then ((value_Hash.f k x271002).bind fun t289 => (if t289 ≥ 0 then ((value_Hash.f k x271002).bind fun t290 => (some (decide (t290 < 2147483648)))) else (some false))) else (some false)) else (some false)) else (some false)))))
end
def threshinglaw13_ValueOrder.f (k : Nat) (a0_0 : Bool) (a0_1 : Int) (a0_2 : ByteArray) (a0_3 : Bool) (a0_4 : Int) (a0_5 : ByteArray) (a0_6 : Bool) (a0_7 : Int) (a0_8 : ByteArray) : Option (Bool) := (threshingref13_Is.f a0_0 a0_1 a0_2).bind fun t271 => (if t271 = true then ((threshingref13_Is.f a0_3 a0_4 a0_5).bind fun t272 => (if t272 = true then ((threshingref13_Is.f a0_6 a0_7 a0_8).bind fun t273 => (threshinglaw13_ValueOrder.j0 k (!t273) a0_0 a0_1 a0_2 a0_3 a0_4 a0_5 a0_6 a0_7 a0_8)) else (threshinglaw13_ValueOrder.j0 k true a0_0 a0_1 a0_2 a0_3 a0_4 a0_5 a0_6 a0_7 a0_8))) else (threshinglaw13_ValueOrder.j0 k true a0_0 a0_1 a0_2 a0_3 a0_4 a0_5 a0_6 a0_7 a0_8))
theorem threshinglaw13_ValueOrder.mono_l : ∀ k, (∀ y0 y1 y2 y3 y4 y5 y6 y7 y8 y9, LeO (threshinglaw13_ValueOrder.j0 k y0 y1 y2 y3 y4 y5 y6 y7 y8 y9) (threshinglaw13_ValueOrder.j0 (k + 1) y0 y1 y2 y3 y4 y5 y6 y7 y8 y9)) ∧ (∀ y0 y1 y2 y3 y4 y5 y6 y7 y8 y9 y10, LeO (threshinglaw13_ValueOrder.j1 k y0 y1 y2 y3 y4 y5 y6 y7 y8 y9 y10) (threshinglaw13_ValueOrder.j1 (k + 1) y0 y1 y2 y3 y4 y5 y6 y7 y8 y9 y10))
  | 0 => ⟨fun _ _ _ _ _ _ _ _ _ _ r h => by simp [threshinglaw13_ValueOrder.j0] at h, fun _ _ _ _ _ _ _ _ _ _ _ r h => by simp [threshinglaw13_ValueOrder.j1] at h⟩
  | k + 1 => by
    obtain ⟨ih0, ih1⟩ := threshinglaw13_ValueOrder.mono_l k
    refine ⟨?_, ?_⟩
    · intro y0 y1 y2 y3 y4 y5 y6 y7 y8 y9
      unfold threshinglaw13_ValueOrder.j0
      repeat' first
      | (with_reducible exact ih0 _ _ _ _ _ _ _ _ _ _)
      | (with_reducible exact ih1 _ _ _ _ _ _ _ _ _ _ _)
      | (with_reducible exact threshinglaw13_alive.mono _)
      | (with_reducible exact value_Compare.mono _ _ _ _ _ _ _)
      | (with_reducible exact value_Do.mono _ _ _)
      | (with_reducible exact value_Hash.mono _ _)
      | (with_reducible exact LeO.refl _)
      | (with_reducible exact LeO.none _)
      | (with_reducible refine LeO.ite ?_ ?_)
      | (with_reducible refine LeO.bind ?_ (fun _ => ?_))
      | exact ih0 _ _ _ _ _ _ _ _ _ _
      | exact ih1 _ _ _ _ _ _ _ _ _ _ _
      | exact threshinglaw13_alive.mono _
      | exact value_Compare.mono _ _ _ _ _ _ _
      | exact value_Do.mono _ _ _
      | exact value_Hash.mono _ _
      | exact LeO.none _
      | refine LeO.ite ?_ ?_
      | refine LeO.bind ?_ (fun _ => ?_)
    · intro y0 y1 y2 y3 y4 y5 y6 y7 y8 y9 y10
      unfold threshinglaw13_ValueOrder.j1
      repeat' first
      | (with_reducible exact ih0 _ _ _ _ _ _ _ _ _ _)
      | (with_reducible exact ih1 _ _ _ _ _ _ _ _ _ _ _)
      | (with_reducible exact threshinglaw13_alive.mono _)
      | (with_reducible exact value_Compare.mono _ _ _ _ _ _ _)
      | (with_reducible exact value_Do.mono _ _ _)
      | (with_reducible exact value_Hash.mono _ _)
      | (with_reducible exact LeO.refl _)
      | (with_reducible exact LeO.none _)
      | (with_reducible refine LeO.ite ?_ ?_)
      | (with_reducible refine LeO.bind ?_ (fun _ => ?_))
      | exact ih0 _ _ _ _ _ _ _ _ _ _
      | exact ih1 _ _ _ _ _ _ _ _ _ _ _
      | exact threshinglaw13_alive.mono _
      | exact value_Compare.mono _ _ _ _ _ _ _
      | exact value_Do.mono _ _ _
      | exact value_Hash.mono _ _
      | exact LeO.none _
      | refine LeO.ite ?_ ?_
      | refine LeO.bind ?_ (fun _ => ?_)
theorem threshinglaw13_ValueOrder.mono : ∀ a0 a1 a2 a3 a4 a5 a6 a7 a8 k, LeO (threshinglaw13_ValueOrder.f k a0 a1 a2 a3 a4 a5 a6 a7 a8) (threshinglaw13_ValueOrder.f (k + 1) a0 a1 a2 a3 a4 a5 a6 a7 a8) := by
  intro a0 a1 a2 a3 a4 a5 a6 a7 a8 k
  obtain ⟨ih0, ih1⟩ := threshinglaw13_ValueOrder.mono_l k
  unfold threshinglaw13_ValueOrder.f
  repeat' first
      | (with_reducible exact ih0 _ _ _ _ _ _ _ _ _ _)
      | (with_reducible exact ih1 _ _ _ _ _ _ _ _ _ _ _)
      | (with_reducible exact threshinglaw13_alive.mono _)
      | (with_reducible exact value_Compare.mono _ _ _ _ _ _ _)
      | (with_reducible exact value_Do.mono _ _ _)
      | (with_reducible exact value_Hash.mono _ _)
      | (with_reducible exact LeO.refl _)
      | (with_reducible exact LeO.none _)
      | (with_reducible refine LeO.ite ?_ ?_)
      | (with_reducible refine LeO.bind ?_ (fun _ => ?_))
      | exact ih0 _ _ _ _ _ _ _ _ _ _
      | exact ih1 _ _ _ _ _ _ _ _ _ _ _
      | exact threshinglaw13_alive.mono _
      | exact value_Compare.mono _ _ _ _ _ _ _
      | exact value_Do.mono _ _ _
      | exact value_Hash.mono _ _
      | exact LeO.none _
      | refine LeO.ite ?_ ?_
      | refine LeO.bind ?_ (fun _ => ?_)
def threshinglaw13_ValueOrder.T3 : Bool × List (List Nat × List Nat) := (true, [([], []), ([0], [0]), ([], []), ([2], [2]), ([1, 3], [1, 3]), ([], []), ([5], [5]), ([], []), ([7], [7]), ([6, 8, 4], [6, 8]), ([], []), ([10], [10]), ([], []), ([12], [12]), ([11, 13, 9], [11, 13]), ([4, 14, 0, 1, 2, 3, 4], [4]), ([9, 15, 0, 1, 2, 3, 4, 5, 6, 7, 8, 9, 15], [9]), ([14, 16, 0, 1, 2, 3, 4, 5, 6, 7, 8, 9, 10, 11, 12, 13, 14, 15, 16], [14])])
def threshinglaw13_ValueOrder.B3 : List Nat := [0, 1, 0, 4, 15, 0, 32, 0, 128, 511, 0, 1024, 0, 4096, 16383, 32767, 65535, 131071]
theorem threshinglaw13_ValueOrder.tab3 : rtab .any (opsOf Tryd.f6 3) = threshinglaw13_ValueOrder.T3 := by kernel_rfl
theorem threshinglaw13_ValueOrder.bits3 : waitsOk threshinglaw13_ValueOrder.T3.2 threshinglaw13_ValueOrder.B3 = true := by kernel_rfl
set_option maxHeartbeats 8000000 in
set_option maxRecDepth 100000 in
theorem threshinglaw13_ValueOrder.calls (k : Nat) (a0_0 : Bool) (a0_1 : Int) (a0_2 : ByteArray) (a0_3 : Bool) (a0_4 : Int) (a0_5 : ByteArray) (a0_6 : Bool) (a0_7 : Int) (a0_8 : ByteArray) (r : Bool) (w : World) (hT : Tabs w) (h : threshinglaw13_ValueOrder.f k a0_0 a0_1 a0_2 a0_3 a0_4 a0_5 a0_6 a0_7 a0_8 = some r) :
    Calls Tryd.prog 6 #[.agg #[.bool a0_0, .int .i64 a0_1, .string a0_2, .bool a0_3, .int .i64 a0_4, .string a0_5, .bool a0_6, .int .i64 a0_7, .string a0_8]] w fun e w' => e = .returned (.bool r) ∧ Below w.heap.size w w' := by
  have hu51 := Tryd.underlying51
  have hu43 := Tryd.underlying43
  have HB := Aside0.mk (Below.refl w.heap.size w)
  have H : ((threshingref13_Is.f a0_0 a0_1 a0_2).bind fun t271 => (if t271 = true then ((threshingref13_Is.f a0_3 a0_4 a0_5).bind fun t272 => (if t272 = true then ((threshingref13_Is.f a0_6 a0_7 a0_8).bind fun t273 => (threshinglaw13_ValueOrder.j0 k (!t273) a0_0 a0_1 a0_2 a0_3 a0_4 a0_5 a0_6 a0_7 a0_8)) else (threshinglaw13_ValueOrder.j0 k true a0_0 a0_1 a0_2 a0_3 a0_4 a0_5 a0_6 a0_7 a0_8))) else (threshinglaw13_ValueOrder.j0 k true a0_0 a0_1 a0_2 a0_3 a0_4 a0_5 a0_6 a0_7 a0_8))) = some r := h
  clear h
  have HC2 := Aside0.mk H
  clear H
  go_enter Tryd.func6, Tryd.ntmps6
  go_upto_region 1 with (first | ((with_reducible refine gate_dst (N := 1) rfl ?_); refine box_event ?hg (N := 1) ?hd (cs := #[.bool a0_0, .int .i64 a0_1, .string a0_2, .bool a0_3, .int .i64 a0_4, .string a0_5, .bool a0_6, .int .i64 a0_7, .string a0_8]) (t := 51) ?hr ?_; (case hd => rfl); (case hg => rfl); (case hr => first | (go_simp; done) | (go_simp; rfl)); intro gb270 hg w3 hbox hb; have n0_ := Aside0.mk (below_step (by repeat (first | (with_reducible first | exact HB.out | apply below_alloc | apply pw_below_drewN | apply below_drew1) | exact HB.out)) hb); have n1_ := Aside0.mk (hbox); have n2_ := Aside0.mk ((by rw [hg]; exact (below_size (by repeat (first | (with_reducible first | exact HB.out | apply below_alloc | apply pw_below_drewN | apply below_drew1) | exact HB.out))) : w.heap.size ≤ gb270)); have n3_ := Aside0.mk ((by rw [hg]; exact (below_size (by repeat (first | (with_reducible first | exact HB.out | apply below_alloc | apply pw_below_drewN | apply below_drew1) | exact HB.out))) : w.heap.size ≤ gb270)); clear HB; have HB := n0_; have BK270 := n1_; have GW270 := n2_; have GE270 := n3_; clear n0_ n1_ n2_ n3_; clear hb hbox hg))
  (try simp only [Act.put, List.setIfInBounds_toArray, List.set_cons_zero, List.set_cons_succ])
  go_cut [23] (fun v23 wc => ∃ (kq : Nat) (x23_1 : Bool), v23 = .bool x23_1 ∧ Aside0 (threshinglaw13_ValueOrder.j0 kq x23_1 a0_0 a0_1 a0_2 a0_3 a0_4 a0_5 a0_6 a0_7 a0_8 = some r) ∧ Aside0 (kq ≤ k) ∧ Aside0 (wc.heap[gb270]? = some (.cells #[.bool a0_0, .int .i64 a0_1, .string a0_2, .bool a0_3, .int .i64 a0_4, .string a0_5, .bool a0_6, .int .i64 a0_7, .string a0_8] 51 (0, 0))) ∧ Aside0 (Below w.heap.size w wc))
  case first =>
    have H := HC2.out
    clear HC2
    replace H := Option.bind_eq_some_iff.mp H
    obtain ⟨t271, A40, H⟩ := H
    replace H : (if t271 = true then ((threshingref13_Is.f a0_3 a0_4 a0_5).bind fun t272 => (if t272 = true then ((threshingref13_Is.f a0_6 a0_7 a0_8).bind fun t273 => (threshinglaw13_ValueOrder.j0 k (!t273) a0_0 a0_1 a0_2 a0_3 a0_4 a0_5 a0_6 a0_7 a0_8)) else (threshinglaw13_ValueOrder.j0 k true a0_0 a0_1 a0_2 a0_3 a0_4 a0_5 a0_6 a0_7 a0_8))) else (threshinglaw13_ValueOrder.j0 k true a0_0 a0_1 a0_2 a0_3 a0_4 a0_5 a0_6 a0_7 a0_8)) = some r := H
    have A4 := Aside0.mk A40
    clear A40
    by_cases c5 : t271 = true
    · subst c5
      have H1 : ((threshingref13_Is.f a0_3 a0_4 a0_5).bind fun t272 => (if t272 = true then ((threshingref13_Is.f a0_6 a0_7 a0_8).bind fun t273 => (threshinglaw13_ValueOrder.j0 k (!t273) a0_0 a0_1 a0_2 a0_3 a0_4 a0_5 a0_6 a0_7 a0_8)) else (threshinglaw13_ValueOrder.j0 k true a0_0 a0_1 a0_2 a0_3 a0_4 a0_5 a0_6 a0_7 a0_8))) = some r := by rw [if_pos rfl] at H; exact H
      clear H
      have H := H1
      clear H1
      replace H := Option.bind_eq_some_iff.mp H
      obtain ⟨t272, A60, H⟩ := H
      replace H : (if t272 = true then ((threshingref13_Is.f a0_6 a0_7 a0_8).bind fun t273 => (threshinglaw13_ValueOrder.j0 k (!t273) a0_0 a0_1 a0_2 a0_3 a0_4 a0_5 a0_6 a0_7 a0_8)) else (threshinglaw13_ValueOrder.j0 k true a0_0 a0_1 a0_2 a0_3 a0_4 a0_5 a0_6 a0_7 a0_8)) = some r := H
      have A6 := Aside0.mk A60
      clear A60
      by_cases c7 : t272 = true
      · subst c7
        have H1 : ((threshingref13_Is.f a0_6 a0_7 a0_8).bind fun t273 => (threshinglaw13_ValueOrder.j0 k (!t273) a0_0 a0_1 a0_2 a0_3 a0_4 a0_5 a0_6 a0_7 a0_8)) = some r := by rw [if_pos rfl] at H; exact H
        clear H
        have H := H1
        clear H1
        replace H := Option.bind_eq_some_iff.mp H
        obtain ⟨t273, A80, H⟩ := H
        replace H : (threshinglaw13_ValueOrder.j0 k (!t273) a0_0 a0_1 a0_2 a0_3 a0_4 a0_5 a0_6 a0_7 a0_8) = some r := H
        have A8 := Aside0.mk A80
        clear A80
        have H' := Aside0.mk H
        clear H
        have hcz9_0 : w3.cell? ⟨gb270, 0, none⟩ = some (.bool a0_0) := (blk_cell BK270.out 0).trans rfl
        have hcz9_1 : w3.cell? ⟨gb270, 1, none⟩ = some (.int .i64 a0_1) := (blk_cell BK270.out 1).trans rfl
        have hcz9_2 : w3.cell? ⟨gb270, 2, none⟩ = some (.string a0_2) := (blk_cell BK270.out 2).trans rfl
        have hcz9_3 : w3.cell? ⟨gb270, 3, none⟩ = some (.bool a0_3) := (blk_cell BK270.out 3).trans rfl
        have hcz9_4 : w3.cell? ⟨gb270, 4, none⟩ = some (.int .i64 a0_4) := (blk_cell BK270.out 4).trans rfl
        have hcz9_5 : w3.cell? ⟨gb270, 5, none⟩ = some (.string a0_5) := (blk_cell BK270.out 5).trans rfl
        have hcz9_6 : w3.cell? ⟨gb270, 6, none⟩ = some (.bool a0_6) := (blk_cell BK270.out 6).trans rfl
        have hcz9_7 : w3.cell? ⟨gb270, 7, none⟩ = some (.int .i64 a0_7) := (blk_cell BK270.out 7).trans rfl
        have hcz9_8 : w3.cell? ⟨gb270, 8, none⟩ = some (.string a0_8) := (blk_cell BK270.out 8).trans rfl
        have hfz9_0 := blk_frozen BK270.out 0
        have hfz9_1 := blk_frozen BK270.out 1
        have hfz9_2 := blk_frozen BK270.out 2
        have hfz9_3 := blk_frozen BK270.out 3
        have hfz9_4 := blk_frozen BK270.out 4
        have hfz9_5 := blk_frozen BK270.out 5
        have hfz9_6 := blk_frozen BK270.out 6
        have hfz9_7 := blk_frozen BK270.out 7
        have hfz9_8 := blk_frozen BK270.out 8
        go_wp2_with (first | ((with_reducible refine gate_callee (f := 24) rfl ?_); refine goesL_ (some 10) rfl rfl Tryd.func24 (by kernel_rfl) rfl #[.agg #[.bool a0_0, .int .i64 a0_1, .string a0_2]] rfl (by (try simp only [List.map_toArray, List.map_cons, List.map_nil]); first | done | rfl | (simp only [List.length_drop, List.length_take]; rfl)) ?_; (with_reducible refine (threshingref13_Is.calls a0_0 a0_1 a0_2 true _ (Tabs.below hT (by first | exact Below.refl _ _ | exact pw_below_drewN (Below.refl _ _) _ | exact (by repeat (first | (with_reducible first | exact HB.out | apply below_alloc | apply pw_below_drewN | apply below_drew1 | refine below_set ?_ GE270.out) | exact HB.out)))) A4.out).mono ?_); rintro e w10 ⟨rfl, hb⟩; refine ⟨_, rfl, ?_⟩; have n0_ := Aside0.mk (blk_below (g := gb270) (o := .cells #[.bool a0_0, .int .i64 a0_1, .string a0_2, .bool a0_3, .int .i64 a0_4, .string a0_5, .bool a0_6, .int .i64 a0_7, .string a0_8] 51 (0, 0)) (by (with_reducible repeat (first | refine blk_drewN ?_ _ | refine blk_drew ?_ | refine blk_alloc ?_ _)); exact BK270.out) hb); have n1_ := Aside0.mk (below_step (by repeat (first | (with_reducible first | exact HB.out | apply below_alloc | apply pw_below_drewN | apply below_drew1 | refine below_set ?_ GE270.out) | exact HB.out)) hb); clear BK270; clear HB; have BK270 := n0_; have HB := n1_; clear n0_ n1_; (try clear hb); (try clear hb2); (try clear hk); (try clear hi); have hcz11_0 : w10.cell? ⟨gb270, 0, none⟩ = some (.bool a0_0) := (blk_cell BK270.out 0).trans rfl; have hcz11_1 : w10.cell? ⟨gb270, 1, none⟩ = some (.int .i64 a0_1) := (blk_cell BK270.out 1).trans rfl; have hcz11_2 : w10.cell? ⟨gb270, 2, none⟩ = some (.string a0_2) := (blk_cell BK270.out 2).trans rfl; have hcz11_3 : w10.cell? ⟨gb270, 3, none⟩ = some (.bool a0_3) := (blk_cell BK270.out 3).trans rfl; have hcz11_4 : w10.cell? ⟨gb270, 4, none⟩ = some (.int .i64 a0_4) := (blk_cell BK270.out 4).trans rfl; have hcz11_5 : w10.cell? ⟨gb270, 5, none⟩ = some (.string a0_5) := (blk_cell BK270.out 5).trans rfl; have hcz11_6 : w10.cell? ⟨gb270, 6, none⟩ = some (.bool a0_6) := (blk_cell BK270.out 6).trans rfl; have hcz11_7 : w10.cell? ⟨gb270, 7, none⟩ = some (.int .i64 a0_7) := (blk_cell BK270.out 7).trans rfl; have hcz11_8 : w10.cell? ⟨gb270, 8, none⟩ = some (.string a0_8) := (blk_cell BK270.out 8).trans rfl; have hfz11_0 := blk_frozen BK270.out 0; have hfz11_1 := blk_frozen BK270.out 1; have hfz11_2 := blk_frozen BK270.out 2; have hfz11_3 := blk_frozen BK270.out 3; have hfz11_4 := blk_frozen BK270.out 4; have hfz11_5 := blk_frozen BK270.out 5; have hfz11_6 := blk_frozen BK270.out 6; have hfz11_7 := blk_frozen BK270.out 7; have hfz11_8 := blk_frozen BK270.out 8) | (go_at_call 24; (with_reducible refine (threshingref13_Is.calls a0_3 a0_4 a0_5 true _ (Tabs.below hT (by first | exact Below.refl _ _ | exact pw_below_drewN (Below.refl _ _) _ | exact (by repeat (first | (with_reducible first | exact HB.out | apply below_alloc | apply pw_below_drewN | apply below_drew1 | refine below_set ?_ GE270.out) | exact HB.out)))) A6.out).mono ?_); rintro e w12 ⟨rfl, hb⟩; have n0_ := Aside0.mk (blk_below (g := gb270) (o := .cells #[.bool a0_0, .int .i64 a0_1, .string a0_2, .bool a0_3, .int .i64 a0_4, .string a0_5, .bool a0_6, .int .i64 a0_7, .string a0_8] 51 (0, 0)) (by (with_reducible repeat (first | refine blk_drewN ?_ _ | refine blk_drew ?_ | refine blk_alloc ?_ _)); exact BK270.out) hb); have n1_ := Aside0.mk (below_step (by repeat (first | (with_reducible first | exact HB.out | apply below_alloc | apply pw_below_drewN | apply below_drew1 | refine below_set ?_ GE270.out) | exact HB.out)) hb); clear BK270; clear HB; have BK270 := n0_; have HB := n1_; clear n0_ n1_; (try clear hb); (try clear hb2); (try clear hk); (try clear hi); have hcz13_0 : w12.cell? ⟨gb270, 0, none⟩ = some (.bool a0_0) := (blk_cell BK270.out 0).trans rfl; have hcz13_1 : w12.cell? ⟨gb270, 1, none⟩ = some (.int .i64 a0_1) := (blk_cell BK270.out 1).trans rfl; have hcz13_2 : w12.cell? ⟨gb270, 2, none⟩ = some (.string a0_2) := (blk_cell BK270.out 2).trans rfl; have hcz13_3 : w12.cell? ⟨gb270, 3, none⟩ = some (.bool a0_3) := (blk_cell BK270.out 3).trans rfl; have hcz13_4 : w12.cell? ⟨gb270, 4, none⟩ = some (.int .i64 a0_4) := (blk_cell BK270.out 4).trans rfl; have hcz13_5 : w12.cell? ⟨gb270, 5, none⟩ = some (.string a0_5) := (blk_cell BK270.out 5).trans rfl; have hcz13_6 : w12.cell? ⟨gb270, 6, none⟩ = some (.bool a0_6) := (blk_cell BK270.out 6).trans rfl; have hcz13_7 : w12.cell? ⟨gb270, 7, none⟩ = some (.int .i64 a0_7) := (blk_cell BK270.out 7).trans rfl; have hcz13_8 : w12.cell? ⟨gb270, 8, none⟩ = some (.string a0_8) := (blk_cell BK270.out 8).trans rfl; have hfz13_0 := blk_frozen BK270.out 0; have hfz13_1 := blk_frozen BK270.out 1; have hfz13_2 := blk_frozen BK270.out 2; have hfz13_3 := blk_frozen BK270.out 3; have hfz13_4 := blk_frozen BK270.out 4; have hfz13_5 := blk_frozen BK270.out 5; have hfz13_6 := blk_frozen BK270.out 6; have hfz13_7 := blk_frozen BK270.out 7; have hfz13_8 := blk_frozen BK270.out 8) | (go_at_call 24; (with_reducible refine (threshingref13_Is.calls a0_6 a0_7 a0_8 t273 _ (Tabs.below hT (by first | exact Below.refl _ _ | exact pw_below_drewN (Below.refl _ _) _ | exact (by repeat (first | (with_reducible first | exact HB.out | apply below_alloc | apply pw_below_drewN | apply below_drew1 | refine below_set ?_ GE270.out) | exact HB.out)))) A8.out).mono ?_); rintro e w14 ⟨rfl, hb⟩; have n0_ := Aside0.mk (blk_below (g := gb270) (o := .cells #[.bool a0_0, .int .i64 a0_1, .string a0_2, .bool a0_3, .int .i64 a0_4, .string a0_5, .bool a0_6, .int .i64 a0_7, .string a0_8] 51 (0, 0)) (by (with_reducible repeat (first | refine blk_drewN ?_ _ | refine blk_drew ?_ | refine blk_alloc ?_ _)); exact BK270.out) hb); have n1_ := Aside0.mk (below_step (by repeat (first | (with_reducible first | exact HB.out | apply below_alloc | apply pw_below_drewN | apply below_drew1 | refine below_set ?_ GE270.out) | exact HB.out)) hb); clear BK270; clear HB; have BK270 := n0_; have HB := n1_; clear n0_ n1_; (try clear hb); (try clear hb2); (try clear hk); (try clear hi)))
        go_meet
        case rel => exact ⟨_, (!t273), (by first | rfl | (simp; done) | (simp [*]; done)), H', ⟨by first | omega | exact Nat.le_refl _⟩, ⟨by (with_reducible repeat (first | refine blk_drewN ?_ _ | refine blk_drew ?_ | refine blk_alloc ?_ _)); exact BK270.out⟩, ⟨by repeat (first | (with_reducible first | exact HB.out | apply below_alloc | apply pw_below_drewN | apply below_drew1 | refine below_set ?_ GE270.out) | exact HB.out)⟩⟩
      · replace c7 := Bool.eq_false_iff.mpr c7
        subst c7
        have H1 : (threshinglaw13_ValueOrder.j0 k true a0_0 a0_1 a0_2 a0_3 a0_4 a0_5 a0_6 a0_7 a0_8) = some r := by rw [if_neg (show ¬ (false = true) by decide)] at H; exact H
        clear H
        have H := H1
        clear H1
        have H' := Aside0.mk H
        clear H
        have hcz15_0 : w3.cell? ⟨gb270, 0, none⟩ = some (.bool a0_0) := (blk_cell BK270.out 0).trans rfl
        have hcz15_1 : w3.cell? ⟨gb270, 1, none⟩ = some (.int .i64 a0_1) := (blk_cell BK270.out 1).trans rfl
        have hcz15_2 : w3.cell? ⟨gb270, 2, none⟩ = some (.string a0_2) := (blk_cell BK270.out 2).trans rfl
        have hcz15_3 : w3.cell? ⟨gb270, 3, none⟩ = some (.bool a0_3) := (blk_cell BK270.out 3).trans rfl
        have hcz15_4 : w3.cell? ⟨gb270, 4, none⟩ = some (.int .i64 a0_4) := (blk_cell BK270.out 4).trans rfl
        have hcz15_5 : w3.cell? ⟨gb270, 5, none⟩ = some (.string a0_5) := (blk_cell BK270.out 5).trans rfl
        have hcz15_6 : w3.cell? ⟨gb270, 6, none⟩ = some (.bool a0_6) := (blk_cell BK270.out 6).trans rfl
        have hcz15_7 : w3.cell? ⟨gb270, 7, none⟩ = some (.int .i64 a0_7) := (blk_cell BK270.out 7).trans rfl
        have hcz15_8 : w3.cell? ⟨gb270, 8, none⟩ = some (.string a0_8) := (blk_cell BK270.out 8).trans rfl
        have hfz15_0 := blk_frozen BK270.out 0
        have hfz15_1 := blk_frozen BK270.out 1
        have hfz15_2 := blk_frozen BK270.out 2
        have hfz15_3 := blk_frozen BK270.out 3
        have hfz15_4 := blk_frozen BK270.out 4
        have hfz15_5 := blk_frozen BK270.out 5
        have hfz15_6 := blk_frozen BK270.out 6
        have hfz15_7 := blk_frozen BK270.out 7
        have hfz15_8 := blk_frozen BK270.out 8
        go_wp2_with (first | ((with_reducible refine gate_callee (f := 24) rfl ?_); refine goesL_ (some 10) rfl rfl Tryd.func24 (by kernel_rfl) rfl #[.agg #[.bool a0_0, .int .i64 a0_1, .string a0_2]] rfl (by (try simp only [List.map_toArray, List.map_cons, List.map_nil]); first | done | rfl | (simp only [List.length_drop, List.length_take]; rfl)) ?_; (with_reducible refine (threshingref13_Is.calls a0_0 a0_1 a0_2 true _ (Tabs.below hT (by first | exact Below.refl _ _ | exact pw_below_drewN (Below.refl _ _) _ | exact (by repeat (first | (with_reducible first | exact HB.out | apply below_alloc | apply pw_below_drewN | apply below_drew1 | refine below_set ?_ GE270.out) | exact HB.out)))) A4.out).mono ?_); rintro e w16 ⟨rfl, hb⟩; refine ⟨_, rfl, ?_⟩; have n0_ := Aside0.mk (blk_below (g := gb270) (o := .cells #[.bool a0_0, .int .i64 a0_1, .string a0_2, .bool a0_3, .int .i64 a0_4, .string a0_5, .bool a0_6, .int .i64 a0_7, .string a0_8] 51 (0, 0)) (by (with_reducible repeat (first | refine blk_drewN ?_ _ | refine blk_drew ?_ | refine blk_alloc ?_ _)); exact BK270.out) hb); have n1_ := Aside0.mk (below_step (by repeat (first | (with_reducible first | exact HB.out | apply below_alloc | apply pw_below_drewN | apply below_drew1 | refine below_set ?_ GE270.out) | exact HB.out)) hb); clear BK270; clear HB; have BK270 := n0_; have HB := n1_; clear n0_ n1_; (try clear hb); (try clear hb2); (try clear hk); (try clear hi); have hcz17_0 : w16.cell? ⟨gb270, 0, none⟩ = some (.bool a0_0) := (blk_cell BK270.out 0).trans rfl; have hcz17_1 : w16.cell? ⟨gb270, 1, none⟩ = some (.int .i64 a0_1) := (blk_cell BK270.out 1).trans rfl; have hcz17_2 : w16.cell? ⟨gb270, 2, none⟩ = some (.string a0_2) := (blk_cell BK270.out 2).trans rfl; have hcz17_3 : w16.cell? ⟨gb270, 3, none⟩ = some (.bool a0_3) := (blk_cell BK270.out 3).trans rfl; have hcz17_4 : w16.cell? ⟨gb270, 4, none⟩ = some (.int .i64 a0_4) := (blk_cell BK270.out 4).trans rfl; have hcz17_5 : w16.cell? ⟨gb270, 5, none⟩ = some (.string a0_5) := (blk_cell BK270.out 5).trans rfl; have hcz17_6 : w16.cell? ⟨gb270, 6, none⟩ = some (.bool a0_6) := (blk_cell BK270.out 6).trans rfl; have hcz17_7 : w16.cell? ⟨gb270, 7, none⟩ = some (.int .i64 a0_7) := (blk_cell BK270.out 7).trans rfl; have hcz17_8 : w16.cell? ⟨gb270, 8, none⟩ = some (.string a0_8) := (blk_cell BK270.out 8).trans rfl; have hfz17_0 := blk_frozen BK270.out 0; have hfz17_1 := blk_frozen BK270.out 1; have hfz17_2 := blk_frozen BK270.out 2; have hfz17_3 := blk_frozen BK270.out 3; have hfz17_4 := blk_frozen BK270.out 4; have hfz17_5 := blk_frozen BK270.out 5; have hfz17_6 := blk_frozen BK270.out 6; have hfz17_7 := blk_frozen BK270.out 7; have hfz17_8 := blk_frozen BK270.out 8) | (go_at_call 24; (with_reducible refine (threshingref13_Is.calls a0_3 a0_4 a0_5 false _ (Tabs.below hT (by first | exact Below.refl _ _ | exact pw_below_drewN (Below.refl _ _) _ | exact (by repeat (first | (with_reducible first | exact HB.out | apply below_alloc | apply pw_below_drewN | apply below_drew1 | refine below_set ?_ GE270.out) | exact HB.out)))) A6.out).mono ?_); rintro e w18 ⟨rfl, hb⟩; have n0_ := Aside0.mk (blk_below (g := gb270) (o := .cells #[.bool a0_0, .int .i64 a0_1, .string a0_2, .bool a0_3, .int .i64 a0_4, .string a0_5, .bool a0_6, .int .i64 a0_7, .string a0_8] 51 (0, 0)) (by (with_reducible repeat (first | refine blk_drewN ?_ _ | refine blk_drew ?_ | refine blk_alloc ?_ _)); exact BK270.out) hb); have n1_ := Aside0.mk (below_step (by repeat (first | (with_reducible first | exact HB.out | apply below_alloc | apply pw_below_drewN | apply below_drew1 | refine below_set ?_ GE270.out) | exact HB.out)) hb); clear BK270; clear HB; have BK270 := n0_; have HB := n1_; clear n0_ n1_; (try clear hb); (try clear hb2); (try clear hk); (try clear hi)))
        go_meet
        case rel => exact ⟨_, (true), (by first | rfl | (simp; done) | (simp [*]; done)), H', ⟨by first | omega | exact Nat.le_refl _⟩, ⟨by (with_reducible repeat (first | refine blk_drewN ?_ _ | refine blk_drew ?_ | refine blk_alloc ?_ _)); exact BK270.out⟩, ⟨by repeat (first | (with_reducible first | exact HB.out | apply below_alloc | apply pw_below_drewN | apply below_drew1 | refine below_set ?_ GE270.out) | exact HB.out)⟩⟩
    · replace c5 := Bool.eq_false_iff.mpr c5
      subst c5
      have H1 : (threshinglaw13_ValueOrder.j0 k true a0_0 a0_1 a0_2 a0_3 a0_4 a0_5 a0_6 a0_7 a0_8) = some r := by rw [if_neg (show ¬ (false = true) by decide)] at H; exact H
      clear H
      have H := H1
      clear H1
      have H' := Aside0.mk H
      clear H
      have hcz19_0 : w3.cell? ⟨gb270, 0, none⟩ = some (.bool a0_0) := (blk_cell BK270.out 0).trans rfl
      have hcz19_1 : w3.cell? ⟨gb270, 1, none⟩ = some (.int .i64 a0_1) := (blk_cell BK270.out 1).trans rfl
      have hcz19_2 : w3.cell? ⟨gb270, 2, none⟩ = some (.string a0_2) := (blk_cell BK270.out 2).trans rfl
      have hcz19_3 : w3.cell? ⟨gb270, 3, none⟩ = some (.bool a0_3) := (blk_cell BK270.out 3).trans rfl
      have hcz19_4 : w3.cell? ⟨gb270, 4, none⟩ = some (.int .i64 a0_4) := (blk_cell BK270.out 4).trans rfl
      have hcz19_5 : w3.cell? ⟨gb270, 5, none⟩ = some (.string a0_5) := (blk_cell BK270.out 5).trans rfl
      have hcz19_6 : w3.cell? ⟨gb270, 6, none⟩ = some (.bool a0_6) := (blk_cell BK270.out 6).trans rfl
      have hcz19_7 : w3.cell? ⟨gb270, 7, none⟩ = some (.int .i64 a0_7) := (blk_cell BK270.out 7).trans rfl
      have hcz19_8 : w3.cell? ⟨gb270, 8, none⟩ = some (.string a0_8) := (blk_cell BK270.out 8).trans rfl
      have hfz19_0 := blk_frozen BK270.out 0
      have hfz19_1 := blk_frozen BK270.out 1
      have hfz19_2 := blk_frozen BK270.out 2
      have hfz19_3 := blk_frozen BK270.out 3
      have hfz19_4 := blk_frozen BK270.out 4
      have hfz19_5 := blk_frozen BK270.out 5
      have hfz19_6 := blk_frozen BK270.out 6
      have hfz19_7 := blk_frozen BK270.out 7
      have hfz19_8 := blk_frozen BK270.out 8
      go_wp2_with (first | ((with_reducible refine gate_callee (f := 24) rfl ?_); refine goesL_ (some 10) rfl rfl Tryd.func24 (by kernel_rfl) rfl #[.agg #[.bool a0_0, .int .i64 a0_1, .string a0_2]] rfl (by (try simp only [List.map_toArray, List.map_cons, List.map_nil]); first | done | rfl | (simp only [List.length_drop, List.length_take]; rfl)) ?_; (with_reducible refine (threshingref13_Is.calls a0_0 a0_1 a0_2 false _ (Tabs.below hT (by first | exact Below.refl _ _ | exact pw_below_drewN (Below.refl _ _) _ | exact (by repeat (first | (with_reducible first | exact HB.out | apply below_alloc | apply pw_below_drewN | apply below_drew1 | refine below_set ?_ GE270.out) | exact HB.out)))) A4.out).mono ?_); rintro e w20 ⟨rfl, hb⟩; refine ⟨_, rfl, ?_⟩; have n0_ := Aside0.mk (blk_below (g := gb270) (o := .cells #[.bool a0_0, .int .i64 a0_1, .string a0_2, .bool a0_3, .int .i64 a0_4, .string a0_5, .bool a0_6, .int .i64 a0_7, .string a0_8] 51 (0, 0)) (by (with_reducible repeat (first | refine blk_drewN ?_ _ | refine blk_drew ?_ | refine blk_alloc ?_ _)); exact BK270.out) hb); have n1_ := Aside0.mk (below_step (by repeat (first | (with_reducible first | exact HB.out | apply below_alloc | apply pw_below_drewN | apply below_drew1 | refine below_set ?_ GE270.out) | exact HB.out)) hb); clear BK270; clear HB; have BK270 := n0_; have HB := n1_; clear n0_ n1_; (try clear hb); (try clear hb2); (try clear hk); (try clear hi)))
      go_meet
      case rel => exact ⟨_, (true), (by first | rfl | (simp; done) | (simp [*]; done)), H', ⟨by first | omega | exact Nat.le_refl _⟩, ⟨by (with_reducible repeat (first | refine blk_drewN ?_ _ | refine blk_drew ?_ | refine blk_alloc ?_ _)); exact BK270.out⟩, ⟨by repeat (first | (with_reducible first | exact HB.out | apply below_alloc | apply pw_below_drewN | apply below_drew1 | refine below_set ?_ GE270.out) | exact HB.out)⟩⟩
  case rest =>
    clear HC2
    try clear c2
    try clear p2
    try clear c5
    try clear c6
    try clear c7
    try clear hcz11_0
    try clear hcz11_1
    try clear hcz11_2
    try clear hcz11_3
    try clear hcz11_4
    try clear hcz11_5
    try clear hcz11_6
    try clear hcz11_7
    try clear hcz11_8
    try clear hcz13_0
    try clear hcz13_1
    try clear hcz13_2
    try clear hcz13_3
    try clear hcz13_4
    try clear hcz13_5
    try clear hcz13_6
    try clear hcz13_7
    try clear hcz13_8
    try clear hcz15_0
    try clear hcz15_1
    try clear hcz15_2
    try clear hcz15_3
    try clear hcz15_4
    try clear hcz15_5
    try clear hcz15_6
    try clear hcz15_7
    try clear hcz15_8
    try clear hcz17_0
    try clear hcz17_1
    try clear hcz17_2
    try clear hcz17_3
    try clear hcz17_4
    try clear hcz17_5
    try clear hcz17_6
    try clear hcz17_7
    try clear hcz17_8
    try clear hcz19_0
    try clear hcz19_1
    try clear hcz19_2
    try clear hcz19_3
    try clear hcz19_4
    try clear hcz19_5
    try clear hcz19_6
    try clear hcz19_7
    try clear hcz19_8
    try clear hcz9_0
    try clear hcz9_1
    try clear hcz9_2
    try clear hcz9_3
    try clear hcz9_4
    try clear hcz9_5
    try clear hcz9_6
    try clear hcz9_7
    try clear hcz9_8
    try clear hfz11_0
    try clear hfz11_1
    try clear hfz11_2
    try clear hfz11_3
    try clear hfz11_4
    try clear hfz11_5
    try clear hfz11_6
    try clear hfz11_7
    try clear hfz11_8
    try clear hfz13_0
    try clear hfz13_1
    try clear hfz13_2
    try clear hfz13_3
    try clear hfz13_4
    try clear hfz13_5
    try clear hfz13_6
    try clear hfz13_7
    try clear hfz13_8
    try clear hfz15_0
    try clear hfz15_1
    try clear hfz15_2
    try clear hfz15_3
    try clear hfz15_4
    try clear hfz15_5
    try clear hfz15_6
    try clear hfz15_7
    try clear hfz15_8
    try clear hfz17_0
    try clear hfz17_1
    try clear hfz17_2
    try clear hfz17_3
    try clear hfz17_4
    try clear hfz17_5
    try clear hfz17_6
    try clear hfz17_7
    try clear hfz17_8
    try clear hfz19_0
    try clear hfz19_1
    try clear hfz19_2
    try clear hfz19_3
    try clear hfz19_4
    try clear hfz19_5
    try clear hfz19_6
    try clear hfz19_7
    try clear hfz19_8
    try clear hfz9_0
    try clear hfz9_1
    try clear hfz9_2
    try clear hfz9_3
    try clear hfz9_4
    try clear hfz9_5
    try clear hfz9_6
    try clear hfz9_7
    try clear hfz9_8
    obtain ⟨kq, x23_1, rfl, HA, HJ1, BK270, HB⟩ := hcut
    cases kq with
    | zero => exact absurd HA.out (by simp [threshinglaw13_ValueOrder.j0])
    | succ kj1 =>
      have H := HA.out
      clear HA
      simp only [threshinglaw13_ValueOrder.j0] at H
      by_cases c21 : x23_1 = true
      · subst c21
        have H1 : ((threshinglaw13_alive.f kj1).bind fun t274 => (some t274)) = some r := by rw [if_pos rfl] at H; exact H
        clear H
        have H := H1
        clear H1
        replace H := Option.bind_eq_some_iff.mp H
        obtain ⟨t274, A220, H⟩ := H
        replace H : (some t274) = some r := H
        have A22 := Aside0.mk A220
        clear A220
        obtain rfl := Option.some.inj H
        go_wp2_with (first | ((with_reducible refine gate_callee (f := 22) rfl ?_); refine goesL_ (some 24) rfl rfl Tryd.func22 (by kernel_rfl) rfl #[] rfl (by (try simp only [List.map_toArray, List.map_cons, List.map_nil]); first | done | rfl | (simp only [List.length_drop, List.length_take]; rfl)) ?_; (with_reducible refine (threshinglaw13_alive.calls kj1  t274 _ (Tabs.below hT (by first | exact Below.refl _ _ | exact pw_below_drewN (Below.refl _ _) _ | exact (by repeat (first | (with_reducible first | exact HB.out | apply below_alloc | apply pw_below_drewN | apply below_drew1 | refine below_set ?_ GE270.out) | exact HB.out)))) A22.out).mono ?_); rintro e w23 ⟨rfl, hb⟩; refine ⟨_, rfl, ?_⟩; have n0_ := Aside0.mk (blk_below (g := gb270) (o := .cells #[.bool a0_0, .int .i64 a0_1, .string a0_2, .bool a0_3, .int .i64 a0_4, .string a0_5, .bool a0_6, .int .i64 a0_7, .string a0_8] 51 (0, 0)) (by (with_reducible repeat (first | refine blk_drewN ?_ _ | refine blk_drew ?_ | refine blk_alloc ?_ _)); exact BK270.out) hb); have n1_ := Aside0.mk (below_step (by repeat (first | (with_reducible first | exact HB.out | apply below_alloc | apply pw_below_drewN | apply below_drew1 | refine below_set ?_ GE270.out) | exact HB.out)) hb); clear BK270; clear HB; have BK270 := n0_; have HB := n1_; clear n0_ n1_; (try clear hb); (try clear hb2); (try clear hk); (try clear hi)))
        go_ret
        exact ⟨by first | rfl | (simp [errW_none, errW_some] <;> rfl) | (simp [*, errW_none, errW_some] <;> rfl) | (simp only [same_.out]; rfl), by repeat (first | (with_reducible first | exact HB.out | apply below_alloc | apply pw_below_drewN | apply below_drew1 | refine below_set ?_ GE270.out) | exact HB.out)⟩
      · replace c21 := Bool.eq_false_iff.mpr c21
        subst c21
        have H1 : ((value_Compare.f kj1 a0_0 a0_1 a0_2 a0_3 a0_4 a0_5).bind fun t275 => ((value_Compare.f kj1 a0_3 a0_4 a0_5 a0_6 a0_7 a0_8).bind fun t276 => ((value_Compare.f kj1 a0_0 a0_1 a0_2 a0_6 a0_7 a0_8).bind fun t277 => ((value_Compare.f kj1 a0_3 a0_4 a0_5 a0_0 a0_1 a0_2).bind fun t278 => (if t278 = (wrap64 (-t275)) then (if ((t275 == 0) != (a0_0 == a0_3 && (a0_1 == a0_4 && (a0_2.toList == a0_5.toList)))) = true then (threshinglaw13_ValueOrder.j1 kj1 t275 true a0_0 a0_1 a0_2 a0_3 a0_4 a0_5 a0_6 a0_7 a0_8) else (if t275 < 0 then (if t276 < 0 then (threshinglaw13_ValueOrder.j1 kj1 t275 (decide (t277 ≥ 0)) a0_0 a0_1 a0_2 a0_3 a0_4 a0_5 a0_6 a0_7 a0_8) else (threshinglaw13_ValueOrder.j1 kj1 t275 false a0_0 a0_1 a0_2 a0_3 a0_4 a0_5 a0_6 a0_7 a0_8)) else (threshinglaw13_ValueOrder.j1 kj1 t275 false a0_0 a0_1 a0_2 a0_3 a0_4 a0_5 a0_6 a0_7 a0_8))) else (threshinglaw13_ValueOrder.j1 kj1 t275 true a0_0 a0_1 a0_2 a0_3 a0_4 a0_5 a0_6 a0_7 a0_8)))))) = some r := by rw [if_neg (show ¬ (false = true) by decide)] at H; exact H
        clear H
        have H := H1
        clear H1
        replace H := Option.bind_eq_some_iff.mp H
        obtain ⟨t275, A240, H⟩ := H
        replace H : ((value_Compare.f kj1 a0_3 a0_4 a0_5 a0_6 a0_7 a0_8).bind fun t276 => ((value_Compare.f kj1 a0_0 a0_1 a0_2 a0_6 a0_7 a0_8).bind fun t277 => ((value_Compare.f kj1 a0_3 a0_4 a0_5 a0_0 a0_1 a0_2).bind fun t278 => (if t278 = (wrap64 (-t275)) then (if ((t275 == 0) != (a0_0 == a0_3 && (a0_1 == a0_4 && (a0_2.toList == a0_5.toList)))) = true then (threshinglaw13_ValueOrder.j1 kj1 t275 true a0_0 a0_1 a0_2 a0_3 a0_4 a0_5 a0_6 a0_7 a0_8) else (if t275 < 0 then (if t276 < 0 then (threshinglaw13_ValueOrder.j1 kj1 t275 (decide (t277 ≥ 0)) a0_0 a0_1 a0_2 a0_3 a0_4 a0_5 a0_6 a0_7 a0_8) else (threshinglaw13_ValueOrder.j1 kj1 t275 false a0_0 a0_1 a0_2 a0_3 a0_4 a0_5 a0_6 a0_7 a0_8)) else (threshinglaw13_ValueOrder.j1 kj1 t275 false a0_0 a0_1 a0_2 a0_3 a0_4 a0_5 a0_6 a0_7 a0_8))) else (threshinglaw13_ValueOrder.j1 kj1 t275 true a0_0 a0_1 a0_2 a0_3 a0_4 a0_5 a0_6 a0_7 a0_8))))) = some r := H
        have A24 := Aside0.mk A240
        clear A240
        replace H := Option.bind_eq_some_iff.mp H
        obtain ⟨t276, A250, H⟩ := H
        replace H : ((value_Compare.f kj1 a0_0 a0_1 a0_2 a0_6 a0_7 a0_8).bind fun t277 => ((value_Compare.f kj1 a0_3 a0_4 a0_5 a0_0 a0_1 a0_2).bind fun t278 => (if t278 = (wrap64 (-t275)) then (if ((t275 == 0) != (a0_0 == a0_3 && (a0_1 == a0_4 && (a0_2.toList == a0_5.toList)))) = true then (threshinglaw13_ValueOrder.j1 kj1 t275 true a0_0 a0_1 a0_2 a0_3 a0_4 a0_5 a0_6 a0_7 a0_8) else (if t275 < 0 then (if t276 < 0 then (threshinglaw13_ValueOrder.j1 kj1 t275 (decide (t277 ≥ 0)) a0_0 a0_1 a0_2 a0_3 a0_4 a0_5 a0_6 a0_7 a0_8) else (threshinglaw13_ValueOrder.j1 kj1 t275 false a0_0 a0_1 a0_2 a0_3 a0_4 a0_5 a0_6 a0_7 a0_8)) else (threshinglaw13_ValueOrder.j1 kj1 t275 false a0_0 a0_1 a0_2 a0_3 a0_4 a0_5 a0_6 a0_7 a0_8))) else (threshinglaw13_ValueOrder.j1 kj1 t275 true a0_0 a0_1 a0_2 a0_3 a0_4 a0_5 a0_6 a0_7 a0_8)))) = some r := H
        have A25 := Aside0.mk A250
        clear A250
        replace H := Option.bind_eq_some_iff.mp H
        obtain ⟨t277, A260, H⟩ := H
        replace H : ((value_Compare.f kj1 a0_3 a0_4 a0_5 a0_0 a0_1 a0_2).bind fun t278 => (if t278 = (wrap64 (-t275)) then (if ((t275 == 0) != (a0_0 == a0_3 && (a0_1 == a0_4 && (a0_2.toList == a0_5.toList)))) = true then (threshinglaw13_ValueOrder.j1 kj1 t275 true a0_0 a0_1 a0_2 a0_3 a0_4 a0_5 a0_6 a0_7 a0_8) else (if t275 < 0 then (if t276 < 0 then (threshinglaw13_ValueOrder.j1 kj1 t275 (decide (t277 ≥ 0)) a0_0 a0_1 a0_2 a0_3 a0_4 a0_5 a0_6 a0_7 a0_8) else (threshinglaw13_ValueOrder.j1 kj1 t275 false a0_0 a0_1 a0_2 a0_3 a0_4 a0_5 a0_6 a0_7 a0_8)) else (threshinglaw13_ValueOrder.j1 kj1 t275 false a0_0 a0_1 a0_2 a0_3 a0_4 a0_5 a0_6 a0_7 a0_8))) else (threshinglaw13_ValueOrder.j1 kj1 t275 true a0_0 a0_1 a0_2 a0_3 a0_4 a0_5 a0_6 a0_7 a0_8))) = some r := H
        have A26 := Aside0.mk A260
        clear A260
        have HC27 := Aside0.mk H
        clear H
        try go_wp2
        have n0_ := Aside0.mk (blk_drew BK270.out)
        have n1_ := Aside0.mk (below_drew1 HB.out)
        clear BK270
        clear HB
        have BK270 := n0_
        have HB := n1_
        clear n0_ n1_
        refine start_ (n := 18) (S := fun w' => w'.cell? ⟨gb270, 0, none⟩ = some (.bool a0_0) ∧ w'.cell? ⟨gb270, 1, none⟩ = some (.int .i64 a0_1) ∧ w'.cell? ⟨gb270, 2, none⟩ = some (.string a0_2) ∧ w'.cell? ⟨gb270, 3, none⟩ = some (.bool a0_3) ∧ w'.cell? ⟨gb270, 4, none⟩ = some (.int .i64 a0_4) ∧ w'.cell? ⟨gb270, 5, none⟩ = some (.string a0_5) ∧ w'.cell? ⟨gb270, 6, none⟩ = some (.bool a0_6) ∧ w'.cell? ⟨gb270, 7, none⟩ = some (.int .i64 a0_7) ∧ w'.cell? ⟨gb270, 8, none⟩ = some (.string a0_8)) (ds := []) #[false, false, false, false, false, false, false, false, false, false, false, false, false, false, false, false, false, false] (by kernel_rfl) rfl rfl ⟨(blk_cell BK270.out 0).trans rfl, (blk_cell BK270.out 1).trans rfl, (blk_cell BK270.out 2).trans rfl, (blk_cell BK270.out 3).trans rfl, (blk_cell BK270.out 4).trans rfl, (blk_cell BK270.out 5).trans rfl, (blk_cell BK270.out 6).trans rfl, (blk_cell BK270.out 7).trans rfl, (blk_cell BK270.out 8).trans rfl⟩ (fun hHeld => ?_); refine with_tabW threshinglaw13_ValueOrder.tab3 threshinglaw13_ValueOrder.bits3 (fun HT_ HW_ => ?_)
        generalize wc.drew = w28 at BK270 HB hHeld ⊢
        refine pure_ (i := 0) (N := some 25) (v := ?_) (a' := ?_) #[true, false, false, false, false, false, false, false, false, false, false, false, false, false, false, false, false, false] rfl rfl (any_of HT_.out (by kernel_rfl)) (fun _ _ _ h => h) (Or.inl ⟨by rfl, ?_⟩) ?_ ?_
        rotate_left
        · intro w'
          go_simp
          with_reducible rfl
        rotate_left
        · simp only [Act.put, List.setIfInBounds_toArray, List.set_cons_zero, List.set_cons_succ, i64_w, i32_w]
          rfl
        refine pure_ (i := 2) (N := some 27) (v := ?_) (a' := ?_) #[true, false, true, false, false, false, false, false, false, false, false, false, false, false, false, false, false, false] rfl rfl (any_of HT_.out (by kernel_rfl)) (fun _ _ _ h => h) (Or.inl ⟨by rfl, ?_⟩) ?_ ?_
        rotate_left
        · intro w'
          go_simp
          with_reducible rfl
        rotate_left
        · simp only [Act.put, List.setIfInBounds_toArray, List.set_cons_zero, List.set_cons_succ, i64_w, i32_w]
          rfl
        refine pure_ (i := 5) (N := some 30) (v := ?_) (a' := ?_) #[true, false, true, false, false, true, false, false, false, false, false, false, false, false, false, false, false, false] rfl rfl (any_of HT_.out (by kernel_rfl)) (fun _ _ _ h => h) (Or.inl ⟨by rfl, ?_⟩) ?_ ?_
        rotate_left
        · intro w'
          go_simp
          with_reducible rfl
        rotate_left
        · simp only [Act.put, List.setIfInBounds_toArray, List.set_cons_zero, List.set_cons_succ, i64_w, i32_w]
          rfl
        refine pure_ (i := 7) (N := some 32) (v := ?_) (a' := ?_) #[true, false, true, false, false, true, false, true, false, false, false, false, false, false, false, false, false, false] rfl rfl (any_of HT_.out (by kernel_rfl)) (fun _ _ _ h => h) (Or.inl ⟨by rfl, ?_⟩) ?_ ?_
        rotate_left
        · intro w'
          go_simp
          with_reducible rfl
        rotate_left
        · simp only [Act.put, List.setIfInBounds_toArray, List.set_cons_zero, List.set_cons_succ, i64_w, i32_w]
          rfl
        refine pure_ (i := 10) (N := some 35) (v := ?_) (a' := ?_) #[true, false, true, false, false, true, false, true, false, false, true, false, false, false, false, false, false, false] rfl rfl (any_of HT_.out (by kernel_rfl)) (fun _ _ _ h => h) (Or.inl ⟨by rfl, ?_⟩) ?_ ?_
        rotate_left
        · intro w'
          go_simp
          with_reducible rfl
        rotate_left
        · simp only [Act.put, List.setIfInBounds_toArray, List.set_cons_zero, List.set_cons_succ, i64_w, i32_w]
          rfl
        refine pure_ (i := 12) (N := some 37) (v := ?_) (a' := ?_) #[true, false, true, false, false, true, false, true, false, false, true, false, true, false, false, false, false, false] rfl rfl (any_of HT_.out (by kernel_rfl)) (fun _ _ _ h => h) (Or.inl ⟨by rfl, ?_⟩) ?_ ?_
        rotate_left
        · intro w'
          go_simp
          with_reducible rfl
        rotate_left
        · simp only [Act.put, List.setIfInBounds_toArray, List.set_cons_zero, List.set_cons_succ, i64_w, i32_w]
          rfl
        refine take_ (i := 1) (N := some 26) (v := ?_) (a' := ?_) #[true, true, true, false, false, true, false, true, false, false, true, false, true, false, false, false, false, false] rfl rfl (take_ofW HT_.out HW_.out (by kernel_rfl)) (fun _ _ _ h => h) (Or.inl ⟨by rfl, ?_⟩) hHeld ?_ ?_
        rotate_left
        · rintro w' ⟨s0, s1, s2, s3, s4, s5, s6, s7, s8⟩
          go_simp
          with_reducible rfl
        rotate_left
        · simp only [Act.put, List.setIfInBounds_toArray, List.set_cons_zero, List.set_cons_succ, i64_w, i32_w]
          rfl
        refine take_ (i := 3) (N := some 28) (v := ?_) (a' := ?_) #[true, true, true, true, false, true, false, true, false, false, true, false, true, false, false, false, false, false] rfl rfl (take_ofW HT_.out HW_.out (by kernel_rfl)) (fun _ _ _ h => h) (Or.inl ⟨by rfl, ?_⟩) hHeld ?_ ?_
        rotate_left
        · rintro w' ⟨s0, s1, s2, s3, s4, s5, s6, s7, s8⟩
          go_simp
          with_reducible rfl
        rotate_left
        · simp only [Act.put, List.setIfInBounds_toArray, List.set_cons_zero, List.set_cons_succ, i64_w, i32_w]
          rfl
        refine take_ (i := 6) (N := some 31) (v := ?_) (a' := ?_) #[true, true, true, true, false, true, true, true, false, false, true, false, true, false, false, false, false, false] rfl rfl (take_ofW HT_.out HW_.out (by kernel_rfl)) (fun _ _ _ h => h) (Or.inl ⟨by rfl, ?_⟩) hHeld ?_ ?_
        rotate_left
        · rintro w' ⟨s0, s1, s2, s3, s4, s5, s6, s7, s8⟩
          go_simp
          with_reducible rfl
        rotate_left
        · simp only [Act.put, List.setIfInBounds_toArray, List.set_cons_zero, List.set_cons_succ, i64_w, i32_w]
          rfl
        refine take_ (i := 8) (N := some 33) (v := ?_) (a' := ?_) #[true, true, true, true, false, true, true, true, true, false, true, false, true, false, false, false, false, false] rfl rfl (take_ofW HT_.out HW_.out (by kernel_rfl)) (fun _ _ _ h => h) (Or.inl ⟨by rfl, ?_⟩) hHeld ?_ ?_
        rotate_left
        · rintro w' ⟨s0, s1, s2, s3, s4, s5, s6, s7, s8⟩
          go_simp
          with_reducible rfl
        rotate_left
        · simp only [Act.put, List.setIfInBounds_toArray, List.set_cons_zero, List.set_cons_succ, i64_w, i32_w]
          rfl
        refine take_ (i := 11) (N := some 36) (v := ?_) (a' := ?_) #[true, true, true, true, false, true, true, true, true, false, true, true, true, false, false, false, false, false] rfl rfl (take_ofW HT_.out HW_.out (by kernel_rfl)) (fun _ _ _ h => h) (Or.inl ⟨by rfl, ?_⟩) hHeld ?_ ?_
        rotate_left
        · rintro w' ⟨s0, s1, s2, s3, s4, s5, s6, s7, s8⟩
          go_simp
          with_reducible rfl
        rotate_left
        · simp only [Act.put, List.setIfInBounds_toArray, List.set_cons_zero, List.set_cons_succ, i64_w, i32_w]
          rfl
        refine take_ (i := 13) (N := some 38) (v := ?_) (a' := ?_) #[true, true, true, true, false, true, true, true, true, false, true, true, true, true, false, false, false, false] rfl rfl (take_ofW HT_.out HW_.out (by kernel_rfl)) (fun _ _ _ h => h) (Or.inl ⟨by rfl, ?_⟩) hHeld ?_ ?_
        rotate_left
        · rintro w' ⟨s0, s1, s2, s3, s4, s5, s6, s7, s8⟩
          go_simp
          with_reducible rfl
        rotate_left
        · simp only [Act.put, List.setIfInBounds_toArray, List.set_cons_zero, List.set_cons_succ, i64_w, i32_w]
          rfl
        refine one_ (i := 4) (N := some 29) #[true, true, true, true, true, true, true, true, true, false, true, true, true, true, false, false, false, false] rfl rfl (one_of HT_.out (by kernel_rfl)) (by decide) (fun K hK => ?_)
        refine goes_ Tryd.func25 (by kernel_rfl) rfl #[.agg #[.bool a0_0, .int .i64 a0_1, .string a0_2], .agg #[.bool a0_3, .int .i64 a0_4, .string a0_5]] (by rfl) rfl rfl (by (try simp only [List.map_toArray, List.map_cons, List.map_nil]); first | done | rfl | (simp only [List.length_drop, List.length_take]; rfl)) ?_
        with_reducible refine (value_Compare.calls kj1 a0_0 a0_1 a0_2 a0_3 a0_4 a0_5 t275 _ (Tabs.below hT (by first | exact Below.refl _ _ | exact pw_below_drewN (Below.refl _ _) _ | exact (by repeat (first | (with_reducible first | exact HB.out | apply below_alloc | apply pw_below_drewN | apply below_drew1 | refine below_set ?_ GE270.out) | exact HB.out)))) A24.out).mono ?_
        rintro e w29 ⟨rfl, hb⟩
        refine ⟨_, rfl, ?_⟩
        have n0_ := Aside0.mk (blk_below (g := gb270) (o := .cells #[.bool a0_0, .int .i64 a0_1, .string a0_2, .bool a0_3, .int .i64 a0_4, .string a0_5, .bool a0_6, .int .i64 a0_7, .string a0_8] 51 (0, 0)) (by (with_reducible repeat (first | refine blk_drewN ?_ _ | refine blk_drew ?_ | refine blk_alloc ?_ _)); exact BK270.out) hb)
        have n1_ := Aside0.mk (below_step (by repeat (first | (with_reducible first | exact HB.out | apply below_alloc | apply pw_below_drewN | apply below_drew1 | refine below_set ?_ GE270.out) | exact HB.out)) hb)
        clear BK270
        clear HB
        have BK270 := n0_
        have HB := n1_
        clear n0_ n1_
        (try clear hb)
        (try clear hb2)
        (try clear hk)
        (try clear hi)
        refine hK.out _ _ ⟨(blk_cell BK270.out 0).trans rfl, (blk_cell BK270.out 1).trans rfl, (blk_cell BK270.out 2).trans rfl, (blk_cell BK270.out 3).trans rfl, (blk_cell BK270.out 4).trans rfl, (blk_cell BK270.out 5).trans rfl, (blk_cell BK270.out 6).trans rfl, (blk_cell BK270.out 7).trans rfl, (blk_cell BK270.out 8).trans rfl⟩ (fun hHeld => ?_)
        clear hK K
        refine norm_ (a' := ?_) ?_ ?_
        rotate_left
        · show Act.put _ (some 29) _ = _
          simp only [Act.put, List.setIfInBounds_toArray, List.set_cons_zero, List.set_cons_succ, i64_w, i32_w]
          rfl
        refine one_ (i := 9) (N := some 34) #[true, true, true, true, true, true, true, true, true, true, true, true, true, true, false, false, false, false] rfl rfl (one_of HT_.out (by kernel_rfl)) (by decide) (fun K hK => ?_)
        refine goes_ Tryd.func25 (by kernel_rfl) rfl #[.agg #[.bool a0_3, .int .i64 a0_4, .string a0_5], .agg #[.bool a0_6, .int .i64 a0_7, .string a0_8]] (by rfl) rfl rfl (by (try simp only [List.map_toArray, List.map_cons, List.map_nil]); first | done | rfl | (simp only [List.length_drop, List.length_take]; rfl)) ?_
        with_reducible refine (value_Compare.calls kj1 a0_3 a0_4 a0_5 a0_6 a0_7 a0_8 t276 _ (Tabs.below hT (by first | exact Below.refl _ _ | exact pw_below_drewN (Below.refl _ _) _ | exact (by repeat (first | (with_reducible first | exact HB.out | apply below_alloc | apply pw_below_drewN | apply below_drew1 | refine below_set ?_ GE270.out) | exact HB.out)))) A25.out).mono ?_
        rintro e w30 ⟨rfl, hb⟩
        refine ⟨_, rfl, ?_⟩
        have n0_ := Aside0.mk (blk_below (g := gb270) (o := .cells #[.bool a0_0, .int .i64 a0_1, .string a0_2, .bool a0_3, .int .i64 a0_4, .string a0_5, .bool a0_6, .int .i64 a0_7, .string a0_8] 51 (0, 0)) (by (with_reducible repeat (first | refine blk_drewN ?_ _ | refine blk_drew ?_ | refine blk_alloc ?_ _)); exact BK270.out) hb)
        have n1_ := Aside0.mk (below_step (by repeat (first | (with_reducible first | exact HB.out | apply below_alloc | apply pw_below_drewN | apply below_drew1 | refine below_set ?_ GE270.out) | exact HB.out)) hb)
        clear BK270
        clear HB
        have BK270 := n0_
        have HB := n1_
        clear n0_ n1_
        (try clear hb)
        (try clear hb2)
        (try clear hk)
        (try clear hi)
        refine hK.out _ _ ⟨(blk_cell BK270.out 0).trans rfl, (blk_cell BK270.out 1).trans rfl, (blk_cell BK270.out 2).trans rfl, (blk_cell BK270.out 3).trans rfl, (blk_cell BK270.out 4).trans rfl, (blk_cell BK270.out 5).trans rfl, (blk_cell BK270.out 6).trans rfl, (blk_cell BK270.out 7).trans rfl, (blk_cell BK270.out 8).trans rfl⟩ (fun hHeld => ?_)
        clear hK K
        refine norm_ (a' := ?_) ?_ ?_
        rotate_left
        · show Act.put _ (some 34) _ = _
          simp only [Act.put, List.setIfInBounds_toArray, List.set_cons_zero, List.set_cons_succ, i64_w, i32_w]
          rfl
        refine one_ (i := 14) (N := some 39) #[true, true, true, true, true, true, true, true, true, true, true, true, true, true, true, false, false, false] rfl rfl (one_of HT_.out (by kernel_rfl)) (by decide) (fun K hK => ?_)
        refine goes_ Tryd.func25 (by kernel_rfl) rfl #[.agg #[.bool a0_0, .int .i64 a0_1, .string a0_2], .agg #[.bool a0_6, .int .i64 a0_7, .string a0_8]] (by rfl) rfl rfl (by (try simp only [List.map_toArray, List.map_cons, List.map_nil]); first | done | rfl | (simp only [List.length_drop, List.length_take]; rfl)) ?_
        with_reducible refine (value_Compare.calls kj1 a0_0 a0_1 a0_2 a0_6 a0_7 a0_8 t277 _ (Tabs.below hT (by first | exact Below.refl _ _ | exact pw_below_drewN (Below.refl _ _) _ | exact (by repeat (first | (with_reducible first | exact HB.out | apply below_alloc | apply pw_below_drewN | apply below_drew1 | refine below_set ?_ GE270.out) | exact HB.out)))) A26.out).mono ?_
        rintro e w31 ⟨rfl, hb⟩
        refine ⟨_, rfl, ?_⟩
        have n0_ := Aside0.mk (blk_below (g := gb270) (o := .cells #[.bool a0_0, .int .i64 a0_1, .string a0_2, .bool a0_3, .int .i64 a0_4, .string a0_5, .bool a0_6, .int .i64 a0_7, .string a0_8] 51 (0, 0)) (by (with_reducible repeat (first | refine blk_drewN ?_ _ | refine blk_drew ?_ | refine blk_alloc ?_ _)); exact BK270.out) hb)
        have n1_ := Aside0.mk (below_step (by repeat (first | (with_reducible first | exact HB.out | apply below_alloc | apply pw_below_drewN | apply below_drew1 | refine below_set ?_ GE270.out) | exact HB.out)) hb)
        clear BK270
        clear HB
        have BK270 := n0_
        have HB := n1_
        clear n0_ n1_
        (try clear hb)
        (try clear hb2)
        (try clear hk)
        (try clear hi)
        refine hK.out _ _ ⟨(blk_cell BK270.out 0).trans rfl, (blk_cell BK270.out 1).trans rfl, (blk_cell BK270.out 2).trans rfl, (blk_cell BK270.out 3).trans rfl, (blk_cell BK270.out 4).trans rfl, (blk_cell BK270.out 5).trans rfl, (blk_cell BK270.out 6).trans rfl, (blk_cell BK270.out 7).trans rfl, (blk_cell BK270.out 8).trans rfl⟩ (fun hHeld => ?_)
        clear hK K
        refine norm_ (a' := ?_) ?_ ?_
        rotate_left
        · show Act.put _ (some 39) _ = _
          simp only [Act.put, List.setIfInBounds_toArray, List.set_cons_zero, List.set_cons_succ, i64_w, i32_w]
          rfl
        refine pure_ (i := 15) (N := some 3) (v := ?_) (a' := ?_) #[true, true, true, true, true, true, true, true, true, true, true, true, true, true, true, true, false, false] rfl rfl (any_of HT_.out (by kernel_rfl)) (fun _ _ _ h => h) (Or.inl ⟨by rfl, ?_⟩) ?_ ?_
        rotate_left
        · intro w'
          go_simp
          with_reducible rfl
        rotate_left
        · simp only [Act.put, List.setIfInBounds_toArray, List.set_cons_zero, List.set_cons_succ, i64_w, i32_w]
          rfl
        refine pure_ (i := 16) (N := some 4) (v := ?_) (a' := ?_) #[true, true, true, true, true, true, true, true, true, true, true, true, true, true, true, true, true, false] rfl rfl (any_of HT_.out (by kernel_rfl)) (fun _ _ _ h => h) (Or.inl ⟨by rfl, ?_⟩) ?_ ?_
        rotate_left
        · intro w'
          go_simp
          with_reducible rfl
        rotate_left
        · simp only [Act.put, List.setIfInBounds_toArray, List.set_cons_zero, List.set_cons_succ, i64_w, i32_w]
          rfl
        refine pure_ (i := 17) (N := some 5) (v := ?_) (a' := ?_) #[true, true, true, true, true, true, true, true, true, true, true, true, true, true, true, true, true, true] rfl rfl (any_of HT_.out (by kernel_rfl)) (fun _ _ _ h => h) (Or.inl ⟨by rfl, ?_⟩) ?_ ?_
        rotate_left
        · intro w'
          go_simp
          with_reducible rfl
        rotate_left
        · simp only [Act.put, List.setIfInBounds_toArray, List.set_cons_zero, List.set_cons_succ, i64_w, i32_w]
          rfl
        refine done_ (done_of HT_.out (by kernel_rfl)) ?_
        go_upto_region 4 with (fail)
        go_cut [69] (fun v69 wc => ∃ (kq : Nat) (x69_26 : Bool), v69 = .bool x69_26 ∧ Aside0 (threshinglaw13_ValueOrder.j1 kq t275 x69_26 a0_0 a0_1 a0_2 a0_3 a0_4 a0_5 a0_6 a0_7 a0_8 = some r) ∧ Aside0 (kq ≤ kj1) ∧ Aside0 (wc.heap[gb270]? = some (.cells #[.bool a0_0, .int .i64 a0_1, .string a0_2, .bool a0_3, .int .i64 a0_4, .string a0_5, .bool a0_6, .int .i64 a0_7, .string a0_8] 51 (0, 0))) ∧ Aside0 (Below w.heap.size w wc))
        case first =>
          have H := HC27.out
          clear HC27
          replace H := Option.bind_eq_some_iff.mp H
          obtain ⟨t278, A320, H⟩ := H
          replace H : (if t278 = (wrap64 (-t275)) then (if ((t275 == 0) != (a0_0 == a0_3 && (a0_1 == a0_4 && (a0_2.toList == a0_5.toList)))) = true then (threshinglaw13_ValueOrder.j1 kj1 t275 true a0_0 a0_1 a0_2 a0_3 a0_4 a0_5 a0_6 a0_7 a0_8) else (if t275 < 0 then (if t276 < 0 then (threshinglaw13_ValueOrder.j1 kj1 t275 (decide (t277 ≥ 0)) a0_0 a0_1 a0_2 a0_3 a0_4 a0_5 a0_6 a0_7 a0_8) else (threshinglaw13_ValueOrder.j1 kj1 t275 false a0_0 a0_1 a0_2 a0_3 a0_4 a0_5 a0_6 a0_7 a0_8)) else (threshinglaw13_ValueOrder.j1 kj1 t275 false a0_0 a0_1 a0_2 a0_3 a0_4 a0_5 a0_6 a0_7 a0_8))) else (threshinglaw13_ValueOrder.j1 kj1 t275 true a0_0 a0_1 a0_2 a0_3 a0_4 a0_5 a0_6 a0_7 a0_8)) = some r := H
          have A32 := Aside0.mk A320
          clear A320
          by_cases c33 : t278 = (wrap64 (-t275))
          · rw [if_pos c33] at H
            have c33b0 : (t278 == (wrap64 (-t275))) = true := beq_iff_eq.mpr c33
            have c33b1 : (t278 != (wrap64 (-t275))) = false := bne_eq_false_iff_eq.mpr c33
            clear c33
            (first | rw [c33b0] | (simp only [i64_w, i32_w]; rw [c33b0]) | skip)
            by_cases c34 : ((t275 == 0) != (a0_0 == a0_3 && (a0_1 == a0_4 && (a0_2.toList == a0_5.toList)))) = true
            · rw [if_pos c34] at H
              have c34b0 : ((t275 == 0) != (a0_0 == a0_3 && (a0_1 == a0_4 && (a0_2.toList == a0_5.toList)))) = true := c34
              (try (have c34b1 : decide ((t275 == 0) = (a0_0 == a0_3 && (a0_1 == a0_4 && (a0_2.toList == a0_5.toList)))) = false := by simpa using c34))
              (try (have c34b2 : ((t275 == 0) == (a0_0 == a0_3 && (a0_1 == a0_4 && (a0_2.toList == a0_5.toList)))) = false := by simpa using c34))
              (try (have c34b3 : ¬ ((t275 == 0) = (a0_0 == a0_3 && (a0_1 == a0_4 && (a0_2.toList == a0_5.toList)))) := by simpa using c34))
              clear c34
              have H' := Aside0.mk H
              clear H
              have hcz35_0 : w31.cell? ⟨gb270, 0, none⟩ = some (.bool a0_0) := (blk_cell BK270.out 0).trans rfl
              have hcz35_1 : w31.cell? ⟨gb270, 1, none⟩ = some (.int .i64 a0_1) := (blk_cell BK270.out 1).trans rfl
              have hcz35_2 : w31.cell? ⟨gb270, 2, none⟩ = some (.string a0_2) := (blk_cell BK270.out 2).trans rfl
              have hcz35_3 : w31.cell? ⟨gb270, 3, none⟩ = some (.bool a0_3) := (blk_cell BK270.out 3).trans rfl
              have hcz35_4 : w31.cell? ⟨gb270, 4, none⟩ = some (.int .i64 a0_4) := (blk_cell BK270.out 4).trans rfl
              have hcz35_5 : w31.cell? ⟨gb270, 5, none⟩ = some (.string a0_5) := (blk_cell BK270.out 5).trans rfl
              have hcz35_6 : w31.cell? ⟨gb270, 6, none⟩ = some (.bool a0_6) := (blk_cell BK270.out 6).trans rfl
              have hcz35_7 : w31.cell? ⟨gb270, 7, none⟩ = some (.int .i64 a0_7) := (blk_cell BK270.out 7).trans rfl
              have hcz35_8 : w31.cell? ⟨gb270, 8, none⟩ = some (.string a0_8) := (blk_cell BK270.out 8).trans rfl
              have hfz35_0 := blk_frozen BK270.out 0
              have hfz35_1 := blk_frozen BK270.out 1
              have hfz35_2 := blk_frozen BK270.out 2
              have hfz35_3 := blk_frozen BK270.out 3
              have hfz35_4 := blk_frozen BK270.out 4
              have hfz35_5 := blk_frozen BK270.out 5
              have hfz35_6 := blk_frozen BK270.out 6
              have hfz35_7 := blk_frozen BK270.out 7
              have hfz35_8 := blk_frozen BK270.out 8
              go_wp2_with (first | ((with_reducible refine gate_callee (f := 25) rfl ?_); refine goesL_ (some 44) rfl rfl Tryd.func25 (by kernel_rfl) rfl #[.agg #[.bool a0_3, .int .i64 a0_4, .string a0_5], .agg #[.bool a0_0, .int .i64 a0_1, .string a0_2]] rfl (by (try simp only [List.map_toArray, List.map_cons, List.map_nil]); first | done | rfl | (simp only [List.length_drop, List.length_take]; rfl)) ?_; (with_reducible refine (value_Compare.calls kj1 a0_3 a0_4 a0_5 a0_0 a0_1 a0_2 t278 _ (Tabs.below hT (by first | exact Below.refl _ _ | exact pw_below_drewN (Below.refl _ _) _ | exact (by repeat (first | (with_reducible first | exact HB.out | apply below_alloc | apply pw_below_drewN | apply below_drew1 | refine below_set ?_ GE270.out) | exact HB.out)))) A32.out).mono ?_); rintro e w36 ⟨rfl, hb⟩; refine ⟨_, rfl, ?_⟩; have n0_ := Aside0.mk (blk_below (g := gb270) (o := .cells #[.bool a0_0, .int .i64 a0_1, .string a0_2, .bool a0_3, .int .i64 a0_4, .string a0_5, .bool a0_6, .int .i64 a0_7, .string a0_8] 51 (0, 0)) (by (with_reducible repeat (first | refine blk_drewN ?_ _ | refine blk_drew ?_ | refine blk_alloc ?_ _)); exact BK270.out) hb); have n1_ := Aside0.mk (below_step (by repeat (first | (with_reducible first | exact HB.out | apply below_alloc | apply pw_below_drewN | apply below_drew1 | refine below_set ?_ GE270.out) | exact HB.out)) hb); clear BK270; clear HB; have BK270 := n0_; have HB := n1_; clear n0_ n1_; (try clear hb); (try clear hb2); (try clear hk); (try clear hi); have hcz37_0 : w36.cell? ⟨gb270, 0, none⟩ = some (.bool a0_0) := (blk_cell BK270.out 0).trans rfl; have hcz37_1 : w36.cell? ⟨gb270, 1, none⟩ = some (.int .i64 a0_1) := (blk_cell BK270.out 1).trans rfl; have hcz37_2 : w36.cell? ⟨gb270, 2, none⟩ = some (.string a0_2) := (blk_cell BK270.out 2).trans rfl; have hcz37_3 : w36.cell? ⟨gb270, 3, none⟩ = some (.bool a0_3) := (blk_cell BK270.out 3).trans rfl; have hcz37_4 : w36.cell? ⟨gb270, 4, none⟩ = some (.int .i64 a0_4) := (blk_cell BK270.out 4).trans rfl; have hcz37_5 : w36.cell? ⟨gb270, 5, none⟩ = some (.string a0_5) := (blk_cell BK270.out 5).trans rfl; have hcz37_6 : w36.cell? ⟨gb270, 6, none⟩ = some (.bool a0_6) := (blk_cell BK270.out 6).trans rfl; have hcz37_7 : w36.cell? ⟨gb270, 7, none⟩ = some (.int .i64 a0_7) := (blk_cell BK270.out 7).trans rfl; have hcz37_8 : w36.cell? ⟨gb270, 8, none⟩ = some (.string a0_8) := (blk_cell BK270.out 8).trans rfl; have hfz37_0 := blk_frozen BK270.out 0; have hfz37_1 := blk_frozen BK270.out 1; have hfz37_2 := blk_frozen BK270.out 2; have hfz37_3 := blk_frozen BK270.out 3; have hfz37_4 := blk_frozen BK270.out 4; have hfz37_5 := blk_frozen BK270.out 5; have hfz37_6 := blk_frozen BK270.out 6; have hfz37_7 := blk_frozen BK270.out 7; have hfz37_8 := blk_frozen BK270.out 8))
              go_meet
              case rel => exact ⟨_, (true), (by first | rfl | (simp; done) | (simp [*]; done)), H', ⟨by have := HJ1.out; first | omega | exact Nat.le_refl _⟩, ⟨by (with_reducible repeat (first | refine blk_drewN ?_ _ | refine blk_drew ?_ | refine blk_alloc ?_ _)); exact BK270.out⟩, ⟨by repeat (first | (with_reducible first | exact HB.out | apply below_alloc | apply pw_below_drewN | apply below_drew1 | refine below_set ?_ GE270.out) | exact HB.out)⟩⟩
            · rw [if_neg c34] at H
              have c34b0 : ((t275 == 0) != (a0_0 == a0_3 && (a0_1 == a0_4 && (a0_2.toList == a0_5.toList)))) = false := by simpa using c34
              (try (have c34b1 : decide ((t275 == 0) = (a0_0 == a0_3 && (a0_1 == a0_4 && (a0_2.toList == a0_5.toList)))) = true := by simpa using c34))
              (try (have c34b2 : ((t275 == 0) == (a0_0 == a0_3 && (a0_1 == a0_4 && (a0_2.toList == a0_5.toList)))) = true := by simpa using c34))
              clear c34
              by_cases c38 : t275 < 0
              · rw [if_pos c38] at H
                have c38b0 : decide (t275 < 0) = true := decide_eq_true c38
                clear c38
                by_cases c39 : t276 < 0
                · rw [if_pos c39] at H
                  have c39b0 : decide (t276 < 0) = true := decide_eq_true c39
                  clear c39
                  have H' := Aside0.mk H
                  clear H
                  have hcz40_0 : w31.cell? ⟨gb270, 0, none⟩ = some (.bool a0_0) := (blk_cell BK270.out 0).trans rfl
                  have hcz40_1 : w31.cell? ⟨gb270, 1, none⟩ = some (.int .i64 a0_1) := (blk_cell BK270.out 1).trans rfl
                  have hcz40_2 : w31.cell? ⟨gb270, 2, none⟩ = some (.string a0_2) := (blk_cell BK270.out 2).trans rfl
                  have hcz40_3 : w31.cell? ⟨gb270, 3, none⟩ = some (.bool a0_3) := (blk_cell BK270.out 3).trans rfl
                  have hcz40_4 : w31.cell? ⟨gb270, 4, none⟩ = some (.int .i64 a0_4) := (blk_cell BK270.out 4).trans rfl
                  have hcz40_5 : w31.cell? ⟨gb270, 5, none⟩ = some (.string a0_5) := (blk_cell BK270.out 5).trans rfl
                  have hcz40_6 : w31.cell? ⟨gb270, 6, none⟩ = some (.bool a0_6) := (blk_cell BK270.out 6).trans rfl
                  have hcz40_7 : w31.cell? ⟨gb270, 7, none⟩ = some (.int .i64 a0_7) := (blk_cell BK270.out 7).trans rfl
                  have hcz40_8 : w31.cell? ⟨gb270, 8, none⟩ = some (.string a0_8) := (blk_cell BK270.out 8).trans rfl
                  have hfz40_0 := blk_frozen BK270.out 0
                  have hfz40_1 := blk_frozen BK270.out 1
                  have hfz40_2 := blk_frozen BK270.out 2
                  have hfz40_3 := blk_frozen BK270.out 3
                  have hfz40_4 := blk_frozen BK270.out 4
                  have hfz40_5 := blk_frozen BK270.out 5
                  have hfz40_6 := blk_frozen BK270.out 6
                  have hfz40_7 := blk_frozen BK270.out 7
                  have hfz40_8 := blk_frozen BK270.out 8
                  go_wp2_with (first | ((with_reducible refine gate_callee (f := 25) rfl ?_); refine goesL_ (some 44) rfl rfl Tryd.func25 (by kernel_rfl) rfl #[.agg #[.bool a0_3, .int .i64 a0_4, .string a0_5], .agg #[.bool a0_0, .int .i64 a0_1, .string a0_2]] rfl (by (try simp only [List.map_toArray, List.map_cons, List.map_nil]); first | done | rfl | (simp only [List.length_drop, List.length_take]; rfl)) ?_; (with_reducible refine (value_Compare.calls kj1 a0_3 a0_4 a0_5 a0_0 a0_1 a0_2 t278 _ (Tabs.below hT (by first | exact Below.refl _ _ | exact pw_below_drewN (Below.refl _ _) _ | exact (by repeat (first | (with_reducible first | exact HB.out | apply below_alloc | apply pw_below_drewN | apply below_drew1 | refine below_set ?_ GE270.out) | exact HB.out)))) A32.out).mono ?_); rintro e w41 ⟨rfl, hb⟩; refine ⟨_, rfl, ?_⟩; have n0_ := Aside0.mk (blk_below (g := gb270) (o := .cells #[.bool a0_0, .int .i64 a0_1, .string a0_2, .bool a0_3, .int .i64 a0_4, .string a0_5, .bool a0_6, .int .i64 a0_7, .string a0_8] 51 (0, 0)) (by (with_reducible repeat (first | refine blk_drewN ?_ _ | refine blk_drew ?_ | refine blk_alloc ?_ _)); exact BK270.out) hb); have n1_ := Aside0.mk (below_step (by repeat (first | (with_reducible first | exact HB.out | apply below_alloc | apply pw_below_drewN | apply below_drew1 | refine below_set ?_ GE270.out) | exact HB.out)) hb); clear BK270; clear HB; have BK270 := n0_; have HB := n1_; clear n0_ n1_; (try clear hb); (try clear hb2); (try clear hk); (try clear hi); have hcz42_0 : w41.cell? ⟨gb270, 0, none⟩ = some (.bool a0_0) := (blk_cell BK270.out 0).trans rfl; have hcz42_1 : w41.cell? ⟨gb270, 1, none⟩ = some (.int .i64 a0_1) := (blk_cell BK270.out 1).trans rfl; have hcz42_2 : w41.cell? ⟨gb270, 2, none⟩ = some (.string a0_2) := (blk_cell BK270.out 2).trans rfl; have hcz42_3 : w41.cell? ⟨gb270, 3, none⟩ = some (.bool a0_3) := (blk_cell BK270.out 3).trans rfl; have hcz42_4 : w41.cell? ⟨gb270, 4, none⟩ = some (.int .i64 a0_4) := (blk_cell BK270.out 4).trans rfl; have hcz42_5 : w41.cell? ⟨gb270, 5, none⟩ = some (.string a0_5) := (blk_cell BK270.out 5).trans rfl; have hcz42_6 : w41.cell? ⟨gb270, 6, none⟩ = some (.bool a0_6) := (blk_cell BK270.out 6).trans rfl; have hcz42_7 : w41.cell? ⟨gb270, 7, none⟩ = some (.int .i64 a0_7) := (blk_cell BK270.out 7).trans rfl; have hcz42_8 : w41.cell? ⟨gb270, 8, none⟩ = some (.string a0_8) := (blk_cell BK270.out 8).trans rfl; have hfz42_0 := blk_frozen BK270.out 0; have hfz42_1 := blk_frozen BK270.out 1; have hfz42_2 := blk_frozen BK270.out 2; have hfz42_3 := blk_frozen BK270.out 3; have hfz42_4 := blk_frozen BK270.out 4; have hfz42_5 := blk_frozen BK270.out 5; have hfz42_6 := blk_frozen BK270.out 6; have hfz42_7 := blk_frozen BK270.out 7; have hfz42_8 := blk_frozen BK270.out 8))
                  go_meet
                  case rel => exact ⟨_, (decide (t277 ≥ 0)), (by first | rfl | (simp; done) | (simp [*]; done)), H', ⟨by have := HJ1.out; first | omega | exact Nat.le_refl _⟩, ⟨by (with_reducible repeat (first | refine blk_drewN ?_ _ | refine blk_drew ?_ | refine blk_alloc ?_ _)); exact BK270.out⟩, ⟨by repeat (first | (with_reducible first | exact HB.out | apply below_alloc | apply pw_below_drewN | apply below_drew1 | refine below_set ?_ GE270.out) | exact HB.out)⟩⟩
                · rw [if_neg c39] at H
                  have c39b0 : decide (t276 < 0) = false := decide_eq_false c39
                  clear c39
                  have H' := Aside0.mk H
                  clear H
                  have hcz43_0 : w31.cell? ⟨gb270, 0, none⟩ = some (.bool a0_0) := (blk_cell BK270.out 0).trans rfl
                  have hcz43_1 : w31.cell? ⟨gb270, 1, none⟩ = some (.int .i64 a0_1) := (blk_cell BK270.out 1).trans rfl
                  have hcz43_2 : w31.cell? ⟨gb270, 2, none⟩ = some (.string a0_2) := (blk_cell BK270.out 2).trans rfl
                  have hcz43_3 : w31.cell? ⟨gb270, 3, none⟩ = some (.bool a0_3) := (blk_cell BK270.out 3).trans rfl
                  have hcz43_4 : w31.cell? ⟨gb270, 4, none⟩ = some (.int .i64 a0_4) := (blk_cell BK270.out 4).trans rfl
                  have hcz43_5 : w31.cell? ⟨gb270, 5, none⟩ = some (.string a0_5) := (blk_cell BK270.out 5).trans rfl
                  have hcz43_6 : w31.cell? ⟨gb270, 6, none⟩ = some (.bool a0_6) := (blk_cell BK270.out 6).trans rfl
                  have hcz43_7 : w31.cell? ⟨gb270, 7, none⟩ = some (.int .i64 a0_7) := (blk_cell BK270.out 7).trans rfl
                  have hcz43_8 : w31.cell? ⟨gb270, 8, none⟩ = some (.string a0_8) := (blk_cell BK270.out 8).trans rfl
                  have hfz43_0 := blk_frozen BK270.out 0
                  have hfz43_1 := blk_frozen BK270.out 1
                  have hfz43_2 := blk_frozen BK270.out 2
                  have hfz43_3 := blk_frozen BK270.out 3
                  have hfz43_4 := blk_frozen BK270.out 4
                  have hfz43_5 := blk_frozen BK270.out 5
                  have hfz43_6 := blk_frozen BK270.out 6
                  have hfz43_7 := blk_frozen BK270.out 7
                  have hfz43_8 := blk_frozen BK270.out 8
                  go_wp2_with (first | ((with_reducible refine gate_callee (f := 25) rfl ?_); refine goesL_ (some 44) rfl rfl Tryd.func25 (by kernel_rfl) rfl #[.agg #[.bool a0_3, .int .i64 a0_4, .string a0_5], .agg #[.bool a0_0, .int .i64 a0_1, .string a0_2]] rfl (by (try simp only [List.map_toArray, List.map_cons, List.map_nil]); first | done | rfl | (simp only [List.length_drop, List.length_take]; rfl)) ?_; (with_reducible refine (value_Compare.calls kj1 a0_3 a0_4 a0_5 a0_0 a0_1 a0_2 t278 _ (Tabs.below hT (by first | exact Below.refl _ _ | exact pw_below_drewN (Below.refl _ _) _ | exact (by repeat (first | (with_reducible first | exact HB.out | apply below_alloc | apply pw_below_drewN | apply below_drew1 | refine below_set ?_ GE270.out) | exact HB.out)))) A32.out).mono ?_); rintro e w44 ⟨rfl, hb⟩; refine ⟨_, rfl, ?_⟩; have n0_ := Aside0.mk (blk_below (g := gb270) (o := .cells #[.bool a0_0, .int .i64 a0_1, .string a0_2, .bool a0_3, .int .i64 a0_4, .string a0_5, .bool a0_6, .int .i64 a0_7, .string a0_8] 51 (0, 0)) (by (with_reducible repeat (first | refine blk_drewN ?_ _ | refine blk_drew ?_ | refine blk_alloc ?_ _)); exact BK270.out) hb); have n1_ := Aside0.mk (below_step (by repeat (first | (with_reducible first | exact HB.out | apply below_alloc | apply pw_below_drewN | apply below_drew1 | refine below_set ?_ GE270.out) | exact HB.out)) hb); clear BK270; clear HB; have BK270 := n0_; have HB := n1_; clear n0_ n1_; (try clear hb); (try clear hb2); (try clear hk); (try clear hi); have hcz45_0 : w44.cell? ⟨gb270, 0, none⟩ = some (.bool a0_0) := (blk_cell BK270.out 0).trans rfl; have hcz45_1 : w44.cell? ⟨gb270, 1, none⟩ = some (.int .i64 a0_1) := (blk_cell BK270.out 1).trans rfl; have hcz45_2 : w44.cell? ⟨gb270, 2, none⟩ = some (.string a0_2) := (blk_cell BK270.out 2).trans rfl; have hcz45_3 : w44.cell? ⟨gb270, 3, none⟩ = some (.bool a0_3) := (blk_cell BK270.out 3).trans rfl; have hcz45_4 : w44.cell? ⟨gb270, 4, none⟩ = some (.int .i64 a0_4) := (blk_cell BK270.out 4).trans rfl; have hcz45_5 : w44.cell? ⟨gb270, 5, none⟩ = some (.string a0_5) := (blk_cell BK270.out 5).trans rfl; have hcz45_6 : w44.cell? ⟨gb270, 6, none⟩ = some (.bool a0_6) := (blk_cell BK270.out 6).trans rfl; have hcz45_7 : w44.cell? ⟨gb270, 7, none⟩ = some (.int .i64 a0_7) := (blk_cell BK270.out 7).trans rfl; have hcz45_8 : w44.cell? ⟨gb270, 8, none⟩ = some (.string a0_8) := (blk_cell BK270.out 8).trans rfl; have hfz45_0 := blk_frozen BK270.out 0; have hfz45_1 := blk_frozen BK270.out 1; have hfz45_2 := blk_frozen BK270.out 2; have hfz45_3 := blk_frozen BK270.out 3; have hfz45_4 := blk_frozen BK270.out 4; have hfz45_5 := blk_frozen BK270.out 5; have hfz45_6 := blk_frozen BK270.out 6; have hfz45_7 := blk_frozen BK270.out 7; have hfz45_8 := blk_frozen BK270.out 8))
                  go_meet
                  case rel => exact ⟨_, (false), (by first | rfl | (simp; done) | (simp [*]; done)), H', ⟨by have := HJ1.out; first | omega | exact Nat.le_refl _⟩, ⟨by (with_reducible repeat (first | refine blk_drewN ?_ _ | refine blk_drew ?_ | refine blk_alloc ?_ _)); exact BK270.out⟩, ⟨by repeat (first | (with_reducible first | exact HB.out | apply below_alloc | apply pw_below_drewN | apply below_drew1 | refine below_set ?_ GE270.out) | exact HB.out)⟩⟩
              · rw [if_neg c38] at H
                have c38b0 : decide (t275 < 0) = false := decide_eq_false c38
                clear c38
                have H' := Aside0.mk H
                clear H
                have hcz46_0 : w31.cell? ⟨gb270, 0, none⟩ = some (.bool a0_0) := (blk_cell BK270.out 0).trans rfl
                have hcz46_1 : w31.cell? ⟨gb270, 1, none⟩ = some (.int .i64 a0_1) := (blk_cell BK270.out 1).trans rfl
                have hcz46_2 : w31.cell? ⟨gb270, 2, none⟩ = some (.string a0_2) := (blk_cell BK270.out 2).trans rfl
                have hcz46_3 : w31.cell? ⟨gb270, 3, none⟩ = some (.bool a0_3) := (blk_cell BK270.out 3).trans rfl
                have hcz46_4 : w31.cell? ⟨gb270, 4, none⟩ = some (.int .i64 a0_4) := (blk_cell BK270.out 4).trans rfl
                have hcz46_5 : w31.cell? ⟨gb270, 5, none⟩ = some (.string a0_5) := (blk_cell BK270.out 5).trans rfl
                have hcz46_6 : w31.cell? ⟨gb270, 6, none⟩ = some (.bool a0_6) := (blk_cell BK270.out 6).trans rfl
                have hcz46_7 : w31.cell? ⟨gb270, 7, none⟩ = some (.int .i64 a0_7) := (blk_cell BK270.out 7).trans rfl
                have hcz46_8 : w31.cell? ⟨gb270, 8, none⟩ = some (.string a0_8) := (blk_cell BK270.out 8).trans rfl
                have hfz46_0 := blk_frozen BK270.out 0
                have hfz46_1 := blk_frozen BK270.out 1
                have hfz46_2 := blk_frozen BK270.out 2
                have hfz46_3 := blk_frozen BK270.out 3
                have hfz46_4 := blk_frozen BK270.out 4
                have hfz46_5 := blk_frozen BK270.out 5
                have hfz46_6 := blk_frozen BK270.out 6
                have hfz46_7 := blk_frozen BK270.out 7
                have hfz46_8 := blk_frozen BK270.out 8
                go_wp2_with (first | ((with_reducible refine gate_callee (f := 25) rfl ?_); refine goesL_ (some 44) rfl rfl Tryd.func25 (by kernel_rfl) rfl #[.agg #[.bool a0_3, .int .i64 a0_4, .string a0_5], .agg #[.bool a0_0, .int .i64 a0_1, .string a0_2]] rfl (by (try simp only [List.map_toArray, List.map_cons, List.map_nil]); first | done | rfl | (simp only [List.length_drop, List.length_take]; rfl)) ?_; (with_reducible refine (value_Compare.calls kj1 a0_3 a0_4 a0_5 a0_0 a0_1 a0_2 t278 _ (Tabs.below hT (by first | exact Below.refl _ _ | exact pw_below_drewN (Below.refl _ _) _ | exact (by repeat (first | (with_reducible first | exact HB.out | apply below_alloc | apply pw_below_drewN | apply below_drew1 | refine below_set ?_ GE270.out) | exact HB.out)))) A32.out).mono ?_); rintro e w47 ⟨rfl, hb⟩; refine ⟨_, rfl, ?_⟩; have n0_ := Aside0.mk (blk_below (g := gb270) (o := .cells #[.bool a0_0, .int .i64 a0_1, .string a0_2, .bool a0_3, .int .i64 a0_4, .string a0_5, .bool a0_6, .int .i64 a0_7, .string a0_8] 51 (0, 0)) (by (with_reducible repeat (first | refine blk_drewN ?_ _ | refine blk_drew ?_ | refine blk_alloc ?_ _)); exact BK270.out) hb); have n1_ := Aside0.mk (below_step (by repeat (first | (with_reducible first | exact HB.out | apply below_alloc | apply pw_below_drewN | apply below_drew1 | refine below_set ?_ GE270.out) | exact HB.out)) hb); clear BK270; clear HB; have BK270 := n0_; have HB := n1_; clear n0_ n1_; (try clear hb); (try clear hb2); (try clear hk); (try clear hi); have hcz48_0 : w47.cell? ⟨gb270, 0, none⟩ = some (.bool a0_0) := (blk_cell BK270.out 0).trans rfl; have hcz48_1 : w47.cell? ⟨gb270, 1, none⟩ = some (.int .i64 a0_1) := (blk_cell BK270.out 1).trans rfl; have hcz48_2 : w47.cell? ⟨gb270, 2, none⟩ = some (.string a0_2) := (blk_cell BK270.out 2).trans rfl; have hcz48_3 : w47.cell? ⟨gb270, 3, none⟩ = some (.bool a0_3) := (blk_cell BK270.out 3).trans rfl; have hcz48_4 : w47.cell? ⟨gb270, 4, none⟩ = some (.int .i64 a0_4) := (blk_cell BK270.out 4).trans rfl; have hcz48_5 : w47.cell? ⟨gb270, 5, none⟩ = some (.string a0_5) := (blk_cell BK270.out 5).trans rfl; have hcz48_6 : w47.cell? ⟨gb270, 6, none⟩ = some (.bool a0_6) := (blk_cell BK270.out 6).trans rfl; have hcz48_7 : w47.cell? ⟨gb270, 7, none⟩ = some (.int .i64 a0_7) := (blk_cell BK270.out 7).trans rfl; have hcz48_8 : w47.cell? ⟨gb270, 8, none⟩ = some (.string a0_8) := (blk_cell BK270.out 8).trans rfl; have hfz48_0 := blk_frozen BK270.out 0; have hfz48_1 := blk_frozen BK270.out 1; have hfz48_2 := blk_frozen BK270.out 2; have hfz48_3 := blk_frozen BK270.out 3; have hfz48_4 := blk_frozen BK270.out 4; have hfz48_5 := blk_frozen BK270.out 5; have hfz48_6 := blk_frozen BK270.out 6; have hfz48_7 := blk_frozen BK270.out 7; have hfz48_8 := blk_frozen BK270.out 8))
                go_meet
                case rel => exact ⟨_, (false), (by first | rfl | (simp; done) | (simp [*]; done)), H', ⟨by have := HJ1.out; first | omega | exact Nat.le_refl _⟩, ⟨by (with_reducible repeat (first | refine blk_drewN ?_ _ | refine blk_drew ?_ | refine blk_alloc ?_ _)); exact BK270.out⟩, ⟨by repeat (first | (with_reducible first | exact HB.out | apply below_alloc | apply pw_below_drewN | apply below_drew1 | refine below_set ?_ GE270.out) | exact HB.out)⟩⟩
          · rw [if_neg c33] at H
            have c33b0 : (t278 == (wrap64 (-t275))) = false := beq_eq_false_iff_ne.mpr c33
            have c33b1 : (t278 != (wrap64 (-t275))) = true := bne_iff_ne.mpr c33
            (first | rw [c33b0] | (simp only [i64_w, i32_w]; rw [c33b0]) | skip)
            have H' := Aside0.mk H
            clear H
            have hcz49_0 : w31.cell? ⟨gb270, 0, none⟩ = some (.bool a0_0) := (blk_cell BK270.out 0).trans rfl
            have hcz49_1 : w31.cell? ⟨gb270, 1, none⟩ = some (.int .i64 a0_1) := (blk_cell BK270.out 1).trans rfl
            have hcz49_2 : w31.cell? ⟨gb270, 2, none⟩ = some (.string a0_2) := (blk_cell BK270.out 2).trans rfl
            have hcz49_3 : w31.cell? ⟨gb270, 3, none⟩ = some (.bool a0_3) := (blk_cell BK270.out 3).trans rfl
            have hcz49_4 : w31.cell? ⟨gb270, 4, none⟩ = some (.int .i64 a0_4) := (blk_cell BK270.out 4).trans rfl
            have hcz49_5 : w31.cell? ⟨gb270, 5, none⟩ = some (.string a0_5) := (blk_cell BK270.out 5).trans rfl
            have hcz49_6 : w31.cell? ⟨gb270, 6, none⟩ = some (.bool a0_6) := (blk_cell BK270.out 6).trans rfl
            have hcz49_7 : w31.cell? ⟨gb270, 7, none⟩ = some (.int .i64 a0_7) := (blk_cell BK270.out 7).trans rfl
            have hcz49_8 : w31.cell? ⟨gb270, 8, none⟩ = some (.string a0_8) := (blk_cell BK270.out 8).trans rfl
            have hfz49_0 := blk_frozen BK270.out 0
            have hfz49_1 := blk_frozen BK270.out 1
            have hfz49_2 := blk_frozen BK270.out 2
            have hfz49_3 := blk_frozen BK270.out 3
            have hfz49_4 := blk_frozen BK270.out 4
            have hfz49_5 := blk_frozen BK270.out 5
            have hfz49_6 := blk_frozen BK270.out 6
            have hfz49_7 := blk_frozen BK270.out 7
            have hfz49_8 := blk_frozen BK270.out 8
            go_wp2_with (first | ((with_reducible refine gate_callee (f := 25) rfl ?_); refine goesL_ (some 44) rfl rfl Tryd.func25 (by kernel_rfl) rfl #[.agg #[.bool a0_3, .int .i64 a0_4, .string a0_5], .agg #[.bool a0_0, .int .i64 a0_1, .string a0_2]] rfl (by (try simp only [List.map_toArray, List.map_cons, List.map_nil]); first | done | rfl | (simp only [List.length_drop, List.length_take]; rfl)) ?_; (with_reducible refine (value_Compare.calls kj1 a0_3 a0_4 a0_5 a0_0 a0_1 a0_2 t278 _ (Tabs.below hT (by first | exact Below.refl _ _ | exact pw_below_drewN (Below.refl _ _) _ | exact (by repeat (first | (with_reducible first | exact HB.out | apply below_alloc | apply pw_below_drewN | apply below_drew1 | refine below_set ?_ GE270.out) | exact HB.out)))) A32.out).mono ?_); rintro e w50 ⟨rfl, hb⟩; refine ⟨_, rfl, ?_⟩; have n0_ := Aside0.mk (blk_below (g := gb270) (o := .cells #[.bool a0_0, .int .i64 a0_1, .string a0_2, .bool a0_3, .int .i64 a0_4, .string a0_5, .bool a0_6, .int .i64 a0_7, .string a0_8] 51 (0, 0)) (by (with_reducible repeat (first | refine blk_drewN ?_ _ | refine blk_drew ?_ | refine blk_alloc ?_ _)); exact BK270.out) hb); have n1_ := Aside0.mk (below_step (by repeat (first | (with_reducible first | exact HB.out | apply below_alloc | apply pw_below_drewN | apply below_drew1 | refine below_set ?_ GE270.out) | exact HB.out)) hb); clear BK270; clear HB; have BK270 := n0_; have HB := n1_; clear n0_ n1_; (try clear hb); (try clear hb2); (try clear hk); (try clear hi)))
            go_meet
            case rel => exact ⟨_, (true), (by first | rfl | (simp; done) | (simp [*]; done)), H', ⟨by have := HJ1.out; first | omega | exact Nat.le_refl _⟩, ⟨by (with_reducible repeat (first | refine blk_drewN ?_ _ | refine blk_drew ?_ | refine blk_alloc ?_ _)); exact BK270.out⟩, ⟨by repeat (first | (with_reducible first | exact HB.out | apply below_alloc | apply pw_below_drewN | apply below_drew1 | refine below_set ?_ GE270.out) | exact HB.out)⟩⟩
        case rest =>
          clear HC27
          try clear c2
          try clear p2
          try clear c3
          try clear c5
          try clear c6
          try clear p6
          try clear c7
          try clear c21
          try clear c22
          try clear c24
          try clear c25
          try clear c33
          try clear c33b0
          try clear c33b1
          try clear c34
          try clear c34b0
          try clear c34b1
          try clear c34b2
          try clear c38
          try clear c38b0
          try clear c39
          try clear c39b0
          try clear hcz11_0
          try clear hcz11_1
          try clear hcz11_2
          try clear hcz11_3
          try clear hcz11_4
          try clear hcz11_5
          try clear hcz11_6
          try clear hcz11_7
          try clear hcz11_8
          try clear hcz13_0
          try clear hcz13_1
          try clear hcz13_2
          try clear hcz13_3
          try clear hcz13_4
          try clear hcz13_5
          try clear hcz13_6
          try clear hcz13_7
          try clear hcz13_8
          try clear hcz15_0
          try clear hcz15_1
          try clear hcz15_2
          try clear hcz15_3
          try clear hcz15_4
          try clear hcz15_5
          try clear hcz15_6
          try clear hcz15_7
          try clear hcz15_8
          try clear hcz17_0
          try clear hcz17_1
          try clear hcz17_2
          try clear hcz17_3
          try clear hcz17_4
          try clear hcz17_5
          try clear hcz17_6
          try clear hcz17_7
          try clear hcz17_8
          try clear hcz19_0
          try clear hcz19_1
          try clear hcz19_2
          try clear hcz19_3
          try clear hcz19_4
          try clear hcz19_5
          try clear hcz19_6
          try clear hcz19_7
          try clear hcz19_8
          try clear hcz35_0
          try clear hcz35_1
          try clear hcz35_2
          try clear hcz35_3
          try clear hcz35_4
          try clear hcz35_5
          try clear hcz35_6
          try clear hcz35_7
          try clear hcz35_8
          try clear hcz37_0
          try clear hcz37_1
          try clear hcz37_2
          try clear hcz37_3
          try clear hcz37_4
          try clear hcz37_5
          try clear hcz37_6
          try clear hcz37_7
          try clear hcz37_8
          try clear hcz40_0
          try clear hcz40_1
          try clear hcz40_2
          try clear hcz40_3
          try clear hcz40_4
          try clear hcz40_5
          try clear hcz40_6
          try clear hcz40_7
          try clear hcz40_8
          try clear hcz42_0
          try clear hcz42_1
          try clear hcz42_2
          try clear hcz42_3
          try clear hcz42_4
          try clear hcz42_5
          try clear hcz42_6
          try clear hcz42_7
          try clear hcz42_8
          try clear hcz43_0
          try clear hcz43_1
          try clear hcz43_2
          try clear hcz43_3
          try clear hcz43_4
          try clear hcz43_5
          try clear hcz43_6
          try clear hcz43_7
          try clear hcz43_8
          try clear hcz45_0
          try clear hcz45_1
          try clear hcz45_2
          try clear hcz45_3
          try clear hcz45_4
          try clear hcz45_5
          try clear hcz45_6
          try clear hcz45_7
          try clear hcz45_8
          try clear hcz46_0
          try clear hcz46_1
          try clear hcz46_2
          try clear hcz46_3
          try clear hcz46_4
          try clear hcz46_5
          try clear hcz46_6
          try clear hcz46_7
          try clear hcz46_8
          try clear hcz48_0
          try clear hcz48_1
          try clear hcz48_2
          try clear hcz48_3
          try clear hcz48_4
          try clear hcz48_5
          try clear hcz48_6
          try clear hcz48_7
          try clear hcz48_8
          try clear hcz49_0
          try clear hcz49_1
          try clear hcz49_2
          try clear hcz49_3
          try clear hcz49_4
          try clear hcz49_5
          try clear hcz49_6
          try clear hcz49_7
          try clear hcz49_8
          try clear hcz9_0
          try clear hcz9_1
          try clear hcz9_2
          try clear hcz9_3
          try clear hcz9_4
          try clear hcz9_5
          try clear hcz9_6
          try clear hcz9_7
          try clear hcz9_8
          try clear hfz11_0
          try clear hfz11_1
          try clear hfz11_2
          try clear hfz11_3
          try clear hfz11_4
          try clear hfz11_5
          try clear hfz11_6
          try clear hfz11_7
          try clear hfz11_8
          try clear hfz13_0
          try clear hfz13_1
          try clear hfz13_2
          try clear hfz13_3
          try clear hfz13_4
          try clear hfz13_5
          try clear hfz13_6
          try clear hfz13_7
          try clear hfz13_8
          try clear hfz15_0
          try clear hfz15_1
          try clear hfz15_2
          try clear hfz15_3
          try clear hfz15_4
          try clear hfz15_5
          try clear hfz15_6
          try clear hfz15_7
          try clear hfz15_8
          try clear hfz17_0
          try clear hfz17_1
          try clear hfz17_2
          try clear hfz17_3
          try clear hfz17_4
          try clear hfz17_5
          try clear hfz17_6
          try clear hfz17_7
          try clear hfz17_8
          try clear hfz19_0
          try clear hfz19_1
          try clear hfz19_2
          try clear hfz19_3
          try clear hfz19_4
          try clear hfz19_5
          try clear hfz19_6
          try clear hfz19_7
          try clear hfz19_8
          try clear hfz35_0
          try clear hfz35_1
          try clear hfz35_2
          try clear hfz35_3
          try clear hfz35_4
          try clear hfz35_5
          try clear hfz35_6
          try clear hfz35_7
          try clear hfz35_8
          try clear hfz37_0
          try clear hfz37_1
          try clear hfz37_2
          try clear hfz37_3
          try clear hfz37_4
          try clear hfz37_5
          try clear hfz37_6
          try clear hfz37_7
          try clear hfz37_8
          try clear hfz40_0
          try clear hfz40_1
          try clear hfz40_2
          try clear hfz40_3
          try clear hfz40_4
          try clear hfz40_5
          try clear hfz40_6
          try clear hfz40_7
          try clear hfz40_8
          try clear hfz42_0
          try clear hfz42_1
          try clear hfz42_2
          try clear hfz42_3
          try clear hfz42_4
          try clear hfz42_5
          try clear hfz42_6
          try clear hfz42_7
          try clear hfz42_8
          try clear hfz43_0
          try clear hfz43_1
          try clear hfz43_2
          try clear hfz43_3
          try clear hfz43_4
          try clear hfz43_5
          try clear hfz43_6
          try clear hfz43_7
          try clear hfz43_8
          try clear hfz45_0
          try clear hfz45_1
          try clear hfz45_2
          try clear hfz45_3
          try clear hfz45_4
          try clear hfz45_5
          try clear hfz45_6
          try clear hfz45_7
          try clear hfz45_8
          try clear hfz46_0
          try clear hfz46_1
          try clear hfz46_2
          try clear hfz46_3
          try clear hfz46_4
          try clear hfz46_5
          try clear hfz46_6
          try clear hfz46_7
          try clear hfz46_8
          try clear hfz48_0
          try clear hfz48_1
          try clear hfz48_2
          try clear hfz48_3
          try clear hfz48_4
          try clear hfz48_5
          try clear hfz48_6
          try clear hfz48_7
          try clear hfz48_8
          try clear hfz49_0
          try clear hfz49_1
          try clear hfz49_2
          try clear hfz49_3
          try clear hfz49_4
          try clear hfz49_5
          try clear hfz49_6
          try clear hfz49_7
          try clear hfz49_8
          try clear hfz9_0
          try clear hfz9_1
          try clear hfz9_2
          try clear hfz9_3
          try clear hfz9_4
          try clear hfz9_5
          try clear hfz9_6
          try clear hfz9_7
          try clear hfz9_8
          try clear p2
          obtain ⟨kq, x69_26, rfl, HA, HJ26, BK270, HB⟩ := hcut
          cases kq with
          | zero => exact absurd HA.out (by simp [threshinglaw13_ValueOrder.j1])
          | succ kj26 =>
            have H := HA.out
            clear HA
            simp only [threshinglaw13_ValueOrder.j1] at H
            by_cases c51 : x69_26 = true
            · subst c51
              have H1 : (some false) = some r := by rw [if_pos rfl] at H; exact H
              clear H
              have H := H1
              clear H1
              obtain rfl := Option.some.inj H
              go_wp2
              go_ret
              exact ⟨by first | rfl | (simp [errW_none, errW_some] <;> rfl) | (simp [*, errW_none, errW_some] <;> rfl) | (simp only [same_.out]; rfl), by repeat (first | (with_reducible first | exact HB.out | apply below_alloc | apply pw_below_drewN | apply below_drew1 | refine below_set ?_ GE270.out) | exact HB.out)⟩
            · replace c51 := Bool.eq_false_iff.mpr c51
              subst c51
              have H1 : ((value_Do.f kj26 15 (([(⟨a0_0, a0_1, a0_2⟩ : S43), (⟨a0_3, a0_4, a0_5⟩ : S43)] : List (S43)))).bind fun bt282 => (if (a0_0 != a0_3) = true then ((threshinglaw13_alive.f kj26).bind fun t287 => (if t287 = true then (some (bt282.2.2.2 == 11)) else (some false))) else ((threshinglaw13_alive.f kj26).bind fun t288 => (if t288 = true then (if bt282.2.2.2 = 0 then (if ((bt282.2.1 == 1) == (decide (t275 < 0))) = true then ((value_Hash.f kj26 a0_2).bind fun t289 => (if t289 ≥ 0 then ((value_Hash.f kj26 a0_2).bind fun t290 => (some (decide (t290 < 2147483648)))) else (some false))) else (some false)) else (some false)) else (some false))))) = some r := by rw [if_neg (show ¬ (false = true) by decide)] at H; exact H
              clear H
              have H := H1
              clear H1
              obtain ⟨y279, hy279⟩ : ∃ y_ : List (S43), y_ = (([(⟨a0_0, a0_1, a0_2⟩ : S43), (⟨a0_3, a0_4, a0_5⟩ : S43)] : List (S43))) := ⟨_, rfl⟩
              replace H : ((value_Do.f kj26 15 y279).bind fun bt282 => (if (a0_0 != a0_3) = true then ((threshinglaw13_alive.f kj26).bind fun t287 => (if t287 = true then (some (bt282.2.2.2 == 11)) else (some false))) else ((threshinglaw13_alive.f kj26).bind fun t288 => (if t288 = true then (if bt282.2.2.2 = 0 then (if ((bt282.2.1 == 1) == (decide (t275 < 0))) = true then ((value_Hash.f kj26 a0_2).bind fun t289 => (if t289 ≥ 0 then ((value_Hash.f kj26 a0_2).bind fun t290 => (some (decide (t290 < 2147483648)))) else (some false))) else (some false)) else (some false)) else (some false))))) = some r := by first | (rw [hy279]; with_reducible exact H) | (have H2_ := (Option.bind_some _ _).symm.trans H; rw [hy279]; with_reducible exact H2_) | (have H2_ := (Option.bind_some _ _).symm.trans H; with_reducible exact H2_) | with_reducible exact H | (rw [hy279]; exact H) | exact H
              have Ny279 := Aside0.mk hy279
              clear hy279
              replace H := Option.bind_eq_some_iff.mp H
              obtain ⟨⟨t282, t283, t284, t285⟩, A520, H⟩ := H
              replace H : (if (a0_0 != a0_3) = true then ((threshinglaw13_alive.f kj26).bind fun t287 => (if t287 = true then (some (t285 == 11)) else (some false))) else ((threshinglaw13_alive.f kj26).bind fun t288 => (if t288 = true then (if t285 = 0 then (if ((t283 == 1) == (decide (t275 < 0))) = true then ((value_Hash.f kj26 a0_2).bind fun t289 => (if t289 ≥ 0 then ((value_Hash.f kj26 a0_2).bind fun t290 => (some (decide (t290 < 2147483648)))) else (some false))) else (some false)) else (some false)) else (some false)))) = some r := H
              have A52 := Aside0.mk A520
              clear A520
              by_cases c53 : (a0_0 != a0_3) = true
              · rw [if_pos c53] at H
                have c53b0 : (a0_0 != a0_3) = true := c53
                (try (have c53b1 : decide (a0_0 = a0_3) = false := by simpa using c53))
                (try (have c53b2 : (a0_0 == a0_3) = false := by simpa using c53))
                (try (have c53b3 : ¬ (a0_0 = a0_3) := by simpa using c53))
                clear c53
                replace H := Option.bind_eq_some_iff.mp H
                obtain ⟨t287, A540, H⟩ := H
                replace H : (if t287 = true then (some (t285 == 11)) else (some false)) = some r := H
                have A54 := Aside0.mk A540
                clear A540
                by_cases c55 : t287 = true
                · subst c55
                  have H1 : (some (t285 == 11)) = some r := by rw [if_pos rfl] at H; exact H
                  clear H
                  have H := H1
                  clear H1
                  obtain rfl := Option.some.inj H
                  have hcz56_0 : wc.cell? ⟨gb270, 0, none⟩ = some (.bool a0_0) := (blk_cell BK270.out 0).trans rfl
                  have hcz56_1 : wc.cell? ⟨gb270, 1, none⟩ = some (.int .i64 a0_1) := (blk_cell BK270.out 1).trans rfl
                  have hcz56_2 : wc.cell? ⟨gb270, 2, none⟩ = some (.string a0_2) := (blk_cell BK270.out 2).trans rfl
                  have hcz56_3 : wc.cell? ⟨gb270, 3, none⟩ = some (.bool a0_3) := (blk_cell BK270.out 3).trans rfl
                  have hcz56_4 : wc.cell? ⟨gb270, 4, none⟩ = some (.int .i64 a0_4) := (blk_cell BK270.out 4).trans rfl
                  have hcz56_5 : wc.cell? ⟨gb270, 5, none⟩ = some (.string a0_5) := (blk_cell BK270.out 5).trans rfl
                  have hcz56_6 : wc.cell? ⟨gb270, 6, none⟩ = some (.bool a0_6) := (blk_cell BK270.out 6).trans rfl
                  have hcz56_7 : wc.cell? ⟨gb270, 7, none⟩ = some (.int .i64 a0_7) := (blk_cell BK270.out 7).trans rfl
                  have hcz56_8 : wc.cell? ⟨gb270, 8, none⟩ = some (.string a0_8) := (blk_cell BK270.out 8).trans rfl
                  have hfz56_0 := blk_frozen BK270.out 0
                  have hfz56_1 := blk_frozen BK270.out 1
                  have hfz56_2 := blk_frozen BK270.out 2
                  have hfz56_3 := blk_frozen BK270.out 3
                  have hfz56_4 := blk_frozen BK270.out 4
                  have hfz56_5 := blk_frozen BK270.out 5
                  have hfz56_6 := blk_frozen BK270.out 6
                  have hfz56_7 := blk_frozen BK270.out 7
                  have hfz56_8 := blk_frozen BK270.out 8
                  go_wp2_with (first | ((with_reducible refine gate_dst (N := 75) rfl ?_); refine Kd.R_lit k43 _ 43 ?hg (N := 75) ?hd (xs := ([(⟨a0_0, a0_1, a0_2⟩ : S43), (⟨a0_3, a0_4, a0_5⟩ : S43)] : List (S43))) (inner := [.bool a0_0, .int .i64 a0_1, .string a0_2, .bool a0_3, .int .i64 a0_4, .string a0_5]) (ok := fun _ => True) (okp := fun _ => True) ?hr ?hp (fun _ hk => hk) trivial (Below.refl _ _) (Nat.le_refl _) (by simp) ?_; (case hd => rfl); (case hg => rfl); (case hr => first | (go_simp; done) | (go_simp; rfl)); (case hp => exact (Reps.c3 (show Kd.M k43 _ _ _ (⟨a0_0, a0_1, a0_2⟩ : S43) [.bool a0_0, .int .i64 a0_1, .string a0_2] from (k43_mkM _ _ _ (⟨a0_0, a0_1, a0_2⟩ : S43) )) (Reps.c3 (show Kd.M k43 _ _ _ (⟨a0_3, a0_4, a0_5⟩ : S43) [.bool a0_3, .int .i64 a0_4, .string a0_5] from (k43_mkM _ _ _ (⟨a0_3, a0_4, a0_5⟩ : S43) )) (Reps.none _ _)))); intro v280 w57 ho58 hb hg_ hnew_; clear hg_ hnew_; (first | rw [← Ny279.out] at ho58 | (simp only [Int.reduceToNat] at ho58; rw [← Ny279.out] at ho58)); have n0_ := Aside0.mk (Kd.R_lower ho58 (below_size (by repeat (first | (with_reducible first | exact HB.out | apply below_alloc | apply pw_below_drewN | apply below_drew1 | refine below_set ?_ GE270.out) | exact HB.out)))); have n1_ := Aside0.mk (blk_below (g := gb270) (o := .cells #[.bool a0_0, .int .i64 a0_1, .string a0_2, .bool a0_3, .int .i64 a0_4, .string a0_5, .bool a0_6, .int .i64 a0_7, .string a0_8] 51 (0, 0)) (by (with_reducible repeat (first | refine blk_drewN ?_ _ | refine blk_drew ?_ | refine blk_alloc ?_ _)); exact BK270.out) hb); have n2_ := Aside0.mk (below_step (by repeat (first | (with_reducible first | exact HB.out | apply below_alloc | apply pw_below_drewN | apply below_drew1 | refine below_set ?_ GE270.out) | exact HB.out)) hb); clear BK270; clear HB; have HO281 := n0_; have BK270 := n1_; have HB := n2_; clear n0_ n1_ n2_; clear hb ho58; obtain ⟨Ao59, co59, eo59⟩ := Kd.R_slice HO281.out; subst eo59) | ((with_reducible refine gate_callee (f := 21) rfl ?_); refine goesL_ (some 76) rfl rfl Tryd.func21 (by kernel_rfl) rfl #[.int .i64 15, .slice Ao59 y279.length co59] rfl (by (try simp only [List.map_toArray, List.map_cons, List.map_nil]); first | done | rfl | (simp only [List.length_drop, List.length_take]; rfl)) ?_; (with_reducible refine (value_Do.calls kj26 15 _ _ y279 t282 t283 t284 t285 _ (Tabs.below hT (by first | exact Below.refl _ _ | exact pw_below_drewN (Below.refl _ _) _ | exact (by repeat (first | (with_reducible first | exact HB.out | apply below_alloc | apply pw_below_drewN | apply below_drew1 | refine below_set ?_ GE270.out) | exact HB.out)))) ?side1 ?side2 A52.out).mono ?_); (case side1 => repeat (first | exact (Kd.R_reads' HO281.out).2.2 | (with_reducible refine Kd.C_alloc ?_ _) | (with_reducible refine Kd.C_drewN ?_ _) | (with_reducible refine Kd.C_drew ?_))); (case side2 => exact (Kd.R_reads' HO281.out).2.1); rintro e w60 ⟨rfl, hb⟩; refine ⟨_, rfl, ?_⟩; have n0_ := Aside0.mk (Kd.R_below (by (with_reducible repeat (first | apply Kd.R_alloc | apply Kd.R_drewN | apply Kd.R_drew)); exact HO281.out) hb); have n1_ := Aside0.mk (blk_below (g := gb270) (o := .cells #[.bool a0_0, .int .i64 a0_1, .string a0_2, .bool a0_3, .int .i64 a0_4, .string a0_5, .bool a0_6, .int .i64 a0_7, .string a0_8] 51 (0, 0)) (by (with_reducible repeat (first | refine blk_drewN ?_ _ | refine blk_drew ?_ | refine blk_alloc ?_ _)); exact BK270.out) hb); have n2_ := Aside0.mk (below_step (by repeat (first | (with_reducible first | exact HB.out | apply below_alloc | apply pw_below_drewN | apply below_drew1 | refine below_set ?_ GE270.out) | exact HB.out)) hb); clear HO281; clear BK270; clear HB; have HO281 := n0_; have BK270 := n1_; have HB := n2_; clear n0_ n1_ n2_; (try clear hb); (try clear hb2); (try clear hk); (try clear hi)) | ((with_reducible refine gate_dst (N := 6) rfl ?_); refine box_event ?hg (N := 6) ?hd (cs := #[.bool false, .int .i64 0, .string (⟨#[]⟩ : ByteArray)]) (t := 43) ?hr ?_; (case hd => rfl); (case hg => rfl); (case hr => first | (go_simp; done) | (go_simp; rfl)); intro gb286 hg w61 hbox hb; have n0_ := Aside0.mk (Kd.R_below (Kd.R_elderB (by (with_reducible repeat (first | apply Kd.R_alloc | apply Kd.R_drewN | apply Kd.R_drew)); exact HO281.out) gb286 (Nat.le_of_eq hg.symm)) hb); have n1_ := Aside0.mk (blk_below (g := gb270) (o := .cells #[.bool a0_0, .int .i64 a0_1, .string a0_2, .bool a0_3, .int .i64 a0_4, .string a0_5, .bool a0_6, .int .i64 a0_7, .string a0_8] 51 (0, 0)) (by (with_reducible repeat (first | refine blk_drewN ?_ _ | refine blk_drew ?_ | refine blk_alloc ?_ _)); exact BK270.out) hb); have n2_ := Aside0.mk (below_step (by repeat (first | (with_reducible first | exact HB.out | apply below_alloc | apply pw_below_drewN | apply below_drew1 | refine below_set ?_ GE270.out) | exact HB.out)) hb); have n3_ := Aside0.mk (hbox); have n4_ := Aside0.mk ((by rw [hg]; exact (below_size (by repeat (first | (with_reducible first | exact HB.out | apply below_alloc | apply pw_below_drewN | apply below_drew1 | refine below_set ?_ GE270.out) | exact HB.out))) : w.heap.size ≤ gb286)); have n5_ := Aside0.mk ((by rw [hg]; exact (below_size (by repeat (first | (with_reducible first | exact HB.out | apply below_alloc | apply pw_below_drewN | apply below_drew1 | refine below_set ?_ GE270.out) | exact HB.out))) : w.heap.size ≤ gb286)); have n6_ := Aside0.mk ((by rw [hg]; exact Nat.ne_of_lt (blk_lt (g := gb270) (o := .cells #[.bool a0_0, .int .i64 a0_1, .string a0_2, .bool a0_3, .int .i64 a0_4, .string a0_5, .bool a0_6, .int .i64 a0_7, .string a0_8] 51 (0, 0)) (by (with_reducible repeat (first | refine blk_drewN ?_ _ | refine blk_drew ?_ | refine blk_alloc ?_ _)); exact BK270.out)) : gb270 ≠ gb286)); have n7_ := Aside0.mk ((by rw [hg]; exact Nat.ne_of_gt (blk_lt (g := gb270) (o := .cells #[.bool a0_0, .int .i64 a0_1, .string a0_2, .bool a0_3, .int .i64 a0_4, .string a0_5, .bool a0_6, .int .i64 a0_7, .string a0_8] 51 (0, 0)) (by (with_reducible repeat (first | refine blk_drewN ?_ _ | refine blk_drew ?_ | refine blk_alloc ?_ _)); exact BK270.out)) : gb286 ≠ gb270)); clear HO281; clear BK270; clear HB; have HO281 := n0_; have BK270 := n1_; have HB := n2_; have BK286 := n3_; have GW286 := n4_; have GE286 := n5_; have NB270_286 := n6_; have NB286_270 := n7_; clear n0_ n1_ n2_ n3_ n4_ n5_ n6_ n7_; clear hb hbox hg; have hnb62 := NB286_270.out; have hnc62 := NB270_286.out; have hcz63_0 : w61.cell? ⟨gb286, 0, none⟩ = some (.bool false) := (blk_cell BK286.out 0).trans rfl; have hcz63_1 : w61.cell? ⟨gb286, 1, none⟩ = some (.int .i64 0) := (blk_cell BK286.out 1).trans rfl; have hcz63_2 : w61.cell? ⟨gb286, 2, none⟩ = some (.string (⟨#[]⟩ : ByteArray)) := (blk_cell BK286.out 2).trans rfl; have hfz63_0 := blk_frozen BK286.out 0; have hfz63_1 := blk_frozen BK286.out 1; have hfz63_2 := blk_frozen BK286.out 2; have hcz64_0 : w61.cell? ⟨gb270, 0, none⟩ = some (.bool a0_0) := (blk_cell BK270.out 0).trans rfl; have hcz64_1 : w61.cell? ⟨gb270, 1, none⟩ = some (.int .i64 a0_1) := (blk_cell BK270.out 1).trans rfl; have hcz64_2 : w61.cell? ⟨gb270, 2, none⟩ = some (.string a0_2) := (blk_cell BK270.out 2).trans rfl; have hcz64_3 : w61.cell? ⟨gb270, 3, none⟩ = some (.bool a0_3) := (blk_cell BK270.out 3).trans rfl; have hcz64_4 : w61.cell? ⟨gb270, 4, none⟩ = some (.int .i64 a0_4) := (blk_cell BK270.out 4).trans rfl; have hcz64_5 : w61.cell? ⟨gb270, 5, none⟩ = some (.string a0_5) := (blk_cell BK270.out 5).trans rfl; have hcz64_6 : w61.cell? ⟨gb270, 6, none⟩ = some (.bool a0_6) := (blk_cell BK270.out 6).trans rfl; have hcz64_7 : w61.cell? ⟨gb270, 7, none⟩ = some (.int .i64 a0_7) := (blk_cell BK270.out 7).trans rfl; have hcz64_8 : w61.cell? ⟨gb270, 8, none⟩ = some (.string a0_8) := (blk_cell BK270.out 8).trans rfl; have hfz64_0 := blk_frozen BK270.out 0; have hfz64_1 := blk_frozen BK270.out 1; have hfz64_2 := blk_frozen BK270.out 2; have hfz64_3 := blk_frozen BK270.out 3; have hfz64_4 := blk_frozen BK270.out 4; have hfz64_5 := blk_frozen BK270.out 5; have hfz64_6 := blk_frozen BK270.out 6; have hfz64_7 := blk_frozen BK270.out 7; have hfz64_8 := blk_frozen BK270.out 8) | ((with_reducible refine gate_callee (f := 22) rfl ?_); refine goesL_ (some 86) rfl rfl Tryd.func22 (by kernel_rfl) rfl #[] rfl (by (try simp only [List.map_toArray, List.map_cons, List.map_nil]); first | done | rfl | (simp only [List.length_drop, List.length_take]; rfl)) ?_; (with_reducible refine (threshinglaw13_alive.calls kj26  true _ (Tabs.below hT (by first | exact Below.refl _ _ | exact pw_below_drewN (Below.refl _ _) _ | exact (by repeat (first | (with_reducible first | exact HB.out | apply below_alloc | apply pw_below_drewN | apply below_drew1 | refine below_set ?_ GE270.out | refine below_set ?_ GE286.out) | exact HB.out)))) A54.out).mono ?_); rintro e w65 ⟨rfl, hb⟩; refine ⟨_, rfl, ?_⟩; have n0_ := Aside0.mk (Kd.R_below (by (with_reducible repeat (first | apply Kd.R_alloc | apply Kd.R_drewN | apply Kd.R_drew)); exact (Kd.R_mono (Kd.R_far (p := ⟨gb286, 2, none⟩) (Kd.R_far (p := ⟨gb286, 1, none⟩) (Kd.R_far (p := ⟨gb286, 0, none⟩) (Kd.R_mono HO281.out (fun k_ hk => (⟨hk, hk.2⟩ : _ ∧ k_ ≠ gb286))) (fun _ hk => hk.2) (.bool t282)) (fun _ hk => hk.2) (.int .i64 t283)) (fun _ hk => hk.2) (.string t284)) (fun _ h_ => h_.1))) hb); have n1_ := Aside0.mk (blk_below (g := gb270) (o := .cells #[.bool a0_0, .int .i64 a0_1, .string a0_2, .bool a0_3, .int .i64 a0_4, .string a0_5, .bool a0_6, .int .i64 a0_7, .string a0_8] 51 (0, 0)) (by (with_reducible repeat (first | refine blk_drewN ?_ _ | refine blk_drew ?_ | refine blk_alloc ?_ _)); refine blk_far ?_ NB270_286.out _; (with_reducible repeat (first | refine blk_drewN ?_ _ | refine blk_drew ?_ | refine blk_alloc ?_ _)); refine blk_far ?_ NB270_286.out _; (with_reducible repeat (first | refine blk_drewN ?_ _ | refine blk_drew ?_ | refine blk_alloc ?_ _)); refine blk_far ?_ NB270_286.out _; (with_reducible repeat (first | refine blk_drewN ?_ _ | refine blk_drew ?_ | refine blk_alloc ?_ _)); exact BK270.out) hb); have n2_ := Aside0.mk (blk_below (g := gb286) (o := .cells #[.bool t282, .int .i64 t283, .string t284] 43 (0, 0)) (by (with_reducible repeat (first | refine blk_drewN ?_ _ | refine blk_drew ?_ | refine blk_alloc ?_ _)); refine blk_put (cs := #[.bool t282, .int .i64 t283, .string (⟨#[]⟩ : ByteArray)]) ?_ 2 _ rfl; (with_reducible repeat (first | refine blk_drewN ?_ _ | refine blk_drew ?_ | refine blk_alloc ?_ _)); refine blk_put (cs := #[.bool t282, .int .i64 0, .string (⟨#[]⟩ : ByteArray)]) ?_ 1 _ rfl; (with_reducible repeat (first | refine blk_drewN ?_ _ | refine blk_drew ?_ | refine blk_alloc ?_ _)); refine blk_put (cs := #[.bool false, .int .i64 0, .string (⟨#[]⟩ : ByteArray)]) ?_ 0 _ rfl; (with_reducible repeat (first | refine blk_drewN ?_ _ | refine blk_drew ?_ | refine blk_alloc ?_ _)); exact BK286.out) hb); have n3_ := Aside0.mk (below_step (by repeat (first | (with_reducible first | exact HB.out | apply below_alloc | apply pw_below_drewN | apply below_drew1 | refine below_set ?_ GE270.out | refine below_set ?_ GE286.out) | exact HB.out)) hb); clear HO281; clear BK270; clear BK286; clear HB; have HO281 := n0_; have BK270 := n1_; have BK286 := n2_; have HB := n3_; clear n0_ n1_ n2_ n3_; (try clear hb); (try clear hb2); (try clear hk); (try clear hi)))
                  go_ret
                  exact ⟨by first | rfl | (simp [errW_none, errW_some] <;> rfl) | (simp [*, errW_none, errW_some] <;> rfl) | (simp only [same_.out]; rfl), by repeat (first | (with_reducible first | exact HB.out | apply below_alloc | apply pw_below_drewN | apply below_drew1 | refine below_set ?_ GE270.out | refine below_set ?_ GE286.out) | exact HB.out)⟩
                · replace c55 := Bool.eq_false_iff.mpr c55
                  subst c55
                  have H1 : (some false) = some r := by rw [if_neg (show ¬ (false = true) by decide)] at H; exact H
                  clear H
                  have H := H1
                  clear H1
                  obtain rfl := Option.some.inj H
                  have hcz66_0 : wc.cell? ⟨gb270, 0, none⟩ = some (.bool a0_0) := (blk_cell BK270.out 0).trans rfl
                  have hcz66_1 : wc.cell? ⟨gb270, 1, none⟩ = some (.int .i64 a0_1) := (blk_cell BK270.out 1).trans rfl
                  have hcz66_2 : wc.cell? ⟨gb270, 2, none⟩ = some (.string a0_2) := (blk_cell BK270.out 2).trans rfl
                  have hcz66_3 : wc.cell? ⟨gb270, 3, none⟩ = some (.bool a0_3) := (blk_cell BK270.out 3).trans rfl
                  have hcz66_4 : wc.cell? ⟨gb270, 4, none⟩ = some (.int .i64 a0_4) := (blk_cell BK270.out 4).trans rfl
                  have hcz66_5 : wc.cell? ⟨gb270, 5, none⟩ = some (.string a0_5) := (blk_cell BK270.out 5).trans rfl
                  have hcz66_6 : wc.cell? ⟨gb270, 6, none⟩ = some (.bool a0_6) := (blk_cell BK270.out 6).trans rfl
                  have hcz66_7 : wc.cell? ⟨gb270, 7, none⟩ = some (.int .i64 a0_7) := (blk_cell BK270.out 7).trans rfl
                  have hcz66_8 : wc.cell? ⟨gb270, 8, none⟩ = some (.string a0_8) := (blk_cell BK270.out 8).trans rfl
                  have hfz66_0 := blk_frozen BK270.out 0
                  have hfz66_1 := blk_frozen BK270.out 1
                  have hfz66_2 := blk_frozen BK270.out 2
                  have hfz66_3 := blk_frozen BK270.out 3
                  have hfz66_4 := blk_frozen BK270.out 4
                  have hfz66_5 := blk_frozen BK270.out 5
                  have hfz66_6 := blk_frozen BK270.out 6
                  have hfz66_7 := blk_frozen BK270.out 7
                  have hfz66_8 := blk_frozen BK270.out 8
                  go_wp2_with (first | ((with_reducible refine gate_dst (N := 75) rfl ?_); refine Kd.R_lit k43 _ 43 ?hg (N := 75) ?hd (xs := ([(⟨a0_0, a0_1, a0_2⟩ : S43), (⟨a0_3, a0_4, a0_5⟩ : S43)] : List (S43))) (inner := [.bool a0_0, .int .i64 a0_1, .string a0_2, .bool a0_3, .int .i64 a0_4, .string a0_5]) (ok := fun _ => True) (okp := fun _ => True) ?hr ?hp (fun _ hk => hk) trivial (Below.refl _ _) (Nat.le_refl _) (by simp) ?_; (case hd => rfl); (case hg => rfl); (case hr => first | (go_simp; done) | (go_simp; rfl)); (case hp => exact (Reps.c3 (show Kd.M k43 _ _ _ (⟨a0_0, a0_1, a0_2⟩ : S43) [.bool a0_0, .int .i64 a0_1, .string a0_2] from (k43_mkM _ _ _ (⟨a0_0, a0_1, a0_2⟩ : S43) )) (Reps.c3 (show Kd.M k43 _ _ _ (⟨a0_3, a0_4, a0_5⟩ : S43) [.bool a0_3, .int .i64 a0_4, .string a0_5] from (k43_mkM _ _ _ (⟨a0_3, a0_4, a0_5⟩ : S43) )) (Reps.none _ _)))); intro v280 w67 ho68 hb hg_ hnew_; clear hg_ hnew_; (first | rw [← Ny279.out] at ho68 | (simp only [Int.reduceToNat] at ho68; rw [← Ny279.out] at ho68)); have n0_ := Aside0.mk (Kd.R_lower ho68 (below_size (by repeat (first | (with_reducible first | exact HB.out | apply below_alloc | apply pw_below_drewN | apply below_drew1 | refine below_set ?_ GE270.out) | exact HB.out)))); have n1_ := Aside0.mk (blk_below (g := gb270) (o := .cells #[.bool a0_0, .int .i64 a0_1, .string a0_2, .bool a0_3, .int .i64 a0_4, .string a0_5, .bool a0_6, .int .i64 a0_7, .string a0_8] 51 (0, 0)) (by (with_reducible repeat (first | refine blk_drewN ?_ _ | refine blk_drew ?_ | refine blk_alloc ?_ _)); exact BK270.out) hb); have n2_ := Aside0.mk (below_step (by repeat (first | (with_reducible first | exact HB.out | apply below_alloc | apply pw_below_drewN | apply below_drew1 | refine below_set ?_ GE270.out) | exact HB.out)) hb); clear BK270; clear HB; have HO281 := n0_; have BK270 := n1_; have HB := n2_; clear n0_ n1_ n2_; clear hb ho68; obtain ⟨Ao69, co69, eo69⟩ := Kd.R_slice HO281.out; subst eo69) | ((with_reducible refine gate_callee (f := 21) rfl ?_); refine goesL_ (some 76) rfl rfl Tryd.func21 (by kernel_rfl) rfl #[.int .i64 15, .slice Ao69 y279.length co69] rfl (by (try simp only [List.map_toArray, List.map_cons, List.map_nil]); first | done | rfl | (simp only [List.length_drop, List.length_take]; rfl)) ?_; (with_reducible refine (value_Do.calls kj26 15 _ _ y279 t282 t283 t284 t285 _ (Tabs.below hT (by first | exact Below.refl _ _ | exact pw_below_drewN (Below.refl _ _) _ | exact (by repeat (first | (with_reducible first | exact HB.out | apply below_alloc | apply pw_below_drewN | apply below_drew1 | refine below_set ?_ GE270.out) | exact HB.out)))) ?side1 ?side2 A52.out).mono ?_); (case side1 => repeat (first | exact (Kd.R_reads' HO281.out).2.2 | (with_reducible refine Kd.C_alloc ?_ _) | (with_reducible refine Kd.C_drewN ?_ _) | (with_reducible refine Kd.C_drew ?_))); (case side2 => exact (Kd.R_reads' HO281.out).2.1); rintro e w70 ⟨rfl, hb⟩; refine ⟨_, rfl, ?_⟩; have n0_ := Aside0.mk (Kd.R_below (by (with_reducible repeat (first | apply Kd.R_alloc | apply Kd.R_drewN | apply Kd.R_drew)); exact HO281.out) hb); have n1_ := Aside0.mk (blk_below (g := gb270) (o := .cells #[.bool a0_0, .int .i64 a0_1, .string a0_2, .bool a0_3, .int .i64 a0_4, .string a0_5, .bool a0_6, .int .i64 a0_7, .string a0_8] 51 (0, 0)) (by (with_reducible repeat (first | refine blk_drewN ?_ _ | refine blk_drew ?_ | refine blk_alloc ?_ _)); exact BK270.out) hb); have n2_ := Aside0.mk (below_step (by repeat (first | (with_reducible first | exact HB.out | apply below_alloc | apply pw_below_drewN | apply below_drew1 | refine below_set ?_ GE270.out) | exact HB.out)) hb); clear HO281; clear BK270; clear HB; have HO281 := n0_; have BK270 := n1_; have HB := n2_; clear n0_ n1_ n2_; (try clear hb); (try clear hb2); (try clear hk); (try clear hi)) | ((with_reducible refine gate_dst (N := 6) rfl ?_); refine box_event ?hg (N := 6) ?hd (cs := #[.bool false, .int .i64 0, .string (⟨#[]⟩ : ByteArray)]) (t := 43) ?hr ?_; (case hd => rfl); (case hg => rfl); (case hr => first | (go_simp; done) | (go_simp; rfl)); intro gb286 hg w71 hbox hb; have n0_ := Aside0.mk (Kd.R_below (Kd.R_elderB (by (with_reducible repeat (first | apply Kd.R_alloc | apply Kd.R_drewN | apply Kd.R_drew)); exact HO281.out) gb286 (Nat.le_of_eq hg.symm)) hb); have n1_ := Aside0.mk (blk_below (g := gb270) (o := .cells #[.bool a0_0, .int .i64 a0_1, .string a0_2, .bool a0_3, .int .i64 a0_4, .string a0_5, .bool a0_6, .int .i64 a0_7, .string a0_8] 51 (0, 0)) (by (with_reducible repeat (first | refine blk_drewN ?_ _ | refine blk_drew ?_ | refine blk_alloc ?_ _)); exact BK270.out) hb); have n2_ := Aside0.mk (below_step (by repeat (first | (with_reducible first | exact HB.out | apply below_alloc | apply pw_below_drewN | apply below_drew1 | refine below_set ?_ GE270.out) | exact HB.out)) hb); have n3_ := Aside0.mk (hbox); have n4_ := Aside0.mk ((by rw [hg]; exact (below_size (by repeat (first | (with_reducible first | exact HB.out | apply below_alloc | apply pw_below_drewN | apply below_drew1 | refine below_set ?_ GE270.out) | exact HB.out))) : w.heap.size ≤ gb286)); have n5_ := Aside0.mk ((by rw [hg]; exact (below_size (by repeat (first | (with_reducible first | exact HB.out | apply below_alloc | apply pw_below_drewN | apply below_drew1 | refine below_set ?_ GE270.out) | exact HB.out))) : w.heap.size ≤ gb286)); have n6_ := Aside0.mk ((by rw [hg]; exact Nat.ne_of_lt (blk_lt (g := gb270) (o := .cells #[.bool a0_0, .int .i64 a0_1, .string a0_2, .bool a0_3, .int .i64 a0_4, .string a0_5, .bool a0_6, .int .i64 a0_7, .string a0_8] 51 (0, 0)) (by (with_reducible repeat (first | refine blk_drewN ?_ _ | refine blk_drew ?_ | refine blk_alloc ?_ _)); exact BK270.out)) : gb270 ≠ gb286)); have n7_ := Aside0.mk ((by rw [hg]; exact Nat.ne_of_gt (blk_lt (g := gb270) (o := .cells #[.bool a0_0, .int .i64 a0_1, .string a0_2, .bool a0_3, .int .i64 a0_4, .string a0_5, .bool a0_6, .int .i64 a0_7, .string a0_8] 51 (0, 0)) (by (with_reducible repeat (first | refine blk_drewN ?_ _ | refine blk_drew ?_ | refine blk_alloc ?_ _)); exact BK270.out)) : gb286 ≠ gb270)); clear HO281; clear BK270; clear HB; have HO281 := n0_; have BK270 := n1_; have HB := n2_; have BK286 := n3_; have GW286 := n4_; have GE286 := n5_; have NB270_286 := n6_; have NB286_270 := n7_; clear n0_ n1_ n2_ n3_ n4_ n5_ n6_ n7_; clear hb hbox hg; have hnb72 := NB286_270.out; have hnc72 := NB270_286.out; have hcz73_0 : w71.cell? ⟨gb286, 0, none⟩ = some (.bool false) := (blk_cell BK286.out 0).trans rfl; have hcz73_1 : w71.cell? ⟨gb286, 1, none⟩ = some (.int .i64 0) := (blk_cell BK286.out 1).trans rfl; have hcz73_2 : w71.cell? ⟨gb286, 2, none⟩ = some (.string (⟨#[]⟩ : ByteArray)) := (blk_cell BK286.out 2).trans rfl; have hfz73_0 := blk_frozen BK286.out 0; have hfz73_1 := blk_frozen BK286.out 1; have hfz73_2 := blk_frozen BK286.out 2; have hcz74_0 : w71.cell? ⟨gb270, 0, none⟩ = some (.bool a0_0) := (blk_cell BK270.out 0).trans rfl; have hcz74_1 : w71.cell? ⟨gb270, 1, none⟩ = some (.int .i64 a0_1) := (blk_cell BK270.out 1).trans rfl; have hcz74_2 : w71.cell? ⟨gb270, 2, none⟩ = some (.string a0_2) := (blk_cell BK270.out 2).trans rfl; have hcz74_3 : w71.cell? ⟨gb270, 3, none⟩ = some (.bool a0_3) := (blk_cell BK270.out 3).trans rfl; have hcz74_4 : w71.cell? ⟨gb270, 4, none⟩ = some (.int .i64 a0_4) := (blk_cell BK270.out 4).trans rfl; have hcz74_5 : w71.cell? ⟨gb270, 5, none⟩ = some (.string a0_5) := (blk_cell BK270.out 5).trans rfl; have hcz74_6 : w71.cell? ⟨gb270, 6, none⟩ = some (.bool a0_6) := (blk_cell BK270.out 6).trans rfl; have hcz74_7 : w71.cell? ⟨gb270, 7, none⟩ = some (.int .i64 a0_7) := (blk_cell BK270.out 7).trans rfl; have hcz74_8 : w71.cell? ⟨gb270, 8, none⟩ = some (.string a0_8) := (blk_cell BK270.out 8).trans rfl; have hfz74_0 := blk_frozen BK270.out 0; have hfz74_1 := blk_frozen BK270.out 1; have hfz74_2 := blk_frozen BK270.out 2; have hfz74_3 := blk_frozen BK270.out 3; have hfz74_4 := blk_frozen BK270.out 4; have hfz74_5 := blk_frozen BK270.out 5; have hfz74_6 := blk_frozen BK270.out 6; have hfz74_7 := blk_frozen BK270.out 7; have hfz74_8 := blk_frozen BK270.out 8) | ((with_reducible refine gate_callee (f := 22) rfl ?_); refine goesL_ (some 86) rfl rfl Tryd.func22 (by kernel_rfl) rfl #[] rfl (by (try simp only [List.map_toArray, List.map_cons, List.map_nil]); first | done | rfl | (simp only [List.length_drop, List.length_take]; rfl)) ?_; (with_reducible refine (threshinglaw13_alive.calls kj26  false _ (Tabs.below hT (by first | exact Below.refl _ _ | exact pw_below_drewN (Below.refl _ _) _ | exact (by repeat (first | (with_reducible first | exact HB.out | apply below_alloc | apply pw_below_drewN | apply below_drew1 | refine below_set ?_ GE270.out | refine below_set ?_ GE286.out) | exact HB.out)))) A54.out).mono ?_); rintro e w75 ⟨rfl, hb⟩; refine ⟨_, rfl, ?_⟩; have n0_ := Aside0.mk (Kd.R_below (by (with_reducible repeat (first | apply Kd.R_alloc | apply Kd.R_drewN | apply Kd.R_drew)); exact (Kd.R_mono (Kd.R_far (p := ⟨gb286, 2, none⟩) (Kd.R_far (p := ⟨gb286, 1, none⟩) (Kd.R_far (p := ⟨gb286, 0, none⟩) (Kd.R_mono HO281.out (fun k_ hk => (⟨hk, hk.2⟩ : _ ∧ k_ ≠ gb286))) (fun _ hk => hk.2) (.bool t282)) (fun _ hk => hk.2) (.int .i64 t283)) (fun _ hk => hk.2) (.string t284)) (fun _ h_ => h_.1))) hb); have n1_ := Aside0.mk (blk_below (g := gb270) (o := .cells #[.bool a0_0, .int .i64 a0_1, .string a0_2, .bool a0_3, .int .i64 a0_4, .string a0_5, .bool a0_6, .int .i64 a0_7, .string a0_8] 51 (0, 0)) (by (with_reducible repeat (first | refine blk_drewN ?_ _ | refine blk_drew ?_ | refine blk_alloc ?_ _)); refine blk_far ?_ NB270_286.out _; (with_reducible repeat (first | refine blk_drewN ?_ _ | refine blk_drew ?_ | refine blk_alloc ?_ _)); refine blk_far ?_ NB270_286.out _; (with_reducible repeat (first | refine blk_drewN ?_ _ | refine blk_drew ?_ | refine blk_alloc ?_ _)); refine blk_far ?_ NB270_286.out _; (with_reducible repeat (first | refine blk_drewN ?_ _ | refine blk_drew ?_ | refine blk_alloc ?_ _)); exact BK270.out) hb); have n2_ := Aside0.mk (blk_below (g := gb286) (o := .cells #[.bool t282, .int .i64 t283, .string t284] 43 (0, 0)) (by (with_reducible repeat (first | refine blk_drewN ?_ _ | refine blk_drew ?_ | refine blk_alloc ?_ _)); refine blk_put (cs := #[.bool t282, .int .i64 t283, .string (⟨#[]⟩ : ByteArray)]) ?_ 2 _ rfl; (with_reducible repeat (first | refine blk_drewN ?_ _ | refine blk_drew ?_ | refine blk_alloc ?_ _)); refine blk_put (cs := #[.bool t282, .int .i64 0, .string (⟨#[]⟩ : ByteArray)]) ?_ 1 _ rfl; (with_reducible repeat (first | refine blk_drewN ?_ _ | refine blk_drew ?_ | refine blk_alloc ?_ _)); refine blk_put (cs := #[.bool false, .int .i64 0, .string (⟨#[]⟩ : ByteArray)]) ?_ 0 _ rfl; (with_reducible repeat (first | refine blk_drewN ?_ _ | refine blk_drew ?_ | refine blk_alloc ?_ _)); exact BK286.out) hb); have n3_ := Aside0.mk (below_step (by repeat (first | (with_reducible first | exact HB.out | apply below_alloc | apply pw_below_drewN | apply below_drew1 | refine below_set ?_ GE270.out | refine below_set ?_ GE286.out) | exact HB.out)) hb); clear HO281; clear BK270; clear BK286; clear HB; have HO281 := n0_; have BK270 := n1_; have BK286 := n2_; have HB := n3_; clear n0_ n1_ n2_ n3_; (try clear hb); (try clear hb2); (try clear hk); (try clear hi)))
                  go_ret
                  exact ⟨by first | rfl | (simp [errW_none, errW_some] <;> rfl) | (simp [*, errW_none, errW_some] <;> rfl) | (simp only [same_.out]; rfl), by repeat (first | (with_reducible first | exact HB.out | apply below_alloc | apply pw_below_drewN | apply below_drew1 | refine below_set ?_ GE270.out | refine below_set ?_ GE286.out) | exact HB.out)⟩
              · rw [if_neg c53] at H
                have c53b0 : (a0_0 != a0_3) = false := by simpa using c53
                (try (have c53b1 : decide (a0_0 = a0_3) = true := by simpa using c53))
                (try (have c53b2 : (a0_0 == a0_3) = true := by simpa using c53))
                clear c53
                replace H := Option.bind_eq_some_iff.mp H
                obtain ⟨t288, A760, H⟩ := H
                replace H : (if t288 = true then (if t285 = 0 then (if ((t283 == 1) == (decide (t275 < 0))) = true then ((value_Hash.f kj26 a0_2).bind fun t289 => (if t289 ≥ 0 then ((value_Hash.f kj26 a0_2).bind fun t290 => (some (decide (t290 < 2147483648)))) else (some false))) else (some false)) else (some false)) else (some false)) = some r := H
                have A76 := Aside0.mk A760
                clear A760
                by_cases c77 : t288 = true
                · subst c77
                  have H1 : (if t285 = 0 then (if ((t283 == 1) == (decide (t275 < 0))) = true then ((value_Hash.f kj26 a0_2).bind fun t289 => (if t289 ≥ 0 then ((value_Hash.f kj26 a0_2).bind fun t290 => (some (decide (t290 < 2147483648)))) else (some false))) else (some false)) else (some false)) = some r := by rw [if_pos rfl] at H; exact H
                  clear H
                  have H := H1
                  clear H1
                  by_cases c78 : t285 = 0
                  · rw [if_pos c78] at H
                    have c78b0 : (t285 == 0) = true := beq_iff_eq.mpr c78
                    have c78b1 : (t285 != 0) = false := bne_eq_false_iff_eq.mpr c78
                    clear c78
                    by_cases c79 : ((t283 == 1) == (decide (t275 < 0))) = true
                    · rw [if_pos c79] at H
                      have c79b0 : ((t283 == 1) == (decide (t275 < 0))) = true := c79
                      (try (have c79b1 : decide ((t283 == 1) = (decide (t275 < 0))) = true := by simpa using c79))
                      (try (have c79b2 : ((t283 == 1) == (decide (t275 < 0))) = true := by simpa using c79))
                      clear c79
                      replace H := Option.bind_eq_some_iff.mp H
                      obtain ⟨t289, A800, H⟩ := H
                      replace H : (if t289 ≥ 0 then ((value_Hash.f kj26 a0_2).bind fun t290 => (some (decide (t290 < 2147483648)))) else (some false)) = some r := H
                      have A80 := Aside0.mk A800
                      clear A800
                      by_cases c81 : t289 ≥ 0
                      · rw [if_pos c81] at H
                        have c81b0 : decide (0 ≤ t289) = true := decide_eq_true c81
                        clear c81
                        replace H := Option.bind_eq_some_iff.mp H
                        obtain ⟨t290, A820, H⟩ := H
                        have same_ := Aside0.mk (Option.some.inj (A820.symm.trans A80.out) : t290 = t289)
                        replace H : (some (decide (t290 < 2147483648))) = some r := H
                        have A82 := Aside0.mk A820
                        clear A820
                        obtain rfl := Option.some.inj H
                        have hcz83_0 : wc.cell? ⟨gb270, 0, none⟩ = some (.bool a0_0) := (blk_cell BK270.out 0).trans rfl
                        have hcz83_1 : wc.cell? ⟨gb270, 1, none⟩ = some (.int .i64 a0_1) := (blk_cell BK270.out 1).trans rfl
                        have hcz83_2 : wc.cell? ⟨gb270, 2, none⟩ = some (.string a0_2) := (blk_cell BK270.out 2).trans rfl
                        have hcz83_3 : wc.cell? ⟨gb270, 3, none⟩ = some (.bool a0_3) := (blk_cell BK270.out 3).trans rfl
                        have hcz83_4 : wc.cell? ⟨gb270, 4, none⟩ = some (.int .i64 a0_4) := (blk_cell BK270.out 4).trans rfl
                        have hcz83_5 : wc.cell? ⟨gb270, 5, none⟩ = some (.string a0_5) := (blk_cell BK270.out 5).trans rfl
                        have hcz83_6 : wc.cell? ⟨gb270, 6, none⟩ = some (.bool a0_6) := (blk_cell BK270.out 6).trans rfl
                        have hcz83_7 : wc.cell? ⟨gb270, 7, none⟩ = some (.int .i64 a0_7) := (blk_cell BK270.out 7).trans rfl
                        have hcz83_8 : wc.cell? ⟨gb270, 8, none⟩ = some (.string a0_8) := (blk_cell BK270.out 8).trans rfl
                        have hfz83_0 := blk_frozen BK270.out 0
                        have hfz83_1 := blk_frozen BK270.out 1
                        have hfz83_2 := blk_frozen BK270.out 2
                        have hfz83_3 := blk_frozen BK270.out 3
                        have hfz83_4 := blk_frozen BK270.out 4
                        have hfz83_5 := blk_frozen BK270.out 5
                        have hfz83_6 := blk_frozen BK270.out 6
                        have hfz83_7 := blk_frozen BK270.out 7
                        have hfz83_8 := blk_frozen BK270.out 8
                        go_wp2_with (first | ((with_reducible refine gate_dst (N := 75) rfl ?_); refine Kd.R_lit k43 _ 43 ?hg (N := 75) ?hd (xs := ([(⟨a0_0, a0_1, a0_2⟩ : S43), (⟨a0_3, a0_4, a0_5⟩ : S43)] : List (S43))) (inner := [.bool a0_0, .int .i64 a0_1, .string a0_2, .bool a0_3, .int .i64 a0_4, .string a0_5]) (ok := fun _ => True) (okp := fun _ => True) ?hr ?hp (fun _ hk => hk) trivial (Below.refl _ _) (Nat.le_refl _) (by simp) ?_; (case hd => rfl); (case hg => rfl); (case hr => first | (go_simp; done) | (go_simp; rfl)); (case hp => exact (Reps.c3 (show Kd.M k43 _ _ _ (⟨a0_0, a0_1, a0_2⟩ : S43) [.bool a0_0, .int .i64 a0_1, .string a0_2] from (k43_mkM _ _ _ (⟨a0_0, a0_1, a0_2⟩ : S43) )) (Reps.c3 (show Kd.M k43 _ _ _ (⟨a0_3, a0_4, a0_5⟩ : S43) [.bool a0_3, .int .i64 a0_4, .string a0_5] from (k43_mkM _ _ _ (⟨a0_3, a0_4, a0_5⟩ : S43) )) (Reps.none _ _)))); intro v280 w84 ho85 hb hg_ hnew_; clear hg_ hnew_; (first | rw [← Ny279.out] at ho85 | (simp only [Int.reduceToNat] at ho85; rw [← Ny279.out] at ho85)); have n0_ := Aside0.mk (Kd.R_lower ho85 (below_size (by repeat (first | (with_reducible first | exact HB.out | apply below_alloc | apply pw_below_drewN | apply below_drew1 | refine below_set ?_ GE270.out) | exact HB.out)))); have n1_ := Aside0.mk (blk_below (g := gb270) (o := .cells #[.bool a0_0, .int .i64 a0_1, .string a0_2, .bool a0_3, .int .i64 a0_4, .string a0_5, .bool a0_6, .int .i64 a0_7, .string a0_8] 51 (0, 0)) (by (with_reducible repeat (first | refine blk_drewN ?_ _ | refine blk_drew ?_ | refine blk_alloc ?_ _)); exact BK270.out) hb); have n2_ := Aside0.mk (below_step (by repeat (first | (with_reducible first | exact HB.out | apply below_alloc | apply pw_below_drewN | apply below_drew1 | refine below_set ?_ GE270.out) | exact HB.out)) hb); clear BK270; clear HB; have HO281 := n0_; have BK270 := n1_; have HB := n2_; clear n0_ n1_ n2_; clear hb ho85; obtain ⟨Ao86, co86, eo86⟩ := Kd.R_slice HO281.out; subst eo86) | ((with_reducible refine gate_callee (f := 21) rfl ?_); refine goesL_ (some 76) rfl rfl Tryd.func21 (by kernel_rfl) rfl #[.int .i64 15, .slice Ao86 y279.length co86] rfl (by (try simp only [List.map_toArray, List.map_cons, List.map_nil]); first | done | rfl | (simp only [List.length_drop, List.length_take]; rfl)) ?_; (with_reducible refine (value_Do.calls kj26 15 _ _ y279 t282 t283 t284 t285 _ (Tabs.below hT (by first | exact Below.refl _ _ | exact pw_below_drewN (Below.refl _ _) _ | exact (by repeat (first | (with_reducible first | exact HB.out | apply below_alloc | apply pw_below_drewN | apply below_drew1 | refine below_set ?_ GE270.out) | exact HB.out)))) ?side1 ?side2 A52.out).mono ?_); (case side1 => repeat (first | exact (Kd.R_reads' HO281.out).2.2 | (with_reducible refine Kd.C_alloc ?_ _) | (with_reducible refine Kd.C_drewN ?_ _) | (with_reducible refine Kd.C_drew ?_))); (case side2 => exact (Kd.R_reads' HO281.out).2.1); rintro e w87 ⟨rfl, hb⟩; refine ⟨_, rfl, ?_⟩; have n0_ := Aside0.mk (Kd.R_below (by (with_reducible repeat (first | apply Kd.R_alloc | apply Kd.R_drewN | apply Kd.R_drew)); exact HO281.out) hb); have n1_ := Aside0.mk (blk_below (g := gb270) (o := .cells #[.bool a0_0, .int .i64 a0_1, .string a0_2, .bool a0_3, .int .i64 a0_4, .string a0_5, .bool a0_6, .int .i64 a0_7, .string a0_8] 51 (0, 0)) (by (with_reducible repeat (first | refine blk_drewN ?_ _ | refine blk_drew ?_ | refine blk_alloc ?_ _)); exact BK270.out) hb); have n2_ := Aside0.mk (below_step (by repeat (first | (with_reducible first | exact HB.out | apply below_alloc | apply pw_below_drewN | apply below_drew1 | refine below_set ?_ GE270.out) | exact HB.out)) hb); clear HO281; clear BK270; clear HB; have HO281 := n0_; have BK270 := n1_; have HB := n2_; clear n0_ n1_ n2_; (try clear hb); (try clear hb2); (try clear hk); (try clear hi)) | ((with_reducible refine gate_dst (N := 6) rfl ?_); refine box_event ?hg (N := 6) ?hd (cs := #[.bool false, .int .i64 0, .string (⟨#[]⟩ : ByteArray)]) (t := 43) ?hr ?_; (case hd => rfl); (case hg => rfl); (case hr => first | (go_simp; done) | (go_simp; rfl)); intro gb286 hg w88 hbox hb; have n0_ := Aside0.mk (Kd.R_below (Kd.R_elderB (by (with_reducible repeat (first | apply Kd.R_alloc | apply Kd.R_drewN | apply Kd.R_drew)); exact HO281.out) gb286 (Nat.le_of_eq hg.symm)) hb); have n1_ := Aside0.mk (blk_below (g := gb270) (o := .cells #[.bool a0_0, .int .i64 a0_1, .string a0_2, .bool a0_3, .int .i64 a0_4, .string a0_5, .bool a0_6, .int .i64 a0_7, .string a0_8] 51 (0, 0)) (by (with_reducible repeat (first | refine blk_drewN ?_ _ | refine blk_drew ?_ | refine blk_alloc ?_ _)); exact BK270.out) hb); have n2_ := Aside0.mk (below_step (by repeat (first | (with_reducible first | exact HB.out | apply below_alloc | apply pw_below_drewN | apply below_drew1 | refine below_set ?_ GE270.out) | exact HB.out)) hb); have n3_ := Aside0.mk (hbox); have n4_ := Aside0.mk ((by rw [hg]; exact (below_size (by repeat (first | (with_reducible first | exact HB.out | apply below_alloc | apply pw_below_drewN | apply below_drew1 | refine below_set ?_ GE270.out) | exact HB.out))) : w.heap.size ≤ gb286)); have n5_ := Aside0.mk ((by rw [hg]; exact (below_size (by repeat (first | (with_reducible first | exact HB.out | apply below_alloc | apply pw_below_drewN | apply below_drew1 | refine below_set ?_ GE270.out) | exact HB.out))) : w.heap.size ≤ gb286)); have n6_ := Aside0.mk ((by rw [hg]; exact Nat.ne_of_lt (blk_lt (g := gb270) (o := .cells #[.bool a0_0, .int .i64 a0_1, .string a0_2, .bool a0_3, .int .i64 a0_4, .string a0_5, .bool a0_6, .int .i64 a0_7, .string a0_8] 51 (0, 0)) (by (with_reducible repeat (first | refine blk_drewN ?_ _ | refine blk_drew ?_ | refine blk_alloc ?_ _)); exact BK270.out)) : gb270 ≠ gb286)); have n7_ := Aside0.mk ((by rw [hg]; exact Nat.ne_of_gt (blk_lt (g := gb270) (o := .cells #[.bool a0_0, .int .i64 a0_1, .string a0_2, .bool a0_3, .int .i64 a0_4, .string a0_5, .bool a0_6, .int .i64 a0_7, .string a0_8] 51 (0, 0)) (by (with_reducible repeat (first | refine blk_drewN ?_ _ | refine blk_drew ?_ | refine blk_alloc ?_ _)); exact BK270.out)) : gb286 ≠ gb270)); clear HO281; clear BK270; clear HB; have HO281 := n0_; have BK270 := n1_; have HB := n2_; have BK286 := n3_; have GW286 := n4_; have GE286 := n5_; have NB270_286 := n6_; have NB286_270 := n7_; clear n0_ n1_ n2_ n3_ n4_ n5_ n6_ n7_; clear hb hbox hg; have hnb89 := NB286_270.out; have hnc89 := NB270_286.out; have hcz90_0 : w88.cell? ⟨gb286, 0, none⟩ = some (.bool false) := (blk_cell BK286.out 0).trans rfl; have hcz90_1 : w88.cell? ⟨gb286, 1, none⟩ = some (.int .i64 0) := (blk_cell BK286.out 1).trans rfl; have hcz90_2 : w88.cell? ⟨gb286, 2, none⟩ = some (.string (⟨#[]⟩ : ByteArray)) := (blk_cell BK286.out 2).trans rfl; have hfz90_0 := blk_frozen BK286.out 0; have hfz90_1 := blk_frozen BK286.out 1; have hfz90_2 := blk_frozen BK286.out 2; have hcz91_0 : w88.cell? ⟨gb270, 0, none⟩ = some (.bool a0_0) := (blk_cell BK270.out 0).trans rfl; have hcz91_1 : w88.cell? ⟨gb270, 1, none⟩ = some (.int .i64 a0_1) := (blk_cell BK270.out 1).trans rfl; have hcz91_2 : w88.cell? ⟨gb270, 2, none⟩ = some (.string a0_2) := (blk_cell BK270.out 2).trans rfl; have hcz91_3 : w88.cell? ⟨gb270, 3, none⟩ = some (.bool a0_3) := (blk_cell BK270.out 3).trans rfl; have hcz91_4 : w88.cell? ⟨gb270, 4, none⟩ = some (.int .i64 a0_4) := (blk_cell BK270.out 4).trans rfl; have hcz91_5 : w88.cell? ⟨gb270, 5, none⟩ = some (.string a0_5) := (blk_cell BK270.out 5).trans rfl; have hcz91_6 : w88.cell? ⟨gb270, 6, none⟩ = some (.bool a0_6) := (blk_cell BK270.out 6).trans rfl; have hcz91_7 : w88.cell? ⟨gb270, 7, none⟩ = some (.int .i64 a0_7) := (blk_cell BK270.out 7).trans rfl; have hcz91_8 : w88.cell? ⟨gb270, 8, none⟩ = some (.string a0_8) := (blk_cell BK270.out 8).trans rfl; have hfz91_0 := blk_frozen BK270.out 0; have hfz91_1 := blk_frozen BK270.out 1; have hfz91_2 := blk_frozen BK270.out 2; have hfz91_3 := blk_frozen BK270.out 3; have hfz91_4 := blk_frozen BK270.out 4; have hfz91_5 := blk_frozen BK270.out 5; have hfz91_6 := blk_frozen BK270.out 6; have hfz91_7 := blk_frozen BK270.out 7; have hfz91_8 := blk_frozen BK270.out 8) | ((with_reducible refine gate_callee (f := 22) rfl ?_); refine goesL_ (some 91) rfl rfl Tryd.func22 (by kernel_rfl) rfl #[] rfl (by (try simp only [List.map_toArray, List.map_cons, List.map_nil]); first | done | rfl | (simp only [List.length_drop, List.length_take]; rfl)) ?_; (with_reducible refine (threshinglaw13_alive.calls kj26  true _ (Tabs.below hT (by first | exact Below.refl _ _ | exact pw_below_drewN (Below.refl _ _) _ | exact (by repeat (first | (with_reducible first | exact HB.out | apply below_alloc | apply pw_below_drewN | apply below_drew1 | refine below_set ?_ GE270.out | refine below_set ?_ GE286.out) | exact HB.out)))) A76.out).mono ?_); rintro e w92 ⟨rfl, hb⟩; refine ⟨_, rfl, ?_⟩; have n0_ := Aside0.mk (Kd.R_below (by (with_reducible repeat (first | apply Kd.R_alloc | apply Kd.R_drewN | apply Kd.R_drew)); exact (Kd.R_mono (Kd.R_far (p := ⟨gb286, 2, none⟩) (Kd.R_far (p := ⟨gb286, 1, none⟩) (Kd.R_far (p := ⟨gb286, 0, none⟩) (Kd.R_mono HO281.out (fun k_ hk => (⟨hk, hk.2⟩ : _ ∧ k_ ≠ gb286))) (fun _ hk => hk.2) (.bool t282)) (fun _ hk => hk.2) (.int .i64 t283)) (fun _ hk => hk.2) (.string t284)) (fun _ h_ => h_.1))) hb); have n1_ := Aside0.mk (blk_below (g := gb270) (o := .cells #[.bool a0_0, .int .i64 a0_1, .string a0_2, .bool a0_3, .int .i64 a0_4, .string a0_5, .bool a0_6, .int .i64 a0_7, .string a0_8] 51 (0, 0)) (by (with_reducible repeat (first | refine blk_drewN ?_ _ | refine blk_drew ?_ | refine blk_alloc ?_ _)); refine blk_far ?_ NB270_286.out _; (with_reducible repeat (first | refine blk_drewN ?_ _ | refine blk_drew ?_ | refine blk_alloc ?_ _)); refine blk_far ?_ NB270_286.out _; (with_reducible repeat (first | refine blk_drewN ?_ _ | refine blk_drew ?_ | refine blk_alloc ?_ _)); refine blk_far ?_ NB270_286.out _; (with_reducible repeat (first | refine blk_drewN ?_ _ | refine blk_drew ?_ | refine blk_alloc ?_ _)); exact BK270.out) hb); have n2_ := Aside0.mk (blk_below (g := gb286) (o := .cells #[.bool t282, .int .i64 t283, .string t284] 43 (0, 0)) (by (with_reducible repeat (first | refine blk_drewN ?_ _ | refine blk_drew ?_ | refine blk_alloc ?_ _)); refine blk_put (cs := #[.bool t282, .int .i64 t283, .string (⟨#[]⟩ : ByteArray)]) ?_ 2 _ rfl; (with_reducible repeat (first | refine blk_drewN ?_ _ | refine blk_drew ?_ | refine blk_alloc ?_ _)); refine blk_put (cs := #[.bool t282, .int .i64 0, .string (⟨#[]⟩ : ByteArray)]) ?_ 1 _ rfl; (with_reducible repeat (first | refine blk_drewN ?_ _ | refine blk_drew ?_ | refine blk_alloc ?_ _)); refine blk_put (cs := #[.bool false, .int .i64 0, .string (⟨#[]⟩ : ByteArray)]) ?_ 0 _ rfl; (with_reducible repeat (first | refine blk_drewN ?_ _ | refine blk_drew ?_ | refine blk_alloc ?_ _)); exact BK286.out) hb); have n3_ := Aside0.mk (below_step (by repeat (first | (with_reducible first | exact HB.out | apply below_alloc | apply pw_below_drewN | apply below_drew1 | refine below_set ?_ GE270.out | refine below_set ?_ GE286.out) | exact HB.out)) hb); clear HO281; clear BK270; clear BK286; clear HB; have HO281 := n0_; have BK270 := n1_; have BK286 := n2_; have HB := n3_; clear n0_ n1_ n2_ n3_; (try clear hb); (try clear hb2); (try clear hk); (try clear hi); have hcz93_0 : w92.cell? ⟨gb286, 0, none⟩ = some (.bool t282) := (blk_cell BK286.out 0).trans rfl; have hcz93_1 : w92.cell? ⟨gb286, 1, none⟩ = some (.int .i64 t283) := (blk_cell BK286.out 1).trans rfl; have hcz93_2 : w92.cell? ⟨gb286, 2, none⟩ = some (.string t284) := (blk_cell BK286.out 2).trans rfl; have hfz93_0 := blk_frozen BK286.out 0; have hfz93_1 := blk_frozen BK286.out 1; have hfz93_2 := blk_frozen BK286.out 2; have hcz94_0 : w92.cell? ⟨gb270, 0, none⟩ = some (.bool a0_0) := (blk_cell BK270.out 0).trans rfl; have hcz94_1 : w92.cell? ⟨gb270, 1, none⟩ = some (.int .i64 a0_1) := (blk_cell BK270.out 1).trans rfl; have hcz94_2 : w92.cell? ⟨gb270, 2, none⟩ = some (.string a0_2) := (blk_cell BK270.out 2).trans rfl; have hcz94_3 : w92.cell? ⟨gb270, 3, none⟩ = some (.bool a0_3) := (blk_cell BK270.out 3).trans rfl; have hcz94_4 : w92.cell? ⟨gb270, 4, none⟩ = some (.int .i64 a0_4) := (blk_cell BK270.out 4).trans rfl; have hcz94_5 : w92.cell? ⟨gb270, 5, none⟩ = some (.string a0_5) := (blk_cell BK270.out 5).trans rfl; have hcz94_6 : w92.cell? ⟨gb270, 6, none⟩ = some (.bool a0_6) := (blk_cell BK270.out 6).trans rfl; have hcz94_7 : w92.cell? ⟨gb270, 7, none⟩ = some (.int .i64 a0_7) := (blk_cell BK270.out 7).trans rfl; have hcz94_8 : w92.cell? ⟨gb270, 8, none⟩ = some (.string a0_8) := (blk_cell BK270.out 8).trans rfl; have hfz94_0 := blk_frozen BK270.out 0; have hfz94_1 := blk_frozen BK270.out 1; have hfz94_2 := blk_frozen BK270.out 2; have hfz94_3 := blk_frozen BK270.out 3; have hfz94_4 := blk_frozen BK270.out 4; have hfz94_5 := blk_frozen BK270.out 5; have hfz94_6 := blk_frozen BK270.out 6; have hfz94_7 := blk_frozen BK270.out 7; have hfz94_8 := blk_frozen BK270.out 8) | (go_at_call 26; (with_reducible refine (value_Hash.calls kj26 a0_2 t289 _ (Tabs.below hT (by first | exact Below.refl _ _ | exact pw_below_drewN (Below.refl _ _) _ | exact (by repeat (first | (with_reducible first | exact HB.out | apply below_alloc | apply pw_below_drewN | apply below_drew1 | refine below_set ?_ GE270.out | refine below_set ?_ GE286.out) | exact HB.out)))) A80.out).mono ?_); rintro e w' ⟨rfl, ⟨nd, rfl⟩⟩) | (go_at_call 26; (with_reducible refine (value_Hash.calls kj26 a0_2 t290 _ (Tabs.below hT (by first | exact Below.refl _ _ | exact pw_below_drewN (Below.refl _ _) _ | exact (by repeat (first | (with_reducible first | exact HB.out | apply below_alloc | apply pw_below_drewN | apply below_drew1 | refine below_set ?_ GE270.out | refine below_set ?_ GE286.out) | exact HB.out)))) A82.out).mono ?_); rintro e w' ⟨rfl, ⟨nd, rfl⟩⟩))
                        go_ret
                        exact ⟨by first | rfl | (simp [errW_none, errW_some] <;> rfl) | (simp [*, errW_none, errW_some] <;> rfl) | (simp only [same_.out]; rfl), by repeat (first | (with_reducible first | exact HB.out | apply below_alloc | apply pw_below_drewN | apply below_drew1 | refine below_set ?_ GE270.out | refine below_set ?_ GE286.out) | exact HB.out)⟩
                      · rw [if_neg c81] at H
                        have c81b0 : decide (0 ≤ t289) = false := decide_eq_false c81
                        clear c81
                        obtain rfl := Option.some.inj H
                        have hcz95_0 : wc.cell? ⟨gb270, 0, none⟩ = some (.bool a0_0) := (blk_cell BK270.out 0).trans rfl
                        have hcz95_1 : wc.cell? ⟨gb270, 1, none⟩ = some (.int .i64 a0_1) := (blk_cell BK270.out 1).trans rfl
                        have hcz95_2 : wc.cell? ⟨gb270, 2, none⟩ = some (.string a0_2) := (blk_cell BK270.out 2).trans rfl
                        have hcz95_3 : wc.cell? ⟨gb270, 3, none⟩ = some (.bool a0_3) := (blk_cell BK270.out 3).trans rfl
                        have hcz95_4 : wc.cell? ⟨gb270, 4, none⟩ = some (.int .i64 a0_4) := (blk_cell BK270.out 4).trans rfl
                        have hcz95_5 : wc.cell? ⟨gb270, 5, none⟩ = some (.string a0_5) := (blk_cell BK270.out 5).trans rfl
                        have hcz95_6 : wc.cell? ⟨gb270, 6, none⟩ = some (.bool a0_6) := (blk_cell BK270.out 6).trans rfl
                        have hcz95_7 : wc.cell? ⟨gb270, 7, none⟩ = some (.int .i64 a0_7) := (blk_cell BK270.out 7).trans rfl
                        have hcz95_8 : wc.cell? ⟨gb270, 8, none⟩ = some (.string a0_8) := (blk_cell BK270.out 8).trans rfl
                        have hfz95_0 := blk_frozen BK270.out 0
                        have hfz95_1 := blk_frozen BK270.out 1
                        have hfz95_2 := blk_frozen BK270.out 2
                        have hfz95_3 := blk_frozen BK270.out 3
                        have hfz95_4 := blk_frozen BK270.out 4
                        have hfz95_5 := blk_frozen BK270.out 5
                        have hfz95_6 := blk_frozen BK270.out 6
                        have hfz95_7 := blk_frozen BK270.out 7
                        have hfz95_8 := blk_frozen BK270.out 8
                        go_wp2_with (first | ((with_reducible refine gate_dst (N := 75) rfl ?_); refine Kd.R_lit k43 _ 43 ?hg (N := 75) ?hd (xs := ([(⟨a0_0, a0_1, a0_2⟩ : S43), (⟨a0_3, a0_4, a0_5⟩ : S43)] : List (S43))) (inner := [.bool a0_0, .int .i64 a0_1, .string a0_2, .bool a0_3, .int .i64 a0_4, .string a0_5]) (ok := fun _ => True) (okp := fun _ => True) ?hr ?hp (fun _ hk => hk) trivial (Below.refl _ _) (Nat.le_refl _) (by simp) ?_; (case hd => rfl); (case hg => rfl); (case hr => first | (go_simp; done) | (go_simp; rfl)); (case hp => exact (Reps.c3 (show Kd.M k43 _ _ _ (⟨a0_0, a0_1, a0_2⟩ : S43) [.bool a0_0, .int .i64 a0_1, .string a0_2] from (k43_mkM _ _ _ (⟨a0_0, a0_1, a0_2⟩ : S43) )) (Reps.c3 (show Kd.M k43 _ _ _ (⟨a0_3, a0_4, a0_5⟩ : S43) [.bool a0_3, .int .i64 a0_4, .string a0_5] from (k43_mkM _ _ _ (⟨a0_3, a0_4, a0_5⟩ : S43) )) (Reps.none _ _)))); intro v280 w96 ho97 hb hg_ hnew_; clear hg_ hnew_; (first | rw [← Ny279.out] at ho97 | (simp only [Int.reduceToNat] at ho97; rw [← Ny279.out] at ho97)); have n0_ := Aside0.mk (Kd.R_lower ho97 (below_size (by repeat (first | (with_reducible first | exact HB.out | apply below_alloc | apply pw_below_drewN | apply below_drew1 | refine below_set ?_ GE270.out) | exact HB.out)))); have n1_ := Aside0.mk (blk_below (g := gb270) (o := .cells #[.bool a0_0, .int .i64 a0_1, .string a0_2, .bool a0_3, .int .i64 a0_4, .string a0_5, .bool a0_6, .int .i64 a0_7, .string a0_8] 51 (0, 0)) (by (with_reducible repeat (first | refine blk_drewN ?_ _ | refine blk_drew ?_ | refine blk_alloc ?_ _)); exact BK270.out) hb); have n2_ := Aside0.mk (below_step (by repeat (first | (with_reducible first | exact HB.out | apply below_alloc | apply pw_below_drewN | apply below_drew1 | refine below_set ?_ GE270.out) | exact HB.out)) hb); clear BK270; clear HB; have HO281 := n0_; have BK270 := n1_; have HB := n2_; clear n0_ n1_ n2_; clear hb ho97; obtain ⟨Ao98, co98, eo98⟩ := Kd.R_slice HO281.out; subst eo98) | ((with_reducible refine gate_callee (f := 21) rfl ?_); refine goesL_ (some 76) rfl rfl Tryd.func21 (by kernel_rfl) rfl #[.int .i64 15, .slice Ao98 y279.length co98] rfl (by (try simp only [List.map_toArray, List.map_cons, List.map_nil]); first | done | rfl | (simp only [List.length_drop, List.length_take]; rfl)) ?_; (with_reducible refine (value_Do.calls kj26 15 _ _ y279 t282 t283 t284 t285 _ (Tabs.below hT (by first | exact Below.refl _ _ | exact pw_below_drewN (Below.refl _ _) _ | exact (by repeat (first | (with_reducible first | exact HB.out | apply below_alloc | apply pw_below_drewN | apply below_drew1 | refine below_set ?_ GE270.out) | exact HB.out)))) ?side1 ?side2 A52.out).mono ?_); (case side1 => repeat (first | exact (Kd.R_reads' HO281.out).2.2 | (with_reducible refine Kd.C_alloc ?_ _) | (with_reducible refine Kd.C_drewN ?_ _) | (with_reducible refine Kd.C_drew ?_))); (case side2 => exact (Kd.R_reads' HO281.out).2.1); rintro e w99 ⟨rfl, hb⟩; refine ⟨_, rfl, ?_⟩; have n0_ := Aside0.mk (Kd.R_below (by (with_reducible repeat (first | apply Kd.R_alloc | apply Kd.R_drewN | apply Kd.R_drew)); exact HO281.out) hb); have n1_ := Aside0.mk (blk_below (g := gb270) (o := .cells #[.bool a0_0, .int .i64 a0_1, .string a0_2, .bool a0_3, .int .i64 a0_4, .string a0_5, .bool a0_6, .int .i64 a0_7, .string a0_8] 51 (0, 0)) (by (with_reducible repeat (first | refine blk_drewN ?_ _ | refine blk_drew ?_ | refine blk_alloc ?_ _)); exact BK270.out) hb); have n2_ := Aside0.mk (below_step (by repeat (first | (with_reducible first | exact HB.out | apply below_alloc | apply pw_below_drewN | apply below_drew1 | refine below_set ?_ GE270.out) | exact HB.out)) hb); clear HO281; clear BK270; clear HB; have HO281 := n0_; have BK270 := n1_; have HB := n2_; clear n0_ n1_ n2_; (try clear hb); (try clear hb2); (try clear hk); (try clear hi)) | ((with_reducible refine gate_dst (N := 6) rfl ?_); refine box_event ?hg (N := 6) ?hd (cs := #[.bool false, .int .i64 0, .string (⟨#[]⟩ : ByteArray)]) (t := 43) ?hr ?_; (case hd => rfl); (case hg => rfl); (case hr => first | (go_simp; done) | (go_simp; rfl)); intro gb286 hg w100 hbox hb; have n0_ := Aside0.mk (Kd.R_below (Kd.R_elderB (by (with_reducible repeat (first | apply Kd.R_alloc | apply Kd.R_drewN | apply Kd.R_drew)); exact HO281.out) gb286 (Nat.le_of_eq hg.symm)) hb); have n1_ := Aside0.mk (blk_below (g := gb270) (o := .cells #[.bool a0_0, .int .i64 a0_1, .string a0_2, .bool a0_3, .int .i64 a0_4, .string a0_5, .bool a0_6, .int .i64 a0_7, .string a0_8] 51 (0, 0)) (by (with_reducible repeat (first | refine blk_drewN ?_ _ | refine blk_drew ?_ | refine blk_alloc ?_ _)); exact BK270.out) hb); have n2_ := Aside0.mk (below_step (by repeat (first | (with_reducible first | exact HB.out | apply below_alloc | apply pw_below_drewN | apply below_drew1 | refine below_set ?_ GE270.out) | exact HB.out)) hb); have n3_ := Aside0.mk (hbox); have n4_ := Aside0.mk ((by rw [hg]; exact (below_size (by repeat (first | (with_reducible first | exact HB.out | apply below_alloc | apply pw_below_drewN | apply below_drew1 | refine below_set ?_ GE270.out) | exact HB.out))) : w.heap.size ≤ gb286)); have n5_ := Aside0.mk ((by rw [hg]; exact (below_size (by repeat (first | (with_reducible first | exact HB.out | apply below_alloc | apply pw_below_drewN | apply below_drew1 | refine below_set ?_ GE270.out) | exact HB.out))) : w.heap.size ≤ gb286)); have n6_ := Aside0.mk ((by rw [hg]; exact Nat.ne_of_lt (blk_lt (g := gb270) (o := .cells #[.bool a0_0, .int .i64 a0_1, .string a0_2, .bool a0_3, .int .i64 a0_4, .string a0_5, .bool a0_6, .int .i64 a0_7, .string a0_8] 51 (0, 0)) (by (with_reducible repeat (first | refine blk_drewN ?_ _ | refine blk_drew ?_ | refine blk_alloc ?_ _)); exact BK270.out)) : gb270 ≠ gb286)); have n7_ := Aside0.mk ((by rw [hg]; exact Nat.ne_of_gt (blk_lt (g := gb270) (o := .cells #[.bool a0_0, .int .i64 a0_1, .string a0_2, .bool a0_3, .int .i64 a0_4, .string a0_5, .bool a0_6, .int .i64 a0_7, .string a0_8] 51 (0, 0)) (by (with_reducible repeat (first | refine blk_drewN ?_ _ | refine blk_drew ?_ | refine blk_alloc ?_ _)); exact BK270.out)) : gb286 ≠ gb270)); clear HO281; clear BK270; clear HB; have HO281 := n0_; have BK270 := n1_; have HB := n2_; have BK286 := n3_; have GW286 := n4_; have GE286 := n5_; have NB270_286 := n6_; have NB286_270 := n7_; clear n0_ n1_ n2_ n3_ n4_ n5_ n6_ n7_; clear hb hbox hg; have hnb101 := NB286_270.out; have hnc101 := NB270_286.out; have hcz102_0 : w100.cell? ⟨gb286, 0, none⟩ = some (.bool false) := (blk_cell BK286.out 0).trans rfl; have hcz102_1 : w100.cell? ⟨gb286, 1, none⟩ = some (.int .i64 0) := (blk_cell BK286.out 1).trans rfl; have hcz102_2 : w100.cell? ⟨gb286, 2, none⟩ = some (.string (⟨#[]⟩ : ByteArray)) := (blk_cell BK286.out 2).trans rfl; have hfz102_0 := blk_frozen BK286.out 0; have hfz102_1 := blk_frozen BK286.out 1; have hfz102_2 := blk_frozen BK286.out 2; have hcz103_0 : w100.cell? ⟨gb270, 0, none⟩ = some (.bool a0_0) := (blk_cell BK270.out 0).trans rfl; have hcz103_1 : w100.cell? ⟨gb270, 1, none⟩ = some (.int .i64 a0_1) := (blk_cell BK270.out 1).trans rfl; have hcz103_2 : w100.cell? ⟨gb270, 2, none⟩ = some (.string a0_2) := (blk_cell BK270.out 2).trans rfl; have hcz103_3 : w100.cell? ⟨gb270, 3, none⟩ = some (.bool a0_3) := (blk_cell BK270.out 3).trans rfl; have hcz103_4 : w100.cell? ⟨gb270, 4, none⟩ = some (.int .i64 a0_4) := (blk_cell BK270.out 4).trans rfl; have hcz103_5 : w100.cell? ⟨gb270, 5, none⟩ = some (.string a0_5) := (blk_cell BK270.out 5).trans rfl; have hcz103_6 : w100.cell? ⟨gb270, 6, none⟩ = some (.bool a0_6) := (blk_cell BK270.out 6).trans rfl; have hcz103_7 : w100.cell? ⟨gb270, 7, none⟩ = some (.int .i64 a0_7) := (blk_cell BK270.out 7).trans rfl; have hcz103_8 : w100.cell? ⟨gb270, 8, none⟩ = some (.string a0_8) := (blk_cell BK270.out 8).trans rfl; have hfz103_0 := blk_frozen BK270.out 0; have hfz103_1 := blk_frozen BK270.out 1; have hfz103_2 := blk_frozen BK270.out 2; have hfz103_3 := blk_frozen BK270.out 3; have hfz103_4 := blk_frozen BK270.out 4; have hfz103_5 := blk_frozen BK270.out 5; have hfz103_6 := blk_frozen BK270.out 6; have hfz103_7 := blk_frozen BK270.out 7; have hfz103_8 := blk_frozen BK270.out 8) | ((with_reducible refine gate_callee (f := 22) rfl ?_); refine goesL_ (some 91) rfl rfl Tryd.func22 (by kernel_rfl) rfl #[] rfl (by (try simp only [List.map_toArray, List.map_cons, List.map_nil]); first | done | rfl | (simp only [List.length_drop, List.length_take]; rfl)) ?_; (with_reducible refine (threshinglaw13_alive.calls kj26  true _ (Tabs.below hT (by first | exact Below.refl _ _ | exact pw_below_drewN (Below.refl _ _) _ | exact (by repeat (first | (with_reducible first | exact HB.out | apply below_alloc | apply pw_below_drewN | apply below_drew1 | refine below_set ?_ GE270.out | refine below_set ?_ GE286.out) | exact HB.out)))) A76.out).mono ?_); rintro e w104 ⟨rfl, hb⟩; refine ⟨_, rfl, ?_⟩; have n0_ := Aside0.mk (Kd.R_below (by (with_reducible repeat (first | apply Kd.R_alloc | apply Kd.R_drewN | apply Kd.R_drew)); exact (Kd.R_mono (Kd.R_far (p := ⟨gb286, 2, none⟩) (Kd.R_far (p := ⟨gb286, 1, none⟩) (Kd.R_far (p := ⟨gb286, 0, none⟩) (Kd.R_mono HO281.out (fun k_ hk => (⟨hk, hk.2⟩ : _ ∧ k_ ≠ gb286))) (fun _ hk => hk.2) (.bool t282)) (fun _ hk => hk.2) (.int .i64 t283)) (fun _ hk => hk.2) (.string t284)) (fun _ h_ => h_.1))) hb); have n1_ := Aside0.mk (blk_below (g := gb270) (o := .cells #[.bool a0_0, .int .i64 a0_1, .string a0_2, .bool a0_3, .int .i64 a0_4, .string a0_5, .bool a0_6, .int .i64 a0_7, .string a0_8] 51 (0, 0)) (by (with_reducible repeat (first | refine blk_drewN ?_ _ | refine blk_drew ?_ | refine blk_alloc ?_ _)); refine blk_far ?_ NB270_286.out _; (with_reducible repeat (first | refine blk_drewN ?_ _ | refine blk_drew ?_ | refine blk_alloc ?_ _)); refine blk_far ?_ NB270_286.out _; (with_reducible repeat (first | refine blk_drewN ?_ _ | refine blk_drew ?_ | refine blk_alloc ?_ _)); refine blk_far ?_ NB270_286.out _; (with_reducible repeat (first | refine blk_drewN ?_ _ | refine blk_drew ?_ | refine blk_alloc ?_ _)); exact BK270.out) hb); have n2_ := Aside0.mk (blk_below (g := gb286) (o := .cells #[.bool t282, .int .i64 t283, .string t284] 43 (0, 0)) (by (with_reducible repeat (first | refine blk_drewN ?_ _ | refine blk_drew ?_ | refine blk_alloc ?_ _)); refine blk_put (cs := #[.bool t282, .int .i64 t283, .string (⟨#[]⟩ : ByteArray)]) ?_ 2 _ rfl; (with_reducible repeat (first | refine blk_drewN ?_ _ | refine blk_drew ?_ | refine blk_alloc ?_ _)); refine blk_put (cs := #[.bool t282, .int .i64 0, .string (⟨#[]⟩ : ByteArray)]) ?_ 1 _ rfl; (with_reducible repeat (first | refine blk_drewN ?_ _ | refine blk_drew ?_ | refine blk_alloc ?_ _)); refine blk_put (cs := #[.bool false, .int .i64 0, .string (⟨#[]⟩ : ByteArray)]) ?_ 0 _ rfl; (with_reducible repeat (first | refine blk_drewN ?_ _ | refine blk_drew ?_ | refine blk_alloc ?_ _)); exact BK286.out) hb); have n3_ := Aside0.mk (below_step (by repeat (first | (with_reducible first | exact HB.out | apply below_alloc | apply pw_below_drewN | apply below_drew1 | refine below_set ?_ GE270.out | refine below_set ?_ GE286.out) | exact HB.out)) hb); clear HO281; clear BK270; clear BK286; clear HB; have HO281 := n0_; have BK270 := n1_; have BK286 := n2_; have HB := n3_; clear n0_ n1_ n2_ n3_; (try clear hb); (try clear hb2); (try clear hk); (try clear hi); have hcz105_0 : w104.cell? ⟨gb286, 0, none⟩ = some (.bool t282) := (blk_cell BK286.out 0).trans rfl; have hcz105_1 : w104.cell? ⟨gb286, 1, none⟩ = some (.int .i64 t283) := (blk_cell BK286.out 1).trans rfl; have hcz105_2 : w104.cell? ⟨gb286, 2, none⟩ = some (.string t284) := (blk_cell BK286.out 2).trans rfl; have hfz105_0 := blk_frozen BK286.out 0; have hfz105_1 := blk_frozen BK286.out 1; have hfz105_2 := blk_frozen BK286.out 2; have hcz106_0 : w104.cell? ⟨gb270, 0, none⟩ = some (.bool a0_0) := (blk_cell BK270.out 0).trans rfl; have hcz106_1 : w104.cell? ⟨gb270, 1, none⟩ = some (.int .i64 a0_1) := (blk_cell BK270.out 1).trans rfl; have hcz106_2 : w104.cell? ⟨gb270, 2, none⟩ = some (.string a0_2) := (blk_cell BK270.out 2).trans rfl; have hcz106_3 : w104.cell? ⟨gb270, 3, none⟩ = some (.bool a0_3) := (blk_cell BK270.out 3).trans rfl; have hcz106_4 : w104.cell? ⟨gb270, 4, none⟩ = some (.int .i64 a0_4) := (blk_cell BK270.out 4).trans rfl; have hcz106_5 : w104.cell? ⟨gb270, 5, none⟩ = some (.string a0_5) := (blk_cell BK270.out 5).trans rfl; have hcz106_6 : w104.cell? ⟨gb270, 6, none⟩ = some (.bool a0_6) := (blk_cell BK270.out 6).trans rfl; have hcz106_7 : w104.cell? ⟨gb270, 7, none⟩ = some (.int .i64 a0_7) := (blk_cell BK270.out 7).trans rfl; have hcz106_8 : w104.cell? ⟨gb270, 8, none⟩ = some (.string a0_8) := (blk_cell BK270.out 8).trans rfl; have hfz106_0 := blk_frozen BK270.out 0; have hfz106_1 := blk_frozen BK270.out 1; have hfz106_2 := blk_frozen BK270.out 2; have hfz106_3 := blk_frozen BK270.out 3; have hfz106_4 := blk_frozen BK270.out 4; have hfz106_5 := blk_frozen BK270.out 5; have hfz106_6 := blk_frozen BK270.out 6; have hfz106_7 := blk_frozen BK270.out 7; have hfz106_8 := blk_frozen BK270.out 8) | (go_at_call 26; (with_reducible refine (value_Hash.calls kj26 a0_2 t289 _ (Tabs.below hT (by first | exact Below.refl _ _ | exact pw_below_drewN (Below.refl _ _) _ | exact (by repeat (first | (with_reducible first | exact HB.out | apply below_alloc | apply pw_below_drewN | apply below_drew1 | refine below_set ?_ GE270.out | refine below_set ?_ GE286.out) | exact HB.out)))) A80.out).mono ?_); rintro e w' ⟨rfl, ⟨nd, rfl⟩⟩))
                        go_ret
                        exact ⟨by first | rfl | (simp [errW_none, errW_some] <;> rfl) | (simp [*, errW_none, errW_some] <;> rfl) | (simp only [same_.out]; rfl), by repeat (first | (with_reducible first | exact HB.out | apply below_alloc | apply pw_below_drewN | apply below_drew1 | refine below_set ?_ GE270.out | refine below_set ?_ GE286.out) | exact HB.out)⟩
                    · rw [if_neg c79] at H
                      have c79b0 : ((t283 == 1) == (decide (t275 < 0))) = false := by simpa using c79
                      (try (have c79b1 : decide ((t283 == 1) = (decide (t275 < 0))) = false := by simpa using c79))
                      (try (have c79b2 : ((t283 == 1) == (decide (t275 < 0))) = false := by simpa using c79))
                      (try (have c79b3 : ¬ ((t283 == 1) = (decide (t275 < 0))) := by simpa using c79))
                      clear c79
                      obtain rfl := Option.some.inj H
                      have hcz107_0 : wc.cell? ⟨gb270, 0, none⟩ = some (.bool a0_0) := (blk_cell BK270.out 0).trans rfl
                      have hcz107_1 : wc.cell? ⟨gb270, 1, none⟩ = some (.int .i64 a0_1) := (blk_cell BK270.out 1).trans rfl
                      have hcz107_2 : wc.cell? ⟨gb270, 2, none⟩ = some (.string a0_2) := (blk_cell BK270.out 2).trans rfl
                      have hcz107_3 : wc.cell? ⟨gb270, 3, none⟩ = some (.bool a0_3) := (blk_cell BK270.out 3).trans rfl
                      have hcz107_4 : wc.cell? ⟨gb270, 4, none⟩ = some (.int .i64 a0_4) := (blk_cell BK270.out 4).trans rfl
                      have hcz107_5 : wc.cell? ⟨gb270, 5, none⟩ = some (.string a0_5) := (blk_cell BK270.out 5).trans rfl
                      have hcz107_6 : wc.cell? ⟨gb270, 6, none⟩ = some (.bool a0_6) := (blk_cell BK270.out 6).trans rfl
                      have hcz107_7 : wc.cell? ⟨gb270, 7, none⟩ = some (.int .i64 a0_7) := (blk_cell BK270.out 7).trans rfl
                      have hcz107_8 : wc.cell? ⟨gb270, 8, none⟩ = some (.string a0_8) := (blk_cell BK270.out 8).trans rfl
                      have hfz107_0 := blk_frozen BK270.out 0
                      have hfz107_1 := blk_frozen BK270.out 1
                      have hfz107_2 := blk_frozen BK270.out 2
                      have hfz107_3 := blk_frozen BK270.out 3
                      have hfz107_4 := blk_frozen BK270.out 4
                      have hfz107_5 := blk_frozen BK270.out 5
                      have hfz107_6 := blk_frozen BK270.out 6
                      have hfz107_7 := blk_frozen BK270.out 7
                      have hfz107_8 := blk_frozen BK270.out 8
                      go_wp2_with (first | ((with_reducible refine gate_dst (N := 75) rfl ?_); refine Kd.R_lit k43 _ 43 ?hg (N := 75) ?hd (xs := ([(⟨a0_0, a0_1, a0_2⟩ : S43), (⟨a0_3, a0_4, a0_5⟩ : S43)] : List (S43))) (inner := [.bool a0_0, .int .i64 a0_1, .string a0_2, .bool a0_3, .int .i64 a0_4, .string a0_5]) (ok := fun _ => True) (okp := fun _ => True) ?hr ?hp (fun _ hk => hk) trivial (Below.refl _ _) (Nat.le_refl _) (by simp) ?_; (case hd => rfl); (case hg => rfl); (case hr => first | (go_simp; done) | (go_simp; rfl)); (case hp => exact (Reps.c3 (show Kd.M k43 _ _ _ (⟨a0_0, a0_1, a0_2⟩ : S43) [.bool a0_0, .int .i64 a0_1, .string a0_2] from (k43_mkM _ _ _ (⟨a0_0, a0_1, a0_2⟩ : S43) )) (Reps.c3 (show Kd.M k43 _ _ _ (⟨a0_3, a0_4, a0_5⟩ : S43) [.bool a0_3, .int .i64 a0_4, .string a0_5] from (k43_mkM _ _ _ (⟨a0_3, a0_4, a0_5⟩ : S43) )) (Reps.none _ _)))); intro v280 w108 ho109 hb hg_ hnew_; clear hg_ hnew_; (first | rw [← Ny279.out] at ho109 | (simp only [Int.reduceToNat] at ho109; rw [← Ny279.out] at ho109)); have n0_ := Aside0.mk (Kd.R_lower ho109 (below_size (by repeat (first | (with_reducible first | exact HB.out | apply below_alloc | apply pw_below_drewN | apply below_drew1 | refine below_set ?_ GE270.out) | exact HB.out)))); have n1_ := Aside0.mk (blk_below (g := gb270) (o := .cells #[.bool a0_0, .int .i64 a0_1, .string a0_2, .bool a0_3, .int .i64 a0_4, .string a0_5, .bool a0_6, .int .i64 a0_7, .string a0_8] 51 (0, 0)) (by (with_reducible repeat (first | refine blk_drewN ?_ _ | refine blk_drew ?_ | refine blk_alloc ?_ _)); exact BK270.out) hb); have n2_ := Aside0.mk (below_step (by repeat (first | (with_reducible first | exact HB.out | apply below_alloc | apply pw_below_drewN | apply below_drew1 | refine below_set ?_ GE270.out) | exact HB.out)) hb); clear BK270; clear HB; have HO281 := n0_; have BK270 := n1_; have HB := n2_; clear n0_ n1_ n2_; clear hb ho109; obtain ⟨Ao110, co110, eo110⟩ := Kd.R_slice HO281.out; subst eo110) | ((with_reducible refine gate_callee (f := 21) rfl ?_); refine goesL_ (some 76) rfl rfl Tryd.func21 (by kernel_rfl) rfl #[.int .i64 15, .slice Ao110 y279.length co110] rfl (by (try simp only [List.map_toArray, List.map_cons, List.map_nil]); first | done | rfl | (simp only [List.length_drop, List.length_take]; rfl)) ?_; (with_reducible refine (value_Do.calls kj26 15 _ _ y279 t282 t283 t284 t285 _ (Tabs.below hT (by first | exact Below.refl _ _ | exact pw_below_drewN (Below.refl _ _) _ | exact (by repeat (first | (with_reducible first | exact HB.out | apply below_alloc | apply pw_below_drewN | apply below_drew1 | refine below_set ?_ GE270.out) | exact HB.out)))) ?side1 ?side2 A52.out).mono ?_); (case side1 => repeat (first | exact (Kd.R_reads' HO281.out).2.2 | (with_reducible refine Kd.C_alloc ?_ _) | (with_reducible refine Kd.C_drewN ?_ _) | (with_reducible refine Kd.C_drew ?_))); (case side2 => exact (Kd.R_reads' HO281.out).2.1); rintro e w111 ⟨rfl, hb⟩; refine ⟨_, rfl, ?_⟩; have n0_ := Aside0.mk (Kd.R_below (by (with_reducible repeat (first | apply Kd.R_alloc | apply Kd.R_drewN | apply Kd.R_drew)); exact HO281.out) hb); have n1_ := Aside0.mk (blk_below (g := gb270) (o := .cells #[.bool a0_0, .int .i64 a0_1, .string a0_2, .bool a0_3, .int .i64 a0_4, .string a0_5, .bool a0_6, .int .i64 a0_7, .string a0_8] 51 (0, 0)) (by (with_reducible repeat (first | refine blk_drewN ?_ _ | refine blk_drew ?_ | refine blk_alloc ?_ _)); exact BK270.out) hb); have n2_ := Aside0.mk (below_step (by repeat (first | (with_reducible first | exact HB.out | apply below_alloc | apply pw_below_drewN | apply below_drew1 | refine below_set ?_ GE270.out) | exact HB.out)) hb); clear HO281; clear BK270; clear HB; have HO281 := n0_; have BK270 := n1_; have HB := n2_; clear n0_ n1_ n2_; (try clear hb); (try clear hb2); (try clear hk); (try clear hi)) | ((with_reducible refine gate_dst (N := 6) rfl ?_); refine box_event ?hg (N := 6) ?hd (cs := #[.bool false, .int .i64 0, .string (⟨#[]⟩ : ByteArray)]) (t := 43) ?hr ?_; (case hd => rfl); (case hg => rfl); (case hr => first | (go_simp; done) | (go_simp; rfl)); intro gb286 hg w112 hbox hb; have n0_ := Aside0.mk (Kd.R_below (Kd.R_elderB (by (with_reducible repeat (first | apply Kd.R_alloc | apply Kd.R_drewN | apply Kd.R_drew)); exact HO281.out) gb286 (Nat.le_of_eq hg.symm)) hb); have n1_ := Aside0.mk (blk_below (g := gb270) (o := .cells #[.bool a0_0, .int .i64 a0_1, .string a0_2, .bool a0_3, .int .i64 a0_4, .string a0_5, .bool a0_6, .int .i64 a0_7, .string a0_8] 51 (0, 0)) (by (with_reducible repeat (first | refine blk_drewN ?_ _ | refine blk_drew ?_ | refine blk_alloc ?_ _)); exact BK270.out) hb); have n2_ := Aside0.mk (below_step (by repeat (first | (with_reducible first | exact HB.out | apply below_alloc | apply pw_below_drewN | apply below_drew1 | refine below_set ?_ GE270.out) | exact HB.out)) hb); have n3_ := Aside0.mk (hbox); have n4_ := Aside0.mk ((by rw [hg]; exact (below_size (by repeat (first | (with_reducible first | exact HB.out | apply below_alloc | apply pw_below_drewN | apply below_drew1 | refine below_set ?_ GE270.out) | exact HB.out))) : w.heap.size ≤ gb286)); have n5_ := Aside0.mk ((by rw [hg]; exact (below_size (by repeat (first | (with_reducible first | exact HB.out | apply below_alloc | apply pw_below_drewN | apply below_drew1 | refine below_set ?_ GE270.out) | exact HB.out))) : w.heap.size ≤ gb286)); have n6_ := Aside0.mk ((by rw [hg]; exact Nat.ne_of_lt (blk_lt (g := gb270) (o := .cells #[.bool a0_0, .int .i64 a0_1, .string a0_2, .bool a0_3, .int .i64 a0_4, .string a0_5, .bool a0_6, .int .i64 a0_7, .string a0_8] 51 (0, 0)) (by (with_reducible repeat (first | refine blk_drewN ?_ _ | refine blk_drew ?_ | refine blk_alloc ?_ _)); exact BK270.out)) : gb270 ≠ gb286)); have n7_ := Aside0.mk ((by rw [hg]; exact Nat.ne_of_gt (blk_lt (g := gb270) (o := .cells #[.bool a0_0, .int .i64 a0_1, .string a0_2, .bool a0_3, .int .i64 a0_4, .string a0_5, .bool a0_6, .int .i64 a0_7, .string a0_8] 51 (0, 0)) (by (with_reducible repeat (first | refine blk_drewN ?_ _ | refine blk_drew ?_ | refine blk_alloc ?_ _)); exact BK270.out)) : gb286 ≠ gb270)); clear HO281; clear BK270; clear HB; have HO281 := n0_; have BK270 := n1_; have HB := n2_; have BK286 := n3_; have GW286 := n4_; have GE286 := n5_; have NB270_286 := n6_; have NB286_270 := n7_; clear n0_ n1_ n2_ n3_ n4_ n5_ n6_ n7_; clear hb hbox hg; have hnb113 := NB286_270.out; have hnc113 := NB270_286.out; have hcz114_0 : w112.cell? ⟨gb286, 0, none⟩ = some (.bool false) := (blk_cell BK286.out 0).trans rfl; have hcz114_1 : w112.cell? ⟨gb286, 1, none⟩ = some (.int .i64 0) := (blk_cell BK286.out 1).trans rfl; have hcz114_2 : w112.cell? ⟨gb286, 2, none⟩ = some (.string (⟨#[]⟩ : ByteArray)) := (blk_cell BK286.out 2).trans rfl; have hfz114_0 := blk_frozen BK286.out 0; have hfz114_1 := blk_frozen BK286.out 1; have hfz114_2 := blk_frozen BK286.out 2; have hcz115_0 : w112.cell? ⟨gb270, 0, none⟩ = some (.bool a0_0) := (blk_cell BK270.out 0).trans rfl; have hcz115_1 : w112.cell? ⟨gb270, 1, none⟩ = some (.int .i64 a0_1) := (blk_cell BK270.out 1).trans rfl; have hcz115_2 : w112.cell? ⟨gb270, 2, none⟩ = some (.string a0_2) := (blk_cell BK270.out 2).trans rfl; have hcz115_3 : w112.cell? ⟨gb270, 3, none⟩ = some (.bool a0_3) := (blk_cell BK270.out 3).trans rfl; have hcz115_4 : w112.cell? ⟨gb270, 4, none⟩ = some (.int .i64 a0_4) := (blk_cell BK270.out 4).trans rfl; have hcz115_5 : w112.cell? ⟨gb270, 5, none⟩ = some (.string a0_5) := (blk_cell BK270.out 5).trans rfl; have hcz115_6 : w112.cell? ⟨gb270, 6, none⟩ = some (.bool a0_6) := (blk_cell BK270.out 6).trans rfl; have hcz115_7 : w112.cell? ⟨gb270, 7, none⟩ = some (.int .i64 a0_7) := (blk_cell BK270.out 7).trans rfl; have hcz115_8 : w112.cell? ⟨gb270, 8, none⟩ = some (.string a0_8) := (blk_cell BK270.out 8).trans rfl; have hfz115_0 := blk_frozen BK270.out 0; have hfz115_1 := blk_frozen BK270.out 1; have hfz115_2 := blk_frozen BK270.out 2; have hfz115_3 := blk_frozen BK270.out 3; have hfz115_4 := blk_frozen BK270.out 4; have hfz115_5 := blk_frozen BK270.out 5; have hfz115_6 := blk_frozen BK270.out 6; have hfz115_7 := blk_frozen BK270.out 7; have hfz115_8 := blk_frozen BK270.out 8) | ((with_reducible refine gate_callee (f := 22) rfl ?_); refine goesL_ (some 91) rfl rfl Tryd.func22 (by kernel_rfl) rfl #[] rfl (by (try simp only [List.map_toArray, List.map_cons, List.map_nil]); first | done | rfl | (simp only [List.length_drop, List.length_take]; rfl)) ?_; (with_reducible refine (threshinglaw13_alive.calls kj26  true _ (Tabs.below hT (by first | exact Below.refl _ _ | exact pw_below_drewN (Below.refl _ _) _ | exact (by repeat (first | (with_reducible first | exact HB.out | apply below_alloc | apply pw_below_drewN | apply below_drew1 | refine below_set ?_ GE270.out | refine below_set ?_ GE286.out) | exact HB.out)))) A76.out).mono ?_); rintro e w116 ⟨rfl, hb⟩; refine ⟨_, rfl, ?_⟩; have n0_ := Aside0.mk (Kd.R_below (by (with_reducible repeat (first | apply Kd.R_alloc | apply Kd.R_drewN | apply Kd.R_drew)); exact (Kd.R_mono (Kd.R_far (p := ⟨gb286, 2, none⟩) (Kd.R_far (p := ⟨gb286, 1, none⟩) (Kd.R_far (p := ⟨gb286, 0, none⟩) (Kd.R_mono HO281.out (fun k_ hk => (⟨hk, hk.2⟩ : _ ∧ k_ ≠ gb286))) (fun _ hk => hk.2) (.bool t282)) (fun _ hk => hk.2) (.int .i64 t283)) (fun _ hk => hk.2) (.string t284)) (fun _ h_ => h_.1))) hb); have n1_ := Aside0.mk (blk_below (g := gb270) (o := .cells #[.bool a0_0, .int .i64 a0_1, .string a0_2, .bool a0_3, .int .i64 a0_4, .string a0_5, .bool a0_6, .int .i64 a0_7, .string a0_8] 51 (0, 0)) (by (with_reducible repeat (first | refine blk_drewN ?_ _ | refine blk_drew ?_ | refine blk_alloc ?_ _)); refine blk_far ?_ NB270_286.out _; (with_reducible repeat (first | refine blk_drewN ?_ _ | refine blk_drew ?_ | refine blk_alloc ?_ _)); refine blk_far ?_ NB270_286.out _; (with_reducible repeat (first | refine blk_drewN ?_ _ | refine blk_drew ?_ | refine blk_alloc ?_ _)); refine blk_far ?_ NB270_286.out _; (with_reducible repeat (first | refine blk_drewN ?_ _ | refine blk_drew ?_ | refine blk_alloc ?_ _)); exact BK270.out) hb); have n2_ := Aside0.mk (blk_below (g := gb286) (o := .cells #[.bool t282, .int .i64 t283, .string t284] 43 (0, 0)) (by (with_reducible repeat (first | refine blk_drewN ?_ _ | refine blk_drew ?_ | refine blk_alloc ?_ _)); refine blk_put (cs := #[.bool t282, .int .i64 t283, .string (⟨#[]⟩ : ByteArray)]) ?_ 2 _ rfl; (with_reducible repeat (first | refine blk_drewN ?_ _ | refine blk_drew ?_ | refine blk_alloc ?_ _)); refine blk_put (cs := #[.bool t282, .int .i64 0, .string (⟨#[]⟩ : ByteArray)]) ?_ 1 _ rfl; (with_reducible repeat (first | refine blk_drewN ?_ _ | refine blk_drew ?_ | refine blk_alloc ?_ _)); refine blk_put (cs := #[.bool false, .int .i64 0, .string (⟨#[]⟩ : ByteArray)]) ?_ 0 _ rfl; (with_reducible repeat (first | refine blk_drewN ?_ _ | refine blk_drew ?_ | refine blk_alloc ?_ _)); exact BK286.out) hb); have n3_ := Aside0.mk (below_step (by repeat (first | (with_reducible first | exact HB.out | apply below_alloc | apply pw_below_drewN | apply below_drew1 | refine below_set ?_ GE270.out | refine below_set ?_ GE286.out) | exact HB.out)) hb); clear HO281; clear BK270; clear BK286; clear HB; have HO281 := n0_; have BK270 := n1_; have BK286 := n2_; have HB := n3_; clear n0_ n1_ n2_ n3_; (try clear hb); (try clear hb2); (try clear hk); (try clear hi); have hcz117_0 : w116.cell? ⟨gb286, 0, none⟩ = some (.bool t282) := (blk_cell BK286.out 0).trans rfl; have hcz117_1 : w116.cell? ⟨gb286, 1, none⟩ = some (.int .i64 t283) := (blk_cell BK286.out 1).trans rfl; have hcz117_2 : w116.cell? ⟨gb286, 2, none⟩ = some (.string t284) := (blk_cell BK286.out 2).trans rfl; have hfz117_0 := blk_frozen BK286.out 0; have hfz117_1 := blk_frozen BK286.out 1; have hfz117_2 := blk_frozen BK286.out 2))
                      go_ret
                      exact ⟨by first | rfl | (simp [errW_none, errW_some] <;> rfl) | (simp [*, errW_none, errW_some] <;> rfl) | (simp only [same_.out]; rfl), by repeat (first | (with_reducible first | exact HB.out | apply below_alloc | apply pw_below_drewN | apply below_drew1 | refine below_set ?_ GE270.out | refine below_set ?_ GE286.out) | exact HB.out)⟩
                  · rw [if_neg c78] at H
                    have c78b0 : (t285 == 0) = false := beq_eq_false_iff_ne.mpr c78
                    have c78b1 : (t285 != 0) = true := bne_iff_ne.mpr c78
                    obtain rfl := Option.some.inj H
                    have hcz118_0 : wc.cell? ⟨gb270, 0, none⟩ = some (.bool a0_0) := (blk_cell BK270.out 0).trans rfl
                    have hcz118_1 : wc.cell? ⟨gb270, 1, none⟩ = some (.int .i64 a0_1) := (blk_cell BK270.out 1).trans rfl
                    have hcz118_2 : wc.cell? ⟨gb270, 2, none⟩ = some (.string a0_2) := (blk_cell BK270.out 2).trans rfl
                    have hcz118_3 : wc.cell? ⟨gb270, 3, none⟩ = some (.bool a0_3) := (blk_cell BK270.out 3).trans rfl
                    have hcz118_4 : wc.cell? ⟨gb270, 4, none⟩ = some (.int .i64 a0_4) := (blk_cell BK270.out 4).trans rfl
                    have hcz118_5 : wc.cell? ⟨gb270, 5, none⟩ = some (.string a0_5) := (blk_cell BK270.out 5).trans rfl
                    have hcz118_6 : wc.cell? ⟨gb270, 6, none⟩ = some (.bool a0_6) := (blk_cell BK270.out 6).trans rfl
                    have hcz118_7 : wc.cell? ⟨gb270, 7, none⟩ = some (.int .i64 a0_7) := (blk_cell BK270.out 7).trans rfl
                    have hcz118_8 : wc.cell? ⟨gb270, 8, none⟩ = some (.string a0_8) := (blk_cell BK270.out 8).trans rfl
                    have hfz118_0 := blk_frozen BK270.out 0
                    have hfz118_1 := blk_frozen BK270.out 1
                    have hfz118_2 := blk_frozen BK270.out 2
                    have hfz118_3 := blk_frozen BK270.out 3
                    have hfz118_4 := blk_frozen BK270.out 4
                    have hfz118_5 := blk_frozen BK270.out 5
                    have hfz118_6 := blk_frozen BK270.out 6
                    have hfz118_7 := blk_frozen BK270.out 7
                    have hfz118_8 := blk_frozen BK270.out 8
                    go_wp2_with (first | ((with_reducible refine gate_dst (N := 75) rfl ?_); refine Kd.R_lit k43 _ 43 ?hg (N := 75) ?hd (xs := ([(⟨a0_0, a0_1, a0_2⟩ : S43), (⟨a0_3, a0_4, a0_5⟩ : S43)] : List (S43))) (inner := [.bool a0_0, .int .i64 a0_1, .string a0_2, .bool a0_3, .int .i64 a0_4, .string a0_5]) (ok := fun _ => True) (okp := fun _ => True) ?hr ?hp (fun _ hk => hk) trivial (Below.refl _ _) (Nat.le_refl _) (by simp) ?_; (case hd => rfl); (case hg => rfl); (case hr => first | (go_simp; done) | (go_simp; rfl)); (case hp => exact (Reps.c3 (show Kd.M k43 _ _ _ (⟨a0_0, a0_1, a0_2⟩ : S43) [.bool a0_0, .int .i64 a0_1, .string a0_2] from (k43_mkM _ _ _ (⟨a0_0, a0_1, a0_2⟩ : S43) )) (Reps.c3 (show Kd.M k43 _ _ _ (⟨a0_3, a0_4, a0_5⟩ : S43) [.bool a0_3, .int .i64 a0_4, .string a0_5] from (k43_mkM _ _ _ (⟨a0_3, a0_4, a0_5⟩ : S43) )) (Reps.none _ _)))); intro v280 w119 ho120 hb hg_ hnew_; clear hg_ hnew_; (first | rw [← Ny279.out] at ho120 | (simp only [Int.reduceToNat] at ho120; rw [← Ny279.out] at ho120)); have n0_ := Aside0.mk (Kd.R_lower ho120 (below_size (by repeat (first | (with_reducible first | exact HB.out | apply below_alloc | apply pw_below_drewN | apply below_drew1 | refine below_set ?_ GE270.out) | exact HB.out)))); have n1_ := Aside0.mk (blk_below (g := gb270) (o := .cells #[.bool a0_0, .int .i64 a0_1, .string a0_2, .bool a0_3, .int .i64 a0_4, .string a0_5, .bool a0_6, .int .i64 a0_7, .string a0_8] 51 (0, 0)) (by (with_reducible repeat (first | refine blk_drewN ?_ _ | refine blk_drew ?_ | refine blk_alloc ?_ _)); exact BK270.out) hb); have n2_ := Aside0.mk (below_step (by repeat (first | (with_reducible first | exact HB.out | apply below_alloc | apply pw_below_drewN | apply below_drew1 | refine below_set ?_ GE270.out) | exact HB.out)) hb); clear BK270; clear HB; have HO281 := n0_; have BK270 := n1_; have HB := n2_; clear n0_ n1_ n2_; clear hb ho120; obtain ⟨Ao121, co121, eo121⟩ := Kd.R_slice HO281.out; subst eo121) | ((with_reducible refine gate_callee (f := 21) rfl ?_); refine goesL_ (some 76) rfl rfl Tryd.func21 (by kernel_rfl) rfl #[.int .i64 15, .slice Ao121 y279.length co121] rfl (by (try simp only [List.map_toArray, List.map_cons, List.map_nil]); first | done | rfl | (simp only [List.length_drop, List.length_take]; rfl)) ?_; (with_reducible refine (value_Do.calls kj26 15 _ _ y279 t282 t283 t284 t285 _ (Tabs.below hT (by first | exact Below.refl _ _ | exact pw_below_drewN (Below.refl _ _) _ | exact (by repeat (first | (with_reducible first | exact HB.out | apply below_alloc | apply pw_below_drewN | apply below_drew1 | refine below_set ?_ GE270.out) | exact HB.out)))) ?side1 ?side2 A52.out).mono ?_); (case side1 => repeat (first | exact (Kd.R_reads' HO281.out).2.2 | (with_reducible refine Kd.C_alloc ?_ _) | (with_reducible refine Kd.C_drewN ?_ _) | (with_reducible refine Kd.C_drew ?_))); (case side2 => exact (Kd.R_reads' HO281.out).2.1); rintro e w122 ⟨rfl, hb⟩; refine ⟨_, rfl, ?_⟩; have n0_ := Aside0.mk (Kd.R_below (by (with_reducible repeat (first | apply Kd.R_alloc | apply Kd.R_drewN | apply Kd.R_drew)); exact HO281.out) hb); have n1_ := Aside0.mk (blk_below (g := gb270) (o := .cells #[.bool a0_0, .int .i64 a0_1, .string a0_2, .bool a0_3, .int .i64 a0_4, .string a0_5, .bool a0_6, .int .i64 a0_7, .string a0_8] 51 (0, 0)) (by (with_reducible repeat (first | refine blk_drewN ?_ _ | refine blk_drew ?_ | refine blk_alloc ?_ _)); exact BK270.out) hb); have n2_ := Aside0.mk (below_step (by repeat (first | (with_reducible first | exact HB.out | apply below_alloc | apply pw_below_drewN | apply below_drew1 | refine below_set ?_ GE270.out) | exact HB.out)) hb); clear HO281; clear BK270; clear HB; have HO281 := n0_; have BK270 := n1_; have HB := n2_; clear n0_ n1_ n2_; (try clear hb); (try clear hb2); (try clear hk); (try clear hi)) | ((with_reducible refine gate_dst (N := 6) rfl ?_); refine box_event ?hg (N := 6) ?hd (cs := #[.bool false, .int .i64 0, .string (⟨#[]⟩ : ByteArray)]) (t := 43) ?hr ?_; (case hd => rfl); (case hg => rfl); (case hr => first | (go_simp; done) | (go_simp; rfl)); intro gb286 hg w123 hbox hb; have n0_ := Aside0.mk (Kd.R_below (Kd.R_elderB (by (with_reducible repeat (first | apply Kd.R_alloc | apply Kd.R_drewN | apply Kd.R_drew)); exact HO281.out) gb286 (Nat.le_of_eq hg.symm)) hb); have n1_ := Aside0.mk (blk_below (g := gb270) (o := .cells #[.bool a0_0, .int .i64 a0_1, .string a0_2, .bool a0_3, .int .i64 a0_4, .string a0_5, .bool a0_6, .int .i64 a0_7, .string a0_8] 51 (0, 0)) (by (with_reducible repeat (first | refine blk_drewN ?_ _ | refine blk_drew ?_ | refine blk_alloc ?_ _)); exact BK270.out) hb); have n2_ := Aside0.mk (below_step (by repeat (first | (with_reducible first | exact HB.out | apply below_alloc | apply pw_below_drewN | apply below_drew1 | refine below_set ?_ GE270.out) | exact HB.out)) hb); have n3_ := Aside0.mk (hbox); have n4_ := Aside0.mk ((by rw [hg]; exact (below_size (by repeat (first | (with_reducible first | exact HB.out | apply below_alloc | apply pw_below_drewN | apply below_drew1 | refine below_set ?_ GE270.out) | exact HB.out))) : w.heap.size ≤ gb286)); have n5_ := Aside0.mk ((by rw [hg]; exact (below_size (by repeat (first | (with_reducible first | exact HB.out | apply below_alloc | apply pw_below_drewN | apply below_drew1 | refine below_set ?_ GE270.out) | exact HB.out))) : w.heap.size ≤ gb286)); have n6_ := Aside0.mk ((by rw [hg]; exact Nat.ne_of_lt (blk_lt (g := gb270) (o := .cells #[.bool a0_0, .int .i64 a0_1, .string a0_2, .bool a0_3, .int .i64 a0_4, .string a0_5, .bool a0_6, .int .i64 a0_7, .string a0_8] 51 (0, 0)) (by (with_reducible repeat (first | refine blk_drewN ?_ _ | refine blk_drew ?_ | refine blk_alloc ?_ _)); exact BK270.out)) : gb270 ≠ gb286)); have n7_ := Aside0.mk ((by rw [hg]; exact Nat.ne_of_gt (blk_lt (g := gb270) (o := .cells #[.bool a0_0, .int .i64 a0_1, .string a0_2, .bool a0_3, .int .i64 a0_4, .string a0_5, .bool a0_6, .int .i64 a0_7, .string a0_8] 51 (0, 0)) (by (with_reducible repeat (first | refine blk_drewN ?_ _ | refine blk_drew ?_ | refine blk_alloc ?_ _)); exact BK270.out)) : gb286 ≠ gb270)); clear HO281; clear BK270; clear HB; have HO281 := n0_; have BK270 := n1_; have HB := n2_; have BK286 := n3_; have GW286 := n4_; have GE286 := n5_; have NB270_286 := n6_; have NB286_270 := n7_; clear n0_ n1_ n2_ n3_ n4_ n5_ n6_ n7_; clear hb hbox hg; have hnb124 := NB286_270.out; have hnc124 := NB270_286.out; have hcz125_0 : w123.cell? ⟨gb286, 0, none⟩ = some (.bool false) := (blk_cell BK286.out 0).trans rfl; have hcz125_1 : w123.cell? ⟨gb286, 1, none⟩ = some (.int .i64 0) := (blk_cell BK286.out 1).trans rfl; have hcz125_2 : w123.cell? ⟨gb286, 2, none⟩ = some (.string (⟨#[]⟩ : ByteArray)) := (blk_cell BK286.out 2).trans rfl; have hfz125_0 := blk_frozen BK286.out 0; have hfz125_1 := blk_frozen BK286.out 1; have hfz125_2 := blk_frozen BK286.out 2; have hcz126_0 : w123.cell? ⟨gb270, 0, none⟩ = some (.bool a0_0) := (blk_cell BK270.out 0).trans rfl; have hcz126_1 : w123.cell? ⟨gb270, 1, none⟩ = some (.int .i64 a0_1) := (blk_cell BK270.out 1).trans rfl; have hcz126_2 : w123.cell? ⟨gb270, 2, none⟩ = some (.string a0_2) := (blk_cell BK270.out 2).trans rfl; have hcz126_3 : w123.cell? ⟨gb270, 3, none⟩ = some (.bool a0_3) := (blk_cell BK270.out 3).trans rfl; have hcz126_4 : w123.cell? ⟨gb270, 4, none⟩ = some (.int .i64 a0_4) := (blk_cell BK270.out 4).trans rfl; have hcz126_5 : w123.cell? ⟨gb270, 5, none⟩ = some (.string a0_5) := (blk_cell BK270.out 5).trans rfl; have hcz126_6 : w123.cell? ⟨gb270, 6, none⟩ = some (.bool a0_6) := (blk_cell BK270.out 6).trans rfl; have hcz126_7 : w123.cell? ⟨gb270, 7, none⟩ = some (.int .i64 a0_7) := (blk_cell BK270.out 7).trans rfl; have hcz126_8 : w123.cell? ⟨gb270, 8, none⟩ = some (.string a0_8) := (blk_cell BK270.out 8).trans rfl; have hfz126_0 := blk_frozen BK270.out 0; have hfz126_1 := blk_frozen BK270.out 1; have hfz126_2 := blk_frozen BK270.out 2; have hfz126_3 := blk_frozen BK270.out 3; have hfz126_4 := blk_frozen BK270.out 4; have hfz126_5 := blk_frozen BK270.out 5; have hfz126_6 := blk_frozen BK270.out 6; have hfz126_7 := blk_frozen BK270.out 7; have hfz126_8 := blk_frozen BK270.out 8) | ((with_reducible refine gate_callee (f := 22) rfl ?_); refine goesL_ (some 91) rfl rfl Tryd.func22 (by kernel_rfl) rfl #[] rfl (by (try simp only [List.map_toArray, List.map_cons, List.map_nil]); first | done | rfl | (simp only [List.length_drop, List.length_take]; rfl)) ?_; (with_reducible refine (threshinglaw13_alive.calls kj26  true _ (Tabs.below hT (by first | exact Below.refl _ _ | exact pw_below_drewN (Below.refl _ _) _ | exact (by repeat (first | (with_reducible first | exact HB.out | apply below_alloc | apply pw_below_drewN | apply below_drew1 | refine below_set ?_ GE270.out | refine below_set ?_ GE286.out) | exact HB.out)))) A76.out).mono ?_); rintro e w127 ⟨rfl, hb⟩; refine ⟨_, rfl, ?_⟩; have n0_ := Aside0.mk (Kd.R_below (by (with_reducible repeat (first | apply Kd.R_alloc | apply Kd.R_drewN | apply Kd.R_drew)); exact (Kd.R_mono (Kd.R_far (p := ⟨gb286, 2, none⟩) (Kd.R_far (p := ⟨gb286, 1, none⟩) (Kd.R_far (p := ⟨gb286, 0, none⟩) (Kd.R_mono HO281.out (fun k_ hk => (⟨hk, hk.2⟩ : _ ∧ k_ ≠ gb286))) (fun _ hk => hk.2) (.bool t282)) (fun _ hk => hk.2) (.int .i64 t283)) (fun _ hk => hk.2) (.string t284)) (fun _ h_ => h_.1))) hb); have n1_ := Aside0.mk (blk_below (g := gb270) (o := .cells #[.bool a0_0, .int .i64 a0_1, .string a0_2, .bool a0_3, .int .i64 a0_4, .string a0_5, .bool a0_6, .int .i64 a0_7, .string a0_8] 51 (0, 0)) (by (with_reducible repeat (first | refine blk_drewN ?_ _ | refine blk_drew ?_ | refine blk_alloc ?_ _)); refine blk_far ?_ NB270_286.out _; (with_reducible repeat (first | refine blk_drewN ?_ _ | refine blk_drew ?_ | refine blk_alloc ?_ _)); refine blk_far ?_ NB270_286.out _; (with_reducible repeat (first | refine blk_drewN ?_ _ | refine blk_drew ?_ | refine blk_alloc ?_ _)); refine blk_far ?_ NB270_286.out _; (with_reducible repeat (first | refine blk_drewN ?_ _ | refine blk_drew ?_ | refine blk_alloc ?_ _)); exact BK270.out) hb); have n2_ := Aside0.mk (blk_below (g := gb286) (o := .cells #[.bool t282, .int .i64 t283, .string t284] 43 (0, 0)) (by (with_reducible repeat (first | refine blk_drewN ?_ _ | refine blk_drew ?_ | refine blk_alloc ?_ _)); refine blk_put (cs := #[.bool t282, .int .i64 t283, .string (⟨#[]⟩ : ByteArray)]) ?_ 2 _ rfl; (with_reducible repeat (first | refine blk_drewN ?_ _ | refine blk_drew ?_ | refine blk_alloc ?_ _)); refine blk_put (cs := #[.bool t282, .int .i64 0, .string (⟨#[]⟩ : ByteArray)]) ?_ 1 _ rfl; (with_reducible repeat (first | refine blk_drewN ?_ _ | refine blk_drew ?_ | refine blk_alloc ?_ _)); refine blk_put (cs := #[.bool false, .int .i64 0, .string (⟨#[]⟩ : ByteArray)]) ?_ 0 _ rfl; (with_reducible repeat (first | refine blk_drewN ?_ _ | refine blk_drew ?_ | refine blk_alloc ?_ _)); exact BK286.out) hb); have n3_ := Aside0.mk (below_step (by repeat (first | (with_reducible first | exact HB.out | apply below_alloc | apply pw_below_drewN | apply below_drew1 | refine below_set ?_ GE270.out | refine below_set ?_ GE286.out) | exact HB.out)) hb); clear HO281; clear BK270; clear BK286; clear HB; have HO281 := n0_; have BK270 := n1_; have BK286 := n2_; have HB := n3_; clear n0_ n1_ n2_ n3_; (try clear hb); (try clear hb2); (try clear hk); (try clear hi)))
                    go_ret
                    exact ⟨by first | rfl | (simp [errW_none, errW_some] <;> rfl) | (simp [*, errW_none, errW_some] <;> rfl) | (simp only [same_.out]; rfl), by repeat (first | (with_reducible first | exact HB.out | apply below_alloc | apply pw_below_drewN | apply below_drew1 | refine below_set ?_ GE270.out | refine below_set ?_ GE286.out) | exact HB.out)⟩
                · replace c77 := Bool.eq_false_iff.mpr c77
                  subst c77
                  have H1 : (some false) = some r := by rw [if_neg (show ¬ (false = true) by decide)] at H; exact H
                  clear H
                  have H := H1
                  clear H1
                  obtain rfl := Option.some.inj H
                  have hcz128_0 : wc.cell? ⟨gb270, 0, none⟩ = some (.bool a0_0) := (blk_cell BK270.out 0).trans rfl
                  have hcz128_1 : wc.cell? ⟨gb270, 1, none⟩ = some (.int .i64 a0_1) := (blk_cell BK270.out 1).trans rfl
                  have hcz128_2 : wc.cell? ⟨gb270, 2, none⟩ = some (.string a0_2) := (blk_cell BK270.out 2).trans rfl
                  have hcz128_3 : wc.cell? ⟨gb270, 3, none⟩ = some (.bool a0_3) := (blk_cell BK270.out 3).trans rfl
                  have hcz128_4 : wc.cell? ⟨gb270, 4, none⟩ = some (.int .i64 a0_4) := (blk_cell BK270.out 4).trans rfl
                  have hcz128_5 : wc.cell? ⟨gb270, 5, none⟩ = some (.string a0_5) := (blk_cell BK270.out 5).trans rfl
                  have hcz128_6 : wc.cell? ⟨gb270, 6, none⟩ = some (.bool a0_6) := (blk_cell BK270.out 6).trans rfl
                  have hcz128_7 : wc.cell? ⟨gb270, 7, none⟩ = some (.int .i64 a0_7) := (blk_cell BK270.out 7).trans rfl
                  have hcz128_8 : wc.cell? ⟨gb270, 8, none⟩ = some (.string a0_8) := (blk_cell BK270.out 8).trans rfl
                  have hfz128_0 := blk_frozen BK270.out 0
                  have hfz128_1 := blk_frozen BK270.out 1
                  have hfz128_2 := blk_frozen BK270.out 2
                  have hfz128_3 := blk_frozen BK270.out 3
                  have hfz128_4 := blk_frozen BK270.out 4
                  have hfz128_5 := blk_frozen BK270.out 5
                  have hfz128_6 := blk_frozen BK270.out 6
                  have hfz128_7 := blk_frozen BK270.out 7
                  have hfz128_8 := blk_frozen BK270.out 8
                  go_wp2_with (first | ((with_reducible refine gate_dst (N := 75) rfl ?_); refine Kd.R_lit k43 _ 43 ?hg (N := 75) ?hd (xs := ([(⟨a0_0, a0_1, a0_2⟩ : S43), (⟨a0_3, a0_4, a0_5⟩ : S43)] : List (S43))) (inner := [.bool a0_0, .int .i64 a0_1, .string a0_2, .bool a0_3, .int .i64 a0_4, .string a0_5]) (ok := fun _ => True) (okp := fun _ => True) ?hr ?hp (fun _ hk => hk) trivial (Below.refl _ _) (Nat.le_refl _) (by simp) ?_; (case hd => rfl); (case hg => rfl); (case hr => first | (go_simp; done) | (go_simp; rfl)); (case hp => exact (Reps.c3 (show Kd.M k43 _ _ _ (⟨a0_0, a0_1, a0_2⟩ : S43) [.bool a0_0, .int .i64 a0_1, .string a0_2] from (k43_mkM _ _ _ (⟨a0_0, a0_1, a0_2⟩ : S43) )) (Reps.c3 (show Kd.M k43 _ _ _ (⟨a0_3, a0_4, a0_5⟩ : S43) [.bool a0_3, .int .i64 a0_4, .string a0_5] from (k43_mkM _ _ _ (⟨a0_3, a0_4, a0_5⟩ : S43) )) (Reps.none _ _)))); intro v280 w129 ho130 hb hg_ hnew_; clear hg_ hnew_; (first | rw [← Ny279.out] at ho130 | (simp only [Int.reduceToNat] at ho130; rw [← Ny279.out] at ho130)); have n0_ := Aside0.mk (Kd.R_lower ho130 (below_size (by repeat (first | (with_reducible first | exact HB.out | apply below_alloc | apply pw_below_drewN | apply below_drew1 | refine below_set ?_ GE270.out) | exact HB.out)))); have n1_ := Aside0.mk (blk_below (g := gb270) (o := .cells #[.bool a0_0, .int .i64 a0_1, .string a0_2, .bool a0_3, .int .i64 a0_4, .string a0_5, .bool a0_6, .int .i64 a0_7, .string a0_8] 51 (0, 0)) (by (with_reducible repeat (first | refine blk_drewN ?_ _ | refine blk_drew ?_ | refine blk_alloc ?_ _)); exact BK270.out) hb); have n2_ := Aside0.mk (below_step (by repeat (first | (with_reducible first | exact HB.out | apply below_alloc | apply pw_below_drewN | apply below_drew1 | refine below_set ?_ GE270.out) | exact HB.out)) hb); clear BK270; clear HB; have HO281 := n0_; have BK270 := n1_; have HB := n2_; clear n0_ n1_ n2_; clear hb ho130; obtain ⟨Ao131, co131, eo131⟩ := Kd.R_slice HO281.out; subst eo131) | ((with_reducible refine gate_callee (f := 21) rfl ?_); refine goesL_ (some 76) rfl rfl Tryd.func21 (by kernel_rfl) rfl #[.int .i64 15, .slice Ao131 y279.length co131] rfl (by (try simp only [List.map_toArray, List.map_cons, List.map_nil]); first | done | rfl | (simp only [List.length_drop, List.length_take]; rfl)) ?_; (with_reducible refine (value_Do.calls kj26 15 _ _ y279 t282 t283 t284 t285 _ (Tabs.below hT (by first | exact Below.refl _ _ | exact pw_below_drewN (Below.refl _ _) _ | exact (by repeat (first | (with_reducible first | exact HB.out | apply below_alloc | apply pw_below_drewN | apply below_drew1 | refine below_set ?_ GE270.out) | exact HB.out)))) ?side1 ?side2 A52.out).mono ?_); (case side1 => repeat (first | exact (Kd.R_reads' HO281.out).2.2 | (with_reducible refine Kd.C_alloc ?_ _) | (with_reducible refine Kd.C_drewN ?_ _) | (with_reducible refine Kd.C_drew ?_))); (case side2 => exact (Kd.R_reads' HO281.out).2.1); rintro e w132 ⟨rfl, hb⟩; refine ⟨_, rfl, ?_⟩; have n0_ := Aside0.mk (Kd.R_below (by (with_reducible repeat (first | apply Kd.R_alloc | apply Kd.R_drewN | apply Kd.R_drew)); exact HO281.out) hb); have n1_ := Aside0.mk (blk_below (g := gb270) (o := .cells #[.bool a0_0, .int .i64 a0_1, .string a0_2, .bool a0_3, .int .i64 a0_4, .string a0_5, .bool a0_6, .int .i64 a0_7, .string a0_8] 51 (0, 0)) (by (with_reducible repeat (first | refine blk_drewN ?_ _ | refine blk_drew ?_ | refine blk_alloc ?_ _)); exact BK270.out) hb); have n2_ := Aside0.mk (below_step (by repeat (first | (with_reducible first | exact HB.out | apply below_alloc | apply pw_below_drewN | apply below_drew1 | refine below_set ?_ GE270.out) | exact HB.out)) hb); clear HO281; clear BK270; clear HB; have HO281 := n0_; have BK270 := n1_; have HB := n2_; clear n0_ n1_ n2_; (try clear hb); (try clear hb2); (try clear hk); (try clear hi)) | ((with_reducible refine gate_dst (N := 6) rfl ?_); refine box_event ?hg (N := 6) ?hd (cs := #[.bool false, .int .i64 0, .string (⟨#[]⟩ : ByteArray)]) (t := 43) ?hr ?_; (case hd => rfl); (case hg => rfl); (case hr => first | (go_simp; done) | (go_simp; rfl)); intro gb286 hg w133 hbox hb; have n0_ := Aside0.mk (Kd.R_below (Kd.R_elderB (by (with_reducible repeat (first | apply Kd.R_alloc | apply Kd.R_drewN | apply Kd.R_drew)); exact HO281.out) gb286 (Nat.le_of_eq hg.symm)) hb); have n1_ := Aside0.mk (blk_below (g := gb270) (o := .cells #[.bool a0_0, .int .i64 a0_1, .string a0_2, .bool a0_3, .int .i64 a0_4, .string a0_5, .bool a0_6, .int .i64 a0_7, .string a0_8] 51 (0, 0)) (by (with_reducible repeat (first | refine blk_drewN ?_ _ | refine blk_drew ?_ | refine blk_alloc ?_ _)); exact BK270.out) hb); have n2_ := Aside0.mk (below_step (by repeat (first | (with_reducible first | exact HB.out | apply below_alloc | apply pw_below_drewN | apply below_drew1 | refine below_set ?_ GE270.out) | exact HB.out)) hb); have n3_ := Aside0.mk (hbox); have n4_ := Aside0.mk ((by rw [hg]; exact (below_size (by repeat (first | (with_reducible first | exact HB.out | apply below_alloc | apply pw_below_drewN | apply below_drew1 | refine below_set ?_ GE270.out) | exact HB.out))) : w.heap.size ≤ gb286)); have n5_ := Aside0.mk ((by rw [hg]; exact (below_size (by repeat (first | (with_reducible first | exact HB.out | apply below_alloc | apply pw_below_drewN | apply below_drew1 | refine below_set ?_ GE270.out) | exact HB.out))) : w.heap.size ≤ gb286)); have n6_ := Aside0.mk ((by rw [hg]; exact Nat.ne_of_lt (blk_lt (g := gb270) (o := .cells #[.bool a0_0, .int .i64 a0_1, .string a0_2, .bool a0_3, .int .i64 a0_4, .string a0_5, .bool a0_6, .int .i64 a0_7, .string a0_8] 51 (0, 0)) (by (with_reducible repeat (first | refine blk_drewN ?_ _ | refine blk_drew ?_ | refine blk_alloc ?_ _)); exact BK270.out)) : gb270 ≠ gb286)); have n7_ := Aside0.mk ((by rw [hg]; exact Nat.ne_of_gt (blk_lt (g := gb270) (o := .cells #[.bool a0_0, .int .i64 a0_1, .string a0_2, .bool a0_3, .int .i64 a0_4, .string a0_5, .bool a0_6, .int .i64 a0_7, .string a0_8] 51 (0, 0)) (by (with_reducible repeat (first | refine blk_drewN ?_ _ | refine blk_drew ?_ | refine blk_alloc ?_ _)); exact BK270.out)) : gb286 ≠ gb270)); clear HO281; clear BK270; clear HB; have HO281 := n0_; have BK270 := n1_; have HB := n2_; have BK286 := n3_; have GW286 := n4_; have GE286 := n5_; have NB270_286 := n6_; have NB286_270 := n7_; clear n0_ n1_ n2_ n3_ n4_ n5_ n6_ n7_; clear hb hbox hg; have hnb134 := NB286_270.out; have hnc134 := NB270_286.out; have hcz135_0 : w133.cell? ⟨gb286, 0, none⟩ = some (.bool false) := (blk_cell BK286.out 0).trans rfl; have hcz135_1 : w133.cell? ⟨gb286, 1, none⟩ = some (.int .i64 0) := (blk_cell BK286.out 1).trans rfl; have hcz135_2 : w133.cell? ⟨gb286, 2, none⟩ = some (.string (⟨#[]⟩ : ByteArray)) := (blk_cell BK286.out 2).trans rfl; have hfz135_0 := blk_frozen BK286.out 0; have hfz135_1 := blk_frozen BK286.out 1; have hfz135_2 := blk_frozen BK286.out 2; have hcz136_0 : w133.cell? ⟨gb270, 0, none⟩ = some (.bool a0_0) := (blk_cell BK270.out 0).trans rfl; have hcz136_1 : w133.cell? ⟨gb270, 1, none⟩ = some (.int .i64 a0_1) := (blk_cell BK270.out 1).trans rfl; have hcz136_2 : w133.cell? ⟨gb270, 2, none⟩ = some (.string a0_2) := (blk_cell BK270.out 2).trans rfl; have hcz136_3 : w133.cell? ⟨gb270, 3, none⟩ = some (.bool a0_3) := (blk_cell BK270.out 3).trans rfl; have hcz136_4 : w133.cell? ⟨gb270, 4, none⟩ = some (.int .i64 a0_4) := (blk_cell BK270.out 4).trans rfl; have hcz136_5 : w133.cell? ⟨gb270, 5, none⟩ = some (.string a0_5) := (blk_cell BK270.out 5).trans rfl; have hcz136_6 : w133.cell? ⟨gb270, 6, none⟩ = some (.bool a0_6) := (blk_cell BK270.out 6).trans rfl; have hcz136_7 : w133.cell? ⟨gb270, 7, none⟩ = some (.int .i64 a0_7) := (blk_cell BK270.out 7).trans rfl; have hcz136_8 : w133.cell? ⟨gb270, 8, none⟩ = some (.string a0_8) := (blk_cell BK270.out 8).trans rfl; have hfz136_0 := blk_frozen BK270.out 0; have hfz136_1 := blk_frozen BK270.out 1; have hfz136_2 := blk_frozen BK270.out 2; have hfz136_3 := blk_frozen BK270.out 3; have hfz136_4 := blk_frozen BK270.out 4; have hfz136_5 := blk_frozen BK270.out 5; have hfz136_6 := blk_frozen BK270.out 6; have hfz136_7 := blk_frozen BK270.out 7; have hfz136_8 := blk_frozen BK270.out 8) | ((with_reducible refine gate_callee (f := 22) rfl ?_); refine goesL_ (some 91) rfl rfl Tryd.func22 (by kernel_rfl) rfl #[] rfl (by (try simp only [List.map_toArray, List.map_cons, List.map_nil]); first | done | rfl | (simp only [List.length_drop, List.length_take]; rfl)) ?_; (with_reducible refine (threshinglaw13_alive.calls kj26  false _ (Tabs.below hT (by first | exact Below.refl _ _ | exact pw_below_drewN (Below.refl _ _) _ | exact (by repeat (first | (with_reducible first | exact HB.out | apply below_alloc | apply pw_below_drewN | apply below_drew1 | refine below_set ?_ GE270.out | refine below_set ?_ GE286.out) | exact HB.out)))) A76.out).mono ?_); rintro e w137 ⟨rfl, hb⟩; refine ⟨_, rfl, ?_⟩; have n0_ := Aside0.mk (Kd.R_below (by (with_reducible repeat (first | apply Kd.R_alloc | apply Kd.R_drewN | apply Kd.R_drew)); exact (Kd.R_mono (Kd.R_far (p := ⟨gb286, 2, none⟩) (Kd.R_far (p := ⟨gb286, 1, none⟩) (Kd.R_far (p := ⟨gb286, 0, none⟩) (Kd.R_mono HO281.out (fun k_ hk => (⟨hk, hk.2⟩ : _ ∧ k_ ≠ gb286))) (fun _ hk => hk.2) (.bool t282)) (fun _ hk => hk.2) (.int .i64 t283)) (fun _ hk => hk.2) (.string t284)) (fun _ h_ => h_.1))) hb); have n1_ := Aside0.mk (blk_below (g := gb270) (o := .cells #[.bool a0_0, .int .i64 a0_1, .string a0_2, .bool a0_3, .int .i64 a0_4, .string a0_5, .bool a0_6, .int .i64 a0_7, .string a0_8] 51 (0, 0)) (by (with_reducible repeat (first | refine blk_drewN ?_ _ | refine blk_drew ?_ | refine blk_alloc ?_ _)); refine blk_far ?_ NB270_286.out _; (with_reducible repeat (first | refine blk_drewN ?_ _ | refine blk_drew ?_ | refine blk_alloc ?_ _)); refine blk_far ?_ NB270_286.out _; (with_reducible repeat (first | refine blk_drewN ?_ _ | refine blk_drew ?_ | refine blk_alloc ?_ _)); refine blk_far ?_ NB270_286.out _; (with_reducible repeat (first | refine blk_drewN ?_ _ | refine blk_drew ?_ | refine blk_alloc ?_ _)); exact BK270.out) hb); have n2_ := Aside0.mk (blk_below (g := gb286) (o := .cells #[.bool t282, .int .i64 t283, .string t284] 43 (0, 0)) (by (with_reducible repeat (first | refine blk_drewN ?_ _ | refine blk_drew ?_ | refine blk_alloc ?_ _)); refine blk_put (cs := #[.bool t282, .int .i64 t283, .string (⟨#[]⟩ : ByteArray)]) ?_ 2 _ rfl; (with_reducible repeat (first | refine blk_drewN ?_ _ | refine blk_drew ?_ | refine blk_alloc ?_ _)); refine blk_put (cs := #[.bool t282, .int .i64 0, .string (⟨#[]⟩ : ByteArray)]) ?_ 1 _ rfl; (with_reducible repeat (first | refine blk_drewN ?_ _ | refine blk_drew ?_ | refine blk_alloc ?_ _)); refine blk_put (cs := #[.bool false, .int .i64 0, .string (⟨#[]⟩ : ByteArray)]) ?_ 0 _ rfl; (with_reducible repeat (first | refine blk_drewN ?_ _ | refine blk_drew ?_ | refine blk_alloc ?_ _)); exact BK286.out) hb); have n3_ := Aside0.mk (below_step (by repeat (first | (with_reducible first | exact HB.out | apply below_alloc | apply pw_below_drewN | apply below_drew1 | refine below_set ?_ GE270.out | refine below_set ?_ GE286.out) | exact HB.out)) hb); clear HO281; clear BK270; clear BK286; clear HB; have HO281 := n0_; have BK270 := n1_; have BK286 := n2_; have HB := n3_; clear n0_ n1_ n2_ n3_; (try clear hb); (try clear hb2); (try clear hk); (try clear hi)))
                  go_ret
                  exact ⟨by first | rfl | (simp [errW_none, errW_some] <;> rfl) | (simp [*, errW_none, errW_some] <;> rfl) | (simp only [same_.out]; rfl), by repeat (first | (with_reducible first | exact HB.out | apply below_alloc | apply pw_below_drewN | apply below_drew1 | refine below_set ?_ GE270.out | refine below_set ?_ GE286.out) | exact HB.out)⟩

def threshinglaw13_ValueOrder.Pure : Prop := ∀ (x0 : S51), ((True ∧ (Lit.int .i64 x0.f0.f1).wf = true ∧ x0.f0.f2.size ≤ 140737488351232) ∧ (True ∧ (Lit.int .i64 x0.f1.f1).wf = true ∧ x0.f1.f2.size ≤ 140737488351232) ∧ (True ∧ (Lit.int .i64 x0.f2.f1).wf = true ∧ x0.f2.f2.size ≤ 140737488351232)) → ∃ k, threshinglaw13_ValueOrder.f k x0.f0.f0 x0.f0.f1 x0.f0.f2 x0.f1.f0 x0.f1.f1 x0.f1.f2 x0.f2.f0 x0.f2.f1 x0.f2.f2 = some true

end Go.Proofs.YtmkkbkbfhjndcaaDoor.PX
