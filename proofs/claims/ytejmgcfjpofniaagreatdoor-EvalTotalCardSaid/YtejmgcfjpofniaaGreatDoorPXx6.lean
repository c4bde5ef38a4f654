/- Walked functions, by this session's program over the kit's print. -/
import Derived.Test.YtejmgcfjpofniaaGreatDoorPXx0
import Derived.Test.YtejmgcfjpofniaaGreatDoorPXx2
import Derived.Test.YtejmgcfjpofniaaGreatDoorPXx5
/- Walked functions, by this session's program over the kit's print. -/
namespace Go.Proofs.YtejmgcfjpofniaaGreatDoor.PX
open Go.RowKit Go.Proofs.YtejmgcfjpofniaaGreatDoorW.PrintWords Go.Proofs.YtejmgcfjpofniaaGreatDoorW.PrintLast Go.Proofs.YtejmgcfjpofniaaGreatDoorW.PrintMore
attribute [local go_sem] xm_gtr max2_int min2_int max_two min_two max_three min_three max_four min_four   -- for this text's walks alone
set_option linter.unusedVariables false
set_option linter.unusedSimpArgs false

/-! ### threshingref15_step: function 36 -/
mutual
def threshingref15_step.j0 : Nat → List Bool → List Bool → Bool → Int → Int → ByteArray → Option (List Bool × Int)
  | 0, _, _, _, _, _, _ => none
  | k + 1, x0, x2, x25, x113000, x113001, x113002 => if x25 = true then (some (([] : List Bool), 1)) else ((threshingref13_Arity.f k x113000).bind fun t114 => (if t114 > (x0.length : Int) then (some (([] : List Bool), 13)) else (if x113000 = 1 then (threshingref15_step.j1 k x0 x2 t114 true x113000 x113001 x113002) else (threshingref15_step.j1 k x0 x2 t114 (x113000 == 2) x113000 x113001 x113002))))
def threshingref15_step.j1 : Nat → List Bool → List Bool → Int → Bool → Int → Int → ByteArray → Option (List Bool × Int)
  | 0, _, _, _, _, _, _, _ => none
  | k + 1, x0, x2, x8, x9, x113000, x113001, x113002 => if x113000 ≥ 22 then (if 0 ≤ (wrap64 (x113000 - 22)) then (if (wrap64 (x113000 - 22)) < (x2.length : Int) then (threshingref15_step.j2 k x0 x8 (rdOf false x2 (wrap64 (x113000 - 22))) x113000 x113001 x113002) else (none)) else (none)) else (threshingref15_step.j2 k x0 x8 x9 x113000 x113001 x113002)
def threshingref15_step.j2 : Nat → List Bool → Int → Bool → Int → Int → ByteArray → Option (List Bool × Int)
  | 0, _, _, _, _, _, _ => none
  | k + 1, x0, x8, x9, x113000, x113001, x113002 => if x8 > 0 then (if 0 ≤ (wrap64 ((x0.length : Int) - x8)) then (if (wrap64 ((x0.length : Int) - x8)) ≤ (x0.length : Int) then ((threshingref13_Result.f k x113000 (x0.drop ((wrap64 ((x0.length : Int) - x8)) : Int).toNat)).bind fun bt117 => (if bt117.2 = 0 then ((some (([] : List Bool) : List Bool)).bind fun y119 => (if y119.length + (x0.take ((wrap64 ((x0.length : Int) - x8)) : Int).toNat).length < 140737488355328 then ((some (y119 ++ (x0.take ((wrap64 ((x0.length : Int) - x8)) : Int).toNat) : List Bool)).bind fun y123 => (if y123.length < 140737488355328 then ((some (y123 ++ [bt117.1] : List Bool)).bind fun y126 => (if (y126.length : Int) > 30 then (some (([] : List Bool), 13)) else (some (y126, 0)))) else (none))) else (none))) else (some (([] : List Bool), bt117.2)))) else (none)) else (none)) else ((some (([] : List Bool) : List Bool)).bind fun y129 => (if 0 ≤ (wrap64 ((x0.length : Int) - x8)) then (if (wrap64 ((x0.length : Int) - x8)) ≤ (x0.length : Int) then (if y129.length + (x0.take ((wrap64 ((x0.length : Int) - x8)) : Int).toNat).length < 140737488355328 then ((some (y129 ++ (x0.take ((wrap64 ((x0.length : Int) - x8)) : Int).toNat) : List Bool)).bind fun y133 => (if y133.length < 140737488355328 then ((some (y133 ++ [x9] : List Bool)).bind fun y136 => (if (y136.length : Int) > 30 then (some (([] : List Bool), 13)) else (some (y136, 0)))) else (none))) else (none)) else (none)) else (none)))
end
def threshingref15_step.f (k : Nat) (l0 : List Bool) (a1_0 : Int) (a1_1 : Int) (a1_2 : ByteArray) (l2 : List Bool) : Option (List Bool × Int) := (threshingref14_May.f a1_0 a1_1 a1_2).bind fun t113 => (if t113 = true then (if a1_0 ≥ 22 then (threshingref15_step.j0 k l0 l2 ((l2.length : Int) == 0) a1_0 a1_1 a1_2) else (threshingref15_step.j0 k l0 l2 false a1_0 a1_1 a1_2)) else (threshingref15_step.j0 k l0 l2 true a1_0 a1_1 a1_2))
theorem threshingref15_step.mono_l : ∀ k, (∀ y0 y1 y2 y3 y4 y5, LeO (threshingref15_step.j0 k y0 y1 y2 y3 y4 y5) (threshingref15_step.j0 (k + 1) y0 y1 y2 y3 y4 y5)) ∧ (∀ y0 y1 y2 y3 y4 y5 y6, LeO (threshingref15_step.j1 k y0 y1 y2 y3 y4 y5 y6) (threshingref15_step.j1 (k + 1) y0 y1 y2 y3 y4 y5 y6)) ∧ (∀ y0 y1 y2 y3 y4 y5, LeO (threshingref15_step.j2 k y0 y1 y2 y3 y4 y5) (threshingref15_step.j2 (k + 1) y0 y1 y2 y3 y4 y5))
  | 0 => ⟨fun _ _ _ _ _ _ r h => by simp [threshingref15_step.j0] at h, fun _ _ _ _ _ _ _ r h => by simp [threshingref15_step.j1] at h, fun _ _ _ _ _ _ r h => by simp [threshingref15_step.j2] at h⟩
  | k + 1 => by
    obtain ⟨ih0, ih1, ih2⟩ := threshingref15_step.mono_l k
    refine ⟨?_, ?_, ?_⟩
    · intro y0 y1 y2 y3 y4 y5
      unfold threshingref15_step.j0
      repeat' first
      | (with_reducible exact ih0 _ _ _ _ _ _)
      | (with_reducible exact ih1 _ _ _ _ _ _ _)
      | (with_reducible exact ih2 _ _ _ _ _ _)
      | (with_reducible exact threshingref13_Arity.mono _ _)
      | (with_reducible exact threshingref13_Result.mono _ _ _)
      | (with_reducible exact LeO.refl _)
      | (with_reducible exact LeO.none _)
      | (with_reducible refine LeO.ite ?_ ?_)
      | (with_reducible refine LeO.bind ?_ (fun _ => ?_))
      | exact ih0 _ _ _ _ _ _
      | exact ih1 _ _ _ _ _ _ _
      | exact ih2 _ _ _ _ _ _
      | exact threshingref13_Arity.mono _ _
      | exact threshingref13_Result.mono _ _ _
      | exact LeO.none _
      | refine LeO.ite ?_ ?_
      | refine LeO.bind ?_ (fun _ => ?_)
    · intro y0 y1 y2 y3 y4 y5 y6
      unfold threshingref15_step.j1
      repeat' first
      | (with_reducible exact ih0 _ _ _ _ _ _)
      | (with_reducible exact ih1 _ _ _ _ _ _ _)
      | (with_reducible exact ih2 _ _ _ _ _ _)
      | (with_reducible exact threshingref13_Arity.mono _ _)
      | (with_reducible exact threshingref13_Result.mono _ _ _)
      | (with_reducible exact LeO.refl _)
      | (with_reducible exact LeO.none _)
      | (with_reducible refine LeO.ite ?_ ?_)
      | (with_reducible refine LeO.bind ?_ (fun _ => ?_))
      | exact ih0 _ _ _ _ _ _
      | exact ih1 _ _ _ _ _ _ _
      | exact ih2 _ _ _ _ _ _
      | exact threshingref13_Arity.mono _ _
      | exact threshingref13_Result.mono _ _ _
      | exact LeO.none _
      | refine LeO.ite ?_ ?_
      | refine LeO.bind ?_ (fun _ => ?_)
    · intro y0 y1 y2 y3 y4 y5
      unfold threshingref15_step.j2
      repeat' first
      | (with_reducible exact ih0 _ _ _ _ _ _)
      | (with_reducible exact ih1 _ _ _ _ _ _ _)
      | (with_reducible exact ih2 _ _ _ _ _ _)
      | (with_reducible exact threshingref13_Arity.mono _ _)
      | (with_reducible exact threshingref13_Result.mono _ _ _)
      | (with_reducible exact LeO.refl _)
      | (with_reducible exact LeO.none _)
      | (with_reducible refine LeO.ite ?_ ?_)
      | (with_reducible refine LeO.bind ?_ (fun _ => ?_))
      | exact ih0 _ _ _ _ _ _
      | exact ih1 _ _ _ _ _ _ _
      | exact ih2 _ _ _ _ _ _
      | exact threshingref13_Arity.mono _ _
      | exact threshingref13_Result.mono _ _ _
      | exact LeO.none _
      | refine LeO.ite ?_ ?_
      | refine LeO.bind ?_ (fun _ => ?_)
theorem threshingref15_step.mono : ∀ a0 a1 a2 a3 a4 k, LeO (threshingref15_step.f k a0 a1 a2 a3 a4) (threshingref15_step.f (k + 1) a0 a1 a2 a3 a4) := by
  intro a0 a1 a2 a3 a4 k
  obtain ⟨ih0, ih1, ih2⟩ := threshingref15_step.mono_l k
  unfold threshingref15_step.f
  repeat' first
      | (with_reducible exact ih0 _ _ _ _ _ _)
      | (with_reducible exact ih1 _ _ _ _ _ _ _)
      | (with_reducible exact ih2 _ _ _ _ _ _)
      | (with_reducible exact threshingref13_Arity.mono _ _)
      | (with_reducible exact threshingref13_Result.mono _ _ _)
      | (with_reducible exact LeO.refl _)
      | (with_reducible exact LeO.none _)
      | (with_reducible refine LeO.ite ?_ ?_)
      | (with_reducible refine LeO.bind ?_ (fun _ => ?_))
      | exact ih0 _ _ _ _ _ _
      | exact ih1 _ _ _ _ _ _ _
      | exact ih2 _ _ _ _ _ _
      | exact threshingref13_Arity.mono _ _
      | exact threshingref13_Result.mono _ _ _
      | exact LeO.none _
      | refine LeO.ite ?_ ?_
      | refine LeO.bind ?_ (fun _ => ?_)
set_option maxHeartbeats 8000000 in
set_option maxRecDepth 100000 in
theorem threshingref15_step.calls (k : Nat) (A0 : Option Addr) (c0 : Nat) (l0 : List Bool) (a1_0 : Int) (a1_1 : Int) (a1_2 : ByteArray) (A2 : Option Addr) (c2 : Nat) (l2 : List Bool) (r1 : List Bool) (r2 : Int) (w : World) (hT : Tabs w) (hr0 : Kd.C Kd.bool w A0 l0.length l0) (hc0 : l0.length ≤ c0) (hr2 : Kd.C Kd.bool w A2 l2.length l2) (hc2 : l2.length ≤ c2) (h : threshingref15_step.f k l0 a1_0 a1_1 a1_2 l2 = some (r1, r2)) :
    Calls Tryz.prog 36 #[.slice A0 l0.length c0, .agg #[.int .i64 a1_0, .int .i64 a1_1, .string a1_2], .slice A2 l2.length c2] w fun e w' => ∃ v0_ : Value, e = .returned (.tuple #[v0_, .int .i64 r2]) ∧ Kd.R Kd.bool 4 w' w.heap.size (fun _ => True) v0_ r1 ∧ Below w.heap.size w w' := by
  have hu48 := Tryz.underlying48
  have HR0 := Aside0.mk hr0
  have HC0 := Aside0.mk hc0
  clear hr0 hc0
  have HR2 := Aside0.mk hr2
  have HC2 := Aside0.mk hc2
  clear hr2 hc2
  have HB := Aside0.mk (Below.refl w.heap.size w)
  have H : ((threshingref14_May.f a1_0 a1_1 a1_2).bind fun t113 => (if t113 = true then (if a1_0 ≥ 22 then (threshingref15_step.j0 k l0 l2 ((l2.length : Int) == 0) a1_0 a1_1 a1_2) else (threshingref15_step.j0 k l0 l2 false a1_0 a1_1 a1_2)) else (threshingref15_step.j0 k l0 l2 true a1_0 a1_1 a1_2))) = some (r1, r2) := h
  clear h
  have HC4 := Aside0.mk H
  clear H
  go_enter Tryz.func36, Tryz.ntmps36
  go_upto_region 1 with (first | ((with_reducible refine gate_dst (N := 4) rfl ?_); (try (refine gate_guard (by rfl) ?_; dsimp only)); refine box_event ?hg (N := 4) ?hd (cs := #[.int .i64 a1_0, .int .i64 a1_1, .string a1_2]) (t := 48) ?hr ?_; (case hd => rfl); (case hg => rfl); (case hr => exact xh); intro gb112 hg w5 hbox hb; have n0_ := Aside0.mk (below_step xb hb); have n1_ := Aside0.mk (hbox); have n2_ := xs w hg; have n3_ := xs w hg; clear HB; have HB := n0_; have BK112 := n1_; have GW112 := n2_; have GE112 := n3_; clear n0_ n1_ n2_ n3_; clear hb hbox hg))
  repeat (go_quiet (first | ((with_reducible refine gate_dst (N := 4) rfl ?_); (try (refine gate_guard (by rfl) ?_; dsimp only)); refine box_event ?hg (N := 4) ?hd (cs := #[.int .i64 a1_0, .int .i64 a1_1, .string a1_2]) (t := 48) ?hr ?_; (case hd => rfl); (case hg => rfl); (case hr => exact xh); intro gb112 hg w5 hbox hb; have n0_ := Aside0.mk (below_step xb hb); have n1_ := Aside0.mk (hbox); have n2_ := xs w hg; have n3_ := xs w hg; clear HB; have HB := n0_; have BK112 := n1_; have GW112 := n2_; have GE112 := n3_; clear n0_ n1_ n2_ n3_; clear hb hbox hg)); go_upto_region 1 with (first | ((with_reducible refine gate_dst (N := 4) rfl ?_); (try (refine gate_guard (by rfl) ?_; dsimp only)); refine box_event ?hg (N := 4) ?hd (cs := #[.int .i64 a1_0, .int .i64 a1_1, .string a1_2]) (t := 48) ?hr ?_; (case hd => rfl); (case hg => rfl); (case hr => exact xh); intro gb112 hg w5 hbox hb; have n0_ := Aside0.mk (below_step xb hb); have n1_ := Aside0.mk (hbox); have n2_ := xs w hg; have n3_ := xs w hg; clear HB; have HB := n0_; have BK112 := n1_; have GW112 := n2_; have GE112 := n3_; clear n0_ n1_ n2_ n3_; clear hb hbox hg)))
  (try simp only [Act.put, List.setIfInBounds_toArray, List.set_cons_zero, List.set_cons_succ])
  go_cut [25] (fun v25 wc => ∃ (kq : Nat) (x25_3 : Bool), v25 = .bool x25_3 ∧ Aside0 (threshingref15_step.j0 kq l0 l2 x25_3 a1_0 a1_1 a1_2 = some (r1, r2)) ∧ Aside0 (kq ≤ k) ∧ Aside0 (wc.heap[gb112]? = some (.cells #[.int .i64 a1_0, .int .i64 a1_1, .string a1_2] 48 (0, 0))) ∧ Aside0 (Below w.heap.size w wc))
  case first =>
    have H := HC4.out
    clear HC4
    replace H := Option.bind_eq_some_iff.mp H
    obtain ⟨t113, A60, H⟩ := H
    replace H : (if t113 = true then (if a1_0 ≥ 22 then (threshingref15_step.j0 k l0 l2 ((l2.length : Int) == 0) a1_0 a1_1 a1_2) else (threshingref15_step.j0 k l0 l2 false a1_0 a1_1 a1_2)) else (threshingref15_step.j0 k l0 l2 true a1_0 a1_1 a1_2)) = some (r1, r2) := H
    have A6 := Aside0.mk A60
    clear A60
    by_cases c7 : t113 = true
    · subst c7
      have H1 : (if a1_0 ≥ 22 then (threshingref15_step.j0 k l0 l2 ((l2.length : Int) == 0) a1_0 a1_1 a1_2) else (threshingref15_step.j0 k l0 l2 false a1_0 a1_1 a1_2)) = some (r1, r2) := by rw [if_pos rfl] at H; exact H
      clear H
      have H := H1
      clear H1
      by_cases c8 : a1_0 ≥ 22
      · rw [if_pos c8] at H
        have c8b0 : decide (22 ≤ a1_0) = true := decide_eq_true c8
        clear c8
        (first | rw [c8b0] | (simp only [i64_w, i32_w]; rw [c8b0]) | skip)
        have H' := Aside0.mk H
        clear H
        have hcz9_0 : w5.cell? ⟨gb112, 0, none⟩ = some (.int .i64 a1_0) := (blk_cell BK112.out 0).trans rfl
        have hcz9_1 : w5.cell? ⟨gb112, 1, none⟩ = some (.int .i64 a1_1) := (blk_cell BK112.out 1).trans rfl
        have hcz9_2 : w5.cell? ⟨gb112, 2, none⟩ = some (.string a1_2) := (blk_cell BK112.out 2).trans rfl
        have hfz9_0 := blk_frozen BK112.out 0
        have hfz9_1 := blk_frozen BK112.out 1
        have hfz9_2 := blk_frozen BK112.out 2
        go_wp2_with (first | (go_at_call 38; (with_reducible refine (threshingref14_May.calls a1_0 a1_1 a1_2 true _ (Tabs.below hT xf) A6.out).mono ?_); rintro e w10 ⟨rfl, hb⟩; have n0_ := xd BK112.out hb; have n1_ := Aside0.mk (below_step xb hb); clear BK112; clear HB; have BK112 := n0_; have HB := n1_; clear n0_ n1_; (try clear hb); (try clear hb2); (try clear hk); (try clear hi); have hcz11_0 : w10.cell? ⟨gb112, 0, none⟩ = some (.int .i64 a1_0) := (blk_cell BK112.out 0).trans rfl; have hcz11_1 : w10.cell? ⟨gb112, 1, none⟩ = some (.int .i64 a1_1) := (blk_cell BK112.out 1).trans rfl; have hcz11_2 : w10.cell? ⟨gb112, 2, none⟩ = some (.string a1_2) := (blk_cell BK112.out 2).trans rfl; have hfz11_0 := blk_frozen BK112.out 0; have hfz11_1 := blk_frozen BK112.out 1; have hfz11_2 := blk_frozen BK112.out 2))
        repeat (go_quiet (first | (go_at_call 38; (with_reducible refine (threshingref14_May.calls a1_0 a1_1 a1_2 true _ (Tabs.below hT xf) A6.out).mono ?_); rintro e w10 ⟨rfl, hb⟩; have n0_ := xd BK112.out hb; have n1_ := Aside0.mk (below_step xb hb); clear BK112; clear HB; have BK112 := n0_; have HB := n1_; clear n0_ n1_; (try clear hb); (try clear hb2); (try clear hk); (try clear hi); have hcz11_0 : w10.cell? ⟨gb112, 0, none⟩ = some (.int .i64 a1_0) := (blk_cell BK112.out 0).trans rfl; have hcz11_1 : w10.cell? ⟨gb112, 1, none⟩ = some (.int .i64 a1_1) := (blk_cell BK112.out 1).trans rfl; have hcz11_2 : w10.cell? ⟨gb112, 2, none⟩ = some (.string a1_2) := (blk_cell BK112.out 2).trans rfl; have hfz11_0 := blk_frozen BK112.out 0; have hfz11_1 := blk_frozen BK112.out 1; have hfz11_2 := blk_frozen BK112.out 2)); try go_wp2_with (first | (go_at_call 38; (with_reducible refine (threshingref14_May.calls a1_0 a1_1 a1_2 true _ (Tabs.below hT xf) A6.out).mono ?_); rintro e w10 ⟨rfl, hb⟩; have n0_ := xd BK112.out hb; have n1_ := Aside0.mk (below_step xb hb); clear BK112; clear HB; have BK112 := n0_; have HB := n1_; clear n0_ n1_; (try clear hb); (try clear hb2); (try clear hk); (try clear hi); have hcz11_0 : w10.cell? ⟨gb112, 0, none⟩ = some (.int .i64 a1_0) := (blk_cell BK112.out 0).trans rfl; have hcz11_1 : w10.cell? ⟨gb112, 1, none⟩ = some (.int .i64 a1_1) := (blk_cell BK112.out 1).trans rfl; have hcz11_2 : w10.cell? ⟨gb112, 2, none⟩ = some (.string a1_2) := (blk_cell BK112.out 2).trans rfl; have hfz11_0 := blk_frozen BK112.out 0; have hfz11_1 := blk_frozen BK112.out 1; have hfz11_2 := blk_frozen BK112.out 2)))
        go_meet
        case rel => exact ⟨_, (((l2.length : Int) == 0)), xg, H', ⟨by first | omega | exact Nat.le_refl _⟩, ⟨by (with_reducible repeat (first | refine blk_drewN ?_ _ | refine blk_drew ?_ | refine blk_alloc ?_ _)); exact BK112.out⟩, ⟨xb⟩⟩
      · rw [if_neg c8] at H
        have c8b0 : decide (22 ≤ a1_0) = false := decide_eq_false c8
        clear c8
        (first | rw [c8b0] | (simp only [i64_w, i32_w]; rw [c8b0]) | skip)
        have H' := Aside0.mk H
        clear H
        have hcz12_0 : w5.cell? ⟨gb112, 0, none⟩ = some (.int .i64 a1_0) := (blk_cell BK112.out 0).trans rfl
        have hcz12_1 : w5.cell? ⟨gb112, 1, none⟩ = some (.int .i64 a1_1) := (blk_cell BK112.out 1).trans rfl
        have hcz12_2 : w5.cell? ⟨gb112, 2, none⟩ = some (.string a1_2) := (blk_cell BK112.out 2).trans rfl
        have hfz12_0 := blk_frozen BK112.out 0
        have hfz12_1 := blk_frozen BK112.out 1
        have hfz12_2 := blk_frozen BK112.out 2
        go_wp2_with (first | (go_at_call 38; (with_reducible refine (threshingref14_May.calls a1_0 a1_1 a1_2 true _ (Tabs.below hT xf) A6.out).mono ?_); rintro e w13 ⟨rfl, hb⟩; have n0_ := xd BK112.out hb; have n1_ := Aside0.mk (below_step xb hb); clear BK112; clear HB; have BK112 := n0_; have HB := n1_; clear n0_ n1_; (try clear hb); (try clear hb2); (try clear hk); (try clear hi); have hcz14_0 : w13.cell? ⟨gb112, 0, none⟩ = some (.int .i64 a1_0) := (blk_cell BK112.out 0).trans rfl; have hcz14_1 : w13.cell? ⟨gb112, 1, none⟩ = some (.int .i64 a1_1) := (blk_cell BK112.out 1).trans rfl; have hcz14_2 : w13.cell? ⟨gb112, 2, none⟩ = some (.string a1_2) := (blk_cell BK112.out 2).trans rfl; have hfz14_0 := blk_frozen BK112.out 0; have hfz14_1 := blk_frozen BK112.out 1; have hfz14_2 := blk_frozen BK112.out 2))
        repeat (go_quiet (first | (go_at_call 38; (with_reducible refine (threshingref14_May.calls a1_0 a1_1 a1_2 true _ (Tabs.below hT xf) A6.out).mono ?_); rintro e w13 ⟨rfl, hb⟩; have n0_ := xd BK112.out hb; have n1_ := Aside0.mk (below_step xb hb); clear BK112; clear HB; have BK112 := n0_; have HB := n1_; clear n0_ n1_; (try clear hb); (try clear hb2); (try clear hk); (try clear hi); have hcz14_0 : w13.cell? ⟨gb112, 0, none⟩ = some (.int .i64 a1_0) := (blk_cell BK112.out 0).trans rfl; have hcz14_1 : w13.cell? ⟨gb112, 1, none⟩ = some (.int .i64 a1_1) := (blk_cell BK112.out 1).trans rfl; have hcz14_2 : w13.cell? ⟨gb112, 2, none⟩ = some (.string a1_2) := (blk_cell BK112.out 2).trans rfl; have hfz14_0 := blk_frozen BK112.out 0; have hfz14_1 := blk_frozen BK112.out 1; have hfz14_2 := blk_frozen BK112.out 2)); try go_wp2_with (first | (go_at_call 38; (with_reducible refine (threshingref14_May.calls a1_0 a1_1 a1_2 true _ (Tabs.below hT xf) A6.out).mono ?_); rintro e w13 ⟨rfl, hb⟩; have n0_ := xd BK112.out hb; have n1_ := Aside0.mk (below_step xb hb); clear BK112; clear HB; have BK112 := n0_; have HB := n1_; clear n0_ n1_; (try clear hb); (try clear hb2); (try clear hk); (try clear hi); have hcz14_0 : w13.cell? ⟨gb112, 0, none⟩ = some (.int .i64 a1_0) := (blk_cell BK112.out 0).trans rfl; have hcz14_1 : w13.cell? ⟨gb112, 1, none⟩ = some (.int .i64 a1_1) := (blk_cell BK112.out 1).trans rfl; have hcz14_2 : w13.cell? ⟨gb112, 2, none⟩ = some (.string a1_2) := (blk_cell BK112.out 2).trans rfl; have hfz14_0 := blk_frozen BK112.out 0; have hfz14_1 := blk_frozen BK112.out 1; have hfz14_2 := blk_frozen BK112.out 2)))
        go_meet
        case rel => exact ⟨_, (false), xg, H', ⟨by first | omega | exact Nat.le_refl _⟩, ⟨by (with_reducible repeat (first | refine blk_drewN ?_ _ | refine blk_drew ?_ | refine blk_alloc ?_ _)); exact BK112.out⟩, ⟨xb⟩⟩
    · replace c7 := Bool.eq_false_iff.mpr c7
      subst c7
      have H1 : (threshingref15_step.j0 k l0 l2 true a1_0 a1_1 a1_2) = some (r1, r2) := by rw [if_neg (show ¬ (false = true) by decide)] at H; exact H
      clear H
      have H := H1
      clear H1
      have H' := Aside0.mk H
      clear H
      have hcz15_0 : w5.cell? ⟨gb112, 0, none⟩ = some (.int .i64 a1_0) := (blk_cell BK112.out 0).trans rfl
      have hcz15_1 : w5.cell? ⟨gb112, 1, none⟩ = some (.int .i64 a1_1) := (blk_cell BK112.out 1).trans rfl
      have hcz15_2 : w5.cell? ⟨gb112, 2, none⟩ = some (.string a1_2) := (blk_cell BK112.out 2).trans rfl
      have hfz15_0 := blk_frozen BK112.out 0
      have hfz15_1 := blk_frozen BK112.out 1
      have hfz15_2 := blk_frozen BK112.out 2
      go_wp2_with (first | (go_at_call 38; (with_reducible refine (threshingref14_May.calls a1_0 a1_1 a1_2 false _ (Tabs.below hT xf) A6.out).mono ?_); rintro e w16 ⟨rfl, hb⟩; have n0_ := xd BK112.out hb; have n1_ := Aside0.mk (below_step xb hb); clear BK112; clear HB; have BK112 := n0_; have HB := n1_; clear n0_ n1_; (try clear hb); (try clear hb2); (try clear hk); (try clear hi)))
      repeat (go_quiet (first | (go_at_call 38; (with_reducible refine (threshingref14_May.calls a1_0 a1_1 a1_2 false _ (Tabs.below hT xf) A6.out).mono ?_); rintro e w16 ⟨rfl, hb⟩; have n0_ := xd BK112.out hb; have n1_ := Aside0.mk (below_step xb hb); clear BK112; clear HB; have BK112 := n0_; have HB := n1_; clear n0_ n1_; (try clear hb); (try clear hb2); (try clear hk); (try clear hi))); try go_wp2_with (first | (go_at_call 38; (with_reducible refine (threshingref14_May.calls a1_0 a1_1 a1_2 false _ (Tabs.below hT xf) A6.out).mono ?_); rintro e w16 ⟨rfl, hb⟩; have n0_ := xd BK112.out hb; have n1_ := Aside0.mk (below_step xb hb); clear BK112; clear HB; have BK112 := n0_; have HB := n1_; clear n0_ n1_; (try clear hb); (try clear hb2); (try clear hk); (try clear hi))))
      go_meet
      case rel => exact ⟨_, (true), xg, H', ⟨by first | omega | exact Nat.le_refl _⟩, ⟨by (with_reducible repeat (first | refine blk_drewN ?_ _ | refine blk_drew ?_ | refine blk_alloc ?_ _)); exact BK112.out⟩, ⟨xb⟩⟩
  case rest =>
    clear HC4
    try clear c2
    try clear p2
    try clear c3
    try clear c7
    try clear c8
    try clear c8b0
    try clear hcz11_0
    try clear hcz11_1
    try clear hcz11_2
    try clear hcz12_0
    try clear hcz12_1
    try clear hcz12_2
    try clear hcz14_0
    try clear hcz14_1
    try clear hcz14_2
    try clear hcz15_0
    try clear hcz15_1
    try clear hcz15_2
    try clear hcz9_0
    try clear hcz9_1
    try clear hcz9_2
    try clear hfz11_0
    try clear hfz11_1
    try clear hfz11_2
    try clear hfz12_0
    try clear hfz12_1
    try clear hfz12_2
    try clear hfz14_0
    try clear hfz14_1
    try clear hfz14_2
    try clear hfz15_0
    try clear hfz15_1
    try clear hfz15_2
    try clear hfz9_0
    try clear hfz9_1
    try clear hfz9_2
    obtain ⟨kq, x25_3, rfl, HA, HJ3, BK112, HB⟩ := hcut
    cases kq with
    | zero => exact absurd HA.out (by simp [threshingref15_step.j0])
    | succ kj3 =>
      have H := HA.out
      clear HA
      simp only [threshingref15_step.j0] at H
      by_cases c17 : x25_3 = true
      · subst c17
        have H1 : (some (([] : List Bool), 1)) = some (r1, r2) := by rw [if_pos rfl] at H; exact H
        clear H
        have H := H1
        clear H1
        simp only [Option.some.injEq, Prod.mk.injEq] at H
        obtain ⟨rfl, rfl⟩ := H
        go_wp2
        repeat (go_quiet (fail); try go_wp2)
        go_ret2
        exact ⟨_, by first | rfl | (simp [errW_none, errW_some] <;> rfl) | (simp [*, errW_none, errW_some] <;> rfl), by first | exact Kd.R_nil _ _ _ _ _ | exact Kd.N_nil _ _ _ _ _ | exact Kd.V_nil _ _ _ _ _ | exact Kd.Q_nil _ _ _ _ _ | exact Kd.S_nil _ _ _ _ _, xb⟩
      · replace c17 := Bool.eq_false_iff.mpr c17
        subst c17
        have H1 : ((threshingref13_Arity.f kj3 a1_0).bind fun t114 => (if t114 > (l0.length : Int) then (some (([] : List Bool), 13)) else (if a1_0 = 1 then (threshingref15_step.j1 kj3 l0 l2 t114 true a1_0 a1_1 a1_2) else (threshingref15_step.j1 kj3 l0 l2 t114 (a1_0 == 2) a1_0 a1_1 a1_2)))) = some (r1, r2) := by rw [if_neg (show ¬ (false = true) by decide)] at H; exact H
        clear H
        have H := H1
        clear H1
        replace H := Option.bind_eq_some_iff.mp H
        obtain ⟨t114, A180, H⟩ := H
        replace H : (if t114 > (l0.length : Int) then (some (([] : List Bool), 13)) else (if a1_0 = 1 then (threshingref15_step.j1 kj3 l0 l2 t114 true a1_0 a1_1 a1_2) else (threshingref15_step.j1 kj3 l0 l2 t114 (a1_0 == 2) a1_0 a1_1 a1_2))) = some (r1, r2) := H
        have A18 := Aside0.mk A180
        clear A180
        by_cases c19 : t114 > (l0.length : Int)
        · rw [if_pos c19] at H
          have c19b0 : decide ((l0.length : Int) < t114) = true := decide_eq_true c19
          clear c19
          simp only [Option.some.injEq, Prod.mk.injEq] at H
          obtain ⟨rfl, rfl⟩ := H
          have hcz20_0 : wc.cell? ⟨gb112, 0, none⟩ = some (.int .i64 a1_0) := (blk_cell BK112.out 0).trans rfl
          have hcz20_1 : wc.cell? ⟨gb112, 1, none⟩ = some (.int .i64 a1_1) := (blk_cell BK112.out 1).trans rfl
          have hcz20_2 : wc.cell? ⟨gb112, 2, none⟩ = some (.string a1_2) := (blk_cell BK112.out 2).trans rfl
          have hfz20_0 := blk_frozen BK112.out 0
          have hfz20_1 := blk_frozen BK112.out 1
          have hfz20_2 := blk_frozen BK112.out 2
          go_wp2_with (first | (go_at_call 44; (with_reducible refine (threshingref13_Arity.calls kj3 a1_0 t114 _ (Tabs.below hT xf) A18.out).mono ?_); rintro e w' ⟨rfl, ⟨nd, rfl⟩⟩; (try first | exact ⟨rfl, _, World.drewN_drewN _ _ _⟩ | exact ⟨rfl, _, Eq.trans (World.drewN_drewN _ _ _) (congrArg (World.drewN _) (Nat.add_assoc _ _ _))⟩)))
          repeat (go_quiet (first | (go_at_call 44; (with_reducible refine (threshingref13_Arity.calls kj3 a1_0 t114 _ (Tabs.below hT xf) A18.out).mono ?_); rintro e w' ⟨rfl, ⟨nd, rfl⟩⟩; (try first | exact ⟨rfl, _, World.drewN_drewN _ _ _⟩ | exact ⟨rfl, _, Eq.trans (World.drewN_drewN _ _ _) (congrArg (World.drewN _) (Nat.add_assoc _ _ _))⟩))); try go_wp2_with (first | (go_at_call 44; (with_reducible refine (threshingref13_Arity.calls kj3 a1_0 t114 _ (Tabs.below hT xf) A18.out).mono ?_); rintro e w' ⟨rfl, ⟨nd, rfl⟩⟩; (try first | exact ⟨rfl, _, World.drewN_drewN _ _ _⟩ | exact ⟨rfl, _, Eq.trans (World.drewN_drewN _ _ _) (congrArg (World.drewN _) (Nat.add_assoc _ _ _))⟩))))
          go_ret2
          exact ⟨_, by first | rfl | (simp [errW_none, errW_some] <;> rfl) | (simp [*, errW_none, errW_some] <;> rfl), by first | exact Kd.R_nil _ _ _ _ _ | exact Kd.N_nil _ _ _ _ _ | exact Kd.V_nil _ _ _ _ _ | exact Kd.Q_nil _ _ _ _ _ | exact Kd.S_nil _ _ _ _ _, xb⟩
        · rw [if_neg c19] at H
          have c19b0 : decide ((l0.length : Int) < t114) = false := decide_eq_false c19
          clear c19
          have HC21 := Aside0.mk H
          clear H
          have hcz22_0 : wc.cell? ⟨gb112, 0, none⟩ = some (.int .i64 a1_0) := (blk_cell BK112.out 0).trans rfl
          have hcz22_1 : wc.cell? ⟨gb112, 1, none⟩ = some (.int .i64 a1_1) := (blk_cell BK112.out 1).trans rfl
          have hcz22_2 : wc.cell? ⟨gb112, 2, none⟩ = some (.string a1_2) := (blk_cell BK112.out 2).trans rfl
          have hfz22_0 := blk_frozen BK112.out 0
          have hfz22_1 := blk_frozen BK112.out 1
          have hfz22_2 := blk_frozen BK112.out 2
          go_upto_region 6 with (first | (go_at_call 44; (with_reducible refine (threshingref13_Arity.calls kj3 a1_0 t114 _ (Tabs.below hT xf) A18.out).mono ?_); rintro e w' ⟨rfl, ⟨nd, rfl⟩⟩; (try first | exact ⟨rfl, _, World.drewN_drewN _ _ _⟩ | exact ⟨rfl, _, Eq.trans (World.drewN_drewN _ _ _) (congrArg (World.drewN _) (Nat.add_assoc _ _ _))⟩)))
          repeat (go_quiet (first | (go_at_call 44; (with_reducible refine (threshingref13_Arity.calls kj3 a1_0 t114 _ (Tabs.below hT xf) A18.out).mono ?_); rintro e w' ⟨rfl, ⟨nd, rfl⟩⟩; (try first | exact ⟨rfl, _, World.drewN_drewN _ _ _⟩ | exact ⟨rfl, _, Eq.trans (World.drewN_drewN _ _ _) (congrArg (World.drewN _) (Nat.add_assoc _ _ _))⟩))); go_upto_region 6 with (first | (go_at_call 44; (with_reducible refine (threshingref13_Arity.calls kj3 a1_0 t114 _ (Tabs.below hT xf) A18.out).mono ?_); rintro e w' ⟨rfl, ⟨nd, rfl⟩⟩; (try first | exact ⟨rfl, _, World.drewN_drewN _ _ _⟩ | exact ⟨rfl, _, Eq.trans (World.drewN_drewN _ _ _) (congrArg (World.drewN _) (Nat.add_assoc _ _ _))⟩))))
          (try simp only [Act.put, List.setIfInBounds_toArray, List.set_cons_zero, List.set_cons_succ])
          go_cut [9] (fun v9 wc => ∃ (kq : Nat) (x9_20 : Bool), v9 = .bool x9_20 ∧ Aside0 (threshingref15_step.j1 kq l0 l2 t114 x9_20 a1_0 a1_1 a1_2 = some (r1, r2)) ∧ Aside0 (kq ≤ kj3) ∧ Aside0 (wc.heap[gb112]? = some (.cells #[.int .i64 a1_0, .int .i64 a1_1, .string a1_2] 48 (0, 0))) ∧ Aside0 (Below w.heap.size w wc))
          case first =>
            have H := HC21.out
            clear HC21
            by_cases c23 : a1_0 = 1
            · rw [if_pos c23] at H
              have c23b0 : (a1_0 == 1) = true := beq_iff_eq.mpr c23
              have c23b1 : (a1_0 != 1) = false := bne_eq_false_iff_eq.mpr c23
              clear c23
              (first | rw [c23b0] | (simp only [i64_w, i32_w]; rw [c23b0]) | skip)
              have H' := Aside0.mk H
              clear H
              have hcz24_0 : wc.cell? ⟨gb112, 0, none⟩ = some (.int .i64 a1_0) := (blk_cell BK112.out 0).trans rfl
              have hcz24_1 : wc.cell? ⟨gb112, 1, none⟩ = some (.int .i64 a1_1) := (blk_cell BK112.out 1).trans rfl
              have hcz24_2 : wc.cell? ⟨gb112, 2, none⟩ = some (.string a1_2) := (blk_cell BK112.out 2).trans rfl
              have hfz24_0 := blk_frozen BK112.out 0
              have hfz24_1 := blk_frozen BK112.out 1
              have hfz24_2 := blk_frozen BK112.out 2
              go_wp2
              repeat (go_quiet (fail); try go_wp2)
              go_meet
              case rel => exact ⟨_, (true), xg, H', ⟨by have := HJ3.out; first | omega | exact Nat.le_refl _⟩, ⟨by (with_reducible repeat (first | refine blk_drewN ?_ _ | refine blk_drew ?_ | refine blk_alloc ?_ _)); exact BK112.out⟩, ⟨xb⟩⟩
            · rw [if_neg c23] at H
              have c23b0 : (a1_0 == 1) = false := beq_eq_false_iff_ne.mpr c23
              have c23b1 : (a1_0 != 1) = true := bne_iff_ne.mpr c23
              (first | rw [c23b0] | (simp only [i64_w, i32_w]; rw [c23b0]) | skip)
              have H' := Aside0.mk H
              clear H
              have hcz25_0 : wc.cell? ⟨gb112, 0, none⟩ = some (.int .i64 a1_0) := (blk_cell BK112.out 0).trans rfl
              have hcz25_1 : wc.cell? ⟨gb112, 1, none⟩ = some (.int .i64 a1_1) := (blk_cell BK112.out 1).trans rfl
              have hcz25_2 : wc.cell? ⟨gb112, 2, none⟩ = some (.string a1_2) := (blk_cell BK112.out 2).trans rfl
              have hfz25_0 := blk_frozen BK112.out 0
              have hfz25_1 := blk_frozen BK112.out 1
              have hfz25_2 := blk_frozen BK112.out 2
              go_wp2
              repeat (go_quiet (fail); try go_wp2)
              go_meet
              case rel => exact ⟨_, ((a1_0 == 2)), xg, H', ⟨by have := HJ3.out; first | omega | exact Nat.le_refl _⟩, ⟨by (with_reducible repeat (first | refine blk_drewN ?_ _ | refine blk_drew ?_ | refine blk_alloc ?_ _)); exact BK112.out⟩, ⟨xb⟩⟩
          case rest =>
            clear HC21
            try clear c1
            try clear c2
            try clear p2
            try clear c3
            try clear c7
            try clear c8
            try clear c8b0
            try clear c17
            try clear c19
            try clear c19b0
            try clear c23
            try clear c23b0
            try clear c23b1
            try clear hcz11_0
            try clear hcz11_1
            try clear hcz11_2
            try clear hcz12_0
            try clear hcz12_1
            try clear hcz12_2
            try clear hcz14_0
            try clear hcz14_1
            try clear hcz14_2
            try clear hcz15_0
            try clear hcz15_1
            try clear hcz15_2
            try clear hcz20_0
            try clear hcz20_1
            try clear hcz20_2
            try clear hcz22_0
            try clear hcz22_1
            try clear hcz22_2
            try clear hcz24_0
            try clear hcz24_1
            try clear hcz24_2
            try clear hcz25_0
            try clear hcz25_1
            try clear hcz25_2
            try clear hcz9_0
            try clear hcz9_1
            try clear hcz9_2
            try clear hfz11_0
            try clear hfz11_1
            try clear hfz11_2
            try clear hfz12_0
            try clear hfz12_1
            try clear hfz12_2
            try clear hfz14_0
            try clear hfz14_1
            try clear hfz14_2
            try clear hfz15_0
            try clear hfz15_1
            try clear hfz15_2
            try clear hfz20_0
            try clear hfz20_1
            try clear hfz20_2
            try clear hfz22_0
            try clear hfz22_1
            try clear hfz22_2
            try clear hfz24_0
            try clear hfz24_1
            try clear hfz24_2
            try clear hfz25_0
            try clear hfz25_1
            try clear hfz25_2
            try clear hfz9_0
            try clear hfz9_1
            try clear hfz9_2
            try clear p2
            obtain ⟨kq, x9_20, rfl, HA, HJ20, BK112, HB⟩ := hcut
            cases kq with
            | zero => exact absurd HA.out (by simp [threshingref15_step.j1])
            | succ kj20 =>
              have H := HA.out
              clear HA
              simp only [threshingref15_step.j1] at H
              have HC26 := Aside0.mk H
              clear H
              have hcz27_0 : wc.cell? ⟨gb112, 0, none⟩ = some (.int .i64 a1_0) := (blk_cell BK112.out 0).trans rfl
              have hcz27_1 : wc.cell? ⟨gb112, 1, none⟩ = some (.int .i64 a1_1) := (blk_cell BK112.out 1).trans rfl
              have hcz27_2 : wc.cell? ⟨gb112, 2, none⟩ = some (.string a1_2) := (blk_cell BK112.out 2).trans rfl
              have hfz27_0 := blk_frozen BK112.out 0
              have hfz27_1 := blk_frozen BK112.out 1
              have hfz27_2 := blk_frozen BK112.out 2
              go_upto_if 43 with (fail)
              repeat (go_quiet (fail); go_upto_if 43 with (fail))
              go_cut [9] (fun v9 wc => ∃ (kq : Nat) (x9_25 : Bool), v9 = .bool x9_25 ∧ Aside0 (threshingref15_step.j2 kq l0 t114 x9_25 a1_0 a1_1 a1_2 = some (r1, r2)) ∧ Aside0 (kq ≤ kj20) ∧ Aside0 (wc.heap[gb112]? = some (.cells #[.int .i64 a1_0, .int .i64 a1_1, .string a1_2] 48 (0, 0))) ∧ Aside0 (Below w.heap.size w wc))
              case first =>
                have H := HC26.out
                clear HC26
                by_cases c28 : a1_0 ≥ 22
                · rw [if_pos c28] at H
                  have c28b0 : decide (22 ≤ a1_0) = true := decide_eq_true c28
                  clear c28
                  (first | rw [c28b0] | (simp only [i64_w, i32_w]; rw [c28b0]) | skip)
                  obtain ⟨ji29, hji29⟩ : ∃ j_ : Int, (wrap64 (a1_0 - 22)) = j_ := ⟨_, rfl⟩
                  replace H : (if 0 ≤ (ji29) then (if (ji29) < (l2.length : Int) then (threshingref15_step.j2 kj20 l0 t114 (rdOf false l2 (ji29)) a1_0 a1_1 a1_2) else (none)) else (none)) = some (r1, r2) := by first | (rw [hji29] at H; exact H) | (simp only [hji29] at H ⊢; exact H)
                  have hji29w : (IntKind.i64.wrap (a1_0 - 22)) = ji29 := (i64_w _).trans hji29
                  by_cases c30 : 0 ≤ (ji29)
                  · rw [if_pos c30] at H
                    have c30b0 : decide (0 ≤ (ji29)) = true := decide_eq_true c30
                    clear c30
                    by_cases c31 : (ji29) < (l2.length : Int)
                    · rw [if_pos c31] at H
                      have c31b0 : decide ((ji29) < (l2.length : Int)) = true := decide_eq_true c31
                      clear c31
                      have H' := Aside0.mk H
                      clear H
                      have hcz32_0 : wc.cell? ⟨gb112, 0, none⟩ = some (.int .i64 a1_0) := (blk_cell BK112.out 0).trans rfl
                      have hcz32_1 : wc.cell? ⟨gb112, 1, none⟩ = some (.int .i64 a1_1) := (blk_cell BK112.out 1).trans rfl
                      have hcz32_2 : wc.cell? ⟨gb112, 2, none⟩ = some (.string a1_2) := (blk_cell BK112.out 2).trans rfl
                      have hfz32_0 := blk_frozen BK112.out 0
                      have hfz32_1 := blk_frozen BK112.out 1
                      have hfz32_2 := blk_frozen BK112.out 2
                      have p115 : 0 ≤ ((ji29) : Int) := of_decide_eq_true xa
                      have q115 : (ji29) < (l2.length : Int) := of_decide_eq_true xa
                      obtain ⟨ad115, e115, hx115_0⟩ := Kd.at_bool HR2.out (ji29) p115 q115
                      cases e115
                      replace hx115_0 := (HB.out.cell (World.block_lt_of_cell? w _ hx115_0)).trans hx115_0
                      replace p115 := eq_true p115
                      replace q115 := eq_true q115
                      go_wp2
                      repeat (go_quiet (fail); try go_wp2)
                      go_meet
                      case rel => exact ⟨_, (rdOf false l2 (ji29)), (by first | rfl | (simp; done) | (simp only [← hji29] <;> (first | rfl | simp)) | (simp [*]; done)), H', ⟨by have := HJ3.out; have := HJ20.out; first | omega | exact Nat.le_refl _⟩, ⟨by (with_reducible repeat (first | refine blk_drewN ?_ _ | refine blk_drew ?_ | refine blk_alloc ?_ _)); exact BK112.out⟩, ⟨xb⟩⟩
                    · rw [if_neg c31] at H
                      exact absurd H (by simp)
                  · rw [if_neg c30] at H
                    exact absurd H (by simp)
                · rw [if_neg c28] at H
                  have c28b0 : decide (22 ≤ a1_0) = false := decide_eq_false c28
                  clear c28
                  (first | rw [c28b0] | (simp only [i64_w, i32_w]; rw [c28b0]) | skip)
                  have H' := Aside0.mk H
                  clear H
                  go_wp2
                  repeat (go_quiet (fail); try go_wp2)
                  go_meet
                  case rel => exact ⟨_, (x9_20), xg, H', ⟨by have := HJ3.out; have := HJ20.out; first | omega | exact Nat.le_refl _⟩, ⟨by (with_reducible repeat (first | refine blk_drewN ?_ _ | refine blk_drew ?_ | refine blk_alloc ?_ _)); exact BK112.out⟩, ⟨xb⟩⟩
              case rest =>
                clear HC26
                try clear c1
                try clear p1
                try clear q1
                try clear hx1
                try clear c2
                try clear p2
                try clear c3
                try clear p6
                try clear c7
                try clear c8
                try clear c8b0
                try clear p11
                try clear q11
                try clear hx11
                try clear c17
                try clear c19
                try clear c19b0
                try clear c23
                try clear c23b0
                try clear c23b1
                try clear c28
                try clear c28b0
                try clear c30
                try clear c30b0
                try clear c31
                try clear c31b0
                try clear hcz11_0
                try clear hcz11_1
                try clear hcz11_2
                try clear hcz12_0
                try clear hcz12_1
                try clear hcz12_2
                try clear hcz14_0
                try clear hcz14_1
                try clear hcz14_2
                try clear hcz15_0
                try clear hcz15_1
                try clear hcz15_2
                try clear hcz20_0
                try clear hcz20_1
                try clear hcz20_2
                try clear hcz22_0
                try clear hcz22_1
                try clear hcz22_2
                try clear hcz24_0
                try clear hcz24_1
                try clear hcz24_2
                try clear hcz25_0
                try clear hcz25_1
                try clear hcz25_2
                try clear hcz27_0
                try clear hcz27_1
                try clear hcz27_2
                try clear hcz32_0
                try clear hcz32_1
                try clear hcz32_2
                try clear hcz9_0
                try clear hcz9_1
                try clear hcz9_2
                try clear hfz11_0
                try clear hfz11_1
                try clear hfz11_2
                try clear hfz12_0
                try clear hfz12_1
                try clear hfz12_2
                try clear hfz14_0
                try clear hfz14_1
                try clear hfz14_2
                try clear hfz15_0
                try clear hfz15_1
                try clear hfz15_2
                try clear hfz20_0
                try clear hfz20_1
                try clear hfz20_2
                try clear hfz22_0
                try clear hfz22_1
                try clear hfz22_2
                try clear hfz24_0
                try clear hfz24_1
                try clear hfz24_2
                try clear hfz25_0
                try clear hfz25_1
                try clear hfz25_2
                try clear hfz27_0
                try clear hfz27_1
                try clear hfz27_2
                try clear hfz32_0
                try clear hfz32_1
                try clear hfz32_2
                try clear hfz9_0
                try clear hfz9_1
                try clear hfz9_2
                try clear hx115_0
                try clear p115
                try clear p2
                try clear q115
                obtain ⟨kq, x9_25, rfl, HA, HJ25, BK112, HB⟩ := hcut
                cases kq with
                | zero => exact absurd HA.out (by simp [threshingref15_step.j2])
                | succ kj25 =>
                  have H := HA.out
                  clear HA
                  simp only [threshingref15_step.j2] at H
                  by_cases c33 : t114 > 0
                  · rw [if_pos c33] at H
                    have c33b0 : decide (0 < t114) = true := decide_eq_true c33
                    clear c33
                    obtain ⟨ji34, hji34⟩ : ∃ j_ : Int, (wrap64 ((l0.length : Int) - t114)) = j_ := ⟨_, rfl⟩
                    replace H : (if 0 ≤ (ji34) then (if (ji34) ≤ (l0.length : Int) then ((threshingref13_Result.f kj25 a1_0 (l0.drop ((ji34) : Int).toNat)).bind fun bt117 => (if bt117.2 = 0 then ((some (([] : List Bool) : List Bool)).bind fun y119 => (if y119.length + (l0.take ((ji34) : Int).toNat).length < 140737488355328 then ((some (y119 ++ (l0.take ((ji34) : Int).toNat) : List Bool)).bind fun y123 => (if y123.length < 140737488355328 then ((some (y123 ++ [bt117.1] : List Bool)).bind fun y126 => (if (y126.length : Int) > 30 then (some (([] : List Bool), 13)) else (some (y126, 0)))) else (none))) else (none))) else (some (([] : List Bool), bt117.2)))) else (none)) else (none)) = some (r1, r2) := by first | (rw [hji34] at H; exact H) | (simp only [hji34] at H ⊢; exact H)
                    have hji34w : (IntKind.i64.wrap ((l0.length : Int) - t114)) = ji34 := (i64_w _).trans hji34
                    by_cases c35 : 0 ≤ (ji34)
                    · rw [if_pos c35] at H
                      have c35b0 := eq_true c35
                      have c35b1 : decide (0 ≤ (ji34)) = true := decide_eq_true c35
                      clear c35
                      by_cases c36 : (ji34) ≤ (l0.length : Int)
                      · rw [if_pos c36] at H
                        have c36b0 := eq_true c36
                        have c36b1 : decide ((ji34) ≤ (l0.length : Int)) = true := decide_eq_true c36
                        clear c36
                        replace H := Option.bind_eq_some_iff.mp H
                        obtain ⟨⟨t117, t118⟩, A370, H⟩ := H
                        replace H : (if t118 = 0 then ((some (([] : List Bool) : List Bool)).bind fun y119 => (if y119.length + (l0.take ((ji34) : Int).toNat).length < 140737488355328 then ((some (y119 ++ (l0.take ((ji34) : Int).toNat) : List Bool)).bind fun y123 => (if y123.length < 140737488355328 then ((some (y123 ++ [t117] : List Bool)).bind fun y126 => (if (y126.length : Int) > 30 then (some (([] : List Bool), 13)) else (some (y126, 0)))) else (none))) else (none))) else (some (([] : List Bool), t118))) = some (r1, r2) := H
                        have A37 := Aside0.mk A370
                        clear A370
                        by_cases c38 : t118 = 0
                        · rw [if_pos c38] at H
                          have c38b0 : (t118 == 0) = true := beq_iff_eq.mpr c38
                          have c38b1 : (t118 != 0) = false := bne_eq_false_iff_eq.mpr c38
                          clear c38
                          obtain ⟨y119, hy119⟩ : ∃ y_ : List Bool, y_ = (([] : List Bool)) := ⟨_, rfl⟩
                          replace H : (if y119.length + (l0.take ((ji34) : Int).toNat).length < 140737488355328 then ((some (y119 ++ (l0.take ((ji34) : Int).toNat) : List Bool)).bind fun y123 => (if y123.length < 140737488355328 then ((some (y123 ++ [t117] : List Bool)).bind fun y126 => (if (y126.length : Int) > 30 then (some (([] : List Bool), 13)) else (some (y126, 0)))) else (none))) else (none)) = some (r1, r2) := by first | (rw [hy119]; with_reducible exact H) | (have H2_ := (Option.bind_some _ _).symm.trans H; rw [hy119]; with_reducible exact H2_) | (have H2_ := (Option.bind_some _ _).symm.trans H; with_reducible exact H2_) | with_reducible exact H | (rw [hy119]; exact H) | exact H
                          have Ny119 := Aside0.mk hy119
                          clear hy119
                          have c39b0 := eq_true (of_decide_eq_true xa : 0 ≤ (ji34))
                          have c40b0 := eq_true (of_decide_eq_true xa : (ji34) ≤ (l0.length : Int))
                          by_cases c41 : y119.length + (l0.take ((ji34) : Int).toNat).length < 140737488355328
                          · rw [if_pos c41] at H
                            have LMc41 := Aside0.mk c41
                            clear c41
                            obtain ⟨y123, hy123⟩ : ∃ y_ : List Bool, y_ = (y119 ++ (l0.take ((ji34) : Int).toNat)) := ⟨_, rfl⟩
                            replace H : (if y123.length < 140737488355328 then ((some (y123 ++ [t117] : List Bool)).bind fun y126 => (if (y126.length : Int) > 30 then (some (([] : List Bool), 13)) else (some (y126, 0)))) else (none)) = some (r1, r2) := by first | (rw [hy123]; with_reducible exact H) | (have H2_ := (Option.bind_some _ _).symm.trans H; rw [hy123]; with_reducible exact H2_) | (have H2_ := (Option.bind_some _ _).symm.trans H; with_reducible exact H2_) | with_reducible exact H | (rw [hy123]; exact H) | exact H
                            have Ny123 := Aside0.mk hy123
                            clear hy123
                            by_cases c42 : y123.length < 140737488355328
                            · rw [if_pos c42] at H
                              have LMc42 := Aside0.mk c42
                              clear c42
                              obtain ⟨y126, hy126⟩ : ∃ y_ : List Bool, y_ = (y123 ++ [t117]) := ⟨_, rfl⟩
                              replace H : (if (y126.length : Int) > 30 then (some (([] : List Bool), 13)) else (some (y126, 0))) = some (r1, r2) := by first | (rw [hy126]; with_reducible exact H) | (have H2_ := (Option.bind_some _ _).symm.trans H; rw [hy126]; with_reducible exact H2_) | (have H2_ := (Option.bind_some _ _).symm.trans H; with_reducible exact H2_) | with_reducible exact H | (rw [hy126]; exact H) | exact H
                              have Ny126 := Aside0.mk hy126
                              clear hy126
                              by_cases c43 : (y126.length : Int) > 30
                              · rw [if_pos c43] at H
                                have c43b0 : decide (30 < (y126.length : Int)) = true := decide_eq_true c43
                                have c43b1 : decide (30 < y126.length) = true := decide_eq_true (by omega)
                                clear c43
                                simp only [Option.some.injEq, Prod.mk.injEq] at H
                                obtain ⟨rfl, rfl⟩ := H
                                have hcz44_0 : wc.cell? ⟨gb112, 0, none⟩ = some (.int .i64 a1_0) := (blk_cell BK112.out 0).trans rfl
                                have hcz44_1 : wc.cell? ⟨gb112, 1, none⟩ = some (.int .i64 a1_1) := (blk_cell BK112.out 1).trans rfl
                                have hcz44_2 : wc.cell? ⟨gb112, 2, none⟩ = some (.string a1_2) := (blk_cell BK112.out 2).trans rfl
                                have hfz44_0 := blk_frozen BK112.out 0
                                have hfz44_1 := blk_frozen BK112.out 1
                                have hfz44_2 := blk_frozen BK112.out 2
                                obtain ⟨i045, hi045, _, hsz45, _⟩ := info_parts info4
                                obtain ⟨A45, hcut45, hA45, hC45⟩ := print_drop_of (P := Tryz.prog) Value.bool false 23 4 .i64 Tryz.underlying23 hi045 hsz45 A0 c0 l0 (ji34) (of_decide_eq_true xa) (of_decide_eq_true xa) HC0.out
                                have HR116 := Aside0.mk (Kd.C_of_reads (h1 := fun _ => rfl) (hA45 _ (Kd.reads_of_C HR0.out)))
                                have HC116 := Aside0.mk hC45
                                clear hA45 hC45 hi045 hsz45
                                go_wp2_with (first | (go_at_call 45; (try rw [← List.length_drop]); (with_reducible refine (threshingref13_Result.calls kj25 a1_0 _ _ (l0.drop ((ji34) : Int).toNat) t117 t118 _ (Tabs.below hT xf) ?side1 ?side2 A37.out).mono ?_); (case side1 => exact Kd.C_below HR116.out xb); (case side2 => exact HC116.out); rintro e w' ⟨rfl, ⟨nd, rfl⟩⟩; (try first | exact ⟨rfl, _, World.drewN_drewN _ _ _⟩ | exact ⟨rfl, _, Eq.trans (World.drewN_drewN _ _ _) (congrArg (World.drewN _) (Nat.add_assoc _ _ _))⟩)) | ((with_reducible refine gate_dst (N := 68) rfl ?_); (try (refine gate_guard (by rfl) ?_; dsimp only)); refine Kd.R_lit Kd.bool _ 4 ?hg (N := 68) ?hd (xs := ([] : List Bool)) (inner := []) (ok := fun _ => True) (okp := fun _ => True) ?hr ?hp (fun _ hk => hk) trivial (Below.refl _ _) (Nat.le_refl _) (by simp) ?_; (case hd => rfl); (case hg => rfl); (case hr => exact xh); (case hp => exact (Reps.none _ _)); intro v120 w46 ho47 hb hg_ hnew_; clear hg_ hnew_; (first | rw [← Ny119.out] at ho47 | (simp only [Int.reduceToNat] at ho47; rw [← Ny119.out] at ho47)); have n0_ := Aside0.mk (Kd.R_lower ho47 (below_size xb)); have n1_ := xd BK112.out hb; have n2_ := Aside0.mk (below_step xb hb); clear BK112; clear HB; have HO121 := n0_; have BK112 := n1_; have HB := n2_; clear n0_ n1_ n2_; clear hb ho47; obtain ⟨i048, hi048, _, hsz48, _⟩ := info_parts info4; obtain ⟨hcut48, hA48, hC48⟩ := print_take_of (P := Tryz.prog) Value.bool false 23 4 .i64 Tryz.underlying23 hi048 hsz48 A0 c0 l0 (ji34) (of_decide_eq_true xa) (of_decide_eq_true xa) HC0.out; have HR122 := Aside0.mk (Kd.C_of_reads (h1 := fun _ => rfl) (hA48 _ (Kd.reads_of_C HR0.out))); have HC122 := Aside0.mk hC48; clear hA48 hC48 hi048 hsz48) | ((with_reducible refine gate_builtin (b := .append) (xs := #[.tmp 68, .tmp 74]) rfl ?_); (try (refine gate_guard (by rfl) ?_; dsimp only)); at_builtin; refine Kd.R_append_rows Kd.bool (w0 := w) w.heap.size rfl (.tmp 68) (.tmp 74) 23 4 (.bool false) 1 rfl Tryz.underlying23 info4 rfl (by decide) (by omega) v120 y119 (l0.take ((ji34) : Int).toNat) _ _ _ (fun _ => True) (fun _ => False) rfl rfl ?aO ?aR (fun _ _ h => h) (fun _ h => h.elim) ?aF ?aB ?aS ?aL ?_; (case aR => first | (refine Eq.mp (congrArg (fun z_ => ReadsRow _ _ _ _ z_ _) (show (l0.take ((ji34) : Int).toNat).length = (ji34).toNat from (by rw [List.length_take]; have h_ : ((ji34) : Int) ≤ (l0.length : Int) := of_decide_eq_true xa; omega))) ?_; exact Kd.C_below HR122.out xb) | (exact Kd.C_below HR122.out xb)); (case aB => exact xb); (case aF => exact (fun _ _ => trivial)); (case aO => exact (xo HO121.out)); (case aS => exact (below_size xb)); (case aL => have := LMc41.out; have hlx_ := (show (l0.take ((ji34) : Int).toNat).length = (ji34).toNat from (by rw [List.length_take]; have h_ : ((ji34) : Int) ≤ (l0.length : Int) := of_decide_eq_true xa; omega)); omega); intro v124 w49 ho hb hg hat; rw [← Ny123.out] at ho; have n0_ := Aside0.mk (blk_grown (g := gb112) (o := .cells #[.int .i64 a1_0, .int .i64 a1_1, .string a1_2] 48 (0, 0)) (xk BK112.out) hg (Kd.R_ne HO121.out BK112.out (by decide))); have n1_ := Aside0.mk (hb); have n2_ := Aside0.mk (ho); clear BK112; clear HB; clear HO121; have BK112 := n0_; have HB := n1_; have HO125 := n2_; clear n0_ n1_ n2_; clear ho hb hg hat) | ((with_reducible refine gate_builtin (b := .append) (xs := #[.tmp 76, .tmp 78]) rfl ?_); (try (refine gate_guard (by rfl) ?_; dsimp only)); at_builtin; refine Kd.R_append Kd.bool (w0 := w) w.heap.size rfl (.tmp 76) (.tmp 78) 23 4 (.bool false) 1 rfl Tryz.underlying23 info4 rfl (by decide) (by omega) v124 y123 t117 [.bool t117] (fun _ => True) (fun _ => False) rfl rfl ?aP (fun _ hk => hk.elim) ?aF ?aO ?aB ?aS ?aL ?_; (case aP => exact rfl); (case aB => exact xb); (case aF => exact (fun _ _ => trivial)); (case aO => exact (xo HO125.out)); (case aS => exact (below_size xb)); (case aL => have := LMc42.out; omega); intro v127 w50 ho hb hg hat; rw [← Ny126.out] at ho; have n0_ := Aside0.mk (blk_grown (g := gb112) (o := .cells #[.int .i64 a1_0, .int .i64 a1_1, .string a1_2] 48 (0, 0)) (xk BK112.out) hg (Kd.R_ne HO125.out BK112.out (by decide))); have n1_ := Aside0.mk (hb); have n2_ := Aside0.mk (ho); clear BK112; clear HB; clear HO125; have BK112 := n0_; have HB := n1_; have HO128 := n2_; clear n0_ n1_ n2_; clear ho hb hg hat; obtain ⟨Ao51, co51, eo51⟩ := Kd.R_slice HO128.out; subst eo51))
                                repeat (go_quiet (first | (go_at_call 45; (try rw [← List.length_drop]); (with_reducible refine (threshingref13_Result.calls kj25 a1_0 _ _ (l0.drop ((ji34) : Int).toNat) t117 t118 _ (Tabs.below hT xf) ?side1 ?side2 A37.out).mono ?_); (case side1 => exact Kd.C_below HR116.out xb); (case side2 => exact HC116.out); rintro e w' ⟨rfl, ⟨nd, rfl⟩⟩; (try first | exact ⟨rfl, _, World.drewN_drewN _ _ _⟩ | exact ⟨rfl, _, Eq.trans (World.drewN_drewN _ _ _) (congrArg (World.drewN _) (Nat.add_assoc _ _ _))⟩)) | ((with_reducible refine gate_dst (N := 68) rfl ?_); (try (refine gate_guard (by rfl) ?_; dsimp only)); refine Kd.R_lit Kd.bool _ 4 ?hg (N := 68) ?hd (xs := ([] : List Bool)) (inner := []) (ok := fun _ => True) (okp := fun _ => True) ?hr ?hp (fun _ hk => hk) trivial (Below.refl _ _) (Nat.le_refl _) (by simp) ?_; (case hd => rfl); (case hg => rfl); (case hr => exact xh); (case hp => exact (Reps.none _ _)); intro v120 w46 ho47 hb hg_ hnew_; clear hg_ hnew_; (first | rw [← Ny119.out] at ho47 | (simp only [Int.reduceToNat] at ho47; rw [← Ny119.out] at ho47)); have n0_ := Aside0.mk (Kd.R_lower ho47 (below_size xb)); have n1_ := xd BK112.out hb; have n2_ := Aside0.mk (below_step xb hb); clear BK112; clear HB; have HO121 := n0_; have BK112 := n1_; have HB := n2_; clear n0_ n1_ n2_; clear hb ho47; obtain ⟨i048, hi048, _, hsz48, _⟩ := info_parts info4; obtain ⟨hcut48, hA48, hC48⟩ := print_take_of (P := Tryz.prog) Value.bool false 23 4 .i64 Tryz.underlying23 hi048 hsz48 A0 c0 l0 (ji34) (of_decide_eq_true xa) (of_decide_eq_true xa) HC0.out; have HR122 := Aside0.mk (Kd.C_of_reads (h1 := fun _ => rfl) (hA48 _ (Kd.reads_of_C HR0.out))); have HC122 := Aside0.mk hC48; clear hA48 hC48 hi048 hsz48) | ((with_reducible refine gate_builtin (b := .append) (xs := #[.tmp 68, .tmp 74]) rfl ?_); (try (refine gate_guard (by rfl) ?_; dsimp only)); at_builtin; refine Kd.R_append_rows Kd.bool (w0 := w) w.heap.size rfl (.tmp 68) (.tmp 74) 23 4 (.bool false) 1 rfl Tryz.underlying23 info4 rfl (by decide) (by omega) v120 y119 (l0.take ((ji34) : Int).toNat) _ _ _ (fun _ => True) (fun _ => False) rfl rfl ?aO ?aR (fun _ _ h => h) (fun _ h => h.elim) ?aF ?aB ?aS ?aL ?_; (case aR => first | (refine Eq.mp (congrArg (fun z_ => ReadsRow _ _ _ _ z_ _) (show (l0.take ((ji34) : Int).toNat).length = (ji34).toNat from (by rw [List.length_take]; have h_ : ((ji34) : Int) ≤ (l0.length : Int) := of_decide_eq_true xa; omega))) ?_; exact Kd.C_below HR122.out xb) | (exact Kd.C_below HR122.out xb)); (case aB => exact xb); (case aF => exact (fun _ _ => trivial)); (case aO => exact (xo HO121.out)); (case aS => exact (below_size xb)); (case aL => have := LMc41.out; have hlx_ := (show (l0.take ((ji34) : Int).toNat).length = (ji34).toNat from (by rw [List.length_take]; have h_ : ((ji34) : Int) ≤ (l0.length : Int) := of_decide_eq_true xa; omega)); omega); intro v124 w49 ho hb hg hat; rw [← Ny123.out] at ho; have n0_ := Aside0.mk (blk_grown (g := gb112) (o := .cells #[.int .i64 a1_0, .int .i64 a1_1, .string a1_2] 48 (0, 0)) (xk BK112.out) hg (Kd.R_ne HO121.out BK112.out (by decide))); have n1_ := Aside0.mk (hb); have n2_ := Aside0.mk (ho); clear BK112; clear HB; clear HO121; have BK112 := n0_; have HB := n1_; have HO125 := n2_; clear n0_ n1_ n2_; clear ho hb hg hat) | ((with_reducible refine gate_builtin (b := .append) (xs := #[.tmp 76, .tmp 78]) rfl ?_); (try (refine gate_guard (by rfl) ?_; dsimp only)); at_builtin; refine Kd.R_append Kd.bool (w0 := w) w.heap.size rfl (.tmp 76) (.tmp 78) 23 4 (.bool false) 1 rfl Tryz.underlying23 info4 rfl (by decide) (by omega) v124 y123 t117 [.bool t117] (fun _ => True) (fun _ => False) rfl rfl ?aP (fun _ hk => hk.elim) ?aF ?aO ?aB ?aS ?aL ?_; (case aP => exact rfl); (case aB => exact xb); (case aF => exact (fun _ _ => trivial)); (case aO => exact (xo HO125.out)); (case aS => exact (below_size xb)); (case aL => have := LMc42.out; omega); intro v127 w50 ho hb hg hat; rw [← Ny126.out] at ho; have n0_ := Aside0.mk (blk_grown (g := gb112) (o := .cells #[.int .i64 a1_0, .int .i64 a1_1, .string a1_2] 48 (0, 0)) (xk BK112.out) hg (Kd.R_ne HO125.out BK112.out (by decide))); have n1_ := Aside0.mk (hb); have n2_ := Aside0.mk (ho); clear BK112; clear HB; clear HO125; have BK112 := n0_; have HB := n1_; have HO128 := n2_; clear n0_ n1_ n2_; clear ho hb hg hat; obtain ⟨Ao51, co51, eo51⟩ := Kd.R_slice HO128.out; subst eo51)); try go_wp2_with (first | (go_at_call 45; (try rw [← List.length_drop]); (with_reducible refine (threshingref13_Result.calls kj25 a1_0 _ _ (l0.drop ((ji34) : Int).toNat) t117 t118 _ (Tabs.below hT xf) ?side1 ?side2 A37.out).mono ?_); (case side1 => exact Kd.C_below HR116.out xb); (case side2 => exact HC116.out); rintro e w' ⟨rfl, ⟨nd, rfl⟩⟩; (try first | exact ⟨rfl, _, World.drewN_drewN _ _ _⟩ | exact ⟨rfl, _, Eq.trans (World.drewN_drewN _ _ _) (congrArg (World.drewN _) (Nat.add_assoc _ _ _))⟩)) | ((with_reducible refine gate_dst (N := 68) rfl ?_); (try (refine gate_guard (by rfl) ?_; dsimp only)); refine Kd.R_lit Kd.bool _ 4 ?hg (N := 68) ?hd (xs := ([] : List Bool)) (inner := []) (ok := fun _ => True) (okp := fun _ => True) ?hr ?hp (fun _ hk => hk) trivial (Below.refl _ _) (Nat.le_refl _) (by simp) ?_; (case hd => rfl); (case hg => rfl); (case hr => exact xh); (case hp => exact (Reps.none _ _)); intro v120 w46 ho47 hb hg_ hnew_; clear hg_ hnew_; (first | rw [← Ny119.out] at ho47 | (simp only [Int.reduceToNat] at ho47; rw [← Ny119.out] at ho47)); have n0_ := Aside0.mk (Kd.R_lower ho47 (below_size xb)); have n1_ := xd BK112.out hb; have n2_ := Aside0.mk (below_step xb hb); clear BK112; clear HB; have HO121 := n0_; have BK112 := n1_; have HB := n2_; clear n0_ n1_ n2_; clear hb ho47; obtain ⟨i048, hi048, _, hsz48, _⟩ := info_parts info4; obtain ⟨hcut48, hA48, hC48⟩ := print_take_of (P := Tryz.prog) Value.bool false 23 4 .i64 Tryz.underlying23 hi048 hsz48 A0 c0 l0 (ji34) (of_decide_eq_true xa) (of_decide_eq_true xa) HC0.out; have HR122 := Aside0.mk (Kd.C_of_reads (h1 := fun _ => rfl) (hA48 _ (Kd.reads_of_C HR0.out))); have HC122 := Aside0.mk hC48; clear hA48 hC48 hi048 hsz48) | ((with_reducible refine gate_builtin (b := .append) (xs := #[.tmp 68, .tmp 74]) rfl ?_); (try (refine gate_guard (by rfl) ?_; dsimp only)); at_builtin; refine Kd.R_append_rows Kd.bool (w0 := w) w.heap.size rfl (.tmp 68) (.tmp 74) 23 4 (.bool false) 1 rfl Tryz.underlying23 info4 rfl (by decide) (by omega) v120 y119 (l0.take ((ji34) : Int).toNat) _ _ _ (fun _ => True) (fun _ => False) rfl rfl ?aO ?aR (fun _ _ h => h) (fun _ h => h.elim) ?aF ?aB ?aS ?aL ?_; (case aR => first | (refine Eq.mp (congrArg (fun z_ => ReadsRow _ _ _ _ z_ _) (show (l0.take ((ji34) : Int).toNat).length = (ji34).toNat from (by rw [List.length_take]; have h_ : ((ji34) : Int) ≤ (l0.length : Int) := of_decide_eq_true xa; omega))) ?_; exact Kd.C_below HR122.out xb) | (exact Kd.C_below HR122.out xb)); (case aB => exact xb); (case aF => exact (fun _ _ => trivial)); (case aO => exact (xo HO121.out)); (case aS => exact (below_size xb)); (case aL => have := LMc41.out; have hlx_ := (show (l0.take ((ji34) : Int).toNat).length = (ji34).toNat from (by rw [List.length_take]; have h_ : ((ji34) : Int) ≤ (l0.length : Int) := of_decide_eq_true xa; omega)); omega); intro v124 w49 ho hb hg hat; rw [← Ny123.out] at ho; have n0_ := Aside0.mk (blk_grown (g := gb112) (o := .cells #[.int .i64 a1_0, .int .i64 a1_1, .string a1_2] 48 (0, 0)) (xk BK112.out) hg (Kd.R_ne HO121.out BK112.out (by decide))); have n1_ := Aside0.mk (hb); have n2_ := Aside0.mk (ho); clear BK112; clear HB; clear HO121; have BK112 := n0_; have HB := n1_; have HO125 := n2_; clear n0_ n1_ n2_; clear ho hb hg hat) | ((with_reducible refine gate_builtin (b := .append) (xs := #[.tmp 76, .tmp 78]) rfl ?_); (try (refine gate_guard (by rfl) ?_; dsimp only)); at_builtin; refine Kd.R_append Kd.bool (w0 := w) w.heap.size rfl (.tmp 76) (.tmp 78) 23 4 (.bool false) 1 rfl Tryz.underlying23 info4 rfl (by decide) (by omega) v124 y123 t117 [.bool t117] (fun _ => True) (fun _ => False) rfl rfl ?aP (fun _ hk => hk.elim) ?aF ?aO ?aB ?aS ?aL ?_; (case aP => exact rfl); (case aB => exact xb); (case aF => exact (fun _ _ => trivial)); (case aO => exact (xo HO125.out)); (case aS => exact (below_size xb)); (case aL => have := LMc42.out; omega); intro v127 w50 ho hb hg hat; rw [← Ny126.out] at ho; have n0_ := Aside0.mk (blk_grown (g := gb112) (o := .cells #[.int .i64 a1_0, .int .i64 a1_1, .string a1_2] 48 (0, 0)) (xk BK112.out) hg (Kd.R_ne HO125.out BK112.out (by decide))); have n1_ := Aside0.mk (hb); have n2_ := Aside0.mk (ho); clear BK112; clear HB; clear HO125; have BK112 := n0_; have HB := n1_; have HO128 := n2_; clear n0_ n1_ n2_; clear ho hb hg hat; obtain ⟨Ao51, co51, eo51⟩ := Kd.R_slice HO128.out; subst eo51)))
                                go_ret2
                                exact ⟨_, by first | rfl | (simp [errW_none, errW_some] <;> rfl) | (simp only [← hji34]; first | rfl | (simp [errW_none, errW_some] <;> rfl)) | (simp [*, errW_none, errW_some] <;> rfl), by first | exact Kd.R_nil _ _ _ _ _ | exact Kd.N_nil _ _ _ _ _ | exact Kd.V_nil _ _ _ _ _ | exact Kd.Q_nil _ _ _ _ _ | exact Kd.S_nil _ _ _ _ _, xb⟩
                              · rw [if_neg c43] at H
                                have c43b0 : decide (30 < (y126.length : Int)) = false := decide_eq_false c43
                                have c43b1 : decide (30 < y126.length) = false := decide_eq_false (by omega)
                                clear c43
                                simp only [Option.some.injEq, Prod.mk.injEq] at H
                                obtain ⟨rfl, rfl⟩ := H
                                have hcz52_0 : wc.cell? ⟨gb112, 0, none⟩ = some (.int .i64 a1_0) := (blk_cell BK112.out 0).trans rfl
                                have hcz52_1 : wc.cell? ⟨gb112, 1, none⟩ = some (.int .i64 a1_1) := (blk_cell BK112.out 1).trans rfl
                                have hcz52_2 : wc.cell? ⟨gb112, 2, none⟩ = some (.string a1_2) := (blk_cell BK112.out 2).trans rfl
                                have hfz52_0 := blk_frozen BK112.out 0
                                have hfz52_1 := blk_frozen BK112.out 1
                                have hfz52_2 := blk_frozen BK112.out 2
                                obtain ⟨i053, hi053, _, hsz53, _⟩ := info_parts info4
                                obtain ⟨A53, hcut53, hA53, hC53⟩ := print_drop_of (P := Tryz.prog) Value.bool false 23 4 .i64 Tryz.underlying23 hi053 hsz53 A0 c0 l0 (ji34) (of_decide_eq_true xa) (of_decide_eq_true xa) HC0.out
                                have HR116 := Aside0.mk (Kd.C_of_reads (h1 := fun _ => rfl) (hA53 _ (Kd.reads_of_C HR0.out)))
                                have HC116 := Aside0.mk hC53
                                clear hA53 hC53 hi053 hsz53
                                go_wp2_with (first | (go_at_call 45; (try rw [← List.length_drop]); (with_reducible refine (threshingref13_Result.calls kj25 a1_0 _ _ (l0.drop ((ji34) : Int).toNat) t117 t118 _ (Tabs.below hT xf) ?side1 ?side2 A37.out).mono ?_); (case side1 => exact Kd.C_below HR116.out xb); (case side2 => exact HC116.out); rintro e w' ⟨rfl, ⟨nd, rfl⟩⟩; (try first | exact ⟨rfl, _, World.drewN_drewN _ _ _⟩ | exact ⟨rfl, _, Eq.trans (World.drewN_drewN _ _ _) (congrArg (World.drewN _) (Nat.add_assoc _ _ _))⟩)) | ((with_reducible refine gate_dst (N := 68) rfl ?_); (try (refine gate_guard (by rfl) ?_; dsimp only)); refine Kd.R_lit Kd.bool _ 4 ?hg (N := 68) ?hd (xs := ([] : List Bool)) (inner := []) (ok := fun _ => True) (okp := fun _ => True) ?hr ?hp (fun _ hk => hk) trivial (Below.refl _ _) (Nat.le_refl _) (by simp) ?_; (case hd => rfl); (case hg => rfl); (case hr => exact xh); (case hp => exact (Reps.none _ _)); intro v120 w54 ho55 hb hg_ hnew_; clear hg_ hnew_; (first | rw [← Ny119.out] at ho55 | (simp only [Int.reduceToNat] at ho55; rw [← Ny119.out] at ho55)); have n0_ := Aside0.mk (Kd.R_lower ho55 (below_size xb)); have n1_ := xd BK112.out hb; have n2_ := Aside0.mk (below_step xb hb); clear BK112; clear HB; have HO121 := n0_; have BK112 := n1_; have HB := n2_; clear n0_ n1_ n2_; clear hb ho55; obtain ⟨i056, hi056, _, hsz56, _⟩ := info_parts info4; obtain ⟨hcut56, hA56, hC56⟩ := print_take_of (P := Tryz.prog) Value.bool false 23 4 .i64 Tryz.underlying23 hi056 hsz56 A0 c0 l0 (ji34) (of_decide_eq_true xa) (of_decide_eq_true xa) HC0.out; have HR122 := Aside0.mk (Kd.C_of_reads (h1 := fun _ => rfl) (hA56 _ (Kd.reads_of_C HR0.out))); have HC122 := Aside0.mk hC56; clear hA56 hC56 hi056 hsz56) | ((with_reducible refine gate_builtin (b := .append) (xs := #[.tmp 68, .tmp 74]) rfl ?_); (try (refine gate_guard (by rfl) ?_; dsimp only)); at_builtin; refine Kd.R_append_rows Kd.bool (w0 := w) w.heap.size rfl (.tmp 68) (.tmp 74) 23 4 (.bool false) 1 rfl Tryz.underlying23 info4 rfl (by decide) (by omega) v120 y119 (l0.take ((ji34) : Int).toNat) _ _ _ (fun _ => True) (fun _ => False) rfl rfl ?aO ?aR (fun _ _ h => h) (fun _ h => h.elim) ?aF ?aB ?aS ?aL ?_; (case aR => first | (refine Eq.mp (congrArg (fun z_ => ReadsRow _ _ _ _ z_ _) (show (l0.take ((ji34) : Int).toNat).length = (ji34).toNat from (by rw [List.length_take]; have h_ : ((ji34) : Int) ≤ (l0.length : Int) := of_decide_eq_true xa; omega))) ?_; exact Kd.C_below HR122.out xb) | (exact Kd.C_below HR122.out xb)); (case aB => exact xb); (case aF => exact (fun _ _ => trivial)); (case aO => exact (xo HO121.out)); (case aS => exact (below_size xb)); (case aL => have := LMc41.out; have hlx_ := (show (l0.take ((ji34) : Int).toNat).length = (ji34).toNat from (by rw [List.length_take]; have h_ : ((ji34) : Int) ≤ (l0.length : Int) := of_decide_eq_true xa; omega)); omega); intro v124 w57 ho hb hg hat; rw [← Ny123.out] at ho; have n0_ := Aside0.mk (blk_grown (g := gb112) (o := .cells #[.int .i64 a1_0, .int .i64 a1_1, .string a1_2] 48 (0, 0)) (xk BK112.out) hg (Kd.R_ne HO121.out BK112.out (by decide))); have n1_ := Aside0.mk (hb); have n2_ := Aside0.mk (ho); clear BK112; clear HB; clear HO121; have BK112 := n0_; have HB := n1_; have HO125 := n2_; clear n0_ n1_ n2_; clear ho hb hg hat) | ((with_reducible refine gate_builtin (b := .append) (xs := #[.tmp 76, .tmp 78]) rfl ?_); (try (refine gate_guard (by rfl) ?_; dsimp only)); at_builtin; refine Kd.R_append Kd.bool (w0 := w) w.heap.size rfl (.tmp 76) (.tmp 78) 23 4 (.bool false) 1 rfl Tryz.underlying23 info4 rfl (by decide) (by omega) v124 y123 t117 [.bool t117] (fun _ => True) (fun _ => False) rfl rfl ?aP (fun _ hk => hk.elim) ?aF ?aO ?aB ?aS ?aL ?_; (case aP => exact rfl); (case aB => exact xb); (case aF => exact (fun _ _ => trivial)); (case aO => exact (xo HO125.out)); (case aS => exact (below_size xb)); (case aL => have := LMc42.out; omega); intro v127 w58 ho hb hg hat; rw [← Ny126.out] at ho; have n0_ := Aside0.mk (blk_grown (g := gb112) (o := .cells #[.int .i64 a1_0, .int .i64 a1_1, .string a1_2] 48 (0, 0)) (xk BK112.out) hg (Kd.R_ne HO125.out BK112.out (by decide))); have n1_ := Aside0.mk (hb); have n2_ := Aside0.mk (ho); clear BK112; clear HB; clear HO125; have BK112 := n0_; have HB := n1_; have HO128 := n2_; clear n0_ n1_ n2_; clear ho hb hg hat; obtain ⟨Ao59, co59, eo59⟩ := Kd.R_slice HO128.out; subst eo59))
                                repeat (go_quiet (first | (go_at_call 45; (try rw [← List.length_drop]); (with_reducible refine (threshingref13_Result.calls kj25 a1_0 _ _ (l0.drop ((ji34) : Int).toNat) t117 t118 _ (Tabs.below hT xf) ?side1 ?side2 A37.out).mono ?_); (case side1 => exact Kd.C_below HR116.out xb); (case side2 => exact HC116.out); rintro e w' ⟨rfl, ⟨nd, rfl⟩⟩; (try first | exact ⟨rfl, _, World.drewN_drewN _ _ _⟩ | exact ⟨rfl, _, Eq.trans (World.drewN_drewN _ _ _) (congrArg (World.drewN _) (Nat.add_assoc _ _ _))⟩)) | ((with_reducible refine gate_dst (N := 68) rfl ?_); (try (refine gate_guard (by rfl) ?_; dsimp only)); refine Kd.R_lit Kd.bool _ 4 ?hg (N := 68) ?hd (xs := ([] : List Bool)) (inner := []) (ok := fun _ => True) (okp := fun _ => True) ?hr ?hp (fun _ hk => hk) trivial (Below.refl _ _) (Nat.le_refl _) (by simp) ?_; (case hd => rfl); (case hg => rfl); (case hr => exact xh); (case hp => exact (Reps.none _ _)); intro v120 w54 ho55 hb hg_ hnew_; clear hg_ hnew_; (first | rw [← Ny119.out] at ho55 | (simp only [Int.reduceToNat] at ho55; rw [← Ny119.out] at ho55)); have n0_ := Aside0.mk (Kd.R_lower ho55 (below_size xb)); have n1_ := xd BK112.out hb; have n2_ := Aside0.mk (below_step xb hb); clear BK112; clear HB; have HO121 := n0_; have BK112 := n1_; have HB := n2_; clear n0_ n1_ n2_; clear hb ho55; obtain ⟨i056, hi056, _, hsz56, _⟩ := info_parts info4; obtain ⟨hcut56, hA56, hC56⟩ := print_take_of (P := Tryz.prog) Value.bool false 23 4 .i64 Tryz.underlying23 hi056 hsz56 A0 c0 l0 (ji34) (of_decide_eq_true xa) (of_decide_eq_true xa) HC0.out; have HR122 := Aside0.mk (Kd.C_of_reads (h1 := fun _ => rfl) (hA56 _ (Kd.reads_of_C HR0.out))); have HC122 := Aside0.mk hC56; clear hA56 hC56 hi056 hsz56) | ((with_reducible refine gate_builtin (b := .append) (xs := #[.tmp 68, .tmp 74]) rfl ?_); (try (refine gate_guard (by rfl) ?_; dsimp only)); at_builtin; refine Kd.R_append_rows Kd.bool (w0 := w) w.heap.size rfl (.tmp 68) (.tmp 74) 23 4 (.bool false) 1 rfl Tryz.underlying23 info4 rfl (by decide) (by omega) v120 y119 (l0.take ((ji34) : Int).toNat) _ _ _ (fun _ => True) (fun _ => False) rfl rfl ?aO ?aR (fun _ _ h => h) (fun _ h => h.elim) ?aF ?aB ?aS ?aL ?_; (case aR => first | (refine Eq.mp (congrArg (fun z_ => ReadsRow _ _ _ _ z_ _) (show (l0.take ((ji34) : Int).toNat).length = (ji34).toNat from (by rw [List.length_take]; have h_ : ((ji34) : Int) ≤ (l0.length : Int) := of_decide_eq_true xa; omega))) ?_; exact Kd.C_below HR122.out xb) | (exact Kd.C_below HR122.out xb)); (case aB => exact xb); (case aF => exact (fun _ _ => trivial)); (case aO => exact (xo HO121.out)); (case aS => exact (below_size xb)); (case aL => have := LMc41.out; have hlx_ := (show (l0.take ((ji34) : Int).toNat).length = (ji34).toNat from (by rw [List.length_take]; have h_ : ((ji34) : Int) ≤ (l0.length : Int) := of_decide_eq_true xa; omega)); omega); intro v124 w57 ho hb hg hat; rw [← Ny123.out] at ho; have n0_ := Aside0.mk (blk_grown (g := gb112) (o := .cells #[.int .i64 a1_0, .int .i64 a1_1, .string a1_2] 48 (0, 0)) (xk BK112.out) hg (Kd.R_ne HO121.out BK112.out (by decide))); have n1_ := Aside0.mk (hb); have n2_ := Aside0.mk (ho); clear BK112; clear HB; clear HO121; have BK112 := n0_; have HB := n1_; have HO125 := n2_; clear n0_ n1_ n2_; clear ho hb hg hat) | ((with_reducible refine gate_builtin (b := .append) (xs := #[.tmp 76, .tmp 78]) rfl ?_); (try (refine gate_guard (by rfl) ?_; dsimp only)); at_builtin; refine Kd.R_append Kd.bool (w0 := w) w.heap.size rfl (.tmp 76) (.tmp 78) 23 4 (.bool false) 1 rfl Tryz.underlying23 info4 rfl (by decide) (by omega) v124 y123 t117 [.bool t117] (fun _ => True) (fun _ => False) rfl rfl ?aP (fun _ hk => hk.elim) ?aF ?aO ?aB ?aS ?aL ?_; (case aP => exact rfl); (case aB => exact xb); (case aF => exact (fun _ _ => trivial)); (case aO => exact (xo HO125.out)); (case aS => exact (below_size xb)); (case aL => have := LMc42.out; omega); intro v127 w58 ho hb hg hat; rw [← Ny126.out] at ho; have n0_ := Aside0.mk (blk_grown (g := gb112) (o := .cells #[.int .i64 a1_0, .int .i64 a1_1, .string a1_2] 48 (0, 0)) (xk BK112.out) hg (Kd.R_ne HO125.out BK112.out (by decide))); have n1_ := Aside0.mk (hb); have n2_ := Aside0.mk (ho); clear BK112; clear HB; clear HO125; have BK112 := n0_; have HB := n1_; have HO128 := n2_; clear n0_ n1_ n2_; clear ho hb hg hat; obtain ⟨Ao59, co59, eo59⟩ := Kd.R_slice HO128.out; subst eo59)); try go_wp2_with (first | (go_at_call 45; (try rw [← List.length_drop]); (with_reducible refine (threshingref13_Result.calls kj25 a1_0 _ _ (l0.drop ((ji34) : Int).toNat) t117 t118 _ (Tabs.below hT xf) ?side1 ?side2 A37.out).mono ?_); (case side1 => exact Kd.C_below HR116.out xb); (case side2 => exact HC116.out); rintro e w' ⟨rfl, ⟨nd, rfl⟩⟩; (try first | exact ⟨rfl, _, World.drewN_drewN _ _ _⟩ | exact ⟨rfl, _, Eq.trans (World.drewN_drewN _ _ _) (congrArg (World.drewN _) (Nat.add_assoc _ _ _))⟩)) | ((with_reducible refine gate_dst (N := 68) rfl ?_); (try (refine gate_guard (by rfl) ?_; dsimp only)); refine Kd.R_lit Kd.bool _ 4 ?hg (N := 68) ?hd (xs := ([] : List Bool)) (inner := []) (ok := fun _ => True) (okp := fun _ => True) ?hr ?hp (fun _ hk => hk) trivial (Below.refl _ _) (Nat.le_refl _) (by simp) ?_; (case hd => rfl); (case hg => rfl); (case hr => exact xh); (case hp => exact (Reps.none _ _)); intro v120 w54 ho55 hb hg_ hnew_; clear hg_ hnew_; (first | rw [← Ny119.out] at ho55 | (simp only [Int.reduceToNat] at ho55; rw [← Ny119.out] at ho55)); have n0_ := Aside0.mk (Kd.R_lower ho55 (below_size xb)); have n1_ := xd BK112.out hb; have n2_ := Aside0.mk (below_step xb hb); clear BK112; clear HB; have HO121 := n0_; have BK112 := n1_; have HB := n2_; clear n0_ n1_ n2_; clear hb ho55; obtain ⟨i056, hi056, _, hsz56, _⟩ := info_parts info4; obtain ⟨hcut56, hA56, hC56⟩ := print_take_of (P := Tryz.prog) Value.bool false 23 4 .i64 Tryz.underlying23 hi056 hsz56 A0 c0 l0 (ji34) (of_decide_eq_true xa) (of_decide_eq_true xa) HC0.out; have HR122 := Aside0.mk (Kd.C_of_reads (h1 := fun _ => rfl) (hA56 _ (Kd.reads_of_C HR0.out))); have HC122 := Aside0.mk hC56; clear hA56 hC56 hi056 hsz56) | ((with_reducible refine gate_builtin (b := .append) (xs := #[.tmp 68, .tmp 74]) rfl ?_); (try (refine gate_guard (by rfl) ?_; dsimp only)); at_builtin; refine Kd.R_append_rows Kd.bool (w0 := w) w.heap.size rfl (.tmp 68) (.tmp 74) 23 4 (.bool false) 1 rfl Tryz.underlying23 info4 rfl (by decide) (by omega) v120 y119 (l0.take ((ji34) : Int).toNat) _ _ _ (fun _ => True) (fun _ => False) rfl rfl ?aO ?aR (fun _ _ h => h) (fun _ h => h.elim) ?aF ?aB ?aS ?aL ?_; (case aR => first | (refine Eq.mp (congrArg (fun z_ => ReadsRow _ _ _ _ z_ _) (show (l0.take ((ji34) : Int).toNat).length = (ji34).toNat from (by rw [List.length_take]; have h_ : ((ji34) : Int) ≤ (l0.length : Int) := of_decide_eq_true xa; omega))) ?_; exact Kd.C_below HR122.out xb) | (exact Kd.C_below HR122.out xb)); (case aB => exact xb); (case aF => exact (fun _ _ => trivial)); (case aO => exact (xo HO121.out)); (case aS => exact (below_size xb)); (case aL => have := LMc41.out; have hlx_ := (show (l0.take ((ji34) : Int).toNat).length = (ji34).toNat from (by rw [List.length_take]; have h_ : ((ji34) : Int) ≤ (l0.length : Int) := of_decide_eq_true xa; omega)); omega); intro v124 w57 ho hb hg hat; rw [← Ny123.out] at ho; have n0_ := Aside0.mk (blk_grown (g := gb112) (o := .cells #[.int .i64 a1_0, .int .i64 a1_1, .string a1_2] 48 (0, 0)) (xk BK112.out) hg (Kd.R_ne HO121.out BK112.out (by decide))); have n1_ := Aside0.mk (hb); have n2_ := Aside0.mk (ho); clear BK112; clear HB; clear HO121; have BK112 := n0_; have HB := n1_; have HO125 := n2_; clear n0_ n1_ n2_; clear ho hb hg hat) | ((with_reducible refine gate_builtin (b := .append) (xs := #[.tmp 76, .tmp 78]) rfl ?_); (try (refine gate_guard (by rfl) ?_; dsimp only)); at_builtin; refine Kd.R_append Kd.bool (w0 := w) w.heap.size rfl (.tmp 76) (.tmp 78) 23 4 (.bool false) 1 rfl Tryz.underlying23 info4 rfl (by decide) (by omega) v124 y123 t117 [.bool t117] (fun _ => True) (fun _ => False) rfl rfl ?aP (fun _ hk => hk.elim) ?aF ?aO ?aB ?aS ?aL ?_; (case aP => exact rfl); (case aB => exact xb); (case aF => exact (fun _ _ => trivial)); (case aO => exact (xo HO125.out)); (case aS => exact (below_size xb)); (case aL => have := LMc42.out; omega); intro v127 w58 ho hb hg hat; rw [← Ny126.out] at ho; have n0_ := Aside0.mk (blk_grown (g := gb112) (o := .cells #[.int .i64 a1_0, .int .i64 a1_1, .string a1_2] 48 (0, 0)) (xk BK112.out) hg (Kd.R_ne HO125.out BK112.out (by decide))); have n1_ := Aside0.mk (hb); have n2_ := Aside0.mk (ho); clear BK112; clear HB; clear HO125; have BK112 := n0_; have HB := n1_; have HO128 := n2_; clear n0_ n1_ n2_; clear ho hb hg hat; obtain ⟨Ao59, co59, eo59⟩ := Kd.R_slice HO128.out; subst eo59)))
                                go_ret2
                                exact ⟨_, by first | rfl | (simp [errW_none, errW_some] <;> rfl) | (simp only [← hji34]; first | rfl | (simp [errW_none, errW_some] <;> rfl)) | (simp [*, errW_none, errW_some] <;> rfl), by (with_reducible repeat (first | apply Kd.R_alloc | apply Kd.R_drewN | apply Kd.R_drew)); exact HO128.out, xb⟩
                            · rw [if_neg c42] at H
                              exact absurd H (by simp)
                          · rw [if_neg c41] at H
                            exact absurd H (by simp)
                        · rw [if_neg c38] at H
                          have c38b0 : (t118 == 0) = false := beq_eq_false_iff_ne.mpr c38
                          have c38b1 : (t118 != 0) = true := bne_iff_ne.mpr c38
                          simp only [Option.some.injEq, Prod.mk.injEq] at H
                          obtain ⟨rfl, rfl⟩ := H
                          have hcz60_0 : wc.cell? ⟨gb112, 0, none⟩ = some (.int .i64 a1_0) := (blk_cell BK112.out 0).trans rfl
                          have hcz60_1 : wc.cell? ⟨gb112, 1, none⟩ = some (.int .i64 a1_1) := (blk_cell BK112.out 1).trans rfl
                          have hcz60_2 : wc.cell? ⟨gb112, 2, none⟩ = some (.string a1_2) := (blk_cell BK112.out 2).trans rfl
                          have hfz60_0 := blk_frozen BK112.out 0
                          have hfz60_1 := blk_frozen BK112.out 1
                          have hfz60_2 := blk_frozen BK112.out 2
                          obtain ⟨i061, hi061, _, hsz61, _⟩ := info_parts info4
                          obtain ⟨A61, hcut61, hA61, hC61⟩ := print_drop_of (P := Tryz.prog) Value.bool false 23 4 .i64 Tryz.underlying23 hi061 hsz61 A0 c0 l0 (ji34) (of_decide_eq_true xa) (of_decide_eq_true xa) HC0.out
                          have HR116 := Aside0.mk (Kd.C_of_reads (h1 := fun _ => rfl) (hA61 _ (Kd.reads_of_C HR0.out)))
                          have HC116 := Aside0.mk hC61
                          clear hA61 hC61 hi061 hsz61
                          go_wp2_with (first | (go_at_call 45; (try rw [← List.length_drop]); (with_reducible refine (threshingref13_Result.calls kj25 a1_0 _ _ (l0.drop ((ji34) : Int).toNat) t117 t118 _ (Tabs.below hT xf) ?side1 ?side2 A37.out).mono ?_); (case side1 => exact Kd.C_below HR116.out xb); (case side2 => exact HC116.out); rintro e w' ⟨rfl, ⟨nd, rfl⟩⟩; (try first | exact ⟨rfl, _, World.drewN_drewN _ _ _⟩ | exact ⟨rfl, _, Eq.trans (World.drewN_drewN _ _ _) (congrArg (World.drewN _) (Nat.add_assoc _ _ _))⟩)))
                          repeat (go_quiet (first | (go_at_call 45; (try rw [← List.length_drop]); (with_reducible refine (threshingref13_Result.calls kj25 a1_0 _ _ (l0.drop ((ji34) : Int).toNat) t117 t118 _ (Tabs.below hT xf) ?side1 ?side2 A37.out).mono ?_); (case side1 => exact Kd.C_below HR116.out xb); (case side2 => exact HC116.out); rintro e w' ⟨rfl, ⟨nd, rfl⟩⟩; (try first | exact ⟨rfl, _, World.drewN_drewN _ _ _⟩ | exact ⟨rfl, _, Eq.trans (World.drewN_drewN _ _ _) (congrArg (World.drewN _) (Nat.add_assoc _ _ _))⟩))); try go_wp2_with (first | (go_at_call 45; (try rw [← List.length_drop]); (with_reducible refine (threshingref13_Result.calls kj25 a1_0 _ _ (l0.drop ((ji34) : Int).toNat) t117 t118 _ (Tabs.below hT xf) ?side1 ?side2 A37.out).mono ?_); (case side1 => exact Kd.C_below HR116.out xb); (case side2 => exact HC116.out); rintro e w' ⟨rfl, ⟨nd, rfl⟩⟩; (try first | exact ⟨rfl, _, World.drewN_drewN _ _ _⟩ | exact ⟨rfl, _, Eq.trans (World.drewN_drewN _ _ _) (congrArg (World.drewN _) (Nat.add_assoc _ _ _))⟩))))
                          go_ret2
                          exact ⟨_, by first | rfl | (simp [errW_none, errW_some] <;> rfl) | (simp only [← hji34]; first | rfl | (simp [errW_none, errW_some] <;> rfl)) | (simp [*, errW_none, errW_some] <;> rfl), by first | exact Kd.R_nil _ _ _ _ _ | exact Kd.N_nil _ _ _ _ _ | exact Kd.V_nil _ _ _ _ _ | exact Kd.Q_nil _ _ _ _ _ | exact Kd.S_nil _ _ _ _ _, xb⟩
                      · rw [if_neg c36] at H
                        exact absurd H (by simp)
                    · rw [if_neg c35] at H
                      exact absurd H (by simp)
                  · rw [if_neg c33] at H
                    have c33b0 : decide (0 < t114) = false := decide_eq_false c33
                    clear c33
                    obtain ⟨y129, hy129⟩ : ∃ y_ : List Bool, y_ = (([] : List Bool)) := ⟨_, rfl⟩
                    replace H : (if 0 ≤ (wrap64 ((l0.length : Int) - t114)) then (if (wrap64 ((l0.length : Int) - t114)) ≤ (l0.length : Int) then (if y129.length + (l0.take ((wrap64 ((l0.length : Int) - t114)) : Int).toNat).length < 140737488355328 then ((some (y129 ++ (l0.take ((wrap64 ((l0.length : Int) - t114)) : Int).toNat) : List Bool)).bind fun y133 => (if y133.length < 140737488355328 then ((some (y133 ++ [x9_25] : List Bool)).bind fun y136 => (if (y136.length : Int) > 30 then (some (([] : List Bool), 13)) else (some (y136, 0)))) else (none))) else (none)) else (none)) else (none)) = some (r1, r2) := by first | (rw [hy129]; with_reducible exact H) | (have H2_ := (Option.bind_some _ _).symm.trans H; rw [hy129]; with_reducible exact H2_) | (have H2_ := (Option.bind_some _ _).symm.trans H; with_reducible exact H2_) | with_reducible exact H | (rw [hy129]; exact H) | exact H
                    have Ny129 := Aside0.mk hy129
                    clear hy129
                    obtain ⟨ji62, hji62⟩ : ∃ j_ : Int, (wrap64 ((l0.length : Int) - t114)) = j_ := ⟨_, rfl⟩
                    replace H : (if 0 ≤ (ji62) then (if (ji62) ≤ (l0.length : Int) then (if y129.length + (l0.take ((ji62) : Int).toNat).length < 140737488355328 then ((some (y129 ++ (l0.take ((ji62) : Int).toNat) : List Bool)).bind fun y133 => (if y133.length < 140737488355328 then ((some (y133 ++ [x9_25] : List Bool)).bind fun y136 => (if (y136.length : Int) > 30 then (some (([] : List Bool), 13)) else (some (y136, 0)))) else (none))) else (none)) else (none)) else (none)) = some (r1, r2) := by first | (rw [hji62] at H; exact H) | (simp only [hji62] at H ⊢; exact H)
                    have hji62w : (IntKind.i64.wrap ((l0.length : Int) - t114)) = ji62 := (i64_w _).trans hji62
                    by_cases c63 : 0 ≤ (ji62)
                    · rw [if_pos c63] at H
                      have c63b0 := eq_true c63
                      have c63b1 : decide (0 ≤ (ji62)) = true := decide_eq_true c63
                      clear c63
                      by_cases c64 : (ji62) ≤ (l0.length : Int)
                      · rw [if_pos c64] at H
                        have c64b0 := eq_true c64
                        have c64b1 : decide ((ji62) ≤ (l0.length : Int)) = true := decide_eq_true c64
                        clear c64
                        by_cases c65 : y129.length + (l0.take ((ji62) : Int).toNat).length < 140737488355328
                        · rw [if_pos c65] at H
                          have LMc65 := Aside0.mk c65
                          clear c65
                          obtain ⟨y133, hy133⟩ : ∃ y_ : List Bool, y_ = (y129 ++ (l0.take ((ji62) : Int).toNat)) := ⟨_, rfl⟩
                          replace H : (if y133.length < 140737488355328 then ((some (y133 ++ [x9_25] : List Bool)).bind fun y136 => (if (y136.length : Int) > 30 then (some (([] : List Bool), 13)) else (some (y136, 0)))) else (none)) = some (r1, r2) := by first | (rw [hy133]; with_reducible exact H) | (have H2_ := (Option.bind_some _ _).symm.trans H; rw [hy133]; with_reducible exact H2_) | (have H2_ := (Option.bind_some _ _).symm.trans H; with_reducible exact H2_) | with_reducible exact H | (rw [hy133]; exact H) | exact H
                          have Ny133 := Aside0.mk hy133
                          clear hy133
                          by_cases c66 : y133.length < 140737488355328
                          · rw [if_pos c66] at H
                            have LMc66 := Aside0.mk c66
                            clear c66
                            obtain ⟨y136, hy136⟩ : ∃ y_ : List Bool, y_ = (y133 ++ [x9_25]) := ⟨_, rfl⟩
                            replace H : (if (y136.length : Int) > 30 then (some (([] : List Bool), 13)) else (some (y136, 0))) = some (r1, r2) := by first | (rw [hy136]; with_reducible exact H) | (have H2_ := (Option.bind_some _ _).symm.trans H; rw [hy136]; with_reducible exact H2_) | (have H2_ := (Option.bind_some _ _).symm.trans H; with_reducible exact H2_) | with_reducible exact H | (rw [hy136]; exact H) | exact H
                            have Ny136 := Aside0.mk hy136
                            clear hy136
                            by_cases c67 : (y136.length : Int) > 30
                            · rw [if_pos c67] at H
                              have c67b0 : decide (30 < (y136.length : Int)) = true := decide_eq_true c67
                              have c67b1 : decide (30 < y136.length) = true := decide_eq_true (by omega)
                              clear c67
                              simp only [Option.some.injEq, Prod.mk.injEq] at H
                              obtain ⟨rfl, rfl⟩ := H
                              go_wp2_with (first | ((with_reducible refine gate_dst (N := 68) rfl ?_); (try (refine gate_guard (by rfl) ?_; dsimp only)); refine Kd.R_lit Kd.bool _ 4 ?hg (N := 68) ?hd (xs := ([] : List Bool)) (inner := []) (ok := fun _ => True) (okp := fun _ => True) ?hr ?hp (fun _ hk => hk) trivial (Below.refl _ _) (Nat.le_refl _) (by simp) ?_; (case hd => rfl); (case hg => rfl); (case hr => exact xh); (case hp => exact (Reps.none _ _)); intro v130 w68 ho69 hb hg_ hnew_; clear hg_ hnew_; (first | rw [← Ny129.out] at ho69 | (simp only [Int.reduceToNat] at ho69; rw [← Ny129.out] at ho69)); have n0_ := Aside0.mk (Kd.R_lower ho69 (below_size xb)); have n1_ := xd BK112.out hb; have n2_ := Aside0.mk (below_step xb hb); clear BK112; clear HB; have HO131 := n0_; have BK112 := n1_; have HB := n2_; clear n0_ n1_ n2_; clear hb ho69; obtain ⟨i070, hi070, _, hsz70, _⟩ := info_parts info4; obtain ⟨hcut70, hA70, hC70⟩ := print_take_of (P := Tryz.prog) Value.bool false 23 4 .i64 Tryz.underlying23 hi070 hsz70 A0 c0 l0 (ji62) (of_decide_eq_true xa) (of_decide_eq_true xa) HC0.out; have HR132 := Aside0.mk (Kd.C_of_reads (h1 := fun _ => rfl) (hA70 _ (Kd.reads_of_C HR0.out))); have HC132 := Aside0.mk hC70; clear hA70 hC70 hi070 hsz70) | ((with_reducible refine gate_builtin (b := .append) (xs := #[.tmp 68, .tmp 74]) rfl ?_); (try (refine gate_guard (by rfl) ?_; dsimp only)); at_builtin; refine Kd.R_append_rows Kd.bool (w0 := w) w.heap.size rfl (.tmp 68) (.tmp 74) 23 4 (.bool false) 1 rfl Tryz.underlying23 info4 rfl (by decide) (by omega) v130 y129 (l0.take ((ji62) : Int).toNat) _ _ _ (fun _ => True) (fun _ => False) rfl rfl ?aO ?aR (fun _ _ h => h) (fun _ h => h.elim) ?aF ?aB ?aS ?aL ?_; (case aR => first | (refine Eq.mp (congrArg (fun z_ => ReadsRow _ _ _ _ z_ _) (show (l0.take ((ji62) : Int).toNat).length = (ji62).toNat from (by rw [List.length_take]; have h_ : ((ji62) : Int) ≤ (l0.length : Int) := of_decide_eq_true xa; omega))) ?_; exact Kd.C_below HR132.out xb) | (exact Kd.C_below HR132.out xb)); (case aB => exact xb); (case aF => exact (fun _ _ => trivial)); (case aO => exact (xo HO131.out)); (case aS => exact (below_size xb)); (case aL => have := LMc65.out; have hlx_ := (show (l0.take ((ji62) : Int).toNat).length = (ji62).toNat from (by rw [List.length_take]; have h_ : ((ji62) : Int) ≤ (l0.length : Int) := of_decide_eq_true xa; omega)); omega); intro v134 w71 ho hb hg hat; rw [← Ny133.out] at ho; have n0_ := Aside0.mk (blk_grown (g := gb112) (o := .cells #[.int .i64 a1_0, .int .i64 a1_1, .string a1_2] 48 (0, 0)) (xk BK112.out) hg (Kd.R_ne HO131.out BK112.out (by decide))); have n1_ := Aside0.mk (hb); have n2_ := Aside0.mk (ho); clear BK112; clear HB; clear HO131; have BK112 := n0_; have HB := n1_; have HO135 := n2_; clear n0_ n1_ n2_; clear ho hb hg hat) | ((with_reducible refine gate_builtin (b := .append) (xs := #[.tmp 76, .tmp 78]) rfl ?_); (try (refine gate_guard (by rfl) ?_; dsimp only)); at_builtin; refine Kd.R_append Kd.bool (w0 := w) w.heap.size rfl (.tmp 76) (.tmp 78) 23 4 (.bool false) 1 rfl Tryz.underlying23 info4 rfl (by decide) (by omega) v134 y133 x9_25 [.bool x9_25] (fun _ => True) (fun _ => False) rfl rfl ?aP (fun _ hk => hk.elim) ?aF ?aO ?aB ?aS ?aL ?_; (case aP => exact rfl); (case aB => exact xb); (case aF => exact (fun _ _ => trivial)); (case aO => exact (xo HO135.out)); (case aS => exact (below_size xb)); (case aL => have := LMc66.out; omega); intro v137 w72 ho hb hg hat; rw [← Ny136.out] at ho; have n0_ := Aside0.mk (blk_grown (g := gb112) (o := .cells #[.int .i64 a1_0, .int .i64 a1_1, .string a1_2] 48 (0, 0)) (xk BK112.out) hg (Kd.R_ne HO135.out BK112.out (by decide))); have n1_ := Aside0.mk (hb); have n2_ := Aside0.mk (ho); clear BK112; clear HB; clear HO135; have BK112 := n0_; have HB := n1_; have HO138 := n2_; clear n0_ n1_ n2_; clear ho hb hg hat; obtain ⟨Ao73, co73, eo73⟩ := Kd.R_slice HO138.out; subst eo73))
                              repeat (go_quiet (first | ((with_reducible refine gate_dst (N := 68) rfl ?_); (try (refine gate_guard (by rfl) ?_; dsimp only)); refine Kd.R_lit Kd.bool _ 4 ?hg (N := 68) ?hd (xs := ([] : List Bool)) (inner := []) (ok := fun _ => True) (okp := fun _ => True) ?hr ?hp (fun _ hk => hk) trivial (Below.refl _ _) (Nat.le_refl _) (by simp) ?_; (case hd => rfl); (case hg => rfl); (case hr => exact xh); (case hp => exact (Reps.none _ _)); intro v130 w68 ho69 hb hg_ hnew_; clear hg_ hnew_; (first | rw [← Ny129.out] at ho69 | (simp only [Int.reduceToNat] at ho69; rw [← Ny129.out] at ho69)); have n0_ := Aside0.mk (Kd.R_lower ho69 (below_size xb)); have n1_ := xd BK112.out hb; have n2_ := Aside0.mk (below_step xb hb); clear BK112; clear HB; have HO131 := n0_; have BK112 := n1_; have HB := n2_; clear n0_ n1_ n2_; clear hb ho69; obtain ⟨i070, hi070, _, hsz70, _⟩ := info_parts info4; obtain ⟨hcut70, hA70, hC70⟩ := print_take_of (P := Tryz.prog) Value.bool false 23 4 .i64 Tryz.underlying23 hi070 hsz70 A0 c0 l0 (ji62) (of_decide_eq_true xa) (of_decide_eq_true xa) HC0.out; have HR132 := Aside0.mk (Kd.C_of_reads (h1 := fun _ => rfl) (hA70 _ (Kd.reads_of_C HR0.out))); have HC132 := Aside0.mk hC70; clear hA70 hC70 hi070 hsz70) | ((with_reducible refine gate_builtin (b := .append) (xs := #[.tmp 68, .tmp 74]) rfl ?_); (try (refine gate_guard (by rfl) ?_; dsimp only)); at_builtin; refine Kd.R_append_rows Kd.bool (w0 := w) w.heap.size rfl (.tmp 68) (.tmp 74) 23 4 (.bool false) 1 rfl Tryz.underlying23 info4 rfl (by decide) (by omega) v130 y129 (l0.take ((ji62) : Int).toNat) _ _ _ (fun _ => True) (fun _ => False) rfl rfl ?aO ?aR (fun _ _ h => h) (fun _ h => h.elim) ?aF ?aB ?aS ?aL ?_; (case aR => first | (refine Eq.mp (congrArg (fun z_ => ReadsRow _ _ _ _ z_ _) (show (l0.take ((ji62) : Int).toNat).length = (ji62).toNat from (by rw [List.length_take]; have h_ : ((ji62) : Int) ≤ (l0.length : Int) := of_decide_eq_true xa; omega))) ?_; exact Kd.C_below HR132.out xb) | (exact Kd.C_below HR132.out xb)); (case aB => exact xb); (case aF => exact (fun _ _ => trivial)); (case aO => exact (xo HO131.out)); (case aS => exact (below_size xb)); (case aL => have := LMc65.out; have hlx_ := (show (l0.take ((ji62) : Int).toNat).length = (ji62).toNat from (by rw [List.length_take]; have h_ : ((ji62) : Int) ≤ (l0.length : Int) := of_decide_eq_true xa; omega)); omega); intro v134 w71 ho hb hg hat; rw [← Ny133.out] at ho; have n0_ := Aside0.mk (blk_grown (g := gb112) (o := .cells #[.int .i64 a1_0, .int .i64 a1_1, .string a1_2] 48 (0, 0)) (xk BK112.out) hg (Kd.R_ne HO131.out BK112.out (by decide))); have n1_ := Aside0.mk (hb); have n2_ := Aside0.mk (ho); clear BK112; clear HB; clear HO131; have BK112 := n0_; have HB := n1_; have HO135 := n2_; clear n0_ n1_ n2_; clear ho hb hg hat) | ((with_reducible refine gate_builtin (b := .append) (xs := #[.tmp 76, .tmp 78]) rfl ?_); (try (refine gate_guard (by rfl) ?_; dsimp only)); at_builtin; refine Kd.R_append Kd.bool (w0 := w) w.heap.size rfl (.tmp 76) (.tmp 78) 23 4 (.bool false) 1 rfl Tryz.underlying23 info4 rfl (by decide) (by omega) v134 y133 x9_25 [.bool x9_25] (fun _ => True) (fun _ => False) rfl rfl ?aP (fun _ hk => hk.elim) ?aF ?aO ?aB ?aS ?aL ?_; (case aP => exact rfl); (case aB => exact xb); (case aF => exact (fun _ _ => trivial)); (case aO => exact (xo HO135.out)); (case aS => exact (below_size xb)); (case aL => have := LMc66.out; omega); intro v137 w72 ho hb hg hat; rw [← Ny136.out] at ho; have n0_ := Aside0.mk (blk_grown (g := gb112) (o := .cells #[.int .i64 a1_0, .int .i64 a1_1, .string a1_2] 48 (0, 0)) (xk BK112.out) hg (Kd.R_ne HO135.out BK112.out (by decide))); have n1_ := Aside0.mk (hb); have n2_ := Aside0.mk (ho); clear BK112; clear HB; clear HO135; have BK112 := n0_; have HB := n1_; have HO138 := n2_; clear n0_ n1_ n2_; clear ho hb hg hat; obtain ⟨Ao73, co73, eo73⟩ := Kd.R_slice HO138.out; subst eo73)); try go_wp2_with (first | ((with_reducible refine gate_dst (N := 68) rfl ?_); (try (refine gate_guard (by rfl) ?_; dsimp only)); refine Kd.R_lit Kd.bool _ 4 ?hg (N := 68) ?hd (xs := ([] : List Bool)) (inner := []) (ok := fun _ => True) (okp := fun _ => True) ?hr ?hp (fun _ hk => hk) trivial (Below.refl _ _) (Nat.le_refl _) (by simp) ?_; (case hd => rfl); (case hg => rfl); (case hr => exact xh); (case hp => exact (Reps.none _ _)); intro v130 w68 ho69 hb hg_ hnew_; clear hg_ hnew_; (first | rw [← Ny129.out] at ho69 | (simp only [Int.reduceToNat] at ho69; rw [← Ny129.out] at ho69)); have n0_ := Aside0.mk (Kd.R_lower ho69 (below_size xb)); have n1_ := xd BK112.out hb; have n2_ := Aside0.mk (below_step xb hb); clear BK112; clear HB; have HO131 := n0_; have BK112 := n1_; have HB := n2_; clear n0_ n1_ n2_; clear hb ho69; obtain ⟨i070, hi070, _, hsz70, _⟩ := info_parts info4; obtain ⟨hcut70, hA70, hC70⟩ := print_take_of (P := Tryz.prog) Value.bool false 23 4 .i64 Tryz.underlying23 hi070 hsz70 A0 c0 l0 (ji62) (of_decide_eq_true xa) (of_decide_eq_true xa) HC0.out; have HR132 := Aside0.mk (Kd.C_of_reads (h1 := fun _ => rfl) (hA70 _ (Kd.reads_of_C HR0.out))); have HC132 := Aside0.mk hC70; clear hA70 hC70 hi070 hsz70) | ((with_reducible refine gate_builtin (b := .append) (xs := #[.tmp 68, .tmp 74]) rfl ?_); (try (refine gate_guard (by rfl) ?_; dsimp only)); at_builtin; refine Kd.R_append_rows Kd.bool (w0 := w) w.heap.size rfl (.tmp 68) (.tmp 74) 23 4 (.bool false) 1 rfl Tryz.underlying23 info4 rfl (by decide) (by omega) v130 y129 (l0.take ((ji62) : Int).toNat) _ _ _ (fun _ => True) (fun _ => False) rfl rfl ?aO ?aR (fun _ _ h => h) (fun _ h => h.elim) ?aF ?aB ?aS ?aL ?_; (case aR => first | (refine Eq.mp (congrArg (fun z_ => ReadsRow _ _ _ _ z_ _) (show (l0.take ((ji62) : Int).toNat).length = (ji62).toNat from (by rw [List.length_take]; have h_ : ((ji62) : Int) ≤ (l0.length : Int) := of_decide_eq_true xa; omega))) ?_; exact Kd.C_below HR132.out xb) | (exact Kd.C_below HR132.out xb)); (case aB => exact xb); (case aF => exact (fun _ _ => trivial)); (case aO => exact (xo HO131.out)); (case aS => exact (below_size xb)); (case aL => have := LMc65.out; have hlx_ := (show (l0.take ((ji62) : Int).toNat).length = (ji62).toNat from (by rw [List.length_take]; have h_ : ((ji62) : Int) ≤ (l0.length : Int) := of_decide_eq_true xa; omega)); omega); intro v134 w71 ho hb hg hat; rw [← Ny133.out] at ho; have n0_ := Aside0.mk (blk_grown (g := gb112) (o := .cells #[.int .i64 a1_0, .int .i64 a1_1, .string a1_2] 48 (0, 0)) (xk BK112.out) hg (Kd.R_ne HO131.out BK112.out (by decide))); have n1_ := Aside0.mk (hb); have n2_ := Aside0.mk (ho); clear BK112; clear HB; clear HO131; have BK112 := n0_; have HB := n1_; have HO135 := n2_; clear n0_ n1_ n2_; clear ho hb hg hat) | ((with_reducible refine gate_builtin (b := .append) (xs := #[.tmp 76, .tmp 78]) rfl ?_); (try (refine gate_guard (by rfl) ?_; dsimp only)); at_builtin; refine Kd.R_append Kd.bool (w0 := w) w.heap.size rfl (.tmp 76) (.tmp 78) 23 4 (.bool false) 1 rfl Tryz.underlying23 info4 rfl (by decide) (by omega) v134 y133 x9_25 [.bool x9_25] (fun _ => True) (fun _ => False) rfl rfl ?aP (fun _ hk => hk.elim) ?aF ?aO ?aB ?aS ?aL ?_; (case aP => exact rfl); (case aB => exact xb); (case aF => exact (fun _ _ => trivial)); (case aO => exact (xo HO135.out)); (case aS => exact (below_size xb)); (case aL => have := LMc66.out; omega); intro v137 w72 ho hb hg hat; rw [← Ny136.out] at ho; have n0_ := Aside0.mk (blk_grown (g := gb112) (o := .cells #[.int .i64 a1_0, .int .i64 a1_1, .string a1_2] 48 (0, 0)) (xk BK112.out) hg (Kd.R_ne HO135.out BK112.out (by decide))); have n1_ := Aside0.mk (hb); have n2_ := Aside0.mk (ho); clear BK112; clear HB; clear HO135; have BK112 := n0_; have HB := n1_; have HO138 := n2_; clear n0_ n1_ n2_; clear ho hb hg hat; obtain ⟨Ao73, co73, eo73⟩ := Kd.R_slice HO138.out; subst eo73)))
                              go_ret2
                              exact ⟨_, by first | rfl | (simp [errW_none, errW_some] <;> rfl) | (simp only [← hji62]; first | rfl | (simp [errW_none, errW_some] <;> rfl)) | (simp [*, errW_none, errW_some] <;> rfl), by first | exact Kd.R_nil _ _ _ _ _ | exact Kd.N_nil _ _ _ _ _ | exact Kd.V_nil _ _ _ _ _ | exact Kd.Q_nil _ _ _ _ _ | exact Kd.S_nil _ _ _ _ _, xb⟩
                            · rw [if_neg c67] at H
                              have c67b0 : decide (30 < (y136.length : Int)) = false := decide_eq_false c67
                              have c67b1 : decide (30 < y136.length) = false := decide_eq_false (by omega)
                              clear c67
                              simp only [Option.some.injEq, Prod.mk.injEq] at H
                              obtain ⟨rfl, rfl⟩ := H
                              go_wp2_with (first | ((with_reducible refine gate_dst (N := 68) rfl ?_); (try (refine gate_guard (by rfl) ?_; dsimp only)); refine Kd.R_lit Kd.bool _ 4 ?hg (N := 68) ?hd (xs := ([] : List Bool)) (inner := []) (ok := fun _ => True) (okp := fun _ => True) ?hr ?hp (fun _ hk => hk) trivial (Below.refl _ _) (Nat.le_refl _) (by simp) ?_; (case hd => rfl); (case hg => rfl); (case hr => exact xh); (case hp => exact (Reps.none _ _)); intro v130 w74 ho75 hb hg_ hnew_; clear hg_ hnew_; (first | rw [← Ny129.out] at ho75 | (simp only [Int.reduceToNat] at ho75; rw [← Ny129.out] at ho75)); have n0_ := Aside0.mk (Kd.R_lower ho75 (below_size xb)); have n1_ := xd BK112.out hb; have n2_ := Aside0.mk (below_step xb hb); clear BK112; clear HB; have HO131 := n0_; have BK112 := n1_; have HB := n2_; clear n0_ n1_ n2_; clear hb ho75; obtain ⟨i076, hi076, _, hsz76, _⟩ := info_parts info4; obtain ⟨hcut76, hA76, hC76⟩ := print_take_of (P := Tryz.prog) Value.bool false 23 4 .i64 Tryz.underlying23 hi076 hsz76 A0 c0 l0 (ji62) (of_decide_eq_true xa) (of_decide_eq_true xa) HC0.out; have HR132 := Aside0.mk (Kd.C_of_reads (h1 := fun _ => rfl) (hA76 _ (Kd.reads_of_C HR0.out))); have HC132 := Aside0.mk hC76; clear hA76 hC76 hi076 hsz76) | ((with_reducible refine gate_builtin (b := .append) (xs := #[.tmp 68, .tmp 74]) rfl ?_); (try (refine gate_guard (by rfl) ?_; dsimp only)); at_builtin; refine Kd.R_append_rows Kd.bool (w0 := w) w.heap.size rfl (.tmp 68) (.tmp 74) 23 4 (.bool false) 1 rfl Tryz.underlying23 info4 rfl (by decide) (by omega) v130 y129 (l0.take ((ji62) : Int).toNat) _ _ _ (fun _ => True) (fun _ => False) rfl rfl ?aO ?aR (fun _ _ h => h) (fun _ h => h.elim) ?aF ?aB ?aS ?aL ?_; (case aR => first | (refine Eq.mp (congrArg (fun z_ => ReadsRow _ _ _ _ z_ _) (show (l0.take ((ji62) : Int).toNat).length = (ji62).toNat from (by rw [List.length_take]; have h_ : ((ji62) : Int) ≤ (l0.length : Int) := of_decide_eq_true xa; omega))) ?_; exact Kd.C_below HR132.out xb) | (exact Kd.C_below HR132.out xb)); (case aB => exact xb); (case aF => exact (fun _ _ => trivial)); (case aO => exact (xo HO131.out)); (case aS => exact (below_size xb)); (case aL => have := LMc65.out; have hlx_ := (show (l0.take ((ji62) : Int).toNat).length = (ji62).toNat from (by rw [List.length_take]; have h_ : ((ji62) : Int) ≤ (l0.length : Int) := of_decide_eq_true xa; omega)); omega); intro v134 w77 ho hb hg hat; rw [← Ny133.out] at ho; have n0_ := Aside0.mk (blk_grown (g := gb112) (o := .cells #[.int .i64 a1_0, .int .i64 a1_1, .string a1_2] 48 (0, 0)) (xk BK112.out) hg (Kd.R_ne HO131.out BK112.out (by decide))); have n1_ := Aside0.mk (hb); have n2_ := Aside0.mk (ho); clear BK112; clear HB; clear HO131; have BK112 := n0_; have HB := n1_; have HO135 := n2_; clear n0_ n1_ n2_; clear ho hb hg hat) | ((with_reducible refine gate_builtin (b := .append) (xs := #[.tmp 76, .tmp 78]) rfl ?_); (try (refine gate_guard (by rfl) ?_; dsimp only)); at_builtin; refine Kd.R_append Kd.bool (w0 := w) w.heap.size rfl (.tmp 76) (.tmp 78) 23 4 (.bool false) 1 rfl Tryz.underlying23 info4 rfl (by decide) (by omega) v134 y133 x9_25 [.bool x9_25] (fun _ => True) (fun _ => False) rfl rfl ?aP (fun _ hk => hk.elim) ?aF ?aO ?aB ?aS ?aL ?_; (case aP => exact rfl); (case aB => exact xb); (case aF => exact (fun _ _ => trivial)); (case aO => exact (xo HO135.out)); (case aS => exact (below_size xb)); (case aL => have := LMc66.out; omega); intro v137 w78 ho hb hg hat; rw [← Ny136.out] at ho; have n0_ := Aside0.mk (blk_grown (g := gb112) (o := .cells #[.int .i64 a1_0, .int .i64 a1_1, .string a1_2] 48 (0, 0)) (xk BK112.out) hg (Kd.R_ne HO135.out BK112.out (by decide))); have n1_ := Aside0.mk (hb); have n2_ := Aside0.mk (ho); clear BK112; clear HB; clear HO135; have BK112 := n0_; have HB := n1_; have HO138 := n2_; clear n0_ n1_ n2_; clear ho hb hg hat; obtain ⟨Ao79, co79, eo79⟩ := Kd.R_slice HO138.out; subst eo79))
                              repeat (go_quiet (first | ((with_reducible refine gate_dst (N := 68) rfl ?_); (try (refine gate_guard (by rfl) ?_; dsimp only)); refine Kd.R_lit Kd.bool _ 4 ?hg (N := 68) ?hd (xs := ([] : List Bool)) (inner := []) (ok := fun _ => True) (okp := fun _ => True) ?hr ?hp (fun _ hk => hk) trivial (Below.refl _ _) (Nat.le_refl _) (by simp) ?_; (case hd => rfl); (case hg => rfl); (case hr => exact xh); (case hp => exact (Reps.none _ _)); intro v130 w74 ho75 hb hg_ hnew_; clear hg_ hnew_; (first | rw [← Ny129.out] at ho75 | (simp only [Int.reduceToNat] at ho75; rw [← Ny129.out] at ho75)); have n0_ := Aside0.mk (Kd.R_lower ho75 (below_size xb)); have n1_ := xd BK112.out hb; have n2_ := Aside0.mk (below_step xb hb); clear BK112; clear HB; have HO131 := n0_; have BK112 := n1_; have HB := n2_; clear n0_ n1_ n2_; clear hb ho75; obtain ⟨i076, hi076, _, hsz76, _⟩ := info_parts info4; obtain ⟨hcut76, hA76, hC76⟩ := print_take_of (P := Tryz.prog) Value.bool false 23 4 .i64 Tryz.underlying23 hi076 hsz76 A0 c0 l0 (ji62) (of_decide_eq_true xa) (of_decide_eq_true xa) HC0.out; have HR132 := Aside0.mk (Kd.C_of_reads (h1 := fun _ => rfl) (hA76 _ (Kd.reads_of_C HR0.out))); have HC132 := Aside0.mk hC76; clear hA76 hC76 hi076 hsz76) | ((with_reducible refine gate_builtin (b := .append) (xs := #[.tmp 68, .tmp 74]) rfl ?_); (try (refine gate_guard (by rfl) ?_; dsimp only)); at_builtin; refine Kd.R_append_rows Kd.bool (w0 := w) w.heap.size rfl (.tmp 68) (.tmp 74) 23 4 (.bool false) 1 rfl Tryz.underlying23 info4 rfl (by decide) (by omega) v130 y129 (l0.take ((ji62) : Int).toNat) _ _ _ (fun _ => True) (fun _ => False) rfl rfl ?aO ?aR (fun _ _ h => h) (fun _ h => h.elim) ?aF ?aB ?aS ?aL ?_; (case aR => first | (refine Eq.mp (congrArg (fun z_ => ReadsRow _ _ _ _ z_ _) (show (l0.take ((ji62) : Int).toNat).length = (ji62).toNat from (by rw [List.length_take]; have h_ : ((ji62) : Int) ≤ (l0.length : Int) := of_decide_eq_true xa; omega))) ?_; exact Kd.C_below HR132.out xb) | (exact Kd.C_below HR132.out xb)); (case aB => exact xb); (case aF => exact (fun _ _ => trivial)); (case aO => exact (xo HO131.out)); (case aS => exact (below_size xb)); (case aL => have := LMc65.out; have hlx_ := (show (l0.take ((ji62) : Int).toNat).length = (ji62).toNat from (by rw [List.length_take]; have h_ : ((ji62) : Int) ≤ (l0.length : Int) := of_decide_eq_true xa; omega)); omega); intro v134 w77 ho hb hg hat; rw [← Ny133.out] at ho; have n0_ := Aside0.mk (blk_grown (g := gb112) (o := .cells #[.int .i64 a1_0, .int .i64 a1_1, .string a1_2] 48 (0, 0)) (xk BK112.out) hg (Kd.R_ne HO131.out BK112.out (by decide))); have n1_ := Aside0.mk (hb); have n2_ := Aside0.mk (ho); clear BK112; clear HB; clear HO131; have BK112 := n0_; have HB := n1_; have HO135 := n2_; clear n0_ n1_ n2_; clear ho hb hg hat) | ((with_reducible refine gate_builtin (b := .append) (xs := #[.tmp 76, .tmp 78]) rfl ?_); (try (refine gate_guard (by rfl) ?_; dsimp only)); at_builtin; refine Kd.R_append Kd.bool (w0 := w) w.heap.size rfl (.tmp 76) (.tmp 78) 23 4 (.bool false) 1 rfl Tryz.underlying23 info4 rfl (by decide) (by omega) v134 y133 x9_25 [.bool x9_25] (fun _ => True) (fun _ => False) rfl rfl ?aP (fun _ hk => hk.elim) ?aF ?aO ?aB ?aS ?aL ?_; (case aP => exact rfl); (case aB => exact xb); (case aF => exact (fun _ _ => trivial)); (case aO => exact (xo HO135.out)); (case aS => exact (below_size xb)); (case aL => have := LMc66.out; omega); intro v137 w78 ho hb hg hat; rw [← Ny136.out] at ho; have n0_ := Aside0.mk (blk_grown (g := gb112) (o := .cells #[.int .i64 a1_0, .int .i64 a1_1, .string a1_2] 48 (0, 0)) (xk BK112.out) hg (Kd.R_ne HO135.out BK112.out (by decide))); have n1_ := Aside0.mk (hb); have n2_ := Aside0.mk (ho); clear BK112; clear HB; clear HO135; have BK112 := n0_; have HB := n1_; have HO138 := n2_; clear n0_ n1_ n2_; clear ho hb hg hat; obtain ⟨Ao79, co79, eo79⟩ := Kd.R_slice HO138.out; subst eo79)); try go_wp2_with (first | ((with_reducible refine gate_dst (N := 68) rfl ?_); (try (refine gate_guard (by rfl) ?_; dsimp only)); refine Kd.R_lit Kd.bool _ 4 ?hg (N := 68) ?hd (xs := ([] : List Bool)) (inner := []) (ok := fun _ => True) (okp := fun _ => True) ?hr ?hp (fun _ hk => hk) trivial (Below.refl _ _) (Nat.le_refl _) (by simp) ?_; (case hd => rfl); (case hg => rfl); (case hr => exact xh); (case hp => exact (Reps.none _ _)); intro v130 w74 ho75 hb hg_ hnew_; clear hg_ hnew_; (first | rw [← Ny129.out] at ho75 | (simp only [Int.reduceToNat] at ho75; rw [← Ny129.out] at ho75)); have n0_ := Aside0.mk (Kd.R_lower ho75 (below_size xb)); have n1_ := xd BK112.out hb; have n2_ := Aside0.mk (below_step xb hb); clear BK112; clear HB; have HO131 := n0_; have BK112 := n1_; have HB := n2_; clear n0_ n1_ n2_; clear hb ho75; obtain ⟨i076, hi076, _, hsz76, _⟩ := info_parts info4; obtain ⟨hcut76, hA76, hC76⟩ := print_take_of (P := Tryz.prog) Value.bool false 23 4 .i64 Tryz.underlying23 hi076 hsz76 A0 c0 l0 (ji62) (of_decide_eq_true xa) (of_decide_eq_true xa) HC0.out; have HR132 := Aside0.mk (Kd.C_of_reads (h1 := fun _ => rfl) (hA76 _ (Kd.reads_of_C HR0.out))); have HC132 := Aside0.mk hC76; clear hA76 hC76 hi076 hsz76) | ((with_reducible refine gate_builtin (b := .append) (xs := #[.tmp 68, .tmp 74]) rfl ?_); (try (refine gate_guard (by rfl) ?_; dsimp only)); at_builtin; refine Kd.R_append_rows Kd.bool (w0 := w) w.heap.size rfl (.tmp 68) (.tmp 74) 23 4 (.bool false) 1 rfl Tryz.underlying23 info4 rfl (by decide) (by omega) v130 y129 (l0.take ((ji62) : Int).toNat) _ _ _ (fun _ => True) (fun _ => False) rfl rfl ?aO ?aR (fun _ _ h => h) (fun _ h => h.elim) ?aF ?aB ?aS ?aL ?_; (case aR => first | (refine Eq.mp (congrArg (fun z_ => ReadsRow _ _ _ _ z_ _) (show (l0.take ((ji62) : Int).toNat).length = (ji62).toNat from (by rw [List.length_take]; have h_ : ((ji62) : Int) ≤ (l0.length : Int) := of_decide_eq_true xa; omega))) ?_; exact Kd.C_below HR132.out xb) | (exact Kd.C_below HR132.out xb)); (case aB => exact xb); (case aF => exact (fun _ _ => trivial)); (case aO => exact (xo HO131.out)); (case aS => exact (below_size xb)); (case aL => have := LMc65.out; have hlx_ := (show (l0.take ((ji62) : Int).toNat).length = (ji62).toNat from (by rw [List.length_take]; have h_ : ((ji62) : Int) ≤ (l0.length : Int) := of_decide_eq_true xa; omega)); omega); intro v134 w77 ho hb hg hat; rw [← Ny133.out] at ho; have n0_ := Aside0.mk (blk_grown (g := gb112) (o := .cells #[.int .i64 a1_0, .int .i64 a1_1, .string a1_2] 48 (0, 0)) (xk BK112.out) hg (Kd.R_ne HO131.out BK112.out (by decide))); have n1_ := Aside0.mk (hb); have n2_ := Aside0.mk (ho); clear BK112; clear HB; clear HO131; have BK112 := n0_; have HB := n1_; have HO135 := n2_; clear n0_ n1_ n2_; clear ho hb hg hat) | ((with_reducible refine gate_builtin (b := .append) (xs := #[.tmp 76, .tmp 78]) rfl ?_); (try (refine gate_guard (by rfl) ?_; dsimp only)); at_builtin; refine Kd.R_append Kd.bool (w0 := w) w.heap.size rfl (.tmp 76) (.tmp 78) 23 4 (.bool false) 1 rfl Tryz.underlying23 info4 rfl (by decide) (by omega) v134 y133 x9_25 [.bool x9_25] (fun _ => True) (fun _ => False) rfl rfl ?aP (fun _ hk => hk.elim) ?aF ?aO ?aB ?aS ?aL ?_; (case aP => exact rfl); (case aB => exact xb); (case aF => exact (fun _ _ => trivial)); (case aO => exact (xo HO135.out)); (case aS => exact (below_size xb)); (case aL => have := LMc66.out; omega); intro v137 w78 ho hb hg hat; rw [← Ny136.out] at ho; have n0_ := Aside0.mk (blk_grown (g := gb112) (o := .cells #[.int .i64 a1_0, .int .i64 a1_1, .string a1_2] 48 (0, 0)) (xk BK112.out) hg (Kd.R_ne HO135.out BK112.out (by decide))); have n1_ := Aside0.mk (hb); have n2_ := Aside0.mk (ho); clear BK112; clear HB; clear HO135; have BK112 := n0_; have HB := n1_; have HO138 := n2_; clear n0_ n1_ n2_; clear ho hb hg hat; obtain ⟨Ao79, co79, eo79⟩ := Kd.R_slice HO138.out; subst eo79)))
                              go_ret2
                              exact ⟨_, by first | rfl | (simp [errW_none, errW_some] <;> rfl) | (simp only [← hji62]; first | rfl | (simp [errW_none, errW_some] <;> rfl)) | (simp [*, errW_none, errW_some] <;> rfl), by (with_reducible repeat (first | apply Kd.R_alloc | apply Kd.R_drewN | apply Kd.R_drew)); exact HO138.out, xb⟩
                          · rw [if_neg c66] at H
                            exact absurd H (by simp)
                        · rw [if_neg c65] at H
                          exact absurd H (by simp)
                      · rw [if_neg c64] at H
                        exact absurd H (by simp)
                    · rw [if_neg c63] at H
                      exact absurd H (by simp)

end Go.Proofs.YtejmgcfjpofniaaGreatDoor.PX
