/- Walked functions, by this session's program over the kit's print. -/
import Derived.Test.YtejmgcfjpofniaaGreatDoorPXx0
/- Walked functions, by this session's program over the kit's print. -/
namespace Go.Proofs.YtejmgcfjpofniaaGreatDoor.PX
open Go.RowKit Go.Proofs.YtejmgcfjpofniaaGreatDoorW.PrintWords Go.Proofs.YtejmgcfjpofniaaGreatDoorW.PrintLast Go.Proofs.YtejmgcfjpofniaaGreatDoorW.PrintMore
attribute [local go_sem] xm_gtr max2_int min2_int max_two min_two max_three min_three max_four min_four   -- for this text's walks alone
set_option linter.unusedVariables false
set_option linter.unusedSimpArgs false

/-! ### threshingref14_May: function 38 -/
def threshingref14_May.f (a0_0 : Int) (a0_1 : Int) (a0_2 : ByteArray) : Option (Bool) := if a0_0 < 0 then (some false) else (if a0_0 > 23 then (some false) else (if a0_0 = 1 then (if (a0_2.size : Int) > 1000 then (some false) else (if a0_0 = 0 then (some true) else (if a0_0 = 2 then (if a0_1 ≥ 0 then (if a0_1 ≤ 49 then (some true) else (some false)) else (some false)) else (some (a0_1 == 0))))) else (if a0_2.toList = ([] : List UInt8) then (if (a0_2.size : Int) > 1000 then (some false) else (if a0_0 = 0 then (some true) else (if a0_0 = 2 then (if a0_1 ≥ 0 then (if a0_1 ≤ 49 then (some true) else (some false)) else (some false)) else (some (a0_1 == 0))))) else (some false))))
set_option maxHeartbeats 8000000 in
set_option maxRecDepth 100000 in
theorem threshingref14_May.calls (a0_0 : Int) (a0_1 : Int) (a0_2 : ByteArray) (r : Bool) (w : World) (hT : Tabs w) (h : threshingref14_May.f a0_0 a0_1 a0_2 = some r) :
    Calls Tryz.prog 38 #[.agg #[.int .i64 a0_0, .int .i64 a0_1, .string a0_2]] w fun e w' => e = .returned (.bool r) ∧ Below w.heap.size w w' := by
  have hu48 := Tryz.underlying48
  have HB := Aside0.mk (Below.refl w.heap.size w)
  have H : (if a0_0 < 0 then (some false) else (if a0_0 > 23 then (some false) else (if a0_0 = 1 then (if (a0_2.size : Int) > 1000 then (some false) else (if a0_0 = 0 then (some true) else (if a0_0 = 2 then (if a0_1 ≥ 0 then (if a0_1 ≤ 49 then (some true) else (some false)) else (some false)) else (some (a0_1 == 0))))) else (if a0_2.toList = ([] : List UInt8) then (if (a0_2.size : Int) > 1000 then (some false) else (if a0_0 = 0 then (some true) else (if a0_0 = 2 then (if a0_1 ≥ 0 then (if a0_1 ≤ 49 then (some true) else (some false)) else (some false)) else (some (a0_1 == 0))))) else (some false))))) = some r := h
  clear h
  by_cases c2 : a0_0 < 0
  · rw [if_pos c2] at H
    have c2b0 : decide (a0_0 < 0) = true := decide_eq_true c2
    clear c2
    obtain rfl := Option.some.inj H
    go_enter Tryz.func38, Tryz.ntmps38
    go_wp2_with (((with_reducible refine gate_dst (N := 1) rfl ?_); (try (refine gate_guard (by rfl) ?_; dsimp only)); refine box_event ?hg (N := 1) ?hd (cs := #[.int .i64 a0_0, .int .i64 a0_1, .string a0_2]) (t := 48) ?hr ?_; (case hd => rfl); (case hg => rfl); (case hr => exact xh); intro gb101 hg w3 hbox hb; have n0_ := Aside0.mk (below_step xb hb); have n1_ := Aside0.mk (hbox); have n2_ := xs w hg; have n3_ := xs w hg; clear HB; have HB := n0_; have BK101 := n1_; have GW101 := n2_; have GE101 := n3_; clear n0_ n1_ n2_ n3_; clear hb hbox hg; have hcz4_0 : w3.cell? ⟨gb101, 0, none⟩ = some (.int .i64 a0_0) := (blk_cell BK101.out 0).trans rfl; have hcz4_1 : w3.cell? ⟨gb101, 1, none⟩ = some (.int .i64 a0_1) := (blk_cell BK101.out 1).trans rfl; have hcz4_2 : w3.cell? ⟨gb101, 2, none⟩ = some (.string a0_2) := (blk_cell BK101.out 2).trans rfl; have hfz4_0 := blk_frozen BK101.out 0; have hfz4_1 := blk_frozen BK101.out 1; have hfz4_2 := blk_frozen BK101.out 2))
    go_ret
    exact ⟨xe, xb⟩
  · rw [if_neg c2] at H
    have c2b0 : decide (a0_0 < 0) = false := decide_eq_false c2
    clear c2
    by_cases c5 : a0_0 > 23
    · rw [if_pos c5] at H
      have c5b0 : decide (23 < a0_0) = true := decide_eq_true c5
      clear c5
      obtain rfl := Option.some.inj H
      go_enter Tryz.func38, Tryz.ntmps38
      go_wp2_with (((with_reducible refine gate_dst (N := 1) rfl ?_); (try (refine gate_guard (by rfl) ?_; dsimp only)); refine box_event ?hg (N := 1) ?hd (cs := #[.int .i64 a0_0, .int .i64 a0_1, .string a0_2]) (t := 48) ?hr ?_; (case hd => rfl); (case hg => rfl); (case hr => exact xh); intro gb101 hg w6 hbox hb; have n0_ := Aside0.mk (below_step xb hb); have n1_ := Aside0.mk (hbox); have n2_ := xs w hg; have n3_ := xs w hg; clear HB; have HB := n0_; have BK101 := n1_; have GW101 := n2_; have GE101 := n3_; clear n0_ n1_ n2_ n3_; clear hb hbox hg; have hcz7_0 : w6.cell? ⟨gb101, 0, none⟩ = some (.int .i64 a0_0) := (blk_cell BK101.out 0).trans rfl; have hcz7_1 : w6.cell? ⟨gb101, 1, none⟩ = some (.int .i64 a0_1) := (blk_cell BK101.out 1).trans rfl; have hcz7_2 : w6.cell? ⟨gb101, 2, none⟩ = some (.string a0_2) := (blk_cell BK101.out 2).trans rfl; have hfz7_0 := blk_frozen BK101.out 0; have hfz7_1 := blk_frozen BK101.out 1; have hfz7_2 := blk_frozen BK101.out 2))
      go_ret
      exact ⟨xe, xb⟩
    · rw [if_neg c5] at H
      have c5b0 : decide (23 < a0_0) = false := decide_eq_false c5
      clear c5
      by_cases c8 : a0_0 = 1
      · rw [if_pos c8] at H
        have c8b0 : (a0_0 == 1) = true := beq_iff_eq.mpr c8
        have c8b1 : (a0_0 != 1) = false := bne_eq_false_iff_eq.mpr c8
        clear c8
        by_cases c9 : (a0_2.size : Int) > 1000
        · rw [if_pos c9] at H
          have c9b0 : decide (1000 < (a0_2.size : Int)) = true := decide_eq_true c9
          have c9b1 : decide (1000 < a0_2.size) = true := decide_eq_true (by omega)
          clear c9
          obtain rfl := Option.some.inj H
          go_enter Tryz.func38, Tryz.ntmps38
          go_wp2_with (((with_reducible refine gate_dst (N := 1) rfl ?_); (try (refine gate_guard (by rfl) ?_; dsimp only)); refine box_event ?hg (N := 1) ?hd (cs := #[.int .i64 a0_0, .int .i64 a0_1, .string a0_2]) (t := 48) ?hr ?_; (case hd => rfl); (case hg => rfl); (case hr => exact xh); intro gb101 hg w10 hbox hb; have n0_ := Aside0.mk (below_step xb hb); have n1_ := Aside0.mk (hbox); have n2_ := xs w hg; have n3_ := xs w hg; clear HB; have HB := n0_; have BK101 := n1_; have GW101 := n2_; have GE101 := n3_; clear n0_ n1_ n2_ n3_; clear hb hbox hg; have hcz11_0 : w10.cell? ⟨gb101, 0, none⟩ = some (.int .i64 a0_0) := (blk_cell BK101.out 0).trans rfl; have hcz11_1 : w10.cell? ⟨gb101, 1, none⟩ = some (.int .i64 a0_1) := (blk_cell BK101.out 1).trans rfl; have hcz11_2 : w10.cell? ⟨gb101, 2, none⟩ = some (.string a0_2) := (blk_cell BK101.out 2).trans rfl; have hfz11_0 := blk_frozen BK101.out 0; have hfz11_1 := blk_frozen BK101.out 1; have hfz11_2 := blk_frozen BK101.out 2))
          go_ret
          exact ⟨xe, xb⟩
        · rw [if_neg c9] at H
          have c9b0 : decide (1000 < (a0_2.size : Int)) = false := decide_eq_false c9
          have c9b1 : decide (1000 < a0_2.size) = false := decide_eq_false (by omega)
          clear c9
          by_cases c12 : a0_0 = 0
          · rw [if_pos c12] at H
            have c12b0 : (a0_0 == 0) = true := beq_iff_eq.mpr c12
            have c12b1 : (a0_0 != 0) = false := bne_eq_false_iff_eq.mpr c12
            clear c12
            obtain rfl := Option.some.inj H
            go_enter Tryz.func38, Tryz.ntmps38
            go_wp2_with (((with_reducible refine gate_dst (N := 1) rfl ?_); (try (refine gate_guard (by rfl) ?_; dsimp only)); refine box_event ?hg (N := 1) ?hd (cs := #[.int .i64 a0_0, .int .i64 a0_1, .string a0_2]) (t := 48) ?hr ?_; (case hd => rfl); (case hg => rfl); (case hr => exact xh); intro gb101 hg w13 hbox hb; have n0_ := Aside0.mk (below_step xb hb); have n1_ := Aside0.mk (hbox); have n2_ := xs w hg; have n3_ := xs w hg; clear HB; have HB := n0_; have BK101 := n1_; have GW101 := n2_; have GE101 := n3_; clear n0_ n1_ n2_ n3_; clear hb hbox hg; have hcz14_0 : w13.cell? ⟨gb101, 0, none⟩ = some (.int .i64 a0_0) := (blk_cell BK101.out 0).trans rfl; have hcz14_1 : w13.cell? ⟨gb101, 1, none⟩ = some (.int .i64 a0_1) := (blk_cell BK101.out 1).trans rfl; have hcz14_2 : w13.cell? ⟨gb101, 2, none⟩ = some (.string a0_2) := (blk_cell BK101.out 2).trans rfl; have hfz14_0 := blk_frozen BK101.out 0; have hfz14_1 := blk_frozen BK101.out 1; have hfz14_2 := blk_frozen BK101.out 2))
            go_ret
            exact ⟨xe, xb⟩
          · rw [if_neg c12] at H
            have c12b0 : (a0_0 == 0) = false := beq_eq_false_iff_ne.mpr c12
            have c12b1 : (a0_0 != 0) = true := bne_iff_ne.mpr c12
            by_cases c15 : a0_0 = 2
            · rw [if_pos c15] at H
              have c15b0 : (a0_0 == 2) = true := beq_iff_eq.mpr c15
              have c15b1 : (a0_0 != 2) = false := bne_eq_false_iff_eq.mpr c15
              clear c15
              by_cases c16 : a0_1 ≥ 0
              · rw [if_pos c16] at H
                have c16b0 : decide (0 ≤ a0_1) = true := decide_eq_true c16
                clear c16
                by_cases c17 : a0_1 ≤ 49
                · rw [if_pos c17] at H
                  have c17b0 : decide (a0_1 ≤ 49) = true := decide_eq_true c17
                  clear c17
                  obtain rfl := Option.some.inj H
                  go_enter Tryz.func38, Tryz.ntmps38
                  go_wp2_with (((with_reducible refine gate_dst (N := 1) rfl ?_); (try (refine gate_guard (by rfl) ?_; dsimp only)); refine box_event ?hg (N := 1) ?hd (cs := #[.int .i64 a0_0, .int .i64 a0_1, .string a0_2]) (t := 48) ?hr ?_; (case hd => rfl); (case hg => rfl); (case hr => exact xh); intro gb101 hg w18 hbox hb; have n0_ := Aside0.mk (below_step xb hb); have n1_ := Aside0.mk (hbox); have n2_ := xs w hg; have n3_ := xs w hg; clear HB; have HB := n0_; have BK101 := n1_; have GW101 := n2_; have GE101 := n3_; clear n0_ n1_ n2_ n3_; clear hb hbox hg; have hcz19_0 : w18.cell? ⟨gb101, 0, none⟩ = some (.int .i64 a0_0) := (blk_cell BK101.out 0).trans rfl; have hcz19_1 : w18.cell? ⟨gb101, 1, none⟩ = some (.int .i64 a0_1) := (blk_cell BK101.out 1).trans rfl; have hcz19_2 : w18.cell? ⟨gb101, 2, none⟩ = some (.string a0_2) := (blk_cell BK101.out 2).trans rfl; have hfz19_0 := blk_frozen BK101.out 0; have hfz19_1 := blk_frozen BK101.out 1; have hfz19_2 := blk_frozen BK101.out 2))
                  go_ret
                  exact ⟨xe, xb⟩
                · rw [if_neg c17] at H
                  have c17b0 : decide (a0_1 ≤ 49) = false := decide_eq_false c17
                  clear c17
                  obtain rfl := Option.some.inj H
                  go_enter Tryz.func38, Tryz.ntmps38
                  go_wp2_with (((with_reducible refine gate_dst (N := 1) rfl ?_); (try (refine gate_guard (by rfl) ?_; dsimp only)); refine box_event ?hg (N := 1) ?hd (cs := #[.int .i64 a0_0, .int .i64 a0_1, .string a0_2]) (t := 48) ?hr ?_; (case hd => rfl); (case hg => rfl); (case hr => exact xh); intro gb101 hg w20 hbox hb; have n0_ := Aside0.mk (below_step xb hb); have n1_ := Aside0.mk (hbox); have n2_ := xs w hg; have n3_ := xs w hg; clear HB; have HB := n0_; have BK101 := n1_; have GW101 := n2_; have GE101 := n3_; clear n0_ n1_ n2_ n3_; clear hb hbox hg; have hcz21_0 : w20.cell? ⟨gb101, 0, none⟩ = some (.int .i64 a0_0) := (blk_cell BK101.out 0).trans rfl; have hcz21_1 : w20.cell? ⟨gb101, 1, none⟩ = some (.int .i64 a0_1) := (blk_cell BK101.out 1).trans rfl; have hcz21_2 : w20.cell? ⟨gb101, 2, none⟩ = some (.string a0_2) := (blk_cell BK101.out 2).trans rfl; have hfz21_0 := blk_frozen BK101.out 0; have hfz21_1 := blk_frozen BK101.out 1; have hfz21_2 := blk_frozen BK101.out 2))
                  go_ret
                  exact ⟨xe, xb⟩
              · rw [if_neg c16] at H
                have c16b0 : decide (0 ≤ a0_1) = false := decide_eq_false c16
                clear c16
                obtain rfl := Option.some.inj H
                go_enter Tryz.func38, Tryz.ntmps38
                go_wp2_with (((with_reducible refine gate_dst (N := 1) rfl ?_); (try (refine gate_guard (by rfl) ?_; dsimp only)); refine box_event ?hg (N := 1) ?hd (cs := #[.int .i64 a0_0, .int .i64 a0_1, .string a0_2]) (t := 48) ?hr ?_; (case hd => rfl); (case hg => rfl); (case hr => exact xh); intro gb101 hg w22 hbox hb; have n0_ := Aside0.mk (below_step xb hb); have n1_ := Aside0.mk (hbox); have n2_ := xs w hg; have n3_ := xs w hg; clear HB; have HB := n0_; have BK101 := n1_; have GW101 := n2_; have GE101 := n3_; clear n0_ n1_ n2_ n3_; clear hb hbox hg; have hcz23_0 : w22.cell? ⟨gb101, 0, none⟩ = some (.int .i64 a0_0) := (blk_cell BK101.out 0).trans rfl; have hcz23_1 : w22.cell? ⟨gb101, 1, none⟩ = some (.int .i64 a0_1) := (blk_cell BK101.out 1).trans rfl; have hcz23_2 : w22.cell? ⟨gb101, 2, none⟩ = some (.string a0_2) := (blk_cell BK101.out 2).trans rfl; have hfz23_0 := blk_frozen BK101.out 0; have hfz23_1 := blk_frozen BK101.out 1; have hfz23_2 := blk_frozen BK101.out 2))
                go_ret
                exact ⟨xe, xb⟩
            · rw [if_neg c15] at H
              have c15b0 : (a0_0 == 2) = false := beq_eq_false_iff_ne.mpr c15
              have c15b1 : (a0_0 != 2) = true := bne_iff_ne.mpr c15
              obtain rfl := Option.some.inj H
              go_enter Tryz.func38, Tryz.ntmps38
              go_wp2_with (((with_reducible refine gate_dst (N := 1) rfl ?_); (try (refine gate_guard (by rfl) ?_; dsimp only)); refine box_event ?hg (N := 1) ?hd (cs := #[.int .i64 a0_0, .int .i64 a0_1, .string a0_2]) (t := 48) ?hr ?_; (case hd => rfl); (case hg => rfl); (case hr => exact xh); intro gb101 hg w24 hbox hb; have n0_ := Aside0.mk (below_step xb hb); have n1_ := Aside0.mk (hbox); have n2_ := xs w hg; have n3_ := xs w hg; clear HB; have HB := n0_; have BK101 := n1_; have GW101 := n2_; have GE101 := n3_; clear n0_ n1_ n2_ n3_; clear hb hbox hg; have hcz25_0 : w24.cell? ⟨gb101, 0, none⟩ = some (.int .i64 a0_0) := (blk_cell BK101.out 0).trans rfl; have hcz25_1 : w24.cell? ⟨gb101, 1, none⟩ = some (.int .i64 a0_1) := (blk_cell BK101.out 1).trans rfl; have hcz25_2 : w24.cell? ⟨gb101, 2, none⟩ = some (.string a0_2) := (blk_cell BK101.out 2).trans rfl; have hfz25_0 := blk_frozen BK101.out 0; have hfz25_1 := blk_frozen BK101.out 1; have hfz25_2 := blk_frozen BK101.out 2))
              go_ret
              exact ⟨xe, xb⟩
      · rw [if_neg c8] at H
        have c8b0 : (a0_0 == 1) = false := beq_eq_false_iff_ne.mpr c8
        have c8b1 : (a0_0 != 1) = true := bne_iff_ne.mpr c8
        by_cases c26 : a0_2.toList = ([] : List UInt8)
        · rw [if_pos c26] at H
          have c26b0 : (a0_2.toList == ([] : List UInt8)) = true := beq_iff_eq.mpr c26
          have c26b1 : (a0_2.toList != ([] : List UInt8)) = false := bne_eq_false_iff_eq.mpr c26
          clear c26
          by_cases c27 : (a0_2.size : Int) > 1000
          · rw [if_pos c27] at H
            have c27b0 : decide (1000 < (a0_2.size : Int)) = true := decide_eq_true c27
            have c27b1 : decide (1000 < a0_2.size) = true := decide_eq_true (by omega)
            clear c27
            obtain rfl := Option.some.inj H
            go_enter Tryz.func38, Tryz.ntmps38
            go_wp2_with (((with_reducible refine gate_dst (N := 1) rfl ?_); (try (refine gate_guard (by rfl) ?_; dsimp only)); refine box_event ?hg (N := 1) ?hd (cs := #[.int .i64 a0_0, .int .i64 a0_1, .string a0_2]) (t := 48) ?hr ?_; (case hd => rfl); (case hg => rfl); (case hr => exact xh); intro gb101 hg w28 hbox hb; have n0_ := Aside0.mk (below_step xb hb); have n1_ := Aside0.mk (hbox); have n2_ := xs w hg; have n3_ := xs w hg; clear HB; have HB := n0_; have BK101 := n1_; have GW101 := n2_; have GE101 := n3_; clear n0_ n1_ n2_ n3_; clear hb hbox hg; have hcz29_0 : w28.cell? ⟨gb101, 0, none⟩ = some (.int .i64 a0_0) := (blk_cell BK101.out 0).trans rfl; have hcz29_1 : w28.cell? ⟨gb101, 1, none⟩ = some (.int .i64 a0_1) := (blk_cell BK101.out 1).trans rfl; have hcz29_2 : w28.cell? ⟨gb101, 2, none⟩ = some (.string a0_2) := (blk_cell BK101.out 2).trans rfl; have hfz29_0 := blk_frozen BK101.out 0; have hfz29_1 := blk_frozen BK101.out 1; have hfz29_2 := blk_frozen BK101.out 2))
            go_ret
            exact ⟨xe, xb⟩
          · rw [if_neg c27] at H
            have c27b0 : decide (1000 < (a0_2.size : Int)) = false := decide_eq_false c27
            have c27b1 : decide (1000 < a0_2.size) = false := decide_eq_false (by omega)
            clear c27
            by_cases c30 : a0_0 = 0
            · rw [if_pos c30] at H
              have c30b0 : (a0_0 == 0) = true := beq_iff_eq.mpr c30
              have c30b1 : (a0_0 != 0) = false := bne_eq_false_iff_eq.mpr c30
              clear c30
              obtain rfl := Option.some.inj H
              go_enter Tryz.func38, Tryz.ntmps38
              go_wp2_with (((with_reducible refine gate_dst (N := 1) rfl ?_); (try (refine gate_guard (by rfl) ?_; dsimp only)); refine box_event ?hg (N := 1) ?hd (cs := #[.int .i64 a0_0, .int .i64 a0_1, .string a0_2]) (t := 48) ?hr ?_; (case hd => rfl); (case hg => rfl); (case hr => exact xh); intro gb101 hg w31 hbox hb; have n0_ := Aside0.mk (below_step xb hb); have n1_ := Aside0.mk (hbox); have n2_ := xs w hg; have n3_ := xs w hg; clear HB; have HB := n0_; have BK101 := n1_; have GW101 := n2_; have GE101 := n3_; clear n0_ n1_ n2_ n3_; clear hb hbox hg; have hcz32_0 : w31.cell? ⟨gb101, 0, none⟩ = some (.int .i64 a0_0) := (blk_cell BK101.out 0).trans rfl; have hcz32_1 : w31.cell? ⟨gb101, 1, none⟩ = some (.int .i64 a0_1) := (blk_cell BK101.out 1).trans rfl; have hcz32_2 : w31.cell? ⟨gb101, 2, none⟩ = some (.string a0_2) := (blk_cell BK101.out 2).trans rfl; have hfz32_0 := blk_frozen BK101.out 0; have hfz32_1 := blk_frozen BK101.out 1; have hfz32_2 := blk_frozen BK101.out 2))
              go_ret
              exact ⟨xe, xb⟩
            · rw [if_neg c30] at H
              have c30b0 : (a0_0 == 0) = false := beq_eq_false_iff_ne.mpr c30
              have c30b1 : (a0_0 != 0) = true := bne_iff_ne.mpr c30
              by_cases c33 : a0_0 = 2
              · rw [if_pos c33] at H
                have c33b0 : (a0_0 == 2) = true := beq_iff_eq.mpr c33
                have c33b1 : (a0_0 != 2) = false := bne_eq_false_iff_eq.mpr c33
                clear c33
                by_cases c34 : a0_1 ≥ 0
                · rw [if_pos c34] at H
                  have c34b0 : decide (0 ≤ a0_1) = true := decide_eq_true c34
                  clear c34
                  by_cases c35 : a0_1 ≤ 49
                  · rw [if_pos c35] at H
                    have c35b0 : decide (a0_1 ≤ 49) = true := decide_eq_true c35
                    clear c35
                    obtain rfl := Option.some.inj H
                    go_enter Tryz.func38, Tryz.ntmps38
                    go_wp2_with (((with_reducible refine gate_dst (N := 1) rfl ?_); (try (refine gate_guard (by rfl) ?_; dsimp only)); refine box_event ?hg (N := 1) ?hd (cs := #[.int .i64 a0_0, .int .i64 a0_1, .string a0_2]) (t := 48) ?hr ?_; (case hd => rfl); (case hg => rfl); (case hr => exact xh); intro gb101 hg w36 hbox hb; have n0_ := Aside0.mk (below_step xb hb); have n1_ := Aside0.mk (hbox); have n2_ := xs w hg; have n3_ := xs w hg; clear HB; have HB := n0_; have BK101 := n1_; have GW101 := n2_; have GE101 := n3_; clear n0_ n1_ n2_ n3_; clear hb hbox hg; have hcz37_0 : w36.cell? ⟨gb101, 0, none⟩ = some (.int .i64 a0_0) := (blk_cell BK101.out 0).trans rfl; have hcz37_1 : w36.cell? ⟨gb101, 1, none⟩ = some (.int .i64 a0_1) := (blk_cell BK101.out 1).trans rfl; have hcz37_2 : w36.cell? ⟨gb101, 2, none⟩ = some (.string a0_2) := (blk_cell BK101.out 2).trans rfl; have hfz37_0 := blk_frozen BK101.out 0; have hfz37_1 := blk_frozen BK101.out 1; have hfz37_2 := blk_frozen BK101.out 2))
                    go_ret
                    exact ⟨xe, xb⟩
                  · rw [if_neg c35] at H
                    have c35b0 : decide (a0_1 ≤ 49) = false := decide_eq_false c35
                    clear c35
                    obtain rfl := Option.some.inj H
                    go_enter Tryz.func38, Tryz.ntmps38
                    go_wp2_with (((with_reducible refine gate_dst (N := 1) rfl ?_); (try (refine gate_guard (by rfl) ?_; dsimp only)); refine box_event ?hg (N := 1) ?hd (cs := #[.int .i64 a0_0, .int .i64 a0_1, .string a0_2]) (t := 48) ?hr ?_; (case hd => rfl); (case hg => rfl); (case hr => exact xh); intro gb101 hg w38 hbox hb; have n0_ := Aside0.mk (below_step xb hb); have n1_ := Aside0.mk (hbox); have n2_ := xs w hg; have n3_ := xs w hg; clear HB; have HB := n0_; have BK101 := n1_; have GW101 := n2_; have GE101 := n3_; clear n0_ n1_ n2_ n3_; clear hb hbox hg; have hcz39_0 : w38.cell? ⟨gb101, 0, none⟩ = some (.int .i64 a0_0) := (blk_cell BK101.out 0).trans rfl; have hcz39_1 : w38.cell? ⟨gb101, 1, none⟩ = some (.int .i64 a0_1) := (blk_cell BK101.out 1).trans rfl; have hcz39_2 : w38.cell? ⟨gb101, 2, none⟩ = some (.string a0_2) := (blk_cell BK101.out 2).trans rfl; have hfz39_0 := blk_frozen BK101.out 0; have hfz39_1 := blk_frozen BK101.out 1; have hfz39_2 := blk_frozen BK101.out 2))
                    go_ret
                    exact ⟨xe, xb⟩
                · rw [if_neg c34] at H
                  have c34b0 : decide (0 ≤ a0_1) = false := decide_eq_false c34
                  clear c34
                  obtain rfl := Option.some.inj H
                  go_enter Tryz.func38, Tryz.ntmps38
                  go_wp2_with (((with_reducible refine gate_dst (N := 1) rfl ?_); (try (refine gate_guard (by rfl) ?_; dsimp only)); refine box_event ?hg (N := 1) ?hd (cs := #[.int .i64 a0_0, .int .i64 a0_1, .string a0_2]) (t := 48) ?hr ?_; (case hd => rfl); (case hg => rfl); (case hr => exact xh); intro gb101 hg w40 hbox hb; have n0_ := Aside0.mk (below_step xb hb); have n1_ := Aside0.mk (hbox); have n2_ := xs w hg; have n3_ := xs w hg; clear HB; have HB := n0_; have BK101 := n1_; have GW101 := n2_; have GE101 := n3_; clear n0_ n1_ n2_ n3_; clear hb hbox hg; have hcz41_0 : w40.cell? ⟨gb101, 0, none⟩ = some (.int .i64 a0_0) := (blk_cell BK101.out 0).trans rfl; have hcz41_1 : w40.cell? ⟨gb101, 1, none⟩ = some (.int .i64 a0_1) := (blk_cell BK101.out 1).trans rfl; have hcz41_2 : w40.cell? ⟨gb101, 2, none⟩ = some (.string a0_2) := (blk_cell BK101.out 2).trans rfl; have hfz41_0 := blk_frozen BK101.out 0; have hfz41_1 := blk_frozen BK101.out 1; have hfz41_2 := blk_frozen BK101.out 2))
                  go_ret
                  exact ⟨xe, xb⟩
              · rw [if_neg c33] at H
                have c33b0 : (a0_0 == 2) = false := beq_eq_false_iff_ne.mpr c33
                have c33b1 : (a0_0 != 2) = true := bne_iff_ne.mpr c33
                obtain rfl := Option.some.inj H
                go_enter Tryz.func38, Tryz.ntmps38
                go_wp2_with (((with_reducible refine gate_dst (N := 1) rfl ?_); (try (refine gate_guard (by rfl) ?_; dsimp only)); refine box_event ?hg (N := 1) ?hd (cs := #[.int .i64 a0_0, .int .i64 a0_1, .string a0_2]) (t := 48) ?hr ?_; (case hd => rfl); (case hg => rfl); (case hr => exact xh); intro gb101 hg w42 hbox hb; have n0_ := Aside0.mk (below_step xb hb); have n1_ := Aside0.mk (hbox); have n2_ := xs w hg; have n3_ := xs w hg; clear HB; have HB := n0_; have BK101 := n1_; have GW101 := n2_; have GE101 := n3_; clear n0_ n1_ n2_ n3_; clear hb hbox hg; have hcz43_0 : w42.cell? ⟨gb101, 0, none⟩ = some (.int .i64 a0_0) := (blk_cell BK101.out 0).trans rfl; have hcz43_1 : w42.cell? ⟨gb101, 1, none⟩ = some (.int .i64 a0_1) := (blk_cell BK101.out 1).trans rfl; have hcz43_2 : w42.cell? ⟨gb101, 2, none⟩ = some (.string a0_2) := (blk_cell BK101.out 2).trans rfl; have hfz43_0 := blk_frozen BK101.out 0; have hfz43_1 := blk_frozen BK101.out 1; have hfz43_2 := blk_frozen BK101.out 2))
                go_ret
                exact ⟨xe, xb⟩
        · rw [if_neg c26] at H
          have c26b0 : (a0_2.toList == ([] : List UInt8)) = false := beq_eq_false_iff_ne.mpr c26
          have c26b1 : (a0_2.toList != ([] : List UInt8)) = true := bne_iff_ne.mpr c26
          obtain rfl := Option.some.inj H
          go_enter Tryz.func38, Tryz.ntmps38
          go_wp2_with (((with_reducible refine gate_dst (N := 1) rfl ?_); (try (refine gate_guard (by rfl) ?_; dsimp only)); refine box_event ?hg (N := 1) ?hd (cs := #[.int .i64 a0_0, .int .i64 a0_1, .string a0_2]) (t := 48) ?hr ?_; (case hd => rfl); (case hg => rfl); (case hr => exact xh); intro gb101 hg w44 hbox hb; have n0_ := Aside0.mk (below_step xb hb); have n1_ := Aside0.mk (hbox); have n2_ := xs w hg; have n3_ := xs w hg; clear HB; have HB := n0_; have BK101 := n1_; have GW101 := n2_; have GE101 := n3_; clear n0_ n1_ n2_ n3_; clear hb hbox hg; have hcz45_0 : w44.cell? ⟨gb101, 0, none⟩ = some (.int .i64 a0_0) := (blk_cell BK101.out 0).trans rfl; have hcz45_1 : w44.cell? ⟨gb101, 1, none⟩ = some (.int .i64 a0_1) := (blk_cell BK101.out 1).trans rfl; have hcz45_2 : w44.cell? ⟨gb101, 2, none⟩ = some (.string a0_2) := (blk_cell BK101.out 2).trans rfl; have hfz45_0 := blk_frozen BK101.out 0; have hfz45_1 := blk_frozen BK101.out 1; have hfz45_2 := blk_frozen BK101.out 2))
          go_ret
          exact ⟨xe, xb⟩

end Go.Proofs.YtejmgcfjpofniaaGreatDoor.PX
/- Walked functions, by this session's program over the kit's print. -/
namespace Go.Proofs.YtejmgcfjpofniaaGreatDoor.PX
open Go.RowKit Go.Proofs.YtejmgcfjpofniaaGreatDoorW.PrintWords Go.Proofs.YtejmgcfjpofniaaGreatDoorW.PrintLast Go.Proofs.YtejmgcfjpofniaaGreatDoorW.PrintMore
attribute [local go_sem] xm_gtr max2_int min2_int max_two min_two max_three min_three max_four min_four   -- for this text's walks alone
set_option linter.unusedVariables false
set_option linter.unusedSimpArgs false

/-! ### threshingref13_kinds: function 58 -/
mutual
def threshingref13_kinds.j0 : Nat → Int → Bool → Option (ByteArray × ByteArray)
  | 0, _, _ => none
  | k + 1, x4, x5 => if x5 = true then (some ((⟨#[110, 110]⟩ : ByteArray), (⟨#[110]⟩ : ByteArray))) else (if x4 = 9 then (some ((⟨#[116, 116]⟩ : ByteArray), (⟨#[116]⟩ : ByteArray))) else (if x4 = 10 then (threshingref13_kinds.j1 k x4 (x4 == 10)) else (if x4 = 18 then (threshingref13_kinds.j1 k x4 (x4 == 18)) else (threshingref13_kinds.j1 k x4 (x4 == 20)))))
def threshingref13_kinds.j1 : Nat → Int → Bool → Option (ByteArray × ByteArray)
  | 0, _, _ => none
  | k + 1, x4, x13 => if x13 = true then (some ((⟨#[116]⟩ : ByteArray), (⟨#[110]⟩ : ByteArray))) else (if x4 = 11 then (some ((⟨#[116, 110, 110]⟩ : ByteArray), (⟨#[116]⟩ : ByteArray))) else (if x4 = 12 then (threshingref13_kinds.j2 k x4 (x4 == 12)) else (threshingref13_kinds.j2 k x4 (x4 == 13))))
def threshingref13_kinds.j2 : Nat → Int → Bool → Option (ByteArray × ByteArray)
  | 0, _, _ => none
  | k + 1, x4, x19 => if x19 = true then (some ((⟨#[116]⟩ : ByteArray), (⟨#[116]⟩ : ByteArray))) else (if x4 = 14 then (threshingref13_kinds.j3 k x4 (x4 == 14)) else (threshingref13_kinds.j3 k x4 (x4 == 15)))
def threshingref13_kinds.j3 : Nat → Int → Bool → Option (ByteArray × ByteArray)
  | 0, _, _ => none
  | k + 1, x4, x22 => if x22 = true then (some ((⟨#[97, 97]⟩ : ByteArray), (⟨#[110]⟩ : ByteArray))) else (if x4 = 16 then (some ((⟨#[110]⟩ : ByteArray), (⟨#[110]⟩ : ByteArray))) else (if x4 = 17 then (some ((⟨#[110, 97, 97]⟩ : ByteArray), (⟨#[97]⟩ : ByteArray))) else (if x4 = 19 then (some ((⟨#[110]⟩ : ByteArray), (⟨#[116]⟩ : ByteArray))) else (if x4 = 21 then (some ((⟨#[116, 116]⟩ : ByteArray), (⟨#[110]⟩ : ByteArray))) else (some ((⟨#[]⟩ : ByteArray), (⟨#[]⟩ : ByteArray)))))))
end
def threshingref13_kinds.f (k : Nat) (a0 : Int) : Option (ByteArray × ByteArray) := if a0 = 4 then (threshingref13_kinds.j0 k a0 (a0 == 4)) else (if a0 = 5 then (threshingref13_kinds.j0 k a0 (a0 == 5)) else (if a0 = 6 then (threshingref13_kinds.j0 k a0 (a0 == 6)) else (if a0 = 7 then (threshingref13_kinds.j0 k a0 (a0 == 7)) else (threshingref13_kinds.j0 k a0 (a0 == 8)))))
theorem threshingref13_kinds.mono_l : ∀ k, (∀ y0 y1, LeO (threshingref13_kinds.j0 k y0 y1) (threshingref13_kinds.j0 (k + 1) y0 y1)) ∧ (∀ y0 y1, LeO (threshingref13_kinds.j1 k y0 y1) (threshingref13_kinds.j1 (k + 1) y0 y1)) ∧ (∀ y0 y1, LeO (threshingref13_kinds.j2 k y0 y1) (threshingref13_kinds.j2 (k + 1) y0 y1)) ∧ (∀ y0 y1, LeO (threshingref13_kinds.j3 k y0 y1) (threshingref13_kinds.j3 (k + 1) y0 y1))
  | 0 => ⟨fun _ _ r h => by simp [threshingref13_kinds.j0] at h, fun _ _ r h => by simp [threshingref13_kinds.j1] at h, fun _ _ r h => by simp [threshingref13_kinds.j2] at h, fun _ _ r h => by simp [threshingref13_kinds.j3] at h⟩
  | k + 1 => by
    obtain ⟨ih0, ih1, ih2, ih3⟩ := threshingref13_kinds.mono_l k
    refine ⟨?_, ?_, ?_, ?_⟩
    · intro y0 y1
      unfold threshingref13_kinds.j0
      repeat' first
      | (with_reducible exact ih0 _ _)
      | (with_reducible exact ih1 _ _)
      | (with_reducible exact ih2 _ _)
      | (with_reducible exact ih3 _ _)
      | (with_reducible exact LeO.refl _)
      | (with_reducible exact LeO.none _)
      | (with_reducible refine LeO.ite ?_ ?_)
      | (with_reducible refine LeO.bind ?_ (fun _ => ?_))
      | exact ih0 _ _
      | exact ih1 _ _
      | exact ih2 _ _
      | exact ih3 _ _
      | exact LeO.none _
      | refine LeO.ite ?_ ?_
      | refine LeO.bind ?_ (fun _ => ?_)
    · intro y0 y1
      unfold threshingref13_kinds.j1
      repeat' first
      | (with_reducible exact ih0 _ _)
      | (with_reducible exact ih1 _ _)
      | (with_reducible exact ih2 _ _)
      | (with_reducible exact ih3 _ _)
      | (with_reducible exact LeO.refl _)
      | (with_reducible exact LeO.none _)
      | (with_reducible refine LeO.ite ?_ ?_)
      | (with_reducible refine LeO.bind ?_ (fun _ => ?_))
      | exact ih0 _ _
      | exact ih1 _ _
      | exact ih2 _ _
      | exact ih3 _ _
      | exact LeO.none _
      | refine LeO.ite ?_ ?_
      | refine LeO.bind ?_ (fun _ => ?_)
    · intro y0 y1
      unfold threshingref13_kinds.j2
      repeat' first
      | (with_reducible exact ih0 _ _)
      | (with_reducible exact ih1 _ _)
      | (with_reducible exact ih2 _ _)
      | (with_reducible exact ih3 _ _)
      | (with_reducible exact LeO.refl _)
      | (with_reducible exact LeO.none _)
      | (with_reducible refine LeO.ite ?_ ?_)
      | (with_reducible refine LeO.bind ?_ (fun _ => ?_))
      | exact ih0 _ _
      | exact ih1 _ _
      | exact ih2 _ _
      | exact ih3 _ _
      | exact LeO.none _
      | refine LeO.ite ?_ ?_
      | refine LeO.bind ?_ (fun _ => ?_)
    · intro y0 y1
      unfold threshingref13_kinds.j3
      repeat' first
      | (with_reducible exact ih0 _ _)
      | (with_reducible exact ih1 _ _)
      | (with_reducible exact ih2 _ _)
      | (with_reducible exact ih3 _ _)
      | (with_reducible exact LeO.refl _)
      | (with_reducible exact LeO.none _)
      | (with_reducible refine LeO.ite ?_ ?_)
      | (with_reducible refine LeO.bind ?_ (fun _ => ?_))
      | exact ih0 _ _
      | exact ih1 _ _
      | exact ih2 _ _
      | exact ih3 _ _
      | exact LeO.none _
      | refine LeO.ite ?_ ?_
      | refine LeO.bind ?_ (fun _ => ?_)
theorem threshingref13_kinds.mono : ∀ a0 k, LeO (threshingref13_kinds.f k a0) (threshingref13_kinds.f (k + 1) a0) := by
  intro a0 k
  obtain ⟨ih0, ih1, ih2, ih3⟩ := threshingref13_kinds.mono_l k
  unfold threshingref13_kinds.f
  repeat' first
      | (with_reducible exact ih0 _ _)
      | (with_reducible exact ih1 _ _)
      | (with_reducible exact ih2 _ _)
      | (with_reducible exact ih3 _ _)
      | (with_reducible exact LeO.refl _)
      | (with_reducible exact LeO.none _)
      | (with_reducible refine LeO.ite ?_ ?_)
      | (with_reducible refine LeO.bind ?_ (fun _ => ?_))
      | exact ih0 _ _
      | exact ih1 _ _
      | exact ih2 _ _
      | exact ih3 _ _
      | exact LeO.none _
      | refine LeO.ite ?_ ?_
      | refine LeO.bind ?_ (fun _ => ?_)
set_option maxHeartbeats 8000000 in
set_option maxRecDepth 100000 in
theorem threshingref13_kinds.calls (k : Nat) (a0 : Int) (r1 : ByteArray) (r2 : ByteArray) (w : World) (hT : Tabs w) (h : threshingref13_kinds.f k a0 = some (r1, r2)) :
    Calls Tryz.prog 58 #[.int .i64 a0] w fun e w' => e = .returned (.tuple #[.string r1, .string r2]) ∧ Drawn0 w w' := by
  have H : (if a0 = 4 then (threshingref13_kinds.j0 k a0 (a0 == 4)) else (if a0 = 5 then (threshingref13_kinds.j0 k a0 (a0 == 5)) else (if a0 = 6 then (threshingref13_kinds.j0 k a0 (a0 == 6)) else (if a0 = 7 then (threshingref13_kinds.j0 k a0 (a0 == 7)) else (threshingref13_kinds.j0 k a0 (a0 == 8)))))) = some (r1, r2) := h
  clear h
  have HC2 := Aside0.mk H
  clear H
  go_enter Tryz.func58, Tryz.ntmps58
  go_upto_if 5 with (fail)
  go_cut [5] (fun v5 wc => ∃ (kq : Nat) (x5_1 : Bool), v5 = .bool x5_1 ∧ Aside0 (threshingref13_kinds.j0 kq a0 x5_1 = some (r1, r2)) ∧ Aside0 (kq ≤ k) ∧ Drawn0 w wc)
  case first =>
    have H := HC2.out
    clear HC2
    by_cases c3 : a0 = 4
    · rw [if_pos c3] at H
      have c3b0 : (a0 == 4) = true := beq_iff_eq.mpr c3
      have c3b1 : (a0 != 4) = false := bne_eq_false_iff_eq.mpr c3
      clear c3
      (first | rw [c3b0] | (simp only [i64_w, i32_w]; rw [c3b0]) | skip)
      have H' := Aside0.mk H
      clear H
      go_wp2
      go_meet
      case rel => exact ⟨_, ((a0 == 4)), xg, H', ⟨by first | omega | exact Nat.le_refl _⟩, by repeat (first | exact Drawn0.refl _ | apply Drawn0.step)⟩
    · rw [if_neg c3] at H
      have c3b0 : (a0 == 4) = false := beq_eq_false_iff_ne.mpr c3
      have c3b1 : (a0 != 4) = true := bne_iff_ne.mpr c3
      (first | rw [c3b0] | (simp only [i64_w, i32_w]; rw [c3b0]) | skip)
      by_cases c4 : a0 = 5
      · rw [if_pos c4] at H
        have c4b0 : (a0 == 5) = true := beq_iff_eq.mpr c4
        have c4b1 : (a0 != 5) = false := bne_eq_false_iff_eq.mpr c4
        clear c4
        have H' := Aside0.mk H
        clear H
        go_wp2
        go_meet
        case rel => exact ⟨_, ((a0 == 5)), xg, H', ⟨by first | omega | exact Nat.le_refl _⟩, by repeat (first | exact Drawn0.refl _ | apply Drawn0.step)⟩
      · rw [if_neg c4] at H
        have c4b0 : (a0 == 5) = false := beq_eq_false_iff_ne.mpr c4
        have c4b1 : (a0 != 5) = true := bne_iff_ne.mpr c4
        by_cases c5 : a0 = 6
        · rw [if_pos c5] at H
          have c5b0 : (a0 == 6) = true := beq_iff_eq.mpr c5
          have c5b1 : (a0 != 6) = false := bne_eq_false_iff_eq.mpr c5
          clear c5
          have H' := Aside0.mk H
          clear H
          go_wp2
          go_meet
          case rel => exact ⟨_, ((a0 == 6)), xg, H', ⟨by first | omega | exact Nat.le_refl _⟩, by repeat (first | exact Drawn0.refl _ | apply Drawn0.step)⟩
        · rw [if_neg c5] at H
          have c5b0 : (a0 == 6) = false := beq_eq_false_iff_ne.mpr c5
          have c5b1 : (a0 != 6) = true := bne_iff_ne.mpr c5
          by_cases c6 : a0 = 7
          · rw [if_pos c6] at H
            have c6b0 : (a0 == 7) = true := beq_iff_eq.mpr c6
            have c6b1 : (a0 != 7) = false := bne_eq_false_iff_eq.mpr c6
            clear c6
            have H' := Aside0.mk H
            clear H
            go_wp2
            go_meet
            case rel => exact ⟨_, ((a0 == 7)), xg, H', ⟨by first | omega | exact Nat.le_refl _⟩, by repeat (first | exact Drawn0.refl _ | apply Drawn0.step)⟩
          · rw [if_neg c6] at H
            have c6b0 : (a0 == 7) = false := beq_eq_false_iff_ne.mpr c6
            have c6b1 : (a0 != 7) = true := bne_iff_ne.mpr c6
            have H' := Aside0.mk H
            clear H
            go_wp2
            go_meet
            case rel => exact ⟨_, ((a0 == 8)), xg, H', ⟨by first | omega | exact Nat.le_refl _⟩, by repeat (first | exact Drawn0.refl _ | apply Drawn0.step)⟩
  case rest =>
    clear HC2
    try clear p2
    try clear c3
    try clear c3b0
    try clear c3b1
    try clear c4
    try clear c4b0
    try clear c4b1
    try clear c5
    try clear c5b0
    try clear c5b1
    try clear c6
    try clear c6b0
    try clear c6b1
    obtain ⟨kq, x5_1, rfl, HA, HJ1, ⟨mc1, rfl⟩⟩ := hcut
    cases kq with
    | zero => exact absurd HA.out (by simp [threshingref13_kinds.j0])
    | succ kj1 =>
      have H := HA.out
      clear HA
      simp only [threshingref13_kinds.j0] at H
      by_cases c7 : x5_1 = true
      · subst c7
        have H1 : (some ((⟨#[110, 110]⟩ : ByteArray), (⟨#[110]⟩ : ByteArray))) = some (r1, r2) := by rw [if_pos rfl] at H; exact H
        clear H
        have H := H1
        clear H1
        simp only [Option.some.injEq, Prod.mk.injEq] at H
        obtain ⟨rfl, rfl⟩ := H
        go_wp2
        go_ret2
        exact ⟨xg, xz⟩
      · replace c7 := Bool.eq_false_iff.mpr c7
        subst c7
        have H1 : (if a0 = 9 then (some ((⟨#[116, 116]⟩ : ByteArray), (⟨#[116]⟩ : ByteArray))) else (if a0 = 10 then (threshingref13_kinds.j1 kj1 a0 (a0 == 10)) else (if a0 = 18 then (threshingref13_kinds.j1 kj1 a0 (a0 == 18)) else (threshingref13_kinds.j1 kj1 a0 (a0 == 20))))) = some (r1, r2) := by rw [if_neg (show ¬ (false = true) by decide)] at H; exact H
        clear H
        have H := H1
        clear H1
        by_cases c8 : a0 = 9
        · rw [if_pos c8] at H
          have c8b0 : (a0 == 9) = true := beq_iff_eq.mpr c8
          have c8b1 : (a0 != 9) = false := bne_eq_false_iff_eq.mpr c8
          clear c8
          simp only [Option.some.injEq, Prod.mk.injEq] at H
          obtain ⟨rfl, rfl⟩ := H
          go_wp2
          go_ret2
          exact ⟨xg, xz⟩
        · rw [if_neg c8] at H
          have c8b0 : (a0 == 9) = false := beq_eq_false_iff_ne.mpr c8
          have c8b1 : (a0 != 9) = true := bne_iff_ne.mpr c8
          have HC9 := Aside0.mk H
          clear H
          go_upto_if 13 with (fail)
          go_cut [13] (fun v13 wc => ∃ (kq : Nat) (x13_8 : Bool), v13 = .bool x13_8 ∧ Aside0 (threshingref13_kinds.j1 kq a0 x13_8 = some (r1, r2)) ∧ Aside0 (kq ≤ kj1) ∧ Drawn0 w wc)
          case first =>
            have H := HC9.out
            clear HC9
            by_cases c10 : a0 = 10
            · rw [if_pos c10] at H
              have c10b0 : (a0 == 10) = true := beq_iff_eq.mpr c10
              have c10b1 : (a0 != 10) = false := bne_eq_false_iff_eq.mpr c10
              clear c10
              (first | rw [c10b0] | (simp only [i64_w, i32_w]; rw [c10b0]) | skip)
              have H' := Aside0.mk H
              clear H
              go_wp2
              go_meet
              case rel => exact ⟨_, ((a0 == 10)), xg, H', ⟨by have := HJ1.out; first | omega | exact Nat.le_refl _⟩, by repeat (first | exact Drawn0.refl _ | apply Drawn0.step)⟩
            · rw [if_neg c10] at H
              have c10b0 : (a0 == 10) = false := beq_eq_false_iff_ne.mpr c10
              have c10b1 : (a0 != 10) = true := bne_iff_ne.mpr c10
              (first | rw [c10b0] | (simp only [i64_w, i32_w]; rw [c10b0]) | skip)
              by_cases c11 : a0 = 18
              · rw [if_pos c11] at H
                have c11b0 : (a0 == 18) = true := beq_iff_eq.mpr c11
                have c11b1 : (a0 != 18) = false := bne_eq_false_iff_eq.mpr c11
                clear c11
                have H' := Aside0.mk H
                clear H
                go_wp2
                go_meet
                case rel => exact ⟨_, ((a0 == 18)), xg, H', ⟨by have := HJ1.out; first | omega | exact Nat.le_refl _⟩, by repeat (first | exact Drawn0.refl _ | apply Drawn0.step)⟩
              · rw [if_neg c11] at H
                have c11b0 : (a0 == 18) = false := beq_eq_false_iff_ne.mpr c11
                have c11b1 : (a0 != 18) = true := bne_iff_ne.mpr c11
                have H' := Aside0.mk H
                clear H
                go_wp2
                go_meet
                case rel => exact ⟨_, ((a0 == 20)), xg, H', ⟨by have := HJ1.out; first | omega | exact Nat.le_refl _⟩, by repeat (first | exact Drawn0.refl _ | apply Drawn0.step)⟩
          case rest =>
            clear HC9
            try clear c1
            try clear p2
            try clear c3
            try clear c3b0
            try clear c3b1
            try clear c4
            try clear c4b0
            try clear c4b1
            try clear c5
            try clear c5b0
            try clear c5b1
            try clear c6
            try clear c6b0
            try clear c6b1
            try clear c7
            try clear c8
            try clear c8b0
            try clear c8b1
            try clear c10
            try clear c10b0
            try clear c10b1
            try clear c11
            try clear c11b0
            try clear c11b1
            try clear p2
            obtain ⟨kq, x13_8, rfl, HA, HJ8, ⟨mc8, rfl⟩⟩ := hcut
            cases kq with
            | zero => exact absurd HA.out (by simp [threshingref13_kinds.j1])
            | succ kj8 =>
              have H := HA.out
              clear HA
              simp only [threshingref13_kinds.j1] at H
              by_cases c12 : x13_8 = true
              · subst c12
                have H1 : (some ((⟨#[116]⟩ : ByteArray), (⟨#[110]⟩ : ByteArray))) = some (r1, r2) := by rw [if_pos rfl] at H; exact H
                clear H
                have H := H1
                clear H1
                simp only [Option.some.injEq, Prod.mk.injEq] at H
                obtain ⟨rfl, rfl⟩ := H
                go_wp2
                go_ret2
                exact ⟨xg, xz⟩
              · replace c12 := Bool.eq_false_iff.mpr c12
                subst c12
                have H1 : (if a0 = 11 then (some ((⟨#[116, 110, 110]⟩ : ByteArray), (⟨#[116]⟩ : ByteArray))) else (if a0 = 12 then (threshingref13_kinds.j2 kj8 a0 (a0 == 12)) else (threshingref13_kinds.j2 kj8 a0 (a0 == 13)))) = some (r1, r2) := by rw [if_neg (show ¬ (false = true) by decide)] at H; exact H
                clear H
                have H := H1
                clear H1
                by_cases c13 : a0 = 11
                · rw [if_pos c13] at H
                  have c13b0 : (a0 == 11) = true := beq_iff_eq.mpr c13
                  have c13b1 : (a0 != 11) = false := bne_eq_false_iff_eq.mpr c13
                  clear c13
                  simp only [Option.some.injEq, Prod.mk.injEq] at H
                  obtain ⟨rfl, rfl⟩ := H
                  go_wp2
                  go_ret2
                  exact ⟨xg, xz⟩
                · rw [if_neg c13] at H
                  have c13b0 : (a0 == 11) = false := beq_eq_false_iff_ne.mpr c13
                  have c13b1 : (a0 != 11) = true := bne_iff_ne.mpr c13
                  have HC14 := Aside0.mk H
                  clear H
                  go_upto_if 19 with (fail)
                  go_cut [19] (fun v19 wc => ∃ (kq : Nat) (x19_13 : Bool), v19 = .bool x19_13 ∧ Aside0 (threshingref13_kinds.j2 kq a0 x19_13 = some (r1, r2)) ∧ Aside0 (kq ≤ kj8) ∧ Drawn0 w wc)
                  case first =>
                    have H := HC14.out
                    clear HC14
                    by_cases c15 : a0 = 12
                    · rw [if_pos c15] at H
                      have c15b0 : (a0 == 12) = true := beq_iff_eq.mpr c15
                      have c15b1 : (a0 != 12) = false := bne_eq_false_iff_eq.mpr c15
                      clear c15
                      (first | rw [c15b0] | (simp only [i64_w, i32_w]; rw [c15b0]) | skip)
                      have H' := Aside0.mk H
                      clear H
                      go_wp2
                      go_meet
                      case rel => exact ⟨_, ((a0 == 12)), xg, H', ⟨by have := HJ1.out; have := HJ8.out; first | omega | exact Nat.le_refl _⟩, by repeat (first | exact Drawn0.refl _ | apply Drawn0.step)⟩
                    · rw [if_neg c15] at H
                      have c15b0 : (a0 == 12) = false := beq_eq_false_iff_ne.mpr c15
                      have c15b1 : (a0 != 12) = true := bne_iff_ne.mpr c15
                      (first | rw [c15b0] | (simp only [i64_w, i32_w]; rw [c15b0]) | skip)
                      have H' := Aside0.mk H
                      clear H
                      go_wp2
                      go_meet
                      case rel => exact ⟨_, ((a0 == 13)), xg, H', ⟨by have := HJ1.out; have := HJ8.out; first | omega | exact Nat.le_refl _⟩, by repeat (first | exact Drawn0.refl _ | apply Drawn0.step)⟩
                  case rest =>
                    clear HC14
                    try clear c1
                    try clear p2
                    try clear c3
                    try clear c3b0
                    try clear c3b1
                    try clear c4
                    try clear c4b0
                    try clear c4b1
                    try clear c5
                    try clear c5b0
                    try clear c5b1
                    try clear c6
                    try clear c6b0
                    try clear c6b1
                    try clear c7
                    try clear c8
                    try clear c8b0
                    try clear c8b1
                    try clear c10
                    try clear c10b0
                    try clear c10b1
                    try clear c11
                    try clear c11b0
                    try clear c11b1
                    try clear c12
                    try clear c13
                    try clear c13b0
                    try clear c13b1
                    try clear c15
                    try clear c15b0
                    try clear c15b1
                    try clear p2
                    obtain ⟨kq, x19_13, rfl, HA, HJ13, ⟨mc13, rfl⟩⟩ := hcut
                    cases kq with
                    | zero => exact absurd HA.out (by simp [threshingref13_kinds.j2])
                    | succ kj13 =>
                      have H := HA.out
                      clear HA
                      simp only [threshingref13_kinds.j2] at H
                      by_cases c16 : x19_13 = true
                      · subst c16
                        have H1 : (some ((⟨#[116]⟩ : ByteArray), (⟨#[116]⟩ : ByteArray))) = some (r1, r2) := by rw [if_pos rfl] at H; exact H
                        clear H
                        have H := H1
                        clear H1
                        simp only [Option.some.injEq, Prod.mk.injEq] at H
                        obtain ⟨rfl, rfl⟩ := H
                        go_wp2
                        go_ret2
                        exact ⟨xg, xz⟩
                      · replace c16 := Bool.eq_false_iff.mpr c16
                        subst c16
                        have H1 : (if a0 = 14 then (threshingref13_kinds.j3 kj13 a0 (a0 == 14)) else (threshingref13_kinds.j3 kj13 a0 (a0 == 15))) = some (r1, r2) := by rw [if_neg (show ¬ (false = true) by decide)] at H; exact H
                        clear H
                        have H := H1
                        clear H1
                        have HC17 := Aside0.mk H
                        clear H
                        go_upto_if 22 with (fail)
                        go_cut [22] (fun v22 wc => ∃ (kq : Nat) (x22_16 : Bool), v22 = .bool x22_16 ∧ Aside0 (threshingref13_kinds.j3 kq a0 x22_16 = some (r1, r2)) ∧ Aside0 (kq ≤ kj13) ∧ Drawn0 w wc)
                        case first =>
                          have H := HC17.out
                          clear HC17
                          by_cases c18 : a0 = 14
                          · rw [if_pos c18] at H
                            have c18b0 : (a0 == 14) = true := beq_iff_eq.mpr c18
                            have c18b1 : (a0 != 14) = false := bne_eq_false_iff_eq.mpr c18
                            clear c18
                            (first | rw [c18b0] | (simp only [i64_w, i32_w]; rw [c18b0]) | skip)
                            have H' := Aside0.mk H
                            clear H
                            go_wp2
                            go_meet
                            case rel => exact ⟨_, ((a0 == 14)), xg, H', ⟨by have := HJ1.out; have := HJ8.out; have := HJ13.out; first | omega | exact Nat.le_refl _⟩, by repeat (first | exact Drawn0.refl _ | apply Drawn0.step)⟩
                          · rw [if_neg c18] at H
                            have c18b0 : (a0 == 14) = false := beq_eq_false_iff_ne.mpr c18
                            have c18b1 : (a0 != 14) = true := bne_iff_ne.mpr c18
                            (first | rw [c18b0] | (simp only [i64_w, i32_w]; rw [c18b0]) | skip)
                            have H' := Aside0.mk H
                            clear H
                            go_wp2
                            go_meet
                            case rel => exact ⟨_, ((a0 == 15)), xg, H', ⟨by have := HJ1.out; have := HJ8.out; have := HJ13.out; first | omega | exact Nat.le_refl _⟩, by repeat (first | exact Drawn0.refl _ | apply Drawn0.step)⟩
                        case rest =>
                          clear HC17
                          try clear c1
                          try clear p2
                          try clear c3
                          try clear c3b0
                          try clear c3b1
                          try clear c4
                          try clear c4b0
                          try clear c4b1
                          try clear c5
                          try clear c5b0
                          try clear c5b1
                          try clear c6
                          try clear c6b0
                          try clear c6b1
                          try clear c7
                          try clear c8
                          try clear c8b0
                          try clear c8b1
                          try clear c10
                          try clear c10b0
                          try clear c10b1
                          try clear c11
                          try clear c11b0
                          try clear c11b1
                          try clear c12
                          try clear c13
                          try clear c13b0
                          try clear c13b1
                          try clear c15
                          try clear c15b0
                          try clear c15b1
                          try clear c16
                          try clear c18
                          try clear c18b0
                          try clear c18b1
                          try clear p2
                          obtain ⟨kq, x22_16, rfl, HA, HJ16, ⟨mc16, rfl⟩⟩ := hcut
                          cases kq with
                          | zero => exact absurd HA.out (by simp [threshingref13_kinds.j3])
                          | succ kj16 =>
                            have H := HA.out
                            clear HA
                            simp only [threshingref13_kinds.j3] at H
                            by_cases c19 : x22_16 = true
                            · subst c19
                              have H1 : (some ((⟨#[97, 97]⟩ : ByteArray), (⟨#[110]⟩ : ByteArray))) = some (r1, r2) := by rw [if_pos rfl] at H; exact H
                              clear H
                              have H := H1
                              clear H1
                              simp only [Option.some.injEq, Prod.mk.injEq] at H
                              obtain ⟨rfl, rfl⟩ := H
                              go_wp2
                              go_ret2
                              exact ⟨xg, xz⟩
                            · replace c19 := Bool.eq_false_iff.mpr c19
                              subst c19
                              have H1 : (if a0 = 16 then (some ((⟨#[110]⟩ : ByteArray), (⟨#[110]⟩ : ByteArray))) else (if a0 = 17 then (some ((⟨#[110, 97, 97]⟩ : ByteArray), (⟨#[97]⟩ : ByteArray))) else (if a0 = 19 then (some ((⟨#[110]⟩ : ByteArray), (⟨#[116]⟩ : ByteArray))) else (if a0 = 21 then (some ((⟨#[116, 116]⟩ : ByteArray), (⟨#[110]⟩ : ByteArray))) else (some ((⟨#[]⟩ : ByteArray), (⟨#[]⟩ : ByteArray))))))) = some (r1, r2) := by rw [if_neg (show ¬ (false = true) by decide)] at H; exact H
                              clear H
                              have H := H1
                              clear H1
                              by_cases c20 : a0 = 16
                              · rw [if_pos c20] at H
                                have c20b0 : (a0 == 16) = true := beq_iff_eq.mpr c20
                                have c20b1 : (a0 != 16) = false := bne_eq_false_iff_eq.mpr c20
                                clear c20
                                simp only [Option.some.injEq, Prod.mk.injEq] at H
                                obtain ⟨rfl, rfl⟩ := H
                                go_wp2
                                go_ret2
                                exact ⟨xg, xz⟩
                              · rw [if_neg c20] at H
                                have c20b0 : (a0 == 16) = false := beq_eq_false_iff_ne.mpr c20
                                have c20b1 : (a0 != 16) = true := bne_iff_ne.mpr c20
                                by_cases c21 : a0 = 17
                                · rw [if_pos c21] at H
                                  have c21b0 : (a0 == 17) = true := beq_iff_eq.mpr c21
                                  have c21b1 : (a0 != 17) = false := bne_eq_false_iff_eq.mpr c21
                                  clear c21
                                  simp only [Option.some.injEq, Prod.mk.injEq] at H
                                  obtain ⟨rfl, rfl⟩ := H
                                  go_wp2
                                  go_ret2
                                  exact ⟨xg, xz⟩
                                · rw [if_neg c21] at H
                                  have c21b0 : (a0 == 17) = false := beq_eq_false_iff_ne.mpr c21
                                  have c21b1 : (a0 != 17) = true := bne_iff_ne.mpr c21
                                  by_cases c22 : a0 = 19
                                  · rw [if_pos c22] at H
                                    have c22b0 : (a0 == 19) = true := beq_iff_eq.mpr c22
                                    have c22b1 : (a0 != 19) = false := bne_eq_false_iff_eq.mpr c22
                                    clear c22
                                    simp only [Option.some.injEq, Prod.mk.injEq] at H
                                    obtain ⟨rfl, rfl⟩ := H
                                    go_wp2
                                    go_ret2
                                    exact ⟨xg, xz⟩
                                  · rw [if_neg c22] at H
                                    have c22b0 : (a0 == 19) = false := beq_eq_false_iff_ne.mpr c22
                                    have c22b1 : (a0 != 19) = true := bne_iff_ne.mpr c22
                                    by_cases c23 : a0 = 21
                                    · rw [if_pos c23] at H
                                      have c23b0 : (a0 == 21) = true := beq_iff_eq.mpr c23
                                      have c23b1 : (a0 != 21) = false := bne_eq_false_iff_eq.mpr c23
                                      clear c23
                                      simp only [Option.some.injEq, Prod.mk.injEq] at H
                                      obtain ⟨rfl, rfl⟩ := H
                                      go_wp2
                                      go_ret2
                                      exact ⟨xg, xz⟩
                                    · rw [if_neg c23] at H
                                      have c23b0 : (a0 == 21) = false := beq_eq_false_iff_ne.mpr c23
                                      have c23b1 : (a0 != 21) = true := bne_iff_ne.mpr c23
                                      simp only [Option.some.injEq, Prod.mk.injEq] at H
                                      obtain ⟨rfl, rfl⟩ := H
                                      go_wp2
                                      go_ret2
                                      exact ⟨xg, xz⟩

end Go.Proofs.YtejmgcfjpofniaaGreatDoor.PX
/- Walked functions, by this session's program over the kit's print. -/
namespace Go.Proofs.YtejmgcfjpofniaaGreatDoor.PX
open Go.RowKit Go.Proofs.YtejmgcfjpofniaaGreatDoorW.PrintWords Go.Proofs.YtejmgcfjpofniaaGreatDoorW.PrintLast Go.Proofs.YtejmgcfjpofniaaGreatDoorW.PrintMore
attribute [local go_sem] xm_gtr max2_int min2_int max_two min_two max_three min_three max_four min_four   -- for this text's walks alone
set_option linter.unusedVariables false
set_option linter.unusedSimpArgs false

/-! ### threshingref13_Arity: function 44 -/
def threshingref13_Arity.f (k : Nat) (a0 : Int) : Option (Int) := (threshingref13_kinds.f k a0).bind fun bt102 => (some (bt102.1.size : Int))
theorem threshingref13_Arity.mono : ∀ a0 k, LeO (threshingref13_Arity.f k a0) (threshingref13_Arity.f (k + 1) a0) := by
  intro a0 k
  unfold threshingref13_Arity.f
  repeat' first
      | (with_reducible exact threshingref13_kinds.mono _ _)
      | (with_reducible exact LeO.refl _)
      | (with_reducible exact LeO.none _)
      | (with_reducible refine LeO.ite ?_ ?_)
      | (with_reducible refine LeO.bind ?_ (fun _ => ?_))
      | exact threshingref13_kinds.mono _ _
      | exact LeO.none _
      | refine LeO.ite ?_ ?_
      | refine LeO.bind ?_ (fun _ => ?_)
set_option maxHeartbeats 8000000 in
set_option maxRecDepth 100000 in
theorem threshingref13_Arity.calls (k : Nat) (a0 : Int) (r : Int) (w : World) (hT : Tabs w) (h : threshingref13_Arity.f k a0 = some r) :
    Calls Tryz.prog 44 #[.int .i64 a0] w fun e w' => e = .returned (.int .i64 r) ∧ Drawn0 w w' := by
  have H : ((threshingref13_kinds.f k a0).bind fun bt102 => (some (bt102.1.size : Int))) = some r := h
  clear h
  replace H := Option.bind_eq_some_iff.mp H
  obtain ⟨⟨t102, t103⟩, A20, H⟩ := H
  replace H : (some (t102.size : Int)) = some r := H
  have A2 := Aside0.mk A20
  clear A20
  obtain rfl := Option.some.inj H
  go_enter Tryz.func44, Tryz.ntmps44
  go_wp2_with (((with_reducible refine gate_callee (f := 58) rfl ?_); refine goesL_ (some 7) rfl rfl Tryz.func58 (by kernel_rfl) rfl #[.int .i64 a0] rfl xr ?_; (with_reducible refine (threshingref13_kinds.calls k a0 t102 t103 _ (Tabs.below hT xf) A2.out).mono ?_); rintro e w' ⟨rfl, ⟨nd, rfl⟩⟩; refine ⟨_, rfl, ?_⟩))
  go_ret
  exact ⟨xg, xz⟩

end Go.Proofs.YtejmgcfjpofniaaGreatDoor.PX
