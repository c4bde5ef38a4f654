/- Walked functions, by this session's program over the kit's print. -/
import Derived.Test.YtejmgcfjpofniaaGreatDoorPXx0
import Derived.Test.YtejmgcfjpofniaaGreatDoorPXx9
import Derived.Test.YtejmgcfjpofniaaGreatDoorPXx11
/- Walked functions, by this session's program over the kit's print. -/
namespace Go.Proofs.YtejmgcfjpofniaaGreatDoor.PX
open Go.RowKit Go.Proofs.YtejmgcfjpofniaaGreatDoorW.PrintWords Go.Proofs.YtejmgcfjpofniaaGreatDoorW.PrintLast Go.Proofs.YtejmgcfjpofniaaGreatDoorW.PrintMore
attribute [local go_sem] xm_gtr max2_int min2_int max_two min_two max_three min_three max_four min_four   -- for this text's walks alone
set_option linter.unusedVariables false
set_option linter.unusedSimpArgs false

/-! ### value_val_eq: function 91 -/
def value_val_eq.f (k : Nat) (a0_0 : Bool) (a0_1 : Int) (a0_2 : ByteArray) (a1_0 : Bool) (a1_1 : Int) (a1_2 : ByteArray) (a2_0 : Bool) (a2_1 : Int) (a2_2 : ByteArray) : Option (Bool × Int × ByteArray) := (value_Compare.f k a0_0 a0_1 a0_2 a1_0 a1_1 a1_2).bind fun t277 => ((value_yes.f (t277 == 0)).bind fun bt278 => (some (bt278.1, bt278.2.1, bt278.2.2)))
theorem value_val_eq.mono : ∀ a0 a1 a2 a3 a4 a5 a6 a7 a8 k, LeO (value_val_eq.f k a0 a1 a2 a3 a4 a5 a6 a7 a8) (value_val_eq.f (k + 1) a0 a1 a2 a3 a4 a5 a6 a7 a8) := by
  intro a0 a1 a2 a3 a4 a5 a6 a7 a8 k
  unfold value_val_eq.f
  repeat' first
      | (with_reducible exact value_Compare.mono _ _ _ _ _ _ _)
      | (with_reducible exact LeO.refl _)
      | (with_reducible exact LeO.none _)
      | (with_reducible refine LeO.ite ?_ ?_)
      | (with_reducible refine LeO.bind ?_ (fun _ => ?_))
      | exact value_Compare.mono _ _ _ _ _ _ _
      | exact LeO.none _
      | refine LeO.ite ?_ ?_
      | refine LeO.bind ?_ (fun _ => ?_)
set_option maxHeartbeats 8000000 in
set_option maxRecDepth 100000 in
theorem value_val_eq.calls (k : Nat) (a0_0 : Bool) (a0_1 : Int) (a0_2 : ByteArray) (a1_0 : Bool) (a1_1 : Int) (a1_2 : ByteArray) (a2_0 : Bool) (a2_1 : Int) (a2_2 : ByteArray) (r1 : Bool) (r2 : Int) (r3 : ByteArray) (w : World) (hT : Tabs w) (h : value_val_eq.f k a0_0 a0_1 a0_2 a1_0 a1_1 a1_2 a2_0 a2_1 a2_2 = some (r1, r2, r3)) :
    Calls Tryz.prog 91 #[.agg #[.bool a0_0, .int .i64 a0_1, .string a0_2], .agg #[.bool a1_0, .int .i64 a1_1, .string a1_2], .agg #[.bool a2_0, .int .i64 a2_1, .string a2_2]] w fun e w' => e = .returned (.agg #[.bool r1, .int .i64 r2, .string r3]) ∧ Below w.heap.size w w' := by
  have hu111 := Tryz.underlying111
  have hu44 := Tryz.underlying44
  have HB := Aside0.mk (Below.refl w.heap.size w)
  have H : ((value_Compare.f k a0_0 a0_1 a0_2 a1_0 a1_1 a1_2).bind fun t277 => ((value_yes.f (t277 == 0)).bind fun bt278 => (some (bt278.1, bt278.2.1, bt278.2.2)))) = some (r1, r2, r3) := h
  clear h
  replace H := Option.bind_eq_some_iff.mp H
  obtain ⟨t277, A40, H⟩ := H
  replace H : ((value_yes.f (t277 == 0)).bind fun bt278 => (some (bt278.1, bt278.2.1, bt278.2.2))) = some (r1, r2, r3) := H
  have A4 := Aside0.mk A40
  clear A40
  replace H := Option.bind_eq_some_iff.mp H
  obtain ⟨⟨t278, t279, t280⟩, A50, H⟩ := H
  replace H : (some (t278, t279, t280)) = some (r1, r2, r3) := H
  have A5 := Aside0.mk A50
  clear A50
  simp only [Option.some.injEq, Prod.mk.injEq] at H
  obtain ⟨rfl, rfl, rfl⟩ := H
  go_enter Tryz.func91, Tryz.ntmps91
  go_wp2_with (first | ((with_reducible refine gate_dst (N := 3) rfl ?_); refine box_event ?hg (N := 3) ?hd (cs := #[.bool a0_0, .int .i64 a0_1, .string a0_2]) (t := 111) ?hr ?_; (case hd => rfl); (case hg => rfl); (case hr => exact xh); intro gb273 hg w6 hbox hb; have n0_ := Aside0.mk (below_step xb hb); have n1_ := Aside0.mk (hbox); have n2_ := xs w hg; have n3_ := xs w hg; clear HB; have HB := n0_; have BK273 := n1_; have GW273 := n2_; have GE273 := n3_; clear n0_ n1_ n2_ n3_; clear hb hbox hg) | ((with_reducible refine gate_dst (N := 4) rfl ?_); refine box_event ?hg (N := 4) ?hd (cs := #[.bool a1_0, .int .i64 a1_1, .string a1_2]) (t := 111) ?hr ?_; (case hd => rfl); (case hg => rfl); (case hr => exact xh); intro gb274 hg w7 hbox hb; have n0_ := xd BK273.out hb; have n1_ := Aside0.mk (below_step xb hb); have n2_ := Aside0.mk (hbox); have n3_ := xs w hg; have n4_ := xs w hg; have n5_ := xn hg BK273.out; have n6_ := xp hg BK273.out; clear BK273; clear HB; have BK273 := n0_; have HB := n1_; have BK274 := n2_; have GW274 := n3_; have GE274 := n4_; have NB273_274 := n5_; have NB274_273 := n6_; clear n0_ n1_ n2_ n3_ n4_ n5_ n6_; clear hb hbox hg) | ((with_reducible refine gate_dst (N := 5) rfl ?_); refine box_event ?hg (N := 5) ?hd (cs := #[.bool a2_0, .int .i64 a2_1, .string a2_2]) (t := 111) ?hr ?_; (case hd => rfl); (case hg => rfl); (case hr => exact xh); intro gb275 hg w8 hbox hb; have n0_ := xd BK273.out hb; have n1_ := xd BK274.out hb; have n2_ := Aside0.mk (below_step xb hb); have n3_ := Aside0.mk (hbox); have n4_ := xs w hg; have n5_ := xs w hg; have n6_ := xn hg BK273.out; have n7_ := xp hg BK273.out; have n8_ := xn hg BK274.out; have n9_ := xp hg BK274.out; clear BK273; clear BK274; clear HB; have BK273 := n0_; have BK274 := n1_; have HB := n2_; have BK275 := n3_; have GW275 := n4_; have GE275 := n5_; have NB273_275 := n6_; have NB275_273 := n7_; have NB274_275 := n8_; have NB275_274 := n9_; clear n0_ n1_ n2_ n3_ n4_ n5_ n6_ n7_ n8_ n9_; clear hb hbox hg) | ((with_reducible refine gate_dst (N := 6) rfl ?_); refine box_event ?hg (N := 6) ?hd (cs := #[.bool false, .int .i64 0, .string (⟨#[]⟩ : ByteArray)]) (t := 44) ?hr ?_; (case hd => rfl); (case hg => rfl); (case hr => exact xh); intro gb276 hg w9 hbox hb; have n0_ := xd BK273.out hb; have n1_ := xd BK274.out hb; have n2_ := xd BK275.out hb; have n3_ := Aside0.mk (below_step xb hb); have n4_ := Aside0.mk (hbox); have n5_ := xs w hg; have n6_ := xs w hg; have n7_ := xn hg BK273.out; have n8_ := xp hg BK273.out; have n9_ := xn hg BK274.out; have n10_ := xp hg BK274.out; have n11_ := xn hg BK275.out; have n12_ := xp hg BK275.out; clear BK273; clear BK274; clear BK275; clear HB; have BK273 := n0_; have BK274 := n1_; have BK275 := n2_; have HB := n3_; have BK276 := n4_; have GW276 := n5_; have GE276 := n6_; have NB273_276 := n7_; have NB276_273 := n8_; have NB274_276 := n9_; have NB276_274 := n10_; have NB275_276 := n11_; have NB276_275 := n12_; clear n0_ n1_ n2_ n3_ n4_ n5_ n6_ n7_ n8_ n9_ n10_ n11_ n12_; clear hb hbox hg; have hnb10 := NB273_274.out; have hnc10 := NB274_273.out; have hnb11 := NB273_275.out; have hnc11 := NB275_273.out; have hnb12 := NB273_276.out; have hnc12 := NB276_273.out; have hcz13_0 : w9.cell? ⟨gb273, 0, none⟩ = some (.bool a0_0) := (blk_cell BK273.out 0).trans rfl; have hcz13_1 : w9.cell? ⟨gb273, 1, none⟩ = some (.int .i64 a0_1) := (blk_cell BK273.out 1).trans rfl; have hcz13_2 : w9.cell? ⟨gb273, 2, none⟩ = some (.string a0_2) := (blk_cell BK273.out 2).trans rfl; have hfz13_0 := blk_frozen BK273.out 0; have hfz13_1 := blk_frozen BK273.out 1; have hfz13_2 := blk_frozen BK273.out 2; have hnb14 := NB274_275.out; have hnc14 := NB275_274.out; have hnb15 := NB274_276.out; have hnc15 := NB276_274.out; have hcz16_0 : w9.cell? ⟨gb274, 0, none⟩ = some (.bool a1_0) := (blk_cell BK274.out 0).trans rfl; have hcz16_1 : w9.cell? ⟨gb274, 1, none⟩ = some (.int .i64 a1_1) := (blk_cell BK274.out 1).trans rfl; have hcz16_2 : w9.cell? ⟨gb274, 2, none⟩ = some (.string a1_2) := (blk_cell BK274.out 2).trans rfl; have hfz16_0 := blk_frozen BK274.out 0; have hfz16_1 := blk_frozen BK274.out 1; have hfz16_2 := blk_frozen BK274.out 2) | ((with_reducible refine gate_callee (f := 103) rfl ?_); refine goesL_ (some 9) rfl rfl Tryz.func103 (by kernel_rfl) rfl #[.agg #[.bool a0_0, .int .i64 a0_1, .string a0_2], .agg #[.bool a1_0, .int .i64 a1_1, .string a1_2]] rfl xr ?_; (with_reducible refine (value_Compare.calls k a0_0 a0_1 a0_2 a1_0 a1_1 a1_2 t277 _ (Tabs.below hT xf) A4.out).mono ?_); rintro e w17 ⟨rfl, hb⟩; refine ⟨_, rfl, ?_⟩; have n0_ := xd BK273.out hb; have n1_ := xd BK274.out hb; have n2_ := xd BK275.out hb; have n3_ := xd BK276.out hb; have n4_ := Aside0.mk (below_step xb hb); clear BK273; clear BK274; clear BK275; clear BK276; clear HB; have BK273 := n0_; have BK274 := n1_; have BK275 := n2_; have BK276 := n3_; have HB := n4_; clear n0_ n1_ n2_ n3_ n4_; (try clear hb); (try clear hb2); (try clear hk); (try clear hi)) | ((with_reducible refine gate_callee (f := 102) rfl ?_); refine goesL_ (some 11) rfl rfl Tryz.func102 (by kernel_rfl) rfl #[.bool (t277 == 0)] rfl xr ?_; (with_reducible refine (value_yes.calls (t277 == 0) t278 t279 t280 _ (Tabs.below hT xf) A5.out).mono ?_); rintro e w18 ⟨rfl, hb⟩; refine ⟨_, rfl, ?_⟩; have n0_ := xd BK273.out hb; have n1_ := xd BK274.out hb; have n2_ := xd BK275.out hb; have n3_ := xd BK276.out hb; have n4_ := Aside0.mk (below_step xb hb); clear BK273; clear BK274; clear BK275; clear BK276; clear HB; have BK273 := n0_; have BK274 := n1_; have BK275 := n2_; have BK276 := n3_; have HB := n4_; clear n0_ n1_ n2_ n3_ n4_; (try clear hb); (try clear hb2); (try clear hk); (try clear hi); have hnb19 := NB276_275.out; have hnc19 := NB275_276.out; have hcz20_0 : w18.cell? ⟨gb276, 0, none⟩ = some (.bool false) := (blk_cell BK276.out 0).trans rfl; have hcz20_1 : w18.cell? ⟨gb276, 1, none⟩ = some (.int .i64 0) := (blk_cell BK276.out 1).trans rfl; have hcz20_2 : w18.cell? ⟨gb276, 2, none⟩ = some (.string (⟨#[]⟩ : ByteArray)) := (blk_cell BK276.out 2).trans rfl; have hfz20_0 := blk_frozen BK276.out 0; have hfz20_1 := blk_frozen BK276.out 1; have hfz20_2 := blk_frozen BK276.out 2))
  refine bodyPost_ret (results_cell_row rfl _ _ gb276 44 #[.bool t278, .int .i64 t279, .string t280] (0, 0) _ rfl (by (with_reducible repeat (first | refine blk_drewN ?_ _ | refine blk_drew ?_ | refine blk_alloc ?_ _)); refine blk_put (cs := #[.bool t278, .int .i64 t279, .string (⟨#[]⟩ : ByteArray)]) ?_ 2 _ rfl; (with_reducible repeat (first | refine blk_drewN ?_ _ | refine blk_drew ?_ | refine blk_alloc ?_ _)); refine blk_put (cs := #[.bool t278, .int .i64 0, .string (⟨#[]⟩ : ByteArray)]) ?_ 1 _ rfl; (with_reducible repeat (first | refine blk_drewN ?_ _ | refine blk_drew ?_ | refine blk_alloc ?_ _)); refine blk_put (cs := #[.bool false, .int .i64 0, .string (⟨#[]⟩ : ByteArray)]) ?_ 0 _ rfl; (with_reducible repeat (first | refine blk_drewN ?_ _ | refine blk_drew ?_ | refine blk_alloc ?_ _)); exact BK276.out) Tryz.underlying44 rfl (by kernel_rfl)) rfl ?_
  exact ⟨xe, xb⟩

/-! ### value_val_less: function 92 -/
def value_val_less.f (k : Nat) (a0_0 : Bool) (a0_1 : Int) (a0_2 : ByteArray) (a1_0 : Bool) (a1_1 : Int) (a1_2 : ByteArray) (a2_0 : Bool) (a2_1 : Int) (a2_2 : ByteArray) : Option (Bool × Int × ByteArray) := (value_Compare.f k a0_0 a0_1 a0_2 a1_0 a1_1 a1_2).bind fun t285 => ((value_yes.f (decide (t285 < 0))).bind fun bt286 => (some (bt286.1, bt286.2.1, bt286.2.2)))
theorem value_val_less.mono : ∀ a0 a1 a2 a3 a4 a5 a6 a7 a8 k, LeO (value_val_less.f k a0 a1 a2 a3 a4 a5 a6 a7 a8) (value_val_less.f (k + 1) a0 a1 a2 a3 a4 a5 a6 a7 a8) := by
  intro a0 a1 a2 a3 a4 a5 a6 a7 a8 k
  unfold value_val_less.f
  repeat' first
      | (with_reducible exact value_Compare.mono _ _ _ _ _ _ _)
      | (with_reducible exact LeO.refl _)
      | (with_reducible exact LeO.none _)
      | (with_reducible refine LeO.ite ?_ ?_)
      | (with_reducible refine LeO.bind ?_ (fun _ => ?_))
      | exact value_Compare.mono _ _ _ _ _ _ _
      | exact LeO.none _
      | refine LeO.ite ?_ ?_
      | refine LeO.bind ?_ (fun _ => ?_)
set_option maxHeartbeats 8000000 in
set_option maxRecDepth 100000 in
theorem value_val_less.calls (k : Nat) (a0_0 : Bool) (a0_1 : Int) (a0_2 : ByteArray) (a1_0 : Bool) (a1_1 : Int) (a1_2 : ByteArray) (a2_0 : Bool) (a2_1 : Int) (a2_2 : ByteArray) (r1 : Bool) (r2 : Int) (r3 : ByteArray) (w : World) (hT : Tabs w) (h : value_val_less.f k a0_0 a0_1 a0_2 a1_0 a1_1 a1_2 a2_0 a2_1 a2_2 = some (r1, r2, r3)) :
    Calls Tryz.prog 92 #[.agg #[.bool a0_0, .int .i64 a0_1, .string a0_2], .agg #[.bool a1_0, .int .i64 a1_1, .string a1_2], .agg #[.bool a2_0, .int .i64 a2_1, .string a2_2]] w fun e w' => e = .returned (.agg #[.bool r1, .int .i64 r2, .string r3]) ∧ Below w.heap.size w w' := by
  have hu111 := Tryz.underlying111
  have hu44 := Tryz.underlying44
  have HB := Aside0.mk (Below.refl w.heap.size w)
  have H : ((value_Compare.f k a0_0 a0_1 a0_2 a1_0 a1_1 a1_2).bind fun t285 => ((value_yes.f (decide (t285 < 0))).bind fun bt286 => (some (bt286.1, bt286.2.1, bt286.2.2)))) = some (r1, r2, r3) := h
  clear h
  replace H := Option.bind_eq_some_iff.mp H
  obtain ⟨t285, A40, H⟩ := H
  replace H : ((value_yes.f (decide (t285 < 0))).bind fun bt286 => (some (bt286.1, bt286.2.1, bt286.2.2))) = some (r1, r2, r3) := H
  have A4 := Aside0.mk A40
  clear A40
  replace H := Option.bind_eq_some_iff.mp H
  obtain ⟨⟨t286, t287, t288⟩, A50, H⟩ := H
  replace H : (some (t286, t287, t288)) = some (r1, r2, r3) := H
  have A5 := Aside0.mk A50
  clear A50
  simp only [Option.some.injEq, Prod.mk.injEq] at H
  obtain ⟨rfl, rfl, rfl⟩ := H
  go_enter Tryz.func92, Tryz.ntmps92
  go_wp2_with (first | ((with_reducible refine gate_dst (N := 3) rfl ?_); refine box_event ?hg (N := 3) ?hd (cs := #[.bool a0_0, .int .i64 a0_1, .string a0_2]) (t := 111) ?hr ?_; (case hd => rfl); (case hg => rfl); (case hr => exact xh); intro gb281 hg w6 hbox hb; have n0_ := Aside0.mk (below_step xb hb); have n1_ := Aside0.mk (hbox); have n2_ := xs w hg; have n3_ := xs w hg; clear HB; have HB := n0_; have BK281 := n1_; have GW281 := n2_; have GE281 := n3_; clear n0_ n1_ n2_ n3_; clear hb hbox hg) | ((with_reducible refine gate_dst (N := 4) rfl ?_); refine box_event ?hg (N := 4) ?hd (cs := #[.bool a1_0, .int .i64 a1_1, .string a1_2]) (t := 111) ?hr ?_; (case hd => rfl); (case hg => rfl); (case hr => exact xh); intro gb282 hg w7 hbox hb; have n0_ := xd BK281.out hb; have n1_ := Aside0.mk (below_step xb hb); have n2_ := Aside0.mk (hbox); have n3_ := xs w hg; have n4_ := xs w hg; have n5_ := xn hg BK281.out; have n6_ := xp hg BK281.out; clear BK281; clear HB; have BK281 := n0_; have HB := n1_; have BK282 := n2_; have GW282 := n3_; have GE282 := n4_; have NB281_282 := n5_; have NB282_281 := n6_; clear n0_ n1_ n2_ n3_ n4_ n5_ n6_; clear hb hbox hg) | ((with_reducible refine gate_dst (N := 5) rfl ?_); refine box_event ?hg (N := 5) ?hd (cs := #[.bool a2_0, .int .i64 a2_1, .string a2_2]) (t := 111) ?hr ?_; (case hd => rfl); (case hg => rfl); (case hr => exact xh); intro gb283 hg w8 hbox hb; have n0_ := xd BK281.out hb; have n1_ := xd BK282.out hb; have n2_ := Aside0.mk (below_step xb hb); have n3_ := Aside0.mk (hbox); have n4_ := xs w hg; have n5_ := xs w hg; have n6_ := xn hg BK281.out; have n7_ := xp hg BK281.out; have n8_ := xn hg BK282.out; have n9_ := xp hg BK282.out; clear BK281; clear BK282; clear HB; have BK281 := n0_; have BK282 := n1_; have HB := n2_; have BK283 := n3_; have GW283 := n4_; have GE283 := n5_; have NB281_283 := n6_; have NB283_281 := n7_; have NB282_283 := n8_; have NB283_282 := n9_; clear n0_ n1_ n2_ n3_ n4_ n5_ n6_ n7_ n8_ n9_; clear hb hbox hg) | ((with_reducible refine gate_dst (N := 6) rfl ?_); refine box_event ?hg (N := 6) ?hd (cs := #[.bool false, .int .i64 0, .string (⟨#[]⟩ : ByteArray)]) (t := 44) ?hr ?_; (case hd => rfl); (case hg => rfl); (case hr => exact xh); intro gb284 hg w9 hbox hb; have n0_ := xd BK281.out hb; have n1_ := xd BK282.out hb; have n2_ := xd BK283.out hb; have n3_ := Aside0.mk (below_step xb hb); have n4_ := Aside0.mk (hbox); have n5_ := xs w hg; have n6_ := xs w hg; have n7_ := xn hg BK281.out; have n8_ := xp hg BK281.out; have n9_ := xn hg BK282.out; have n10_ := xp hg BK282.out; have n11_ := xn hg BK283.out; have n12_ := xp hg BK283.out; clear BK281; clear BK282; clear BK283; clear HB; have BK281 := n0_; have BK282 := n1_; have BK283 := n2_; have HB := n3_; have BK284 := n4_; have GW284 := n5_; have GE284 := n6_; have NB281_284 := n7_; have NB284_281 := n8_; have NB282_284 := n9_; have NB284_282 := n10_; have NB283_284 := n11_; have NB284_283 := n12_; clear n0_ n1_ n2_ n3_ n4_ n5_ n6_ n7_ n8_ n9_ n10_ n11_ n12_; clear hb hbox hg; have hnb10 := NB281_282.out; have hnc10 := NB282_281.out; have hnb11 := NB281_283.out; have hnc11 := NB283_281.out; have hnb12 := NB281_284.out; have hnc12 := NB284_281.out; have hcz13_0 : w9.cell? ⟨gb281, 0, none⟩ = some (.bool a0_0) := (blk_cell BK281.out 0).trans rfl; have hcz13_1 : w9.cell? ⟨gb281, 1, none⟩ = some (.int .i64 a0_1) := (blk_cell BK281.out 1).trans rfl; have hcz13_2 : w9.cell? ⟨gb281, 2, none⟩ = some (.string a0_2) := (blk_cell BK281.out 2).trans rfl; have hfz13_0 := blk_frozen BK281.out 0; have hfz13_1 := blk_frozen BK281.out 1; have hfz13_2 := blk_frozen BK281.out 2; have hnb14 := NB282_283.out; have hnc14 := NB283_282.out; have hnb15 := NB282_284.out; have hnc15 := NB284_282.out; have hcz16_0 : w9.cell? ⟨gb282, 0, none⟩ = some (.bool a1_0) := (blk_cell BK282.out 0).trans rfl; have hcz16_1 : w9.cell? ⟨gb282, 1, none⟩ = some (.int .i64 a1_1) := (blk_cell BK282.out 1).trans rfl; have hcz16_2 : w9.cell? ⟨gb282, 2, none⟩ = some (.string a1_2) := (blk_cell BK282.out 2).trans rfl; have hfz16_0 := blk_frozen BK282.out 0; have hfz16_1 := blk_frozen BK282.out 1; have hfz16_2 := blk_frozen BK282.out 2) | ((with_reducible refine gate_callee (f := 103) rfl ?_); refine goesL_ (some 9) rfl rfl Tryz.func103 (by kernel_rfl) rfl #[.agg #[.bool a0_0, .int .i64 a0_1, .string a0_2], .agg #[.bool a1_0, .int .i64 a1_1, .string a1_2]] rfl xr ?_; (with_reducible refine (value_Compare.calls k a0_0 a0_1 a0_2 a1_0 a1_1 a1_2 t285 _ (Tabs.below hT xf) A4.out).mono ?_); rintro e w17 ⟨rfl, hb⟩; refine ⟨_, rfl, ?_⟩; have n0_ := xd BK281.out hb; have n1_ := xd BK282.out hb; have n2_ := xd BK283.out hb; have n3_ := xd BK284.out hb; have n4_ := Aside0.mk (below_step xb hb); clear BK281; clear BK282; clear BK283; clear BK284; clear HB; have BK281 := n0_; have BK282 := n1_; have BK283 := n2_; have BK284 := n3_; have HB := n4_; clear n0_ n1_ n2_ n3_ n4_; (try clear hb); (try clear hb2); (try clear hk); (try clear hi)) | ((with_reducible refine gate_callee (f := 102) rfl ?_); refine goesL_ (some 11) rfl rfl Tryz.func102 (by kernel_rfl) rfl #[.bool (decide (t285 < 0))] rfl xr ?_; (with_reducible refine (value_yes.calls (decide (t285 < 0)) t286 t287 t288 _ (Tabs.below hT xf) A5.out).mono ?_); rintro e w18 ⟨rfl, hb⟩; refine ⟨_, rfl, ?_⟩; have n0_ := xd BK281.out hb; have n1_ := xd BK282.out hb; have n2_ := xd BK283.out hb; have n3_ := xd BK284.out hb; have n4_ := Aside0.mk (below_step xb hb); clear BK281; clear BK282; clear BK283; clear BK284; clear HB; have BK281 := n0_; have BK282 := n1_; have BK283 := n2_; have BK284 := n3_; have HB := n4_; clear n0_ n1_ n2_ n3_ n4_; (try clear hb); (try clear hb2); (try clear hk); (try clear hi); have hnb19 := NB284_283.out; have hnc19 := NB283_284.out; have hcz20_0 : w18.cell? ⟨gb284, 0, none⟩ = some (.bool false) := (blk_cell BK284.out 0).trans rfl; have hcz20_1 : w18.cell? ⟨gb284, 1, none⟩ = some (.int .i64 0) := (blk_cell BK284.out 1).trans rfl; have hcz20_2 : w18.cell? ⟨gb284, 2, none⟩ = some (.string (⟨#[]⟩ : ByteArray)) := (blk_cell BK284.out 2).trans rfl; have hfz20_0 := blk_frozen BK284.out 0; have hfz20_1 := blk_frozen BK284.out 1; have hfz20_2 := blk_frozen BK284.out 2))
  refine bodyPost_ret (results_cell_row rfl _ _ gb284 44 #[.bool t286, .int .i64 t287, .string t288] (0, 0) _ rfl (by (with_reducible repeat (first | refine blk_drewN ?_ _ | refine blk_drew ?_ | refine blk_alloc ?_ _)); refine blk_put (cs := #[.bool t286, .int .i64 t287, .string (⟨#[]⟩ : ByteArray)]) ?_ 2 _ rfl; (with_reducible repeat (first | refine blk_drewN ?_ _ | refine blk_drew ?_ | refine blk_alloc ?_ _)); refine blk_put (cs := #[.bool t286, .int .i64 0, .string (⟨#[]⟩ : ByteArray)]) ?_ 1 _ rfl; (with_reducible repeat (first | refine blk_drewN ?_ _ | refine blk_drew ?_ | refine blk_alloc ?_ _)); refine blk_put (cs := #[.bool false, .int .i64 0, .string (⟨#[]⟩ : ByteArray)]) ?_ 0 _ rfl; (with_reducible repeat (first | refine blk_drewN ?_ _ | refine blk_drew ?_ | refine blk_alloc ?_ _)); exact BK284.out) Tryz.underlying44 rfl (by kernel_rfl)) rfl ?_
  exact ⟨xe, xb⟩

/-! ### value_val_not: function 93 -/
def value_val_not.f (a0_0 : Bool) (a0_1 : Int) (a0_2 : ByteArray) (a1_0 : Bool) (a1_1 : Int) (a1_2 : ByteArray) (a2_0 : Bool) (a2_1 : Int) (a2_2 : ByteArray) : Option (Bool × Int × ByteArray) := (value_yes.f (a0_1 == 0)).bind fun bt293 => (some (bt293.1, bt293.2.1, bt293.2.2))
set_option maxHeartbeats 8000000 in
set_option maxRecDepth 100000 in
theorem value_val_not.calls (a0_0 : Bool) (a0_1 : Int) (a0_2 : ByteArray) (a1_0 : Bool) (a1_1 : Int) (a1_2 : ByteArray) (a2_0 : Bool) (a2_1 : Int) (a2_2 : ByteArray) (r1 : Bool) (r2 : Int) (r3 : ByteArray) (w : World) (hT : Tabs w) (h : value_val_not.f a0_0 a0_1 a0_2 a1_0 a1_1 a1_2 a2_0 a2_1 a2_2 = some (r1, r2, r3)) :
    Calls Tryz.prog 93 #[.agg #[.bool a0_0, .int .i64 a0_1, .string a0_2], .agg #[.bool a1_0, .int .i64 a1_1, .string a1_2], .agg #[.bool a2_0, .int .i64 a2_1, .string a2_2]] w fun e w' => e = .returned (.agg #[.bool r1, .int .i64 r2, .string r3]) ∧ Below w.heap.size w w' := by
  have hu111 := Tryz.underlying111
  have hu44 := Tryz.underlying44
  have HB := Aside0.mk (Below.refl w.heap.size w)
  have H : ((value_yes.f (a0_1 == 0)).bind fun bt293 => (some (bt293.1, bt293.2.1, bt293.2.2))) = some (r1, r2, r3) := h
  clear h
  replace H := Option.bind_eq_some_iff.mp H
  obtain ⟨⟨t293, t294, t295⟩, A40, H⟩ := H
  replace H : (some (t293, t294, t295)) = some (r1, r2, r3) := H
  have A4 := Aside0.mk A40
  clear A40
  simp only [Option.some.injEq, Prod.mk.injEq] at H
  obtain ⟨rfl, rfl, rfl⟩ := H
  go_enter Tryz.func93, Tryz.ntmps93
  go_wp2_with (first | ((with_reducible refine gate_dst (N := 3) rfl ?_); refine box_event ?hg (N := 3) ?hd (cs := #[.bool a0_0, .int .i64 a0_1, .string a0_2]) (t := 111) ?hr ?_; (case hd => rfl); (case hg => rfl); (case hr => exact xh); intro gb289 hg w5 hbox hb; have n0_ := Aside0.mk (below_step xb hb); have n1_ := Aside0.mk (hbox); have n2_ := xs w hg; have n3_ := xs w hg; clear HB; have HB := n0_; have BK289 := n1_; have GW289 := n2_; have GE289 := n3_; clear n0_ n1_ n2_ n3_; clear hb hbox hg) | ((with_reducible refine gate_dst (N := 4) rfl ?_); refine box_event ?hg (N := 4) ?hd (cs := #[.bool a1_0, .int .i64 a1_1, .string a1_2]) (t := 111) ?hr ?_; (case hd => rfl); (case hg => rfl); (case hr => exact xh); intro gb290 hg w6 hbox hb; have n0_ := xd BK289.out hb; have n1_ := Aside0.mk (below_step xb hb); have n2_ := Aside0.mk (hbox); have n3_ := xs w hg; have n4_ := xs w hg; have n5_ := xn hg BK289.out; have n6_ := xp hg BK289.out; clear BK289; clear HB; have BK289 := n0_; have HB := n1_; have BK290 := n2_; have GW290 := n3_; have GE290 := n4_; have NB289_290 := n5_; have NB290_289 := n6_; clear n0_ n1_ n2_ n3_ n4_ n5_ n6_; clear hb hbox hg) | ((with_reducible refine gate_dst (N := 5) rfl ?_); refine box_event ?hg (N := 5) ?hd (cs := #[.bool a2_0, .int .i64 a2_1, .string a2_2]) (t := 111) ?hr ?_; (case hd => rfl); (case hg => rfl); (case hr => exact xh); intro gb291 hg w7 hbox hb; have n0_ := xd BK289.out hb; have n1_ := xd BK290.out hb; have n2_ := Aside0.mk (below_step xb hb); have n3_ := Aside0.mk (hbox); have n4_ := xs w hg; have n5_ := xs w hg; have n6_ := xn hg BK289.out; have n7_ := xp hg BK289.out; have n8_ := xn hg BK290.out; have n9_ := xp hg BK290.out; clear BK289; clear BK290; clear HB; have BK289 := n0_; have BK290 := n1_; have HB := n2_; have BK291 := n3_; have GW291 := n4_; have GE291 := n5_; have NB289_291 := n6_; have NB291_289 := n7_; have NB290_291 := n8_; have NB291_290 := n9_; clear n0_ n1_ n2_ n3_ n4_ n5_ n6_ n7_ n8_ n9_; clear hb hbox hg) | ((with_reducible refine gate_dst (N := 6) rfl ?_); refine box_event ?hg (N := 6) ?hd (cs := #[.bool false, .int .i64 0, .string (⟨#[]⟩ : ByteArray)]) (t := 44) ?hr ?_; (case hd => rfl); (case hg => rfl); (case hr => exact xh); intro gb292 hg w8 hbox hb; have n0_ := xd BK289.out hb; have n1_ := xd BK290.out hb; have n2_ := xd BK291.out hb; have n3_ := Aside0.mk (below_step xb hb); have n4_ := Aside0.mk (hbox); have n5_ := xs w hg; have n6_ := xs w hg; have n7_ := xn hg BK289.out; have n8_ := xp hg BK289.out; have n9_ := xn hg BK290.out; have n10_ := xp hg BK290.out; have n11_ := xn hg BK291.out; have n12_ := xp hg BK291.out; clear BK289; clear BK290; clear BK291; clear HB; have BK289 := n0_; have BK290 := n1_; have BK291 := n2_; have HB := n3_; have BK292 := n4_; have GW292 := n5_; have GE292 := n6_; have NB289_292 := n7_; have NB292_289 := n8_; have NB290_292 := n9_; have NB292_290 := n10_; have NB291_292 := n11_; have NB292_291 := n12_; clear n0_ n1_ n2_ n3_ n4_ n5_ n6_ n7_ n8_ n9_ n10_ n11_ n12_; clear hb hbox hg; have hnb9 := NB289_290.out; have hnc9 := NB290_289.out; have hnb10 := NB289_291.out; have hnc10 := NB291_289.out; have hnb11 := NB289_292.out; have hnc11 := NB292_289.out; have hcz12_0 : w8.cell? ⟨gb289, 0, none⟩ = some (.bool a0_0) := (blk_cell BK289.out 0).trans rfl; have hcz12_1 : w8.cell? ⟨gb289, 1, none⟩ = some (.int .i64 a0_1) := (blk_cell BK289.out 1).trans rfl; have hcz12_2 : w8.cell? ⟨gb289, 2, none⟩ = some (.string a0_2) := (blk_cell BK289.out 2).trans rfl; have hfz12_0 := blk_frozen BK289.out 0; have hfz12_1 := blk_frozen BK289.out 1; have hfz12_2 := blk_frozen BK289.out 2) | ((with_reducible refine gate_callee (f := 102) rfl ?_); refine goesL_ (some 10) rfl rfl Tryz.func102 (by kernel_rfl) rfl #[.bool (a0_1 == 0)] rfl xr ?_; (with_reducible refine (value_yes.calls (a0_1 == 0) t293 t294 t295 _ (Tabs.below hT xf) A4.out).mono ?_); rintro e w13 ⟨rfl, hb⟩; refine ⟨_, rfl, ?_⟩; have n0_ := xd BK289.out hb; have n1_ := xd BK290.out hb; have n2_ := xd BK291.out hb; have n3_ := xd BK292.out hb; have n4_ := Aside0.mk (below_step xb hb); clear BK289; clear BK290; clear BK291; clear BK292; clear HB; have BK289 := n0_; have BK290 := n1_; have BK291 := n2_; have BK292 := n3_; have HB := n4_; clear n0_ n1_ n2_ n3_ n4_; (try clear hb); (try clear hb2); (try clear hk); (try clear hi); have hnb14 := NB292_290.out; have hnc14 := NB290_292.out; have hnb15 := NB292_291.out; have hnc15 := NB291_292.out; have hcz16_0 : w13.cell? ⟨gb292, 0, none⟩ = some (.bool false) := (blk_cell BK292.out 0).trans rfl; have hcz16_1 : w13.cell? ⟨gb292, 1, none⟩ = some (.int .i64 0) := (blk_cell BK292.out 1).trans rfl; have hcz16_2 : w13.cell? ⟨gb292, 2, none⟩ = some (.string (⟨#[]⟩ : ByteArray)) := (blk_cell BK292.out 2).trans rfl; have hfz16_0 := blk_frozen BK292.out 0; have hfz16_1 := blk_frozen BK292.out 1; have hfz16_2 := blk_frozen BK292.out 2))
  refine bodyPost_ret (results_cell_row rfl _ _ gb292 44 #[.bool t293, .int .i64 t294, .string t295] (0, 0) _ rfl (by (with_reducible repeat (first | refine blk_drewN ?_ _ | refine blk_drew ?_ | refine blk_alloc ?_ _)); refine blk_put (cs := #[.bool t293, .int .i64 t294, .string (⟨#[]⟩ : ByteArray)]) ?_ 2 _ rfl; (with_reducible repeat (first | refine blk_drewN ?_ _ | refine blk_drew ?_ | refine blk_alloc ?_ _)); refine blk_put (cs := #[.bool t293, .int .i64 0, .string (⟨#[]⟩ : ByteArray)]) ?_ 1 _ rfl; (with_reducible repeat (first | refine blk_drewN ?_ _ | refine blk_drew ?_ | refine blk_alloc ?_ _)); refine blk_put (cs := #[.bool false, .int .i64 0, .string (⟨#[]⟩ : ByteArray)]) ?_ 0 _ rfl; (with_reducible repeat (first | refine blk_drewN ?_ _ | refine blk_drew ?_ | refine blk_alloc ?_ _)); exact BK292.out) Tryz.underlying44 rfl (by kernel_rfl)) rfl ?_
  exact ⟨xe, xb⟩

/-! ### value_val_choose: function 94 -/
def value_val_choose.f (a0_0 : Bool) (a0_1 : Int) (a0_2 : ByteArray) (a1_0 : Bool) (a1_1 : Int) (a1_2 : ByteArray) (a2_0 : Bool) (a2_1 : Int) (a2_2 : ByteArray) : Option (Bool × Int × ByteArray) := if a0_1 = 0 then (some (a2_0, a2_1, a2_2)) else (some (a1_0, a1_1, a1_2))
set_option maxHeartbeats 8000000 in
set_option maxRecDepth 100000 in
theorem value_val_choose.calls (a0_0 : Bool) (a0_1 : Int) (a0_2 : ByteArray) (a1_0 : Bool) (a1_1 : Int) (a1_2 : ByteArray) (a2_0 : Bool) (a2_1 : Int) (a2_2 : ByteArray) (r1 : Bool) (r2 : Int) (r3 : ByteArray) (w : World) (hT : Tabs w) (h : value_val_choose.f a0_0 a0_1 a0_2 a1_0 a1_1 a1_2 a2_0 a2_1 a2_2 = some (r1, r2, r3)) :
    Calls Tryz.prog 94 #[.agg #[.bool a0_0, .int .i64 a0_1, .string a0_2], .agg #[.bool a1_0, .int .i64 a1_1, .string a1_2], .agg #[.bool a2_0, .int .i64 a2_1, .string a2_2]] w fun e w' => e = .returned (.agg #[.bool r1, .int .i64 r2, .string r3]) ∧ Below w.heap.size w w' := by
  have hu111 := Tryz.underlying111
  have hu44 := Tryz.underlying44
  have HB := Aside0.mk (Below.refl w.heap.size w)
  have H : (if a0_1 = 0 then (some (a2_0, a2_1, a2_2)) else (some (a1_0, a1_1, a1_2))) = some (r1, r2, r3) := h
  clear h
  by_cases c4 : a0_1 = 0
  · rw [if_pos c4] at H
    have c4b0 : (a0_1 == 0) = true := beq_iff_eq.mpr c4
    have c4b1 : (a0_1 != 0) = false := bne_eq_false_iff_eq.mpr c4
    clear c4
    simp only [Option.some.injEq, Prod.mk.injEq] at H
    obtain ⟨rfl, rfl, rfl⟩ := H
    go_enter Tryz.func94, Tryz.ntmps94
    go_wp2_with (first | ((with_reducible refine gate_dst (N := 3) rfl ?_); refine box_event ?hg (N := 3) ?hd (cs := #[.bool a0_0, .int .i64 a0_1, .string a0_2]) (t := 111) ?hr ?_; (case hd => rfl); (case hg => rfl); (case hr => exact xh); intro gb296 hg w5 hbox hb; have n0_ := Aside0.mk (below_step xb hb); have n1_ := Aside0.mk (hbox); have n2_ := xs w hg; have n3_ := xs w hg; clear HB; have HB := n0_; have BK296 := n1_; have GW296 := n2_; have GE296 := n3_; clear n0_ n1_ n2_ n3_; clear hb hbox hg) | ((with_reducible refine gate_dst (N := 4) rfl ?_); refine box_event ?hg (N := 4) ?hd (cs := #[.bool a1_0, .int .i64 a1_1, .string a1_2]) (t := 111) ?hr ?_; (case hd => rfl); (case hg => rfl); (case hr => exact xh); intro gb297 hg w6 hbox hb; have n0_ := xd BK296.out hb; have n1_ := Aside0.mk (below_step xb hb); have n2_ := Aside0.mk (hbox); have n3_ := xs w hg; have n4_ := xs w hg; have n5_ := xn hg BK296.out; have n6_ := xp hg BK296.out; clear BK296; clear HB; have BK296 := n0_; have HB := n1_; have BK297 := n2_; have GW297 := n3_; have GE297 := n4_; have NB296_297 := n5_; have NB297_296 := n6_; clear n0_ n1_ n2_ n3_ n4_ n5_ n6_; clear hb hbox hg) | ((with_reducible refine gate_dst (N := 5) rfl ?_); refine box_event ?hg (N := 5) ?hd (cs := #[.bool a2_0, .int .i64 a2_1, .string a2_2]) (t := 111) ?hr ?_; (case hd => rfl); (case hg => rfl); (case hr => exact xh); intro gb298 hg w7 hbox hb; have n0_ := xd BK296.out hb; have n1_ := xd BK297.out hb; have n2_ := Aside0.mk (below_step xb hb); have n3_ := Aside0.mk (hbox); have n4_ := xs w hg; have n5_ := xs w hg; have n6_ := xn hg BK296.out; have n7_ := xp hg BK296.out; have n8_ := xn hg BK297.out; have n9_ := xp hg BK297.out; clear BK296; clear BK297; clear HB; have BK296 := n0_; have BK297 := n1_; have HB := n2_; have BK298 := n3_; have GW298 := n4_; have GE298 := n5_; have NB296_298 := n6_; have NB298_296 := n7_; have NB297_298 := n8_; have NB298_297 := n9_; clear n0_ n1_ n2_ n3_ n4_ n5_ n6_ n7_ n8_ n9_; clear hb hbox hg) | ((with_reducible refine gate_dst (N := 6) rfl ?_); refine box_event ?hg (N := 6) ?hd (cs := #[.bool false, .int .i64 0, .string (⟨#[]⟩ : ByteArray)]) (t := 44) ?hr ?_; (case hd => rfl); (case hg => rfl); (case hr => exact xh); intro gb299 hg w8 hbox hb; have n0_ := xd BK296.out hb; have n1_ := xd BK297.out hb; have n2_ := xd BK298.out hb; have n3_ := Aside0.mk (below_step xb hb); have n4_ := Aside0.mk (hbox); have n5_ := xs w hg; have n6_ := xs w hg; have n7_ := xn hg BK296.out; have n8_ := xp hg BK296.out; have n9_ := xn hg BK297.out; have n10_ := xp hg BK297.out; have n11_ := xn hg BK298.out; have n12_ := xp hg BK298.out; clear BK296; clear BK297; clear BK298; clear HB; have BK296 := n0_; have BK297 := n1_; have BK298 := n2_; have HB := n3_; have BK299 := n4_; have GW299 := n5_; have GE299 := n6_; have NB296_299 := n7_; have NB299_296 := n8_; have NB297_299 := n9_; have NB299_297 := n10_; have NB298_299 := n11_; have NB299_298 := n12_; clear n0_ n1_ n2_ n3_ n4_ n5_ n6_ n7_ n8_ n9_ n10_ n11_ n12_; clear hb hbox hg; have hnb9 := NB296_297.out; have hnc9 := NB297_296.out; have hnb10 := NB296_298.out; have hnc10 := NB298_296.out; have hnb11 := NB296_299.out; have hnc11 := NB299_296.out; have hcz12_0 : w8.cell? ⟨gb296, 0, none⟩ = some (.bool a0_0) := (blk_cell BK296.out 0).trans rfl; have hcz12_1 : w8.cell? ⟨gb296, 1, none⟩ = some (.int .i64 a0_1) := (blk_cell BK296.out 1).trans rfl; have hcz12_2 : w8.cell? ⟨gb296, 2, none⟩ = some (.string a0_2) := (blk_cell BK296.out 2).trans rfl; have hfz12_0 := blk_frozen BK296.out 0; have hfz12_1 := blk_frozen BK296.out 1; have hfz12_2 := blk_frozen BK296.out 2; have hnb13 := NB298_297.out; have hnc13 := NB297_298.out; have hnb14 := NB298_299.out; have hnc14 := NB299_298.out; have hcz15_0 : w8.cell? ⟨gb298, 0, none⟩ = some (.bool a2_0) := (blk_cell BK298.out 0).trans rfl; have hcz15_1 : w8.cell? ⟨gb298, 1, none⟩ = some (.int .i64 a2_1) := (blk_cell BK298.out 1).trans rfl; have hcz15_2 : w8.cell? ⟨gb298, 2, none⟩ = some (.string a2_2) := (blk_cell BK298.out 2).trans rfl; have hfz15_0 := blk_frozen BK298.out 0; have hfz15_1 := blk_frozen BK298.out 1; have hfz15_2 := blk_frozen BK298.out 2; have hnb16 := NB299_297.out; have hnc16 := NB297_299.out; have hcz17_0 : w8.cell? ⟨gb299, 0, none⟩ = some (.bool false) := (blk_cell BK299.out 0).trans rfl; have hcz17_1 : w8.cell? ⟨gb299, 1, none⟩ = some (.int .i64 0) := (blk_cell BK299.out 1).trans rfl; have hcz17_2 : w8.cell? ⟨gb299, 2, none⟩ = some (.string (⟨#[]⟩ : ByteArray)) := (blk_cell BK299.out 2).trans rfl; have hfz17_0 := blk_frozen BK299.out 0; have hfz17_1 := blk_frozen BK299.out 1; have hfz17_2 := blk_frozen BK299.out 2))
    refine bodyPost_ret (results_cell_row rfl _ _ gb299 44 #[.bool a2_0, .int .i64 a2_1, .string a2_2] (0, 0) _ rfl (by (with_reducible repeat (first | refine blk_drewN ?_ _ | refine blk_drew ?_ | refine blk_alloc ?_ _)); refine blk_put (cs := #[.bool a2_0, .int .i64 a2_1, .string (⟨#[]⟩ : ByteArray)]) ?_ 2 _ rfl; (with_reducible repeat (first | refine blk_drewN ?_ _ | refine blk_drew ?_ | refine blk_alloc ?_ _)); refine blk_put (cs := #[.bool a2_0, .int .i64 0, .string (⟨#[]⟩ : ByteArray)]) ?_ 1 _ rfl; (with_reducible repeat (first | refine blk_drewN ?_ _ | refine blk_drew ?_ | refine blk_alloc ?_ _)); refine blk_put (cs := #[.bool false, .int .i64 0, .string (⟨#[]⟩ : ByteArray)]) ?_ 0 _ rfl; (with_reducible repeat (first | refine blk_drewN ?_ _ | refine blk_drew ?_ | refine blk_alloc ?_ _)); exact BK299.out) Tryz.underlying44 rfl (by kernel_rfl)) rfl ?_
    exact ⟨xe, xb⟩
  · rw [if_neg c4] at H
    have c4b0 : (a0_1 == 0) = false := beq_eq_false_iff_ne.mpr c4
    have c4b1 : (a0_1 != 0) = true := bne_iff_ne.mpr c4
    simp only [Option.some.injEq, Prod.mk.injEq] at H
    obtain ⟨rfl, rfl, rfl⟩ := H
    go_enter Tryz.func94, Tryz.ntmps94
    go_wp2_with (first | ((with_reducible refine gate_dst (N := 3) rfl ?_); refine box_event ?hg (N := 3) ?hd (cs := #[.bool a0_0, .int .i64 a0_1, .string a0_2]) (t := 111) ?hr ?_; (case hd => rfl); (case hg => rfl); (case hr => exact xh); intro gb296 hg w18 hbox hb; have n0_ := Aside0.mk (below_step xb hb); have n1_ := Aside0.mk (hbox); have n2_ := xs w hg; have n3_ := xs w hg; clear HB; have HB := n0_; have BK296 := n1_; have GW296 := n2_; have GE296 := n3_; clear n0_ n1_ n2_ n3_; clear hb hbox hg) | ((with_reducible refine gate_dst (N := 4) rfl ?_); refine box_event ?hg (N := 4) ?hd (cs := #[.bool a1_0, .int .i64 a1_1, .string a1_2]) (t := 111) ?hr ?_; (case hd => rfl); (case hg => rfl); (case hr => exact xh); intro gb297 hg w19 hbox hb; have n0_ := xd BK296.out hb; have n1_ := Aside0.mk (below_step xb hb); have n2_ := Aside0.mk (hbox); have n3_ := xs w hg; have n4_ := xs w hg; have n5_ := xn hg BK296.out; have n6_ := xp hg BK296.out; clear BK296; clear HB; have BK296 := n0_; have HB := n1_; have BK297 := n2_; have GW297 := n3_; have GE297 := n4_; have NB296_297 := n5_; have NB297_296 := n6_; clear n0_ n1_ n2_ n3_ n4_ n5_ n6_; clear hb hbox hg) | ((with_reducible refine gate_dst (N := 5) rfl ?_); refine box_event ?hg (N := 5) ?hd (cs := #[.bool a2_0, .int .i64 a2_1, .string a2_2]) (t := 111) ?hr ?_; (case hd => rfl); (case hg => rfl); (case hr => exact xh); intro gb298 hg w20 hbox hb; have n0_ := xd BK296.out hb; have n1_ := xd BK297.out hb; have n2_ := Aside0.mk (below_step xb hb); have n3_ := Aside0.mk (hbox); have n4_ := xs w hg; have n5_ := xs w hg; have n6_ := xn hg BK296.out; have n7_ := xp hg BK296.out; have n8_ := xn hg BK297.out; have n9_ := xp hg BK297.out; clear BK296; clear BK297; clear HB; have BK296 := n0_; have BK297 := n1_; have HB := n2_; have BK298 := n3_; have GW298 := n4_; have GE298 := n5_; have NB296_298 := n6_; have NB298_296 := n7_; have NB297_298 := n8_; have NB298_297 := n9_; clear n0_ n1_ n2_ n3_ n4_ n5_ n6_ n7_ n8_ n9_; clear hb hbox hg) | ((with_reducible refine gate_dst (N := 6) rfl ?_); refine box_event ?hg (N := 6) ?hd (cs := #[.bool false, .int .i64 0, .string (⟨#[]⟩ : ByteArray)]) (t := 44) ?hr ?_; (case hd => rfl); (case hg => rfl); (case hr => exact xh); intro gb299 hg w21 hbox hb; have n0_ := xd BK296.out hb; have n1_ := xd BK297.out hb; have n2_ := xd BK298.out hb; have n3_ := Aside0.mk (below_step xb hb); have n4_ := Aside0.mk (hbox); have n5_ := xs w hg; have n6_ := xs w hg; have n7_ := xn hg BK296.out; have n8_ := xp hg BK296.out; have n9_ := xn hg BK297.out; have n10_ := xp hg BK297.out; have n11_ := xn hg BK298.out; have n12_ := xp hg BK298.out; clear BK296; clear BK297; clear BK298; clear HB; have BK296 := n0_; have BK297 := n1_; have BK298 := n2_; have HB := n3_; have BK299 := n4_; have GW299 := n5_; have GE299 := n6_; have NB296_299 := n7_; have NB299_296 := n8_; have NB297_299 := n9_; have NB299_297 := n10_; have NB298_299 := n11_; have NB299_298 := n12_; clear n0_ n1_ n2_ n3_ n4_ n5_ n6_ n7_ n8_ n9_ n10_ n11_ n12_; clear hb hbox hg; have hnb22 := NB296_297.out; have hnc22 := NB297_296.out; have hnb23 := NB296_298.out; have hnc23 := NB298_296.out; have hnb24 := NB296_299.out; have hnc24 := NB299_296.out; have hcz25_0 : w21.cell? ⟨gb296, 0, none⟩ = some (.bool a0_0) := (blk_cell BK296.out 0).trans rfl; have hcz25_1 : w21.cell? ⟨gb296, 1, none⟩ = some (.int .i64 a0_1) := (blk_cell BK296.out 1).trans rfl; have hcz25_2 : w21.cell? ⟨gb296, 2, none⟩ = some (.string a0_2) := (blk_cell BK296.out 2).trans rfl; have hfz25_0 := blk_frozen BK296.out 0; have hfz25_1 := blk_frozen BK296.out 1; have hfz25_2 := blk_frozen BK296.out 2; have hnb26 := NB297_298.out; have hnc26 := NB298_297.out; have hnb27 := NB297_299.out; have hnc27 := NB299_297.out; have hcz28_0 : w21.cell? ⟨gb297, 0, none⟩ = some (.bool a1_0) := (blk_cell BK297.out 0).trans rfl; have hcz28_1 : w21.cell? ⟨gb297, 1, none⟩ = some (.int .i64 a1_1) := (blk_cell BK297.out 1).trans rfl; have hcz28_2 : w21.cell? ⟨gb297, 2, none⟩ = some (.string a1_2) := (blk_cell BK297.out 2).trans rfl; have hfz28_0 := blk_frozen BK297.out 0; have hfz28_1 := blk_frozen BK297.out 1; have hfz28_2 := blk_frozen BK297.out 2; have hnb29 := NB299_298.out; have hnc29 := NB298_299.out; have hcz30_0 : w21.cell? ⟨gb299, 0, none⟩ = some (.bool false) := (blk_cell BK299.out 0).trans rfl; have hcz30_1 : w21.cell? ⟨gb299, 1, none⟩ = some (.int .i64 0) := (blk_cell BK299.out 1).trans rfl; have hcz30_2 : w21.cell? ⟨gb299, 2, none⟩ = some (.string (⟨#[]⟩ : ByteArray)) := (blk_cell BK299.out 2).trans rfl; have hfz30_0 := blk_frozen BK299.out 0; have hfz30_1 := blk_frozen BK299.out 1; have hfz30_2 := blk_frozen BK299.out 2))
    refine bodyPost_ret (results_cell_row rfl _ _ gb299 44 #[.bool a1_0, .int .i64 a1_1, .string a1_2] (0, 0) _ rfl (by (with_reducible repeat (first | refine blk_drewN ?_ _ | refine blk_drew ?_ | refine blk_alloc ?_ _)); refine blk_put (cs := #[.bool a1_0, .int .i64 a1_1, .string (⟨#[]⟩ : ByteArray)]) ?_ 2 _ rfl; (with_reducible repeat (first | refine blk_drewN ?_ _ | refine blk_drew ?_ | refine blk_alloc ?_ _)); refine blk_put (cs := #[.bool a1_0, .int .i64 0, .string (⟨#[]⟩ : ByteArray)]) ?_ 1 _ rfl; (with_reducible repeat (first | refine blk_drewN ?_ _ | refine blk_drew ?_ | refine blk_alloc ?_ _)); refine blk_put (cs := #[.bool false, .int .i64 0, .string (⟨#[]⟩ : ByteArray)]) ?_ 0 _ rfl; (with_reducible repeat (first | refine blk_drewN ?_ _ | refine blk_drew ?_ | refine blk_alloc ?_ _)); exact BK299.out) Tryz.underlying44 rfl (by kernel_rfl)) rfl ?_
    exact ⟨xe, xb⟩

/-! ### stringslite_HasPrefix: function 127 -/
def stringslite_HasPrefix.f (a0 : ByteArray) (a1 : ByteArray) : Option (Bool) := if (a0.size : Int) ≥ (a1.size : Int) then (if 0 ≤ (a1.size : Int) then (if (a1.size : Int) ≤ (a0.size : Int) then (some ((a0.extract 0 ((a1.size : Int) : Int).toNat).toList == a1.toList)) else (none)) else (none)) else (some false)
set_option maxHeartbeats 8000000 in
set_option maxRecDepth 100000 in
theorem stringslite_HasPrefix.calls (a0 : ByteArray) (a1 : ByteArray) (r : Bool) (w : World) (hT : Tabs w) (h : stringslite_HasPrefix.f a0 a1 = some r) :
    Calls Tryz.prog 127 #[.string a0, .string a1] w fun e w' => e = .returned (.bool r) ∧ Drawn0 w w' := by
  have H : (if (a0.size : Int) ≥ (a1.size : Int) then (if 0 ≤ (a1.size : Int) then (if (a1.size : Int) ≤ (a0.size : Int) then (some ((a0.extract 0 ((a1.size : Int) : Int).toNat).toList == a1.toList)) else (none)) else (none)) else (some false)) = some r := h
  clear h
  by_cases c3 : (a0.size : Int) ≥ (a1.size : Int)
  · rw [if_pos c3] at H
    have c3b0 : decide ((a1.size : Int) ≤ (a0.size : Int)) = true := decide_eq_true c3
    have c3b1 : decide (a1.size ≤ a0.size) = true := decide_eq_true (Int.ofNat_le.mp c3)
    clear c3
    by_cases c4 : 0 ≤ (a1.size : Int)
    · rw [if_pos c4] at H
      have c4b0 := eq_true c4
      have c4b1 : decide (0 ≤ (a1.size : Int)) = true := decide_eq_true c4
      clear c4
      by_cases c5 : (a1.size : Int) ≤ (a0.size : Int)
      · rw [if_pos c5] at H
        have c5b0 := eq_true c5
        have c5b1 : decide ((a1.size : Int) ≤ (a0.size : Int)) = true := decide_eq_true c5
        clear c5
        obtain rfl := Option.some.inj H
        go_enter Tryz.func127, Tryz.ntmps127
        go_wp2
        go_ret
        exact ⟨xg, xz⟩
      · rw [if_neg c5] at H
        exact absurd H (by simp)
    · rw [if_neg c4] at H
      exact absurd H (by simp)
  · rw [if_neg c3] at H
    have c3b0 : decide ((a1.size : Int) ≤ (a0.size : Int)) = false := decide_eq_false c3
    have c3b1 : decide (a1.size ≤ a0.size) = false := decide_eq_false (fun h => c3 (Int.ofNat_le.mpr h))
    clear c3
    obtain rfl := Option.some.inj H
    go_enter Tryz.func127, Tryz.ntmps127
    go_wp2
    go_ret
    exact ⟨xg, xz⟩

/-! ### stringslite_TrimPrefix: function 113 -/
def stringslite_TrimPrefix.f (a0 : ByteArray) (a1 : ByteArray) : Option (ByteArray) := (stringslite_HasPrefix.f a0 a1).bind fun t300 => (if t300 = true then (if 0 ≤ (a1.size : Int) then (if (a1.size : Int) ≤ (a0.size : Int) then (some (a0.extract ((a1.size : Int) : Int).toNat a0.size)) else (none)) else (none)) else (some a0))
set_option maxHeartbeats 8000000 in
set_option maxRecDepth 100000 in
theorem stringslite_TrimPrefix.calls (a0 : ByteArray) (a1 : ByteArray) (r : ByteArray) (w : World) (hT : Tabs w) (h : stringslite_TrimPrefix.f a0 a1 = some r) :
    Calls Tryz.prog 113 #[.string a0, .string a1] w fun e w' => e = .returned (.string r) ∧ Drawn0 w w' := by
  have H : ((stringslite_HasPrefix.f a0 a1).bind fun t300 => (if t300 = true then (if 0 ≤ (a1.size : Int) then (if (a1.size : Int) ≤ (a0.size : Int) then (some (a0.extract ((a1.size : Int) : Int).toNat a0.size)) else (none)) else (none)) else (some a0))) = some r := h
  clear h
  replace H := Option.bind_eq_some_iff.mp H
  obtain ⟨t300, A30, H⟩ := H
  replace H : (if t300 = true then (if 0 ≤ (a1.size : Int) then (if (a1.size : Int) ≤ (a0.size : Int) then (some (a0.extract ((a1.size : Int) : Int).toNat a0.size)) else (none)) else (none)) else (some a0)) = some r := H
  have A3 := Aside0.mk A30
  clear A30
  by_cases c4 : t300 = true
  · subst c4
    have H1 : (if 0 ≤ (a1.size : Int) then (if (a1.size : Int) ≤ (a0.size : Int) then (some (a0.extract ((a1.size : Int) : Int).toNat a0.size)) else (none)) else (none)) = some r := by rw [if_pos rfl] at H; exact H
    clear H
    have H := H1
    clear H1
    by_cases c5 : 0 ≤ (a1.size : Int)
    · rw [if_pos c5] at H
      have c5b0 := eq_true c5
      have c5b1 : decide (0 ≤ (a1.size : Int)) = true := decide_eq_true c5
      clear c5
      by_cases c6 : (a1.size : Int) ≤ (a0.size : Int)
      · rw [if_pos c6] at H
        have c6b0 := eq_true c6
        have c6b1 : decide ((a1.size : Int) ≤ (a0.size : Int)) = true := decide_eq_true c6
        clear c6
        obtain rfl := Option.some.inj H
        go_enter Tryz.func113, Tryz.ntmps113
        go_wp2_with (((with_reducible refine gate_callee (f := 127) rfl ?_); refine goesL_ (some 7) rfl rfl Tryz.func127 (by kernel_rfl) rfl #[.string a0, .string a1] rfl xr ?_; (with_reducible refine (stringslite_HasPrefix.calls a0 a1 true _ (Tabs.below hT xf) A3.out).mono ?_); rintro e w' ⟨rfl, ⟨nd, rfl⟩⟩; refine ⟨_, rfl, ?_⟩))
        go_ret
        exact ⟨xg, xz⟩
      · rw [if_neg c6] at H
        exact absurd H (by simp)
    · rw [if_neg c5] at H
      exact absurd H (by simp)
  · replace c4 := Bool.eq_false_iff.mpr c4
    subst c4
    have H1 : (some a0) = some r := by rw [if_neg (show ¬ (false = true) by decide)] at H; exact H
    clear H
    have H := H1
    clear H1
    obtain rfl := Option.some.inj H
    go_enter Tryz.func113, Tryz.ntmps113
    go_wp2_with (((with_reducible refine gate_callee (f := 127) rfl ?_); refine goesL_ (some 7) rfl rfl Tryz.func127 (by kernel_rfl) rfl #[.string a0, .string a1] rfl xr ?_; (with_reducible refine (stringslite_HasPrefix.calls a0 a1 false _ (Tabs.below hT xf) A3.out).mono ?_); rintro e w' ⟨rfl, ⟨nd, rfl⟩⟩; refine ⟨_, rfl, ?_⟩))
    go_ret
    exact ⟨xg, xz⟩

/-! ### strings_TrimPrefix: function 104 -/
def strings_TrimPrefix.f (a0 : ByteArray) (a1 : ByteArray) : Option (ByteArray) := (stringslite_TrimPrefix.f a0 a1).bind fun t301 => (some t301)
set_option maxHeartbeats 8000000 in
set_option maxRecDepth 100000 in
theorem strings_TrimPrefix.calls (a0 : ByteArray) (a1 : ByteArray) (r : ByteArray) (w : World) (hT : Tabs w) (h : strings_TrimPrefix.f a0 a1 = some r) :
    Calls Tryz.prog 104 #[.string a0, .string a1] w fun e w' => e = .returned (.string r) ∧ Drawn0 w w' := by
  have H : ((stringslite_TrimPrefix.f a0 a1).bind fun t301 => (some t301)) = some r := h
  clear h
  replace H := Option.bind_eq_some_iff.mp H
  obtain ⟨t301, A30, H⟩ := H
  replace H : (some t301) = some r := H
  have A3 := Aside0.mk A30
  clear A30
  obtain rfl := Option.some.inj H
  go_enter Tryz.func104, Tryz.ntmps104
  go_wp2_with (((with_reducible refine gate_callee (f := 113) rfl ?_); refine goesL_ (some 7) rfl rfl Tryz.func113 (by kernel_rfl) rfl #[.string a0, .string a1] rfl xr ?_; (with_reducible refine (stringslite_TrimPrefix.calls a0 a1 t301 _ (Tabs.below hT xf) A3.out).mono ?_); rintro e w' ⟨rfl, ⟨nd, rfl⟩⟩; refine ⟨_, rfl, ?_⟩))
  go_ret
  exact ⟨xg, xz⟩

/-! ### strings_Trim: function 105 -/
def strings_Trim.f (a0 : ByteArray) (a1 : ByteArray) : Option (ByteArray) := if a0.size ≤ 9223372036854775807 ∧ a1.size < 4294967281 ∧ (a1.data.toList.all fun b => decide (b.toNat < 128)) = true then some ⟨(Lib.trimS a0.data.toList a1.data.toList).toArray⟩ else none
theorem strings_Trim.calls (a0 : ByteArray) (a1 : ByteArray) (r : ByteArray) (w : World) (hT : Tabs w) (h : strings_Trim.f a0 a1 = some r) :
    Calls Tryz.prog 105 #[.string a0, .string a1] w fun e w' => e = .returned (.string r) ∧ Below w.heap.size w w' := by
  unfold strings_Trim.f at h
  by_cases hq : a0.size ≤ 9223372036854775807 ∧ a1.size < 4294967281 ∧ (a1.data.toList.all fun b => decide (b.toNat < 128)) = true
  · rw [if_pos hq] at h
    obtain ⟨h1, h2, h3⟩ := hq
    obtain rfl := Option.some.inj h
    refine (Any.strings_Trim_laid Tryz.lays160 (by kernel_rfl) a0 a1 w h1 h2 (fun j b hj => ?_)).mono ?_
    · have := List.all_eq_true.1 h3 b (List.mem_of_getElem? hj)
      simpa using this
    · rintro e w' ⟨rfl, hb⟩
      exact ⟨rfl, hb⟩
  · rw [if_neg hq] at h
    cases h


/-! ### strconv_Atoi: function 106 -/
def strconv_Atoi.f (a0 : ByteArray) : Option (Int × Option Int) := if a0.size ≤ 9223372036854775806 then (match Lib.atoiAll a0.data.toList with | .ok n => some (n, none) | _ => none) else none
theorem strconv_Atoi.calls (a0 : ByteArray) (r1 : Int) (r2 : Option Int) (w : World) (hT : Tabs w) (h : strconv_Atoi.f a0 = some (r1, r2)) :
    Calls Tryz.prog 106 #[.string a0] w fun e w' => e = .returned (.tuple #[.int .i64 r1, errW r2]) ∧ Below w.heap.size w w' := by
  unfold strconv_Atoi.f at h
  split at h
  · split at h
    · simp only [Option.some.injEq, Prod.mk.injEq] at h
      obtain ⟨rfl, rfl⟩ := h
      refine (Any.strconv_Atoi_ok Tryz.laysC172 a0 (by assumption) _ (by assumption) w).mono ?_
      rintro e w' ⟨rfl, hw⟩
      refine ⟨rfl, ?_⟩
      rcases hw with rfl | ⟨t, rfl⟩
      · exact Below.refl _ _
      · exact bytes_below (Below.refl _ _) (Nat.le_refl _) _ t
    · cases h
  · cases h


/-! ### value_val_number: function 95 -/
def value_val_number.j0 : Nat → Bool → Bool → Int → ByteArray → Option (Bool × Int × ByteArray)
  | 0, _, _, _, _ => none
  | k + 1, x24, x303000, x303001, x303002 => if x24 = true then ((value_Num.f 0).bind fun bt308 => (some (bt308.1, bt308.2.1, bt308.2.2))) else ((strconv_Atoi.f x303002).bind fun bt311 => ((value_Num.f bt311.1).bind fun bt313 => (some (bt313.1, bt313.2.1, bt313.2.2))))
def value_val_number.f (k : Nat) (a0_0 : Bool) (a0_1 : Int) (a0_2 : ByteArray) (a1_0 : Bool) (a1_1 : Int) (a1_2 : ByteArray) (a2_0 : Bool) (a2_1 : Int) (a2_2 : ByteArray) : Option (Bool × Int × ByteArray) := (strings_TrimPrefix.f a0_2 (⟨#[45]⟩ : ByteArray)).bind fun t306 => (if t306.toList = ([] : List UInt8) then (value_val_number.j0 k true a0_0 a0_1 a0_2) else (if (t306.size : Int) > 18 then (value_val_number.j0 k true a0_0 a0_1 a0_2) else ((strings_Trim.f t306 (⟨#[48, 49, 50, 51, 52, 53, 54, 55, 56, 57]⟩ : ByteArray)).bind fun t307 => (value_val_number.j0 k (t307.toList != ([] : List UInt8)) a0_0 a0_1 a0_2))))
theorem value_val_number.mono_l : ∀ k, (∀ y0 y1 y2 y3, LeO (value_val_number.j0 k y0 y1 y2 y3) (value_val_number.j0 (k + 1) y0 y1 y2 y3))
  | 0 => fun _ _ _ _ r h => by simp [value_val_number.j0] at h
  | k + 1 => by
    have ih0 := value_val_number.mono_l k
    · intro y0 y1 y2 y3
      unfold value_val_number.j0
      repeat' first
      | (with_reducible exact ih0 _ _ _ _)
      | (with_reducible exact LeO.refl _)
      | (with_reducible exact LeO.none _)
      | (with_reducible refine LeO.ite ?_ ?_)
      | (with_reducible refine LeO.bind ?_ (fun _ => ?_))
      | exact ih0 _ _ _ _
      | exact LeO.none _
      | refine LeO.ite ?_ ?_
      | refine LeO.bind ?_ (fun _ => ?_)
theorem value_val_number.mono : ∀ a0 a1 a2 a3 a4 a5 a6 a7 a8 k, LeO (value_val_number.f k a0 a1 a2 a3 a4 a5 a6 a7 a8) (value_val_number.f (k + 1) a0 a1 a2 a3 a4 a5 a6 a7 a8) := by
  intro a0 a1 a2 a3 a4 a5 a6 a7 a8 k
  have ih0 := value_val_number.mono_l k
  unfold value_val_number.f
  repeat' first
      | (with_reducible exact ih0 _ _ _ _)
      | (with_reducible exact LeO.refl _)
      | (with_reducible exact LeO.none _)
      | (with_reducible refine LeO.ite ?_ ?_)
      | (with_reducible refine LeO.bind ?_ (fun _ => ?_))
      | exact ih0 _ _ _ _
      | exact LeO.none _
      | refine LeO.ite ?_ ?_
      | refine LeO.bind ?_ (fun _ => ?_)
set_option maxHeartbeats 8000000 in
set_option maxRecDepth 100000 in
theorem value_val_number.calls (k : Nat) (a0_0 : Bool) (a0_1 : Int) (a0_2 : ByteArray) (a1_0 : Bool) (a1_1 : Int) (a1_2 : ByteArray) (a2_0 : Bool) (a2_1 : Int) (a2_2 : ByteArray) (r1 : Bool) (r2 : Int) (r3 : ByteArray) (w : World) (hT : Tabs w) (h : value_val_number.f k a0_0 a0_1 a0_2 a1_0 a1_1 a1_2 a2_0 a2_1 a2_2 = some (r1, r2, r3)) :
    Calls Tryz.prog 95 #[.agg #[.bool a0_0, .int .i64 a0_1, .string a0_2], .agg #[.bool a1_0, .int .i64 a1_1, .string a1_2], .agg #[.bool a2_0, .int .i64 a2_1, .string a2_2]] w fun e w' => e = .returned (.agg #[.bool r1, .int .i64 r2, .string r3]) ∧ Below w.heap.size w w' := by
  have hu111 := Tryz.underlying111
  have hu44 := Tryz.underlying44
  have HB := Aside0.mk (Below.refl w.heap.size w)
  have H : ((strings_TrimPrefix.f a0_2 (⟨#[45]⟩ : ByteArray)).bind fun t306 => (if t306.toList = ([] : List UInt8) then (value_val_number.j0 k true a0_0 a0_1 a0_2) else (if (t306.size : Int) > 18 then (value_val_number.j0 k true a0_0 a0_1 a0_2) else ((strings_Trim.f t306 (⟨#[48, 49, 50, 51, 52, 53, 54, 55, 56, 57]⟩ : ByteArray)).bind fun t307 => (value_val_number.j0 k (t307.toList != ([] : List UInt8)) a0_0 a0_1 a0_2))))) = some (r1, r2, r3) := h
  clear h
  replace H := Option.bind_eq_some_iff.mp H
  obtain ⟨t306, A40, H⟩ := H
  replace H : (if t306.toList = ([] : List UInt8) then (value_val_number.j0 k true a0_0 a0_1 a0_2) else (if (t306.size : Int) > 18 then (value_val_number.j0 k true a0_0 a0_1 a0_2) else ((strings_Trim.f t306 (⟨#[48, 49, 50, 51, 52, 53, 54, 55, 56, 57]⟩ : ByteArray)).bind fun t307 => (value_val_number.j0 k (t307.toList != ([] : List UInt8)) a0_0 a0_1 a0_2)))) = some (r1, r2, r3) := H
  have A4 := Aside0.mk A40
  clear A40
  have HC5 := Aside0.mk H
  clear H
  go_enter Tryz.func95, Tryz.ntmps95
  go_upto_region 2 with (first | ((with_reducible refine gate_dst (N := 3) rfl ?_); (try (refine gate_guard (by rfl) ?_; dsimp only)); refine box_event ?hg (N := 3) ?hd (cs := #[.bool a0_0, .int .i64 a0_1, .string a0_2]) (t := 111) ?hr ?_; (case hd => rfl); (case hg => rfl); (case hr => exact xh); intro gb302 hg w6 hbox hb; have n0_ := Aside0.mk (below_step xb hb); have n1_ := Aside0.mk (hbox); have n2_ := xs w hg; have n3_ := xs w hg; clear HB; have HB := n0_; have BK302 := n1_; have GW302 := n2_; have GE302 := n3_; clear n0_ n1_ n2_ n3_; clear hb hbox hg) | ((with_reducible refine gate_dst (N := 4) rfl ?_); (try (refine gate_guard (by rfl) ?_; dsimp only)); refine box_event ?hg (N := 4) ?hd (cs := #[.bool a1_0, .int .i64 a1_1, .string a1_2]) (t := 111) ?hr ?_; (case hd => rfl); (case hg => rfl); (case hr => exact xh); intro gb303 hg w7 hbox hb; have n0_ := xd BK302.out hb; have n1_ := Aside0.mk (below_step xb hb); have n2_ := Aside0.mk (hbox); have n3_ := xs w hg; have n4_ := xs w hg; have n5_ := xn hg BK302.out; have n6_ := xp hg BK302.out; clear BK302; clear HB; have BK302 := n0_; have HB := n1_; have BK303 := n2_; have GW303 := n3_; have GE303 := n4_; have NB302_303 := n5_; have NB303_302 := n6_; clear n0_ n1_ n2_ n3_ n4_ n5_ n6_; clear hb hbox hg) | ((with_reducible refine gate_dst (N := 5) rfl ?_); (try (refine gate_guard (by rfl) ?_; dsimp only)); refine box_event ?hg (N := 5) ?hd (cs := #[.bool a2_0, .int .i64 a2_1, .string a2_2]) (t := 111) ?hr ?_; (case hd => rfl); (case hg => rfl); (case hr => exact xh); intro gb304 hg w8 hbox hb; have n0_ := xd BK302.out hb; have n1_ := xd BK303.out hb; have n2_ := Aside0.mk (below_step xb hb); have n3_ := Aside0.mk (hbox); have n4_ := xs w hg; have n5_ := xs w hg; have n6_ := xn hg BK302.out; have n7_ := xp hg BK302.out; have n8_ := xn hg BK303.out; have n9_ := xp hg BK303.out; clear BK302; clear BK303; clear HB; have BK302 := n0_; have BK303 := n1_; have HB := n2_; have BK304 := n3_; have GW304 := n4_; have GE304 := n5_; have NB302_304 := n6_; have NB304_302 := n7_; have NB303_304 := n8_; have NB304_303 := n9_; clear n0_ n1_ n2_ n3_ n4_ n5_ n6_ n7_ n8_ n9_; clear hb hbox hg) | ((with_reducible refine gate_dst (N := 6) rfl ?_); (try (refine gate_guard (by rfl) ?_; dsimp only)); refine box_event ?hg (N := 6) ?hd (cs := #[.bool false, .int .i64 0, .string (⟨#[]⟩ : ByteArray)]) (t := 44) ?hr ?_; (case hd => rfl); (case hg => rfl); (case hr => exact xh); intro gb305 hg w9 hbox hb; have n0_ := xd BK302.out hb; have n1_ := xd BK303.out hb; have n2_ := xd BK304.out hb; have n3_ := Aside0.mk (below_step xb hb); have n4_ := Aside0.mk (hbox); have n5_ := xs w hg; have n6_ := xs w hg; have n7_ := xn hg BK302.out; have n8_ := xp hg BK302.out; have n9_ := xn hg BK303.out; have n10_ := xp hg BK303.out; have n11_ := xn hg BK304.out; have n12_ := xp hg BK304.out; clear BK302; clear BK303; clear BK304; clear HB; have BK302 := n0_; have BK303 := n1_; have BK304 := n2_; have HB := n3_; have BK305 := n4_; have GW305 := n5_; have GE305 := n6_; have NB302_305 := n7_; have NB305_302 := n8_; have NB303_305 := n9_; have NB305_303 := n10_; have NB304_305 := n11_; have NB305_304 := n12_; clear n0_ n1_ n2_ n3_ n4_ n5_ n6_ n7_ n8_ n9_ n10_ n11_ n12_; clear hb hbox hg; have hnb10 := NB302_303.out; have hnc10 := NB303_302.out; have hnb11 := NB302_304.out; have hnc11 := NB304_302.out; have hnb12 := NB302_305.out; have hnc12 := NB305_302.out; have hcz13_0 : w9.cell? ⟨gb302, 0, none⟩ = some (.bool a0_0) := (blk_cell BK302.out 0).trans rfl; have hcz13_1 : w9.cell? ⟨gb302, 1, none⟩ = some (.int .i64 a0_1) := (blk_cell BK302.out 1).trans rfl; have hcz13_2 : w9.cell? ⟨gb302, 2, none⟩ = some (.string a0_2) := (blk_cell BK302.out 2).trans rfl; have hfz13_0 := blk_frozen BK302.out 0; have hfz13_1 := blk_frozen BK302.out 1; have hfz13_2 := blk_frozen BK302.out 2) | ((with_reducible refine gate_callee (f := 104) rfl ?_); refine goesL_ (some 12) rfl rfl Tryz.func104 (by kernel_rfl) rfl #[.string a0_2, .string (⟨#[45]⟩ : ByteArray)] rfl xr ?_; (with_reducible refine (strings_TrimPrefix.calls a0_2 (⟨#[45]⟩ : ByteArray) t306 _ (Tabs.below hT xf) A4.out).mono ?_); rintro e w' ⟨rfl, ⟨nd, rfl⟩⟩; refine ⟨_, rfl, ?_⟩))
  (try simp only [Act.put, List.setIfInBounds_toArray, List.set_cons_zero, List.set_cons_succ])
  go_cut [24] (fun v24 wc => ∃ (kq : Nat) (x24_4 : Bool), v24 = .bool x24_4 ∧ Aside0 (value_val_number.j0 kq x24_4 a0_0 a0_1 a0_2 = some (r1, r2, r3)) ∧ Aside0 (kq ≤ k) ∧ Aside0 (wc.heap[gb302]? = some (.cells #[.bool a0_0, .int .i64 a0_1, .string a0_2] 111 (0, 0))) ∧ Aside0 (wc.heap[gb303]? = some (.cells #[.bool a1_0, .int .i64 a1_1, .string a1_2] 111 (0, 0))) ∧ Aside0 (wc.heap[gb304]? = some (.cells #[.bool a2_0, .int .i64 a2_1, .string a2_2] 111 (0, 0))) ∧ Aside0 (wc.heap[gb305]? = some (.cells #[.bool false, .int .i64 0, .string (⟨#[]⟩ : ByteArray)] 44 (0, 0))) ∧ Aside0 (Below w.heap.size w wc))
  case first =>
    have H := HC5.out
    clear HC5
    by_cases c14 : t306.toList = ([] : List UInt8)
    · rw [if_pos c14] at H
      have c14b0 : (t306.toList == ([] : List UInt8)) = true := beq_iff_eq.mpr c14
      have c14b1 : (t306.toList != ([] : List UInt8)) = false := bne_eq_false_iff_eq.mpr c14
      clear c14
      (first | rw [c14b0] | (simp only [i64_w, i32_w]; rw [c14b0]) | skip)
      have H' := Aside0.mk H
      clear H
      go_wp2
      go_meet
      case rel => exact ⟨_, (true), xg, H', ⟨by first | omega | exact Nat.le_refl _⟩, ⟨by (with_reducible repeat (first | refine blk_drewN ?_ _ | refine blk_drew ?_ | refine blk_alloc ?_ _)); exact BK302.out⟩, ⟨by (with_reducible repeat (first | refine blk_drewN ?_ _ | refine blk_drew ?_ | refine blk_alloc ?_ _)); exact BK303.out⟩, ⟨by (with_reducible repeat (first | refine blk_drewN ?_ _ | refine blk_drew ?_ | refine blk_alloc ?_ _)); exact BK304.out⟩, ⟨by (with_reducible repeat (first | refine blk_drewN ?_ _ | refine blk_drew ?_ | refine blk_alloc ?_ _)); exact BK305.out⟩, ⟨xb⟩⟩
    · rw [if_neg c14] at H
      have c14b0 : (t306.toList == ([] : List UInt8)) = false := beq_eq_false_iff_ne.mpr c14
      have c14b1 : (t306.toList != ([] : List UInt8)) = true := bne_iff_ne.mpr c14
      (first | rw [c14b0] | (simp only [i64_w, i32_w]; rw [c14b0]) | skip)
      by_cases c15 : (t306.size : Int) > 18
      · rw [if_pos c15] at H
        have c15b0 : decide (18 < (t306.size : Int)) = true := decide_eq_true c15
        have c15b1 : decide (18 < t306.size) = true := decide_eq_true (by omega)
        clear c15
        have H' := Aside0.mk H
        clear H
        go_wp2
        go_meet
        case rel => exact ⟨_, (true), xg, H', ⟨by first | omega | exact Nat.le_refl _⟩, ⟨by (with_reducible repeat (first | refine blk_drewN ?_ _ | refine blk_drew ?_ | refine blk_alloc ?_ _)); exact BK302.out⟩, ⟨by (with_reducible repeat (first | refine blk_drewN ?_ _ | refine blk_drew ?_ | refine blk_alloc ?_ _)); exact BK303.out⟩, ⟨by (with_reducible repeat (first | refine blk_drewN ?_ _ | refine blk_drew ?_ | refine blk_alloc ?_ _)); exact BK304.out⟩, ⟨by (with_reducible repeat (first | refine blk_drewN ?_ _ | refine blk_drew ?_ | refine blk_alloc ?_ _)); exact BK305.out⟩, ⟨xb⟩⟩
      · rw [if_neg c15] at H
        have c15b0 : decide (18 < (t306.size : Int)) = false := decide_eq_false c15
        have c15b1 : decide (18 < t306.size) = false := decide_eq_false (by omega)
        clear c15
        replace H := Option.bind_eq_some_iff.mp H
        obtain ⟨t307, A160, H⟩ := H
        replace H : (value_val_number.j0 k (t307.toList != ([] : List UInt8)) a0_0 a0_1 a0_2) = some (r1, r2, r3) := H
        have A16 := Aside0.mk A160
        clear A160
        have H' := Aside0.mk H
        clear H
        go_wp2_with ((go_at_call 105; (with_reducible refine (strings_Trim.calls t306 (⟨#[48, 49, 50, 51, 52, 53, 54, 55, 56, 57]⟩ : ByteArray) t307 _ (Tabs.below hT xf) A16.out).mono ?_); rintro e w17 ⟨rfl, hb⟩; have n0_ := xd BK302.out hb; have n1_ := xd BK303.out hb; have n2_ := xd BK304.out hb; have n3_ := xd BK305.out hb; have n4_ := Aside0.mk (below_step xb hb); clear BK302; clear BK303; clear BK304; clear BK305; clear HB; have BK302 := n0_; have BK303 := n1_; have BK304 := n2_; have BK305 := n3_; have HB := n4_; clear n0_ n1_ n2_ n3_ n4_; (try clear hb); (try clear hb2); (try clear hk); (try clear hi)))
        go_meet
        case rel => exact ⟨_, ((t307.toList != ([] : List UInt8))), xg, H', ⟨by first | omega | exact Nat.le_refl _⟩, ⟨by (with_reducible repeat (first | refine blk_drewN ?_ _ | refine blk_drew ?_ | refine blk_alloc ?_ _)); exact BK302.out⟩, ⟨by (with_reducible repeat (first | refine blk_drewN ?_ _ | refine blk_drew ?_ | refine blk_alloc ?_ _)); exact BK303.out⟩, ⟨by (with_reducible repeat (first | refine blk_drewN ?_ _ | refine blk_drew ?_ | refine blk_alloc ?_ _)); exact BK304.out⟩, ⟨by (with_reducible repeat (first | refine blk_drewN ?_ _ | refine blk_drew ?_ | refine blk_alloc ?_ _)); exact BK305.out⟩, ⟨xb⟩⟩
  case rest =>
    clear HC5
    try clear c1
    try clear p2
    try clear c9
    try clear c10
    try clear c11
    try clear c12
    try clear c14
    try clear c14b0
    try clear c14b1
    try clear c15
    try clear c15b0
    try clear c15b1
    try clear hcz13_0
    try clear hcz13_1
    try clear hcz13_2
    try clear hfz13_0
    try clear hfz13_1
    try clear hfz13_2
    obtain ⟨kq, x24_4, rfl, HA, HJ4, BK302, BK303, BK304, BK305, HB⟩ := hcut
    cases kq with
    | zero => exact absurd HA.out (by simp [value_val_number.j0])
    | succ kj4 =>
      have H := HA.out
      clear HA
      simp only [value_val_number.j0] at H
      by_cases c18 : x24_4 = true
      · subst c18
        have H1 : ((value_Num.f 0).bind fun bt308 => (some (bt308.1, bt308.2.1, bt308.2.2))) = some (r1, r2, r3) := by rw [if_pos rfl] at H; exact H
        clear H
        have H := H1
        clear H1
        replace H := Option.bind_eq_some_iff.mp H
        obtain ⟨⟨t308, t309, t310⟩, A190, H⟩ := H
        replace H : (some (t308, t309, t310)) = some (r1, r2, r3) := H
        have A19 := Aside0.mk A190
        clear A190
        simp only [Option.some.injEq, Prod.mk.injEq] at H
        obtain ⟨rfl, rfl, rfl⟩ := H
        go_wp2_with (((with_reducible refine gate_callee (f := 53) rfl ?_); refine goesL_ (some 25) rfl rfl Tryz.func53 (by kernel_rfl) rfl #[.int .i64 0] rfl xr ?_; (with_reducible refine (value_Num.calls 0 t308 t309 t310 _ (Tabs.below hT xf) A19.out).mono ?_); rintro e w20 ⟨rfl, hb⟩; refine ⟨_, rfl, ?_⟩; have n0_ := xd BK302.out hb; have n1_ := xd BK303.out hb; have n2_ := xd BK304.out hb; have n3_ := xd BK305.out hb; have n4_ := Aside0.mk (below_step xb hb); clear BK302; clear BK303; clear BK304; clear BK305; clear HB; have BK302 := n0_; have BK303 := n1_; have BK304 := n2_; have BK305 := n3_; have HB := n4_; clear n0_ n1_ n2_ n3_ n4_; (try clear hb); (try clear hb2); (try clear hk); (try clear hi); have hnb21 := NB305_302.out; have hnc21 := NB302_305.out; have hnb22 := NB305_303.out; have hnc22 := NB303_305.out; have hnb23 := NB305_304.out; have hnc23 := NB304_305.out; have hcz24_0 : w20.cell? ⟨gb305, 0, none⟩ = some (.bool false) := (blk_cell BK305.out 0).trans rfl; have hcz24_1 : w20.cell? ⟨gb305, 1, none⟩ = some (.int .i64 0) := (blk_cell BK305.out 1).trans rfl; have hcz24_2 : w20.cell? ⟨gb305, 2, none⟩ = some (.string (⟨#[]⟩ : ByteArray)) := (blk_cell BK305.out 2).trans rfl; have hfz24_0 := blk_frozen BK305.out 0; have hfz24_1 := blk_frozen BK305.out 1; have hfz24_2 := blk_frozen BK305.out 2))
        refine bodyPost_ret (results_cell_row rfl _ _ gb305 44 #[.bool t308, .int .i64 t309, .string t310] (0, 0) _ rfl (by (with_reducible repeat (first | refine blk_drewN ?_ _ | refine blk_drew ?_ | refine blk_alloc ?_ _)); refine blk_put (cs := #[.bool t308, .int .i64 t309, .string (⟨#[]⟩ : ByteArray)]) ?_ 2 _ rfl; (with_reducible repeat (first | refine blk_drewN ?_ _ | refine blk_drew ?_ | refine blk_alloc ?_ _)); refine blk_put (cs := #[.bool t308, .int .i64 0, .string (⟨#[]⟩ : ByteArray)]) ?_ 1 _ rfl; (with_reducible repeat (first | refine blk_drewN ?_ _ | refine blk_drew ?_ | refine blk_alloc ?_ _)); refine blk_put (cs := #[.bool false, .int .i64 0, .string (⟨#[]⟩ : ByteArray)]) ?_ 0 _ rfl; (with_reducible repeat (first | refine blk_drewN ?_ _ | refine blk_drew ?_ | refine blk_alloc ?_ _)); exact BK305.out) Tryz.underlying44 rfl (by kernel_rfl)) rfl ?_
        exact ⟨xe, xb⟩
      · replace c18 := Bool.eq_false_iff.mpr c18
        subst c18
        have H1 : ((strconv_Atoi.f a0_2).bind fun bt311 => ((value_Num.f bt311.1).bind fun bt313 => (some (bt313.1, bt313.2.1, bt313.2.2)))) = some (r1, r2, r3) := by rw [if_neg (show ¬ (false = true) by decide)] at H; exact H
        clear H
        have H := H1
        clear H1
        replace H := Option.bind_eq_some_iff.mp H
        obtain ⟨⟨t311, t312⟩, A250, H⟩ := H
        replace H : ((value_Num.f t311).bind fun bt313 => (some (bt313.1, bt313.2.1, bt313.2.2))) = some (r1, r2, r3) := H
        have A25 := Aside0.mk A250
        clear A250
        replace H := Option.bind_eq_some_iff.mp H
        obtain ⟨⟨t313, t314, t315⟩, A260, H⟩ := H
        replace H : (some (t313, t314, t315)) = some (r1, r2, r3) := H
        have A26 := Aside0.mk A260
        clear A260
        simp only [Option.some.injEq, Prod.mk.injEq] at H
        obtain ⟨rfl, rfl, rfl⟩ := H
        have hnb27 := NB302_303.out
        have hnc27 := NB303_302.out
        have hnb28 := NB302_304.out
        have hnc28 := NB304_302.out
        have hnb29 := NB302_305.out
        have hnc29 := NB305_302.out
        have hcz30_0 : wc.cell? ⟨gb302, 0, none⟩ = some (.bool a0_0) := (blk_cell BK302.out 0).trans rfl
        have hcz30_1 : wc.cell? ⟨gb302, 1, none⟩ = some (.int .i64 a0_1) := (blk_cell BK302.out 1).trans rfl
        have hcz30_2 : wc.cell? ⟨gb302, 2, none⟩ = some (.string a0_2) := (blk_cell BK302.out 2).trans rfl
        have hfz30_0 := blk_frozen BK302.out 0
        have hfz30_1 := blk_frozen BK302.out 1
        have hfz30_2 := blk_frozen BK302.out 2
        go_wp2_with (first | ((with_reducible refine gate_callee (f := 106) rfl ?_); refine goesL_ (some 29) rfl rfl Tryz.func106 (by kernel_rfl) rfl #[.string a0_2] rfl xr ?_; (with_reducible refine (strconv_Atoi.calls a0_2 t311 t312 _ (Tabs.below hT xf) A25.out).mono ?_); rintro e w31 ⟨rfl, hb⟩; refine ⟨_, rfl, ?_⟩; have n0_ := xd BK302.out hb; have n1_ := xd BK303.out hb; have n2_ := xd BK304.out hb; have n3_ := xd BK305.out hb; have n4_ := Aside0.mk (below_step xb hb); clear BK302; clear BK303; clear BK304; clear BK305; clear HB; have BK302 := n0_; have BK303 := n1_; have BK304 := n2_; have BK305 := n3_; have HB := n4_; clear n0_ n1_ n2_ n3_ n4_; (try clear hb); (try clear hb2); (try clear hk); (try clear hi); (try simp only [errW_none, errW_some])) | ((with_reducible refine gate_callee (f := 53) rfl ?_); refine goesL_ (some 33) rfl rfl Tryz.func53 (by kernel_rfl) rfl #[.int .i64 t311] rfl xr ?_; (with_reducible refine (value_Num.calls t311 t313 t314 t315 _ (Tabs.below hT xf) A26.out).mono ?_); rintro e w32 ⟨rfl, hb⟩; refine ⟨_, rfl, ?_⟩; have n0_ := xd BK302.out hb; have n1_ := xd BK303.out hb; have n2_ := xd BK304.out hb; have n3_ := xd BK305.out hb; have n4_ := Aside0.mk (below_step xb hb); clear BK302; clear BK303; clear BK304; clear BK305; clear HB; have BK302 := n0_; have BK303 := n1_; have BK304 := n2_; have BK305 := n3_; have HB := n4_; clear n0_ n1_ n2_ n3_ n4_; (try clear hb); (try clear hb2); (try clear hk); (try clear hi); have hnb33 := NB305_303.out; have hnc33 := NB303_305.out; have hnb34 := NB305_304.out; have hnc34 := NB304_305.out; have hcz35_0 : w32.cell? ⟨gb305, 0, none⟩ = some (.bool false) := (blk_cell BK305.out 0).trans rfl; have hcz35_1 : w32.cell? ⟨gb305, 1, none⟩ = some (.int .i64 0) := (blk_cell BK305.out 1).trans rfl; have hcz35_2 : w32.cell? ⟨gb305, 2, none⟩ = some (.string (⟨#[]⟩ : ByteArray)) := (blk_cell BK305.out 2).trans rfl; have hfz35_0 := blk_frozen BK305.out 0; have hfz35_1 := blk_frozen BK305.out 1; have hfz35_2 := blk_frozen BK305.out 2))
        refine bodyPost_ret (results_cell_row rfl _ _ gb305 44 #[.bool t313, .int .i64 t314, .string t315] (0, 0) _ rfl (by (with_reducible repeat (first | refine blk_drewN ?_ _ | refine blk_drew ?_ | refine blk_alloc ?_ _)); refine blk_put (cs := #[.bool t313, .int .i64 t314, .string (⟨#[]⟩ : ByteArray)]) ?_ 2 _ rfl; (with_reducible repeat (first | refine blk_drewN ?_ _ | refine blk_drew ?_ | refine blk_alloc ?_ _)); refine blk_put (cs := #[.bool t313, .int .i64 0, .string (⟨#[]⟩ : ByteArray)]) ?_ 1 _ rfl; (with_reducible repeat (first | refine blk_drewN ?_ _ | refine blk_drew ?_ | refine blk_alloc ?_ _)); refine blk_put (cs := #[.bool false, .int .i64 0, .string (⟨#[]⟩ : ByteArray)]) ?_ 0 _ rfl; (with_reducible repeat (first | refine blk_drewN ?_ _ | refine blk_drew ?_ | refine blk_alloc ?_ _)); exact BK305.out) Tryz.underlying44 rfl (by kernel_rfl)) rfl ?_
        exact ⟨xe, xb⟩

/-! ### strconv_Itoa: function 107 -/
def strconv_Itoa.f (a0 : Int) : Option (ByteArray) := if -9223372036854775808 ≤ a0 ∧ a0 ≤ 9223372036854775807 then some ⟨(Lib.itoa a0).toArray⟩ else none
theorem strconv_Itoa.calls (a0 : Int) (r : ByteArray) (w : World) (hT : Tabs w) (h : strconv_Itoa.f a0 = some r) :
    Calls Tryz.prog 107 #[.int .i64 a0] w fun e w' => e = .returned (.string r) ∧ Below w.heap.size w w' := by
  unfold strconv_Itoa.f at h
  by_cases hq : -9223372036854775808 ≤ a0 ∧ a0 ≤ 9223372036854775807
  · rw [if_pos hq] at h
    obtain rfl := Option.some.inj h
    refine (Any.strconv_Itoa Tryz.laysM171 a0 hq.1 hq.2 w hT.pow10).mono ?_
    rintro e w' ⟨rfl, k, os, rfl⟩
    exact ⟨rfl, Lib.below_grow _ _ (Nat.le_refl _) _ _⟩
  · rw [if_neg hq] at h
    cases h


/-! ### value_val_text: function 96 -/
def value_val_text.f (a0_0 : Bool) (a0_1 : Int) (a0_2 : ByteArray) (a1_0 : Bool) (a1_1 : Int) (a1_2 : ByteArray) (a2_0 : Bool) (a2_1 : Int) (a2_2 : ByteArray) : Option (Bool × Int × ByteArray) := (strconv_Itoa.f a0_1).bind fun t320 => ((value_Text.f t320).bind fun bt321 => (some (bt321.1, bt321.2.1, bt321.2.2)))
set_option maxHeartbeats 8000000 in
set_option maxRecDepth 100000 in
theorem value_val_text.calls (a0_0 : Bool) (a0_1 : Int) (a0_2 : ByteArray) (a1_0 : Bool) (a1_1 : Int) (a1_2 : ByteArray) (a2_0 : Bool) (a2_1 : Int) (a2_2 : ByteArray) (r1 : Bool) (r2 : Int) (r3 : ByteArray) (w : World) (hT : Tabs w) (h : value_val_text.f a0_0 a0_1 a0_2 a1_0 a1_1 a1_2 a2_0 a2_1 a2_2 = some (r1, r2, r3)) :
    Calls Tryz.prog 96 #[.agg #[.bool a0_0, .int .i64 a0_1, .string a0_2], .agg #[.bool a1_0, .int .i64 a1_1, .string a1_2], .agg #[.bool a2_0, .int .i64 a2_1, .string a2_2]] w fun e w' => e = .returned (.agg #[.bool r1, .int .i64 r2, .string r3]) ∧ Below w.heap.size w w' := by
  have hu111 := Tryz.underlying111
  have hu44 := Tryz.underlying44
  have HB := Aside0.mk (Below.refl w.heap.size w)
  have H : ((strconv_Itoa.f a0_1).bind fun t320 => ((value_Text.f t320).bind fun bt321 => (some (bt321.1, bt321.2.1, bt321.2.2)))) = some (r1, r2, r3) := h
  clear h
  replace H := Option.bind_eq_some_iff.mp H
  obtain ⟨t320, A40, H⟩ := H
  replace H : ((value_Text.f t320).bind fun bt321 => (some (bt321.1, bt321.2.1, bt321.2.2))) = some (r1, r2, r3) := H
  have A4 := Aside0.mk A40
  clear A40
  replace H := Option.bind_eq_some_iff.mp H
  obtain ⟨⟨t321, t322, t323⟩, A50, H⟩ := H
  replace H : (some (t321, t322, t323)) = some (r1, r2, r3) := H
  have A5 := Aside0.mk A50
  clear A50
  simp only [Option.some.injEq, Prod.mk.injEq] at H
  obtain ⟨rfl, rfl, rfl⟩ := H
  go_enter Tryz.func96, Tryz.ntmps96
  go_wp2_with (first | ((with_reducible refine gate_dst (N := 3) rfl ?_); refine box_event ?hg (N := 3) ?hd (cs := #[.bool a0_0, .int .i64 a0_1, .string a0_2]) (t := 111) ?hr ?_; (case hd => rfl); (case hg => rfl); (case hr => exact xh); intro gb316 hg w6 hbox hb; have n0_ := Aside0.mk (below_step xb hb); have n1_ := Aside0.mk (hbox); have n2_ := xs w hg; have n3_ := xs w hg; clear HB; have HB := n0_; have BK316 := n1_; have GW316 := n2_; have GE316 := n3_; clear n0_ n1_ n2_ n3_; clear hb hbox hg) | ((with_reducible refine gate_dst (N := 4) rfl ?_); refine box_event ?hg (N := 4) ?hd (cs := #[.bool a1_0, .int .i64 a1_1, .string a1_2]) (t := 111) ?hr ?_; (case hd => rfl); (case hg => rfl); (case hr => exact xh); intro gb317 hg w7 hbox hb; have n0_ := xd BK316.out hb; have n1_ := Aside0.mk (below_step xb hb); have n2_ := Aside0.mk (hbox); have n3_ := xs w hg; have n4_ := xs w hg; have n5_ := xn hg BK316.out; have n6_ := xp hg BK316.out; clear BK316; clear HB; have BK316 := n0_; have HB := n1_; have BK317 := n2_; have GW317 := n3_; have GE317 := n4_; have NB316_317 := n5_; have NB317_316 := n6_; clear n0_ n1_ n2_ n3_ n4_ n5_ n6_; clear hb hbox hg) | ((with_reducible refine gate_dst (N := 5) rfl ?_); refine box_event ?hg (N := 5) ?hd (cs := #[.bool a2_0, .int .i64 a2_1, .string a2_2]) (t := 111) ?hr ?_; (case hd => rfl); (case hg => rfl); (case hr => exact xh); intro gb318 hg w8 hbox hb; have n0_ := xd BK316.out hb; have n1_ := xd BK317.out hb; have n2_ := Aside0.mk (below_step xb hb); have n3_ := Aside0.mk (hbox); have n4_ := xs w hg; have n5_ := xs w hg; have n6_ := xn hg BK316.out; have n7_ := xp hg BK316.out; have n8_ := xn hg BK317.out; have n9_ := xp hg BK317.out; clear BK316; clear BK317; clear HB; have BK316 := n0_; have BK317 := n1_; have HB := n2_; have BK318 := n3_; have GW318 := n4_; have GE318 := n5_; have NB316_318 := n6_; have NB318_316 := n7_; have NB317_318 := n8_; have NB318_317 := n9_; clear n0_ n1_ n2_ n3_ n4_ n5_ n6_ n7_ n8_ n9_; clear hb hbox hg) | ((with_reducible refine gate_dst (N := 6) rfl ?_); refine box_event ?hg (N := 6) ?hd (cs := #[.bool false, .int .i64 0, .string (⟨#[]⟩ : ByteArray)]) (t := 44) ?hr ?_; (case hd => rfl); (case hg => rfl); (case hr => exact xh); intro gb319 hg w9 hbox hb; have n0_ := xd BK316.out hb; have n1_ := xd BK317.out hb; have n2_ := xd BK318.out hb; have n3_ := Aside0.mk (below_step xb hb); have n4_ := Aside0.mk (hbox); have n5_ := xs w hg; have n6_ := xs w hg; have n7_ := xn hg BK316.out; have n8_ := xp hg BK316.out; have n9_ := xn hg BK317.out; have n10_ := xp hg BK317.out; have n11_ := xn hg BK318.out; have n12_ := xp hg BK318.out; clear BK316; clear BK317; clear BK318; clear HB; have BK316 := n0_; have BK317 := n1_; have BK318 := n2_; have HB := n3_; have BK319 := n4_; have GW319 := n5_; have GE319 := n6_; have NB316_319 := n7_; have NB319_316 := n8_; have NB317_319 := n9_; have NB319_317 := n10_; have NB318_319 := n11_; have NB319_318 := n12_; clear n0_ n1_ n2_ n3_ n4_ n5_ n6_ n7_ n8_ n9_ n10_ n11_ n12_; clear hb hbox hg; have hnb10 := NB316_317.out; have hnc10 := NB317_316.out; have hnb11 := NB316_318.out; have hnc11 := NB318_316.out; have hnb12 := NB316_319.out; have hnc12 := NB319_316.out; have hcz13_0 : w9.cell? ⟨gb316, 0, none⟩ = some (.bool a0_0) := (blk_cell BK316.out 0).trans rfl; have hcz13_1 : w9.cell? ⟨gb316, 1, none⟩ = some (.int .i64 a0_1) := (blk_cell BK316.out 1).trans rfl; have hcz13_2 : w9.cell? ⟨gb316, 2, none⟩ = some (.string a0_2) := (blk_cell BK316.out 2).trans rfl; have hfz13_0 := blk_frozen BK316.out 0; have hfz13_1 := blk_frozen BK316.out 1; have hfz13_2 := blk_frozen BK316.out 2) | ((with_reducible refine gate_callee (f := 107) rfl ?_); refine goesL_ (some 9) rfl rfl Tryz.func107 (by kernel_rfl) rfl #[.int .i64 a0_1] rfl xr ?_; (with_reducible refine (strconv_Itoa.calls a0_1 t320 _ (Tabs.below hT xf) A4.out).mono ?_); rintro e w14 ⟨rfl, hb⟩; refine ⟨_, rfl, ?_⟩; have n0_ := xd BK316.out hb; have n1_ := xd BK317.out hb; have n2_ := xd BK318.out hb; have n3_ := xd BK319.out hb; have n4_ := Aside0.mk (below_step xb hb); clear BK316; clear BK317; clear BK318; clear BK319; clear HB; have BK316 := n0_; have BK317 := n1_; have BK318 := n2_; have BK319 := n3_; have HB := n4_; clear n0_ n1_ n2_ n3_ n4_; (try clear hb); (try clear hb2); (try clear hk); (try clear hi)) | ((with_reducible refine gate_callee (f := 52) rfl ?_); refine goesL_ (some 10) rfl rfl Tryz.func52 (by kernel_rfl) rfl #[.string t320] rfl xr ?_; (with_reducible refine (value_Text.calls t320 t321 t322 t323 _ (Tabs.below hT xf) A5.out).mono ?_); rintro e w15 ⟨rfl, hb⟩; refine ⟨_, rfl, ?_⟩; have n0_ := xd BK316.out hb; have n1_ := xd BK317.out hb; have n2_ := xd BK318.out hb; have n3_ := xd BK319.out hb; have n4_ := Aside0.mk (below_step xb hb); clear BK316; clear BK317; clear BK318; clear BK319; clear HB; have BK316 := n0_; have BK317 := n1_; have BK318 := n2_; have BK319 := n3_; have HB := n4_; clear n0_ n1_ n2_ n3_ n4_; (try clear hb); (try clear hb2); (try clear hk); (try clear hi); have hnb16 := NB319_317.out; have hnc16 := NB317_319.out; have hnb17 := NB319_318.out; have hnc17 := NB318_319.out; have hcz18_0 : w15.cell? ⟨gb319, 0, none⟩ = some (.bool false) := (blk_cell BK319.out 0).trans rfl; have hcz18_1 : w15.cell? ⟨gb319, 1, none⟩ = some (.int .i64 0) := (blk_cell BK319.out 1).trans rfl; have hcz18_2 : w15.cell? ⟨gb319, 2, none⟩ = some (.string (⟨#[]⟩ : ByteArray)) := (blk_cell BK319.out 2).trans rfl; have hfz18_0 := blk_frozen BK319.out 0; have hfz18_1 := blk_frozen BK319.out 1; have hfz18_2 := blk_frozen BK319.out 2))
  refine bodyPost_ret (results_cell_row rfl _ _ gb319 44 #[.bool t321, .int .i64 t322, .string t323] (0, 0) _ rfl (by (with_reducible repeat (first | refine blk_drewN ?_ _ | refine blk_drew ?_ | refine blk_alloc ?_ _)); refine blk_put (cs := #[.bool t321, .int .i64 t322, .string (⟨#[]⟩ : ByteArray)]) ?_ 2 _ rfl; (with_reducible repeat (first | refine blk_drewN ?_ _ | refine blk_drew ?_ | refine blk_alloc ?_ _)); refine blk_put (cs := #[.bool t321, .int .i64 0, .string (⟨#[]⟩ : ByteArray)]) ?_ 1 _ rfl; (with_reducible repeat (first | refine blk_drewN ?_ _ | refine blk_drew ?_ | refine blk_alloc ?_ _)); refine blk_put (cs := #[.bool false, .int .i64 0, .string (⟨#[]⟩ : ByteArray)]) ?_ 0 _ rfl; (with_reducible repeat (first | refine blk_drewN ?_ _ | refine blk_drew ?_ | refine blk_alloc ?_ _)); exact BK319.out) Tryz.underlying44 rfl (by kernel_rfl)) rfl ?_
  exact ⟨xe, xb⟩

end Go.Proofs.YtejmgcfjpofniaaGreatDoor.PX
