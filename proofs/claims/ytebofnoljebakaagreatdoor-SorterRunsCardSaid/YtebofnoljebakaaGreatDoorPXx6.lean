/- Walked functions, by this session's program over the kit's print. -/
import Derived.Test.YtebofnoljebakaaGreatDoorPXx0
import Derived.Test.YtebofnoljebakaaGreatDoorPXx3
import Derived.Test.YtebofnoljebakaaGreatDoorPXx4
import Derived.Test.YtebofnoljebakaaGreatDoorXDo
namespace Go.Proofs.YtebofnoljebakaaGreatDoor.PX
open Go.RowKit Go.Proofs.YtebofnoljebakaaGreatDoorW.PrintWords Go.Proofs.YtebofnoljebakaaGreatDoorW.PrintLast Go.Proofs.YtebofnoljebakaaGreatDoorW.PrintMore
attribute [local go_sem] xm_gtr max2_int min2_int max_two min_two max_three min_three max_four min_four
set_option linter.unusedVariables false
set_option linter.unusedSimpArgs false
/- Walked functions, by this session's program over the kit's print. -/
def value_val_eq.f (k : Nat) (a0_0 : Bool) (a0_1 : Int) (a0_2 : ByteArray) (a1_0 : Bool) (a1_1 : Int) (a1_2 : ByteArray) (a2_0 : Bool) (a2_1 : Int) (a2_2 : ByteArray) : Option (Bool × Int × ByteArray) := (value_Compare.f k a0_0 a0_1 a0_2 a1_0 a1_1 a1_2).bind fun t224 => ((value_yes.f (t224 == 0)).bind fun bt225 => (some (bt225.1, bt225.2.1, bt225.2.2)))
theorem value_val_eq.mono : ∀ a0 a1 a2 a3 a4 a5 a6 a7 a8 k, LeO (value_val_eq.f k a0 a1 a2 a3 a4 a5 a6 a7 a8) (value_val_eq.f (k + 1) a0 a1 a2 a3 a4 a5 a6 a7 a8) := by
 intro a0 a1 a2 a3 a4 a5 a6 a7 a8 k
 unfold value_val_eq.f
 repeat' (with_reducible first | exact value_Compare.mono _ _ _ _ _ _ _ | exact LeO.refl _ | exact LeO.none _ | refine LeO.ite ?_ ?_ | refine LeO.bind ?_ (fun _ => ?_))
set_option maxHeartbeats 8000000 in
set_option maxRecDepth 100000 in
theorem value_val_eq.calls (k : Nat) (a0_0 : Bool) (a0_1 : Int) (a0_2 : ByteArray) (a1_0 : Bool) (a1_1 : Int) (a1_2 : ByteArray) (a2_0 : Bool) (a2_1 : Int) (a2_2 : ByteArray) (r1 : Bool) (r2 : Int) (r3 : ByteArray) (w : World) (hT : Tabs w) (h : value_val_eq.f k a0_0 a0_1 a0_2 a1_0 a1_1 a1_2 a2_0 a2_1 a2_2 = some (r1, r2, r3)) :
  Calls Tryz.prog 84 #[.agg #[.bool a0_0, .int .i64 a0_1, .string a0_2], .agg #[.bool a1_0, .int .i64 a1_1, .string a1_2], .agg #[.bool a2_0, .int .i64 a2_1, .string a2_2]] w fun e w' => e = .returned (.agg #[.bool r1, .int .i64 r2, .string r3]) ∧ Below w.heap.size w w' := by
 have hu103 := Tryz.underlying103
 have hu24 := Tryz.underlying24
 have HB := xy (Below.refl w.heap.size w)
 unfold value_val_eq.f at h
 have H := h
 clear h
 replace H := xj H
 obtain ⟨t224, A40, H⟩ := H
 try dsimp only at H
 have A4 := xy A40
 clear A40
 replace H := xj H
 obtain ⟨⟨t225, t226, t227⟩, A50, H⟩ := H
 try dsimp only at H
 have A5 := xy A50
 clear A50
 simp only [Option.some.injEq, Prod.mk.injEq] at H
 obtain ⟨rfl, rfl, rfl⟩ := H
 go_enter Tryz.func84, Tryz.ntmps84
 go_wp2_with (first | ((with_reducible refine gate_dst (N := 3) rfl ?_); refine xq (N := 3) (cs := #[.bool a0_0, .int .i64 a0_1, .string a0_2]) (t := 103) ?_; intro gb220 hg w6 hbox hb; have BK220 := xy (hbox); have GW220 := xs w hg; have GE220 := xs w hg; replace HB := xy (below_step xb hb); clear hb hbox hg) | ((with_reducible refine gate_dst (N := 4) rfl ?_); refine xq (N := 4) (cs := #[.bool a1_0, .int .i64 a1_1, .string a1_2]) (t := 103) ?_; intro gb221 hg w7 hbox hb; have BK221 := xy (hbox); have GW221 := xs w hg; have GE221 := xs w hg; replace HB := xy (below_step xb hb); have NB220_221 := xn hg BK220.out; have NB221_220 := xp hg BK220.out; replace BK220 := xd BK220.out hb; clear hb hbox hg) | ((with_reducible refine gate_dst (N := 5) rfl ?_); refine xq (N := 5) (cs := #[.bool a2_0, .int .i64 a2_1, .string a2_2]) (t := 103) ?_; intro gb222 hg w8 hbox hb; have BK222 := xy (hbox); have GW222 := xs w hg; have GE222 := xs w hg; replace HB := xy (below_step xb hb); have NB220_222 := xn hg BK220.out; have NB222_220 := xp hg BK220.out; replace BK220 := xd BK220.out hb; have NB221_222 := xn hg BK221.out; have NB222_221 := xp hg BK221.out; replace BK221 := xd BK221.out hb; clear hb hbox hg) | ((with_reducible refine gate_dst (N := 6) rfl ?_); refine xq (N := 6) (cs := #[.bool false, .int .i64 0, .string (⟨#[]⟩ : ByteArray)]) (t := 24) ?_; intro gb223 hg w9 hbox hb; have BK223 := xy (hbox); have GW223 := xs w hg; have GE223 := xs w hg; replace HB := xy (below_step xb hb); have NB220_223 := xn hg BK220.out; have NB223_220 := xp hg BK220.out; replace BK220 := xd BK220.out hb; have NB221_223 := xn hg BK221.out; have NB223_221 := xp hg BK221.out; replace BK221 := xd BK221.out hb; have NB222_223 := xn hg BK222.out; have NB223_222 := xp hg BK222.out; replace BK222 := xd BK222.out hb; clear hb hbox hg; have hnb10 := NB220_221.out; have hnc10 := NB221_220.out; have hnb11 := NB220_222.out; have hnc11 := NB222_220.out; have hnb12 := NB220_223.out; have hnc12 := NB223_220.out; have hcz13_0 : w9.cell? ⟨gb220, 0, none⟩ = some (.bool a0_0) := (kc BK220.out 0).trans rfl; have hcz13_1 : w9.cell? ⟨gb220, 1, none⟩ = some (.int .i64 a0_1) := (kc BK220.out 1).trans rfl; have hcz13_2 : w9.cell? ⟨gb220, 2, none⟩ = some (.string a0_2) := (kc BK220.out 2).trans rfl; have hfz13_0 := kf BK220.out 0; have hfz13_1 := kf BK220.out 1; have hfz13_2 := kf BK220.out 2; have hnb14 := NB221_222.out; have hnc14 := NB222_221.out; have hnb15 := NB221_223.out; have hnc15 := NB223_221.out; have hcz16_0 : w9.cell? ⟨gb221, 0, none⟩ = some (.bool a1_0) := (kc BK221.out 0).trans rfl; have hcz16_1 : w9.cell? ⟨gb221, 1, none⟩ = some (.int .i64 a1_1) := (kc BK221.out 1).trans rfl; have hcz16_2 : w9.cell? ⟨gb221, 2, none⟩ = some (.string a1_2) := (kc BK221.out 2).trans rfl; have hfz16_0 := kf BK221.out 0; have hfz16_1 := kf BK221.out 1; have hfz16_2 := kf BK221.out 2) | ((with_reducible refine gate_callee (f := 96) rfl ?_); refine goesL_ (some 9) rfl rfl Tryz.func96 (by kernel_rfl) rfl #[.agg #[.bool a0_0, .int .i64 a0_1, .string a0_2], .agg #[.bool a1_0, .int .i64 a1_1, .string a1_2]] rfl xr ?_; (with_reducible refine (value_Compare.calls k a0_0 a0_1 a0_2 a1_0 a1_1 a1_2 t224 _ (Tabs.below hT xf) A4.out).mono ?_); rintro e w17 ⟨rfl, hb⟩; refine ⟨_, rfl, ?_⟩; replace BK220 := xd BK220.out hb; replace BK221 := xd BK221.out hb; replace BK222 := xd BK222.out hb; replace BK223 := xd BK223.out hb; replace HB := xy (below_step xb hb); (try clear hb); (try clear hb2); (try clear hk); (try clear hi)) | ((with_reducible refine gate_callee (f := 95) rfl ?_); refine goesL_ (some 11) rfl rfl Tryz.func95 (by kernel_rfl) rfl #[.bool (t224 == 0)] rfl xr ?_; (with_reducible refine (value_yes.calls (t224 == 0) t225 t226 t227 _ (Tabs.below hT xf) A5.out).mono ?_); rintro e w18 ⟨rfl, hb⟩; refine ⟨_, rfl, ?_⟩; replace BK220 := xd BK220.out hb; replace BK221 := xd BK221.out hb; replace BK222 := xd BK222.out hb; replace BK223 := xd BK223.out hb; replace HB := xy (below_step xb hb); (try clear hb); (try clear hb2); (try clear hk); (try clear hi); have hnb19 := NB223_222.out; have hnc19 := NB222_223.out; have hcz20_0 : w18.cell? ⟨gb223, 0, none⟩ = some (.bool false) := (kc BK223.out 0).trans rfl; have hcz20_1 : w18.cell? ⟨gb223, 1, none⟩ = some (.int .i64 0) := (kc BK223.out 1).trans rfl; have hcz20_2 : w18.cell? ⟨gb223, 2, none⟩ = some (.string (⟨#[]⟩ : ByteArray)) := (kc BK223.out 2).trans rfl; have hfz20_0 := kf BK223.out 0; have hfz20_1 := kf BK223.out 1; have hfz20_2 := kf BK223.out 2))
 refine bodyPost_ret (results_cell_row rfl _ _ gb223 24 #[.bool t225, .int .i64 t226, .string t227] (0, 0) _ rfl (kp BK223.out) Tryz.underlying24 rfl (by kernel_rfl)) rfl ?_
 exact ⟨xe, xb⟩
def value_val_less.f (k : Nat) (a0_0 : Bool) (a0_1 : Int) (a0_2 : ByteArray) (a1_0 : Bool) (a1_1 : Int) (a1_2 : ByteArray) (a2_0 : Bool) (a2_1 : Int) (a2_2 : ByteArray) : Option (Bool × Int × ByteArray) := (value_Compare.f k a0_0 a0_1 a0_2 a1_0 a1_1 a1_2).bind fun t232 => ((value_yes.f (decide (t232 < 0))).bind fun bt233 => (some (bt233.1, bt233.2.1, bt233.2.2)))
theorem value_val_less.mono : ∀ a0 a1 a2 a3 a4 a5 a6 a7 a8 k, LeO (value_val_less.f k a0 a1 a2 a3 a4 a5 a6 a7 a8) (value_val_less.f (k + 1) a0 a1 a2 a3 a4 a5 a6 a7 a8) := by
 intro a0 a1 a2 a3 a4 a5 a6 a7 a8 k
 unfold value_val_less.f
 repeat' (with_reducible first | exact value_Compare.mono _ _ _ _ _ _ _ | exact LeO.refl _ | exact LeO.none _ | refine LeO.ite ?_ ?_ | refine LeO.bind ?_ (fun _ => ?_))
set_option maxHeartbeats 8000000 in
set_option maxRecDepth 100000 in
theorem value_val_less.calls (k : Nat) (a0_0 : Bool) (a0_1 : Int) (a0_2 : ByteArray) (a1_0 : Bool) (a1_1 : Int) (a1_2 : ByteArray) (a2_0 : Bool) (a2_1 : Int) (a2_2 : ByteArray) (r1 : Bool) (r2 : Int) (r3 : ByteArray) (w : World) (hT : Tabs w) (h : value_val_less.f k a0_0 a0_1 a0_2 a1_0 a1_1 a1_2 a2_0 a2_1 a2_2 = some (r1, r2, r3)) :
  Calls Tryz.prog 85 #[.agg #[.bool a0_0, .int .i64 a0_1, .string a0_2], .agg #[.bool a1_0, .int .i64 a1_1, .string a1_2], .agg #[.bool a2_0, .int .i64 a2_1, .string a2_2]] w fun e w' => e = .returned (.agg #[.bool r1, .int .i64 r2, .string r3]) ∧ Below w.heap.size w w' := by
 have hu103 := Tryz.underlying103
 have hu24 := Tryz.underlying24
 have HB := xy (Below.refl w.heap.size w)
 unfold value_val_less.f at h
 have H := h
 clear h
 replace H := xj H
 obtain ⟨t232, A40, H⟩ := H
 try dsimp only at H
 have A4 := xy A40
 clear A40
 replace H := xj H
 obtain ⟨⟨t233, t234, t235⟩, A50, H⟩ := H
 try dsimp only at H
 have A5 := xy A50
 clear A50
 simp only [Option.some.injEq, Prod.mk.injEq] at H
 obtain ⟨rfl, rfl, rfl⟩ := H
 go_enter Tryz.func85, Tryz.ntmps85
 go_wp2_with (first | ((with_reducible refine gate_dst (N := 3) rfl ?_); refine xq (N := 3) (cs := #[.bool a0_0, .int .i64 a0_1, .string a0_2]) (t := 103) ?_; intro gb228 hg w6 hbox hb; have BK228 := xy (hbox); have GW228 := xs w hg; have GE228 := xs w hg; replace HB := xy (below_step xb hb); clear hb hbox hg) | ((with_reducible refine gate_dst (N := 4) rfl ?_); refine xq (N := 4) (cs := #[.bool a1_0, .int .i64 a1_1, .string a1_2]) (t := 103) ?_; intro gb229 hg w7 hbox hb; have BK229 := xy (hbox); have GW229 := xs w hg; have GE229 := xs w hg; replace HB := xy (below_step xb hb); have NB228_229 := xn hg BK228.out; have NB229_228 := xp hg BK228.out; replace BK228 := xd BK228.out hb; clear hb hbox hg) | ((with_reducible refine gate_dst (N := 5) rfl ?_); refine xq (N := 5) (cs := #[.bool a2_0, .int .i64 a2_1, .string a2_2]) (t := 103) ?_; intro gb230 hg w8 hbox hb; have BK230 := xy (hbox); have GW230 := xs w hg; have GE230 := xs w hg; replace HB := xy (below_step xb hb); have NB228_230 := xn hg BK228.out; have NB230_228 := xp hg BK228.out; replace BK228 := xd BK228.out hb; have NB229_230 := xn hg BK229.out; have NB230_229 := xp hg BK229.out; replace BK229 := xd BK229.out hb; clear hb hbox hg) | ((with_reducible refine gate_dst (N := 6) rfl ?_); refine xq (N := 6) (cs := #[.bool false, .int .i64 0, .string (⟨#[]⟩ : ByteArray)]) (t := 24) ?_; intro gb231 hg w9 hbox hb; have BK231 := xy (hbox); have GW231 := xs w hg; have GE231 := xs w hg; replace HB := xy (below_step xb hb); have NB228_231 := xn hg BK228.out; have NB231_228 := xp hg BK228.out; replace BK228 := xd BK228.out hb; have NB229_231 := xn hg BK229.out; have NB231_229 := xp hg BK229.out; replace BK229 := xd BK229.out hb; have NB230_231 := xn hg BK230.out; have NB231_230 := xp hg BK230.out; replace BK230 := xd BK230.out hb; clear hb hbox hg; have hnb10 := NB228_229.out; have hnc10 := NB229_228.out; have hnb11 := NB228_230.out; have hnc11 := NB230_228.out; have hnb12 := NB228_231.out; have hnc12 := NB231_228.out; have hcz13_0 : w9.cell? ⟨gb228, 0, none⟩ = some (.bool a0_0) := (kc BK228.out 0).trans rfl; have hcz13_1 : w9.cell? ⟨gb228, 1, none⟩ = some (.int .i64 a0_1) := (kc BK228.out 1).trans rfl; have hcz13_2 : w9.cell? ⟨gb228, 2, none⟩ = some (.string a0_2) := (kc BK228.out 2).trans rfl; have hfz13_0 := kf BK228.out 0; have hfz13_1 := kf BK228.out 1; have hfz13_2 := kf BK228.out 2; have hnb14 := NB229_230.out; have hnc14 := NB230_229.out; have hnb15 := NB229_231.out; have hnc15 := NB231_229.out; have hcz16_0 : w9.cell? ⟨gb229, 0, none⟩ = some (.bool a1_0) := (kc BK229.out 0).trans rfl; have hcz16_1 : w9.cell? ⟨gb229, 1, none⟩ = some (.int .i64 a1_1) := (kc BK229.out 1).trans rfl; have hcz16_2 : w9.cell? ⟨gb229, 2, none⟩ = some (.string a1_2) := (kc BK229.out 2).trans rfl; have hfz16_0 := kf BK229.out 0; have hfz16_1 := kf BK229.out 1; have hfz16_2 := kf BK229.out 2) | ((with_reducible refine gate_callee (f := 96) rfl ?_); refine goesL_ (some 9) rfl rfl Tryz.func96 (by kernel_rfl) rfl #[.agg #[.bool a0_0, .int .i64 a0_1, .string a0_2], .agg #[.bool a1_0, .int .i64 a1_1, .string a1_2]] rfl xr ?_; (with_reducible refine (value_Compare.calls k a0_0 a0_1 a0_2 a1_0 a1_1 a1_2 t232 _ (Tabs.below hT xf) A4.out).mono ?_); rintro e w17 ⟨rfl, hb⟩; refine ⟨_, rfl, ?_⟩; replace BK228 := xd BK228.out hb; replace BK229 := xd BK229.out hb; replace BK230 := xd BK230.out hb; replace BK231 := xd BK231.out hb; replace HB := xy (below_step xb hb); (try clear hb); (try clear hb2); (try clear hk); (try clear hi)) | ((with_reducible refine gate_callee (f := 95) rfl ?_); refine goesL_ (some 11) rfl rfl Tryz.func95 (by kernel_rfl) rfl #[.bool (decide (t232 < 0))] rfl xr ?_; (with_reducible refine (value_yes.calls (decide (t232 < 0)) t233 t234 t235 _ (Tabs.below hT xf) A5.out).mono ?_); rintro e w18 ⟨rfl, hb⟩; refine ⟨_, rfl, ?_⟩; replace BK228 := xd BK228.out hb; replace BK229 := xd BK229.out hb; replace BK230 := xd BK230.out hb; replace BK231 := xd BK231.out hb; replace HB := xy (below_step xb hb); (try clear hb); (try clear hb2); (try clear hk); (try clear hi); have hnb19 := NB231_230.out; have hnc19 := NB230_231.out; have hcz20_0 : w18.cell? ⟨gb231, 0, none⟩ = some (.bool false) := (kc BK231.out 0).trans rfl; have hcz20_1 : w18.cell? ⟨gb231, 1, none⟩ = some (.int .i64 0) := (kc BK231.out 1).trans rfl; have hcz20_2 : w18.cell? ⟨gb231, 2, none⟩ = some (.string (⟨#[]⟩ : ByteArray)) := (kc BK231.out 2).trans rfl; have hfz20_0 := kf BK231.out 0; have hfz20_1 := kf BK231.out 1; have hfz20_2 := kf BK231.out 2))
 refine bodyPost_ret (results_cell_row rfl _ _ gb231 24 #[.bool t233, .int .i64 t234, .string t235] (0, 0) _ rfl (kp BK231.out) Tryz.underlying24 rfl (by kernel_rfl)) rfl ?_
 exact ⟨xe, xb⟩
def value_val_not.f (a0_0 : Bool) (a0_1 : Int) (a0_2 : ByteArray) (a1_0 : Bool) (a1_1 : Int) (a1_2 : ByteArray) (a2_0 : Bool) (a2_1 : Int) (a2_2 : ByteArray) : Option (Bool × Int × ByteArray) := (value_yes.f (a0_1 == 0)).bind fun bt240 => (some (bt240.1, bt240.2.1, bt240.2.2))
set_option maxHeartbeats 8000000 in
set_option maxRecDepth 100000 in
theorem value_val_not.calls (a0_0 : Bool) (a0_1 : Int) (a0_2 : ByteArray) (a1_0 : Bool) (a1_1 : Int) (a1_2 : ByteArray) (a2_0 : Bool) (a2_1 : Int) (a2_2 : ByteArray) (r1 : Bool) (r2 : Int) (r3 : ByteArray) (w : World) (hT : Tabs w) (h : value_val_not.f a0_0 a0_1 a0_2 a1_0 a1_1 a1_2 a2_0 a2_1 a2_2 = some (r1, r2, r3)) :
  Calls Tryz.prog 86 #[.agg #[.bool a0_0, .int .i64 a0_1, .string a0_2], .agg #[.bool a1_0, .int .i64 a1_1, .string a1_2], .agg #[.bool a2_0, .int .i64 a2_1, .string a2_2]] w fun e w' => e = .returned (.agg #[.bool r1, .int .i64 r2, .string r3]) ∧ Below w.heap.size w w' := by
 have hu103 := Tryz.underlying103
 have hu24 := Tryz.underlying24
 have HB := xy (Below.refl w.heap.size w)
 unfold value_val_not.f at h
 have H := h
 clear h
 replace H := xj H
 obtain ⟨⟨t240, t241, t242⟩, A40, H⟩ := H
 try dsimp only at H
 have A4 := xy A40
 clear A40
 simp only [Option.some.injEq, Prod.mk.injEq] at H
 obtain ⟨rfl, rfl, rfl⟩ := H
 go_enter Tryz.func86, Tryz.ntmps86
 go_wp2_with (first | ((with_reducible refine gate_dst (N := 3) rfl ?_); refine xq (N := 3) (cs := #[.bool a0_0, .int .i64 a0_1, .string a0_2]) (t := 103) ?_; intro gb236 hg w5 hbox hb; have BK236 := xy (hbox); have GW236 := xs w hg; have GE236 := xs w hg; replace HB := xy (below_step xb hb); clear hb hbox hg) | ((with_reducible refine gate_dst (N := 4) rfl ?_); refine xq (N := 4) (cs := #[.bool a1_0, .int .i64 a1_1, .string a1_2]) (t := 103) ?_; intro gb237 hg w6 hbox hb; have BK237 := xy (hbox); have GW237 := xs w hg; have GE237 := xs w hg; replace HB := xy (below_step xb hb); have NB236_237 := xn hg BK236.out; have NB237_236 := xp hg BK236.out; replace BK236 := xd BK236.out hb; clear hb hbox hg) | ((with_reducible refine gate_dst (N := 5) rfl ?_); refine xq (N := 5) (cs := #[.bool a2_0, .int .i64 a2_1, .string a2_2]) (t := 103) ?_; intro gb238 hg w7 hbox hb; have BK238 := xy (hbox); have GW238 := xs w hg; have GE238 := xs w hg; replace HB := xy (below_step xb hb); have NB236_238 := xn hg BK236.out; have NB238_236 := xp hg BK236.out; replace BK236 := xd BK236.out hb; have NB237_238 := xn hg BK237.out; have NB238_237 := xp hg BK237.out; replace BK237 := xd BK237.out hb; clear hb hbox hg) | ((with_reducible refine gate_dst (N := 6) rfl ?_); refine xq (N := 6) (cs := #[.bool false, .int .i64 0, .string (⟨#[]⟩ : ByteArray)]) (t := 24) ?_; intro gb239 hg w8 hbox hb; have BK239 := xy (hbox); have GW239 := xs w hg; have GE239 := xs w hg; replace HB := xy (below_step xb hb); have NB236_239 := xn hg BK236.out; have NB239_236 := xp hg BK236.out; replace BK236 := xd BK236.out hb; have NB237_239 := xn hg BK237.out; have NB239_237 := xp hg BK237.out; replace BK237 := xd BK237.out hb; have NB238_239 := xn hg BK238.out; have NB239_238 := xp hg BK238.out; replace BK238 := xd BK238.out hb; clear hb hbox hg; have hnb9 := NB236_237.out; have hnc9 := NB237_236.out; have hnb10 := NB236_238.out; have hnc10 := NB238_236.out; have hnb11 := NB236_239.out; have hnc11 := NB239_236.out; have hcz12_0 : w8.cell? ⟨gb236, 0, none⟩ = some (.bool a0_0) := (kc BK236.out 0).trans rfl; have hcz12_1 : w8.cell? ⟨gb236, 1, none⟩ = some (.int .i64 a0_1) := (kc BK236.out 1).trans rfl; have hcz12_2 : w8.cell? ⟨gb236, 2, none⟩ = some (.string a0_2) := (kc BK236.out 2).trans rfl; have hfz12_0 := kf BK236.out 0; have hfz12_1 := kf BK236.out 1; have hfz12_2 := kf BK236.out 2) | ((with_reducible refine gate_callee (f := 95) rfl ?_); refine goesL_ (some 10) rfl rfl Tryz.func95 (by kernel_rfl) rfl #[.bool (a0_1 == 0)] rfl xr ?_; (with_reducible refine (value_yes.calls (a0_1 == 0) t240 t241 t242 _ (Tabs.below hT xf) A4.out).mono ?_); rintro e w13 ⟨rfl, hb⟩; refine ⟨_, rfl, ?_⟩; replace BK236 := xd BK236.out hb; replace BK237 := xd BK237.out hb; replace BK238 := xd BK238.out hb; replace BK239 := xd BK239.out hb; replace HB := xy (below_step xb hb); (try clear hb); (try clear hb2); (try clear hk); (try clear hi); have hnb14 := NB239_237.out; have hnc14 := NB237_239.out; have hnb15 := NB239_238.out; have hnc15 := NB238_239.out; have hcz16_0 : w13.cell? ⟨gb239, 0, none⟩ = some (.bool false) := (kc BK239.out 0).trans rfl; have hcz16_1 : w13.cell? ⟨gb239, 1, none⟩ = some (.int .i64 0) := (kc BK239.out 1).trans rfl; have hcz16_2 : w13.cell? ⟨gb239, 2, none⟩ = some (.string (⟨#[]⟩ : ByteArray)) := (kc BK239.out 2).trans rfl; have hfz16_0 := kf BK239.out 0; have hfz16_1 := kf BK239.out 1; have hfz16_2 := kf BK239.out 2))
 refine bodyPost_ret (results_cell_row rfl _ _ gb239 24 #[.bool t240, .int .i64 t241, .string t242] (0, 0) _ rfl (kp BK239.out) Tryz.underlying24 rfl (by kernel_rfl)) rfl ?_
 exact ⟨xe, xb⟩
def value_val_choose.f (a0_0 : Bool) (a0_1 : Int) (a0_2 : ByteArray) (a1_0 : Bool) (a1_1 : Int) (a1_2 : ByteArray) (a2_0 : Bool) (a2_1 : Int) (a2_2 : ByteArray) : Option (Bool × Int × ByteArray) := if a0_1 = 0 then (some (a2_0, a2_1, a2_2)) else (some (a1_0, a1_1, a1_2))
set_option maxHeartbeats 8000000 in
set_option maxRecDepth 100000 in
theorem value_val_choose.calls (a0_0 : Bool) (a0_1 : Int) (a0_2 : ByteArray) (a1_0 : Bool) (a1_1 : Int) (a1_2 : ByteArray) (a2_0 : Bool) (a2_1 : Int) (a2_2 : ByteArray) (r1 : Bool) (r2 : Int) (r3 : ByteArray) (w : World) (hT : Tabs w) (h : value_val_choose.f a0_0 a0_1 a0_2 a1_0 a1_1 a1_2 a2_0 a2_1 a2_2 = some (r1, r2, r3)) :
  Calls Tryz.prog 87 #[.agg #[.bool a0_0, .int .i64 a0_1, .string a0_2], .agg #[.bool a1_0, .int .i64 a1_1, .string a1_2], .agg #[.bool a2_0, .int .i64 a2_1, .string a2_2]] w fun e w' => e = .returned (.agg #[.bool r1, .int .i64 r2, .string r3]) ∧ Below w.heap.size w w' := by
 have hu103 := Tryz.underlying103
 have hu24 := Tryz.underlying24
 have HB := xy (Below.refl w.heap.size w)
 unfold value_val_choose.f at h
 have H := h
 clear h
 by_cases c4 : a0_1 = 0
 ·rw [if_pos c4] at H
  have c4b0 : (a0_1 == 0) = true := beq_iff_eq.mpr c4
  have c4b1 : (a0_1 != 0) = false := bne_eq_false_iff_eq.mpr c4
  clear c4
  simp only [Option.some.injEq, Prod.mk.injEq] at H
  obtain ⟨rfl, rfl, rfl⟩ := H
  go_enter Tryz.func87, Tryz.ntmps87
  go_wp2_with (first | ((with_reducible refine gate_dst (N := 3) rfl ?_); refine xq (N := 3) (cs := #[.bool a0_0, .int .i64 a0_1, .string a0_2]) (t := 103) ?_; intro gb243 hg w5 hbox hb; have BK243 := xy (hbox); have GW243 := xs w hg; have GE243 := xs w hg; replace HB := xy (below_step xb hb); clear hb hbox hg) | ((with_reducible refine gate_dst (N := 4) rfl ?_); refine xq (N := 4) (cs := #[.bool a1_0, .int .i64 a1_1, .string a1_2]) (t := 103) ?_; intro gb244 hg w6 hbox hb; have BK244 := xy (hbox); have GW244 := xs w hg; have GE244 := xs w hg; replace HB := xy (below_step xb hb); have NB243_244 := xn hg BK243.out; have NB244_243 := xp hg BK243.out; replace BK243 := xd BK243.out hb; clear hb hbox hg) | ((with_reducible refine gate_dst (N := 5) rfl ?_); refine xq (N := 5) (cs := #[.bool a2_0, .int .i64 a2_1, .string a2_2]) (t := 103) ?_; intro gb245 hg w7 hbox hb; have BK245 := xy (hbox); have GW245 := xs w hg; have GE245 := xs w hg; replace HB := xy (below_step xb hb); have NB243_245 := xn hg BK243.out; have NB245_243 := xp hg BK243.out; replace BK243 := xd BK243.out hb; have NB244_245 := xn hg BK244.out; have NB245_244 := xp hg BK244.out; replace BK244 := xd BK244.out hb; clear hb hbox hg) | ((with_reducible refine gate_dst (N := 6) rfl ?_); refine xq (N := 6) (cs := #[.bool false, .int .i64 0, .string (⟨#[]⟩ : ByteArray)]) (t := 24) ?_; intro gb246 hg w8 hbox hb; have BK246 := xy (hbox); have GW246 := xs w hg; have GE246 := xs w hg; replace HB := xy (below_step xb hb); have NB243_246 := xn hg BK243.out; have NB246_243 := xp hg BK243.out; replace BK243 := xd BK243.out hb; have NB244_246 := xn hg BK244.out; have NB246_244 := xp hg BK244.out; replace BK244 := xd BK244.out hb; have NB245_246 := xn hg BK245.out; have NB246_245 := xp hg BK245.out; replace BK245 := xd BK245.out hb; clear hb hbox hg; have hnb9 := NB243_244.out; have hnc9 := NB244_243.out; have hnb10 := NB243_245.out; have hnc10 := NB245_243.out; have hnb11 := NB243_246.out; have hnc11 := NB246_243.out; have hcz12_0 : w8.cell? ⟨gb243, 0, none⟩ = some (.bool a0_0) := (kc BK243.out 0).trans rfl; have hcz12_1 : w8.cell? ⟨gb243, 1, none⟩ = some (.int .i64 a0_1) := (kc BK243.out 1).trans rfl; have hcz12_2 : w8.cell? ⟨gb243, 2, none⟩ = some (.string a0_2) := (kc BK243.out 2).trans rfl; have hfz12_0 := kf BK243.out 0; have hfz12_1 := kf BK243.out 1; have hfz12_2 := kf BK243.out 2; have hnb13 := NB245_244.out; have hnc13 := NB244_245.out; have hnb14 := NB245_246.out; have hnc14 := NB246_245.out; have hcz15_0 : w8.cell? ⟨gb245, 0, none⟩ = some (.bool a2_0) := (kc BK245.out 0).trans rfl; have hcz15_1 : w8.cell? ⟨gb245, 1, none⟩ = some (.int .i64 a2_1) := (kc BK245.out 1).trans rfl; have hcz15_2 : w8.cell? ⟨gb245, 2, none⟩ = some (.string a2_2) := (kc BK245.out 2).trans rfl; have hfz15_0 := kf BK245.out 0; have hfz15_1 := kf BK245.out 1; have hfz15_2 := kf BK245.out 2; have hnb16 := NB246_244.out; have hnc16 := NB244_246.out; have hcz17_0 : w8.cell? ⟨gb246, 0, none⟩ = some (.bool false) := (kc BK246.out 0).trans rfl; have hcz17_1 : w8.cell? ⟨gb246, 1, none⟩ = some (.int .i64 0) := (kc BK246.out 1).trans rfl; have hcz17_2 : w8.cell? ⟨gb246, 2, none⟩ = some (.string (⟨#[]⟩ : ByteArray)) := (kc BK246.out 2).trans rfl; have hfz17_0 := kf BK246.out 0; have hfz17_1 := kf BK246.out 1; have hfz17_2 := kf BK246.out 2))
  refine bodyPost_ret (results_cell_row rfl _ _ gb246 24 #[.bool a2_0, .int .i64 a2_1, .string a2_2] (0, 0) _ rfl (kp BK246.out) Tryz.underlying24 rfl (by kernel_rfl)) rfl ?_
  exact ⟨xe, xb⟩
 ·rw [if_neg c4] at H
  have c4b0 : (a0_1 == 0) = false := beq_eq_false_iff_ne.mpr c4
  have c4b1 : (a0_1 != 0) = true := bne_iff_ne.mpr c4
  simp only [Option.some.injEq, Prod.mk.injEq] at H
  obtain ⟨rfl, rfl, rfl⟩ := H
  go_enter Tryz.func87, Tryz.ntmps87
  go_wp2_with (first | ((with_reducible refine gate_dst (N := 3) rfl ?_); refine xq (N := 3) (cs := #[.bool a0_0, .int .i64 a0_1, .string a0_2]) (t := 103) ?_; intro gb243 hg w18 hbox hb; have BK243 := xy (hbox); have GW243 := xs w hg; have GE243 := xs w hg; replace HB := xy (below_step xb hb); clear hb hbox hg) | ((with_reducible refine gate_dst (N := 4) rfl ?_); refine xq (N := 4) (cs := #[.bool a1_0, .int .i64 a1_1, .string a1_2]) (t := 103) ?_; intro gb244 hg w19 hbox hb; have BK244 := xy (hbox); have GW244 := xs w hg; have GE244 := xs w hg; replace HB := xy (below_step xb hb); have NB243_244 := xn hg BK243.out; have NB244_243 := xp hg BK243.out; replace BK243 := xd BK243.out hb; clear hb hbox hg) | ((with_reducible refine gate_dst (N := 5) rfl ?_); refine xq (N := 5) (cs := #[.bool a2_0, .int .i64 a2_1, .string a2_2]) (t := 103) ?_; intro gb245 hg w20 hbox hb; have BK245 := xy (hbox); have GW245 := xs w hg; have GE245 := xs w hg; replace HB := xy (below_step xb hb); have NB243_245 := xn hg BK243.out; have NB245_243 := xp hg BK243.out; replace BK243 := xd BK243.out hb; have NB244_245 := xn hg BK244.out; have NB245_244 := xp hg BK244.out; replace BK244 := xd BK244.out hb; clear hb hbox hg) | ((with_reducible refine gate_dst (N := 6) rfl ?_); refine xq (N := 6) (cs := #[.bool false, .int .i64 0, .string (⟨#[]⟩ : ByteArray)]) (t := 24) ?_; intro gb246 hg w21 hbox hb; have BK246 := xy (hbox); have GW246 := xs w hg; have GE246 := xs w hg; replace HB := xy (below_step xb hb); have NB243_246 := xn hg BK243.out; have NB246_243 := xp hg BK243.out; replace BK243 := xd BK243.out hb; have NB244_246 := xn hg BK244.out; have NB246_244 := xp hg BK244.out; replace BK244 := xd BK244.out hb; have NB245_246 := xn hg BK245.out; have NB246_245 := xp hg BK245.out; replace BK245 := xd BK245.out hb; clear hb hbox hg; have hnb22 := NB243_244.out; have hnc22 := NB244_243.out; have hnb23 := NB243_245.out; have hnc23 := NB245_243.out; have hnb24 := NB243_246.out; have hnc24 := NB246_243.out; have hcz25_0 : w21.cell? ⟨gb243, 0, none⟩ = some (.bool a0_0) := (kc BK243.out 0).trans rfl; have hcz25_1 : w21.cell? ⟨gb243, 1, none⟩ = some (.int .i64 a0_1) := (kc BK243.out 1).trans rfl; have hcz25_2 : w21.cell? ⟨gb243, 2, none⟩ = some (.string a0_2) := (kc BK243.out 2).trans rfl; have hfz25_0 := kf BK243.out 0; have hfz25_1 := kf BK243.out 1; have hfz25_2 := kf BK243.out 2; have hnb26 := NB244_245.out; have hnc26 := NB245_244.out; have hnb27 := NB244_246.out; have hnc27 := NB246_244.out; have hcz28_0 : w21.cell? ⟨gb244, 0, none⟩ = some (.bool a1_0) := (kc BK244.out 0).trans rfl; have hcz28_1 : w21.cell? ⟨gb244, 1, none⟩ = some (.int .i64 a1_1) := (kc BK244.out 1).trans rfl; have hcz28_2 : w21.cell? ⟨gb244, 2, none⟩ = some (.string a1_2) := (kc BK244.out 2).trans rfl; have hfz28_0 := kf BK244.out 0; have hfz28_1 := kf BK244.out 1; have hfz28_2 := kf BK244.out 2; have hnb29 := NB246_245.out; have hnc29 := NB245_246.out; have hcz30_0 : w21.cell? ⟨gb246, 0, none⟩ = some (.bool false) := (kc BK246.out 0).trans rfl; have hcz30_1 : w21.cell? ⟨gb246, 1, none⟩ = some (.int .i64 0) := (kc BK246.out 1).trans rfl; have hcz30_2 : w21.cell? ⟨gb246, 2, none⟩ = some (.string (⟨#[]⟩ : ByteArray)) := (kc BK246.out 2).trans rfl; have hfz30_0 := kf BK246.out 0; have hfz30_1 := kf BK246.out 1; have hfz30_2 := kf BK246.out 2))
  refine bodyPost_ret (results_cell_row rfl _ _ gb246 24 #[.bool a1_0, .int .i64 a1_1, .string a1_2] (0, 0) _ rfl (kp BK246.out) Tryz.underlying24 rfl (by kernel_rfl)) rfl ?_
  exact ⟨xe, xb⟩
def stringslite_HasPrefix.f (a0 : ByteArray) (a1 : ByteArray) : Option (Bool) := if (a0.size : Int) ≥ (a1.size : Int) then (if 0 ≤ (a1.size : Int) then (if (a1.size : Int) ≤ (a0.size : Int) then (some ((a0.extract 0 ((a1.size : Int) : Int).toNat).toList == a1.toList)) else (none)) else (none)) else (some false)
set_option maxHeartbeats 8000000 in
set_option maxRecDepth 100000 in
theorem stringslite_HasPrefix.calls (a0 : ByteArray) (a1 : ByteArray) (r : Bool) (w : World) (hT : Tabs w) (h : stringslite_HasPrefix.f a0 a1 = some r) :
  Calls Tryz.prog 115 #[.string a0, .string a1] w fun e w' => e = .returned (.bool r) ∧ Drawn0 w w' := by
 unfold stringslite_HasPrefix.f at h
 have H := h
 clear h
 by_cases c3 : (a0.size : Int) ≥ (a1.size : Int)
 ·rw [if_pos c3] at H
  have c3b0 : decide ((a1.size : Int) ≤ (a0.size : Int)) = true := decide_eq_true c3
  have c3b1 : decide (a1.size ≤ a0.size) = true := decide_eq_true (Int.ofNat_le.mp c3)
  clear c3
  by_cases c4 : 0 ≤ (a1.size : Int)
  ·rw [if_pos c4] at H
   have c4b0 := eq_true c4
   have c4b1 : decide (0 ≤ (a1.size : Int)) = true := decide_eq_true c4
   clear c4
   by_cases c5 : (a1.size : Int) ≤ (a0.size : Int)
   ·rw [if_pos c5] at H
    have c5b0 := eq_true c5
    have c5b1 : decide ((a1.size : Int) ≤ (a0.size : Int)) = true := decide_eq_true c5
    clear c5
    obtain rfl := Option.some.inj H
    go_enter Tryz.func115, Tryz.ntmps115
    go_wp2
    go_ret
    exact ⟨xg, xz⟩
   ·rw [if_neg c5] at H
    exact absurd H (by simp)
  ·rw [if_neg c4] at H
   exact absurd H (by simp)
 ·rw [if_neg c3] at H
  have c3b0 : decide ((a1.size : Int) ≤ (a0.size : Int)) = false := decide_eq_false c3
  have c3b1 : decide (a1.size ≤ a0.size) = false := decide_eq_false (fun h => c3 (Int.ofNat_le.mpr h))
  clear c3
  obtain rfl := Option.some.inj H
  go_enter Tryz.func115, Tryz.ntmps115
  go_wp2
  go_ret
  exact ⟨xg, xz⟩
def stringslite_TrimPrefix.f (a0 : ByteArray) (a1 : ByteArray) : Option (ByteArray) := (stringslite_HasPrefix.f a0 a1).bind fun t247 => (if t247 = true then (if 0 ≤ (a1.size : Int) then (if (a1.size : Int) ≤ (a0.size : Int) then (some (a0.extract ((a1.size : Int) : Int).toNat a0.size)) else (none)) else (none)) else (some a0))
set_option maxHeartbeats 8000000 in
set_option maxRecDepth 100000 in
theorem stringslite_TrimPrefix.calls (a0 : ByteArray) (a1 : ByteArray) (r : ByteArray) (w : World) (hT : Tabs w) (h : stringslite_TrimPrefix.f a0 a1 = some r) :
  Calls Tryz.prog 103 #[.string a0, .string a1] w fun e w' => e = .returned (.string r) ∧ Drawn0 w w' := by
 unfold stringslite_TrimPrefix.f at h
 have H := h
 clear h
 replace H := xj H
 obtain ⟨t247, A30, H⟩ := H
 try dsimp only at H
 have A3 := xy A30
 clear A30
 by_cases c4 : t247 = true
 ·subst c4
  rw [if_pos rfl] at H
  by_cases c5 : 0 ≤ (a1.size : Int)
  ·rw [if_pos c5] at H
   have c5b0 := eq_true c5
   have c5b1 : decide (0 ≤ (a1.size : Int)) = true := decide_eq_true c5
   clear c5
   by_cases c6 : (a1.size : Int) ≤ (a0.size : Int)
   ·rw [if_pos c6] at H
    have c6b0 := eq_true c6
    have c6b1 : decide ((a1.size : Int) ≤ (a0.size : Int)) = true := decide_eq_true c6
    clear c6
    obtain rfl := Option.some.inj H
    go_enter Tryz.func103, Tryz.ntmps103
    go_wp2_with (((with_reducible refine gate_callee (f := 115) rfl ?_); refine goesL_ (some 7) rfl rfl Tryz.func115 (by kernel_rfl) rfl #[.string a0, .string a1] rfl xr ?_; (with_reducible refine (stringslite_HasPrefix.calls a0 a1 true _ (Tabs.below hT xf) A3.out).mono ?_); rintro e w' ⟨rfl, ⟨nd, rfl⟩⟩; refine ⟨_, rfl, ?_⟩))
    go_ret
    exact ⟨xg, xz⟩
   ·rw [if_neg c6] at H
    exact absurd H (by simp)
  ·rw [if_neg c5] at H
   exact absurd H (by simp)
 ·replace c4 := Bool.eq_false_iff.mpr c4
  subst c4
  rw [if_neg (show ¬ (false = true) by decide)] at H
  obtain rfl := Option.some.inj H
  go_enter Tryz.func103, Tryz.ntmps103
  go_wp2_with (((with_reducible refine gate_callee (f := 115) rfl ?_); refine goesL_ (some 7) rfl rfl Tryz.func115 (by kernel_rfl) rfl #[.string a0, .string a1] rfl xr ?_; (with_reducible refine (stringslite_HasPrefix.calls a0 a1 false _ (Tabs.below hT xf) A3.out).mono ?_); rintro e w' ⟨rfl, ⟨nd, rfl⟩⟩; refine ⟨_, rfl, ?_⟩))
  go_ret
  exact ⟨xg, xz⟩
def strings_TrimPrefix.f (a0 : ByteArray) (a1 : ByteArray) : Option (ByteArray) := (stringslite_TrimPrefix.f a0 a1).bind fun t248 => (some t248)
set_option maxHeartbeats 8000000 in
set_option maxRecDepth 100000 in
theorem strings_TrimPrefix.calls (a0 : ByteArray) (a1 : ByteArray) (r : ByteArray) (w : World) (hT : Tabs w) (h : strings_TrimPrefix.f a0 a1 = some r) :
  Calls Tryz.prog 97 #[.string a0, .string a1] w fun e w' => e = .returned (.string r) ∧ Drawn0 w w' := by
 unfold strings_TrimPrefix.f at h
 have H := h
 clear h
 replace H := xj H
 obtain ⟨t248, A30, H⟩ := H
 try dsimp only at H
 have A3 := xy A30
 clear A30
 obtain rfl := Option.some.inj H
 go_enter Tryz.func97, Tryz.ntmps97
 go_wp2_with (((with_reducible refine gate_callee (f := 103) rfl ?_); refine goesL_ (some 7) rfl rfl Tryz.func103 (by kernel_rfl) rfl #[.string a0, .string a1] rfl xr ?_; (with_reducible refine (stringslite_TrimPrefix.calls a0 a1 t248 _ (Tabs.below hT xf) A3.out).mono ?_); rintro e w' ⟨rfl, ⟨nd, rfl⟩⟩; refine ⟨_, rfl, ?_⟩))
 go_ret
 exact ⟨xg, xz⟩
def strings_Trim.f (a0 : ByteArray) (a1 : ByteArray) : Option (ByteArray) := if a0.size ≤ 9223372036854775807 ∧ a1.size < 4294967281 ∧ (a1.data.toList.all fun b => decide (b.toNat < 128)) = true then some ⟨(Lib.trimS a0.data.toList a1.data.toList).toArray⟩ else none
theorem strings_Trim.calls (a0 : ByteArray) (a1 : ByteArray) (r : ByteArray) (w : World) (hT : Tabs w) (h : strings_Trim.f a0 a1 = some r) :
  Calls Tryz.prog 98 #[.string a0, .string a1] w fun e w' => e = .returned (.string r) ∧ Below w.heap.size w w' := by
 unfold strings_Trim.f at h
 by_cases hq : a0.size ≤ 9223372036854775807 ∧ a1.size < 4294967281 ∧ (a1.data.toList.all fun b => decide (b.toNat < 128)) = true
 ·rw [if_pos hq] at h
  obtain ⟨h1, h2, h3⟩ := hq
  obtain rfl := Option.some.inj h
  refine (Any.strings_Trim_laid Tryz.lays160 (by kernel_rfl) a0 a1 w h1 h2 (fun j b hj => ?_)).mono ?_
  ·have := List.all_eq_true.1 h3 b (List.mem_of_getElem? hj)
   simpa using this
  ·rintro e w' ⟨rfl, hb⟩
   exact ⟨rfl, hb⟩
 ·rw [if_neg hq] at h
  cases h
def strconv_Atoi.f (a0 : ByteArray) : Option (Int × Option Int) := if a0.size ≤ 9223372036854775806 then (match Lib.atoiAll a0.data.toList with | .ok n => some (n, none) | _ => none) else none
theorem strconv_Atoi.calls (a0 : ByteArray) (r1 : Int) (r2 : Option Int) (w : World) (hT : Tabs w) (h : strconv_Atoi.f a0 = some (r1, r2)) :
  Calls Tryz.prog 99 #[.string a0] w fun e w' => e = .returned (.tuple #[.int .i64 r1, errW r2]) ∧ Below w.heap.size w w' := by
 unfold strconv_Atoi.f at h
 split at h
 ·split at h
  ·simp only [Option.some.injEq, Prod.mk.injEq] at h
   obtain ⟨rfl, rfl⟩ := h
   refine (Any.strconv_Atoi_ok Tryz.laysC172 a0 (by assumption) _ (by assumption) w).mono ?_
   rintro e w' ⟨rfl, hw⟩
   refine ⟨rfl, ?_⟩
   rcases hw with rfl | ⟨t, rfl⟩
   ·exact Below.refl _ _
   ·exact bytes_below (Below.refl _ _) (Nat.le_refl _) _ t
  ·cases h
 ·cases h
def value_val_number.j0 : Nat → Bool → Bool → Int → ByteArray → Option (Bool × Int × ByteArray)
 | 0, _, _, _, _ => none
 | k + 1, x24, x250000, x250001, x250002 => if x24 = true then ((value_Num.f 0).bind fun bt255 => (some (bt255.1, bt255.2.1, bt255.2.2))) else ((strconv_Atoi.f x250002).bind fun bt258 => ((value_Num.f bt258.1).bind fun bt260 => (some (bt260.1, bt260.2.1, bt260.2.2))))
def value_val_number.f (k : Nat) (a0_0 : Bool) (a0_1 : Int) (a0_2 : ByteArray) (a1_0 : Bool) (a1_1 : Int) (a1_2 : ByteArray) (a2_0 : Bool) (a2_1 : Int) (a2_2 : ByteArray) : Option (Bool × Int × ByteArray) := (strings_TrimPrefix.f a0_2 (⟨#[45]⟩ : ByteArray)).bind fun t253 => (if t253.toList = ([] : List UInt8) then (value_val_number.j0 k true a0_0 a0_1 a0_2) else (if (t253.size : Int) > 18 then (value_val_number.j0 k true a0_0 a0_1 a0_2) else ((strings_Trim.f t253 (⟨#[48, 49, 50, 51, 52, 53, 54, 55, 56, 57]⟩ : ByteArray)).bind fun t254 => (value_val_number.j0 k (t254.toList != ([] : List UInt8)) a0_0 a0_1 a0_2))))
theorem value_val_number.mono_l : ∀ k, (∀ y0 y1 y2 y3, LeO (value_val_number.j0 k y0 y1 y2 y3) (value_val_number.j0 (k + 1) y0 y1 y2 y3))
 | 0 => fun _ _ _ _ r h => by simp [value_val_number.j0] at h
 | k + 1 => by
  have ih0 := value_val_number.mono_l k
  ·intro y0 y1 y2 y3
   unfold value_val_number.j0
   repeat' (with_reducible first | exact ih0 _ _ _ _ | exact LeO.refl _ | exact LeO.none _ | refine LeO.ite ?_ ?_ | refine LeO.bind ?_ (fun _ => ?_))
theorem value_val_number.mono : ∀ a0 a1 a2 a3 a4 a5 a6 a7 a8 k, LeO (value_val_number.f k a0 a1 a2 a3 a4 a5 a6 a7 a8) (value_val_number.f (k + 1) a0 a1 a2 a3 a4 a5 a6 a7 a8) := by
 intro a0 a1 a2 a3 a4 a5 a6 a7 a8 k
 have ih0 := value_val_number.mono_l k
 unfold value_val_number.f
 repeat' (with_reducible first | exact ih0 _ _ _ _ | exact LeO.refl _ | exact LeO.none _ | refine LeO.ite ?_ ?_ | refine LeO.bind ?_ (fun _ => ?_))
set_option maxHeartbeats 8000000 in
set_option maxRecDepth 100000 in
theorem value_val_number.calls (k : Nat) (a0_0 : Bool) (a0_1 : Int) (a0_2 : ByteArray) (a1_0 : Bool) (a1_1 : Int) (a1_2 : ByteArray) (a2_0 : Bool) (a2_1 : Int) (a2_2 : ByteArray) (r1 : Bool) (r2 : Int) (r3 : ByteArray) (w : World) (hT : Tabs w) (h : value_val_number.f k a0_0 a0_1 a0_2 a1_0 a1_1 a1_2 a2_0 a2_1 a2_2 = some (r1, r2, r3)) :
  Calls Tryz.prog 88 #[.agg #[.bool a0_0, .int .i64 a0_1, .string a0_2], .agg #[.bool a1_0, .int .i64 a1_1, .string a1_2], .agg #[.bool a2_0, .int .i64 a2_1, .string a2_2]] w fun e w' => e = .returned (.agg #[.bool r1, .int .i64 r2, .string r3]) ∧ Below w.heap.size w w' := by
 have hu103 := Tryz.underlying103
 have hu24 := Tryz.underlying24
 have HB := xy (Below.refl w.heap.size w)
 unfold value_val_number.f at h
 have H := h
 clear h
 replace H := xj H
 obtain ⟨t253, A40, H⟩ := H
 try dsimp only at H
 have A4 := xy A40
 clear A40
 have HC5 := xy H
 clear H
 go_enter Tryz.func88, Tryz.ntmps88
 go_upto_region 2 with (first | ((with_reducible refine gate_dst (N := 3) rfl ?_); (try (refine gate_guard (by rfl) ?_; dsimp only)); refine xq (N := 3) (cs := #[.bool a0_0, .int .i64 a0_1, .string a0_2]) (t := 103) ?_; intro gb249 hg w6 hbox hb; have BK249 := xy (hbox); have GW249 := xs w hg; have GE249 := xs w hg; replace HB := xy (below_step xb hb); clear hb hbox hg) | ((with_reducible refine gate_dst (N := 4) rfl ?_); (try (refine gate_guard (by rfl) ?_; dsimp only)); refine xq (N := 4) (cs := #[.bool a1_0, .int .i64 a1_1, .string a1_2]) (t := 103) ?_; intro gb250 hg w7 hbox hb; have BK250 := xy (hbox); have GW250 := xs w hg; have GE250 := xs w hg; replace HB := xy (below_step xb hb); have NB249_250 := xn hg BK249.out; have NB250_249 := xp hg BK249.out; replace BK249 := xd BK249.out hb; clear hb hbox hg) | ((with_reducible refine gate_dst (N := 5) rfl ?_); (try (refine gate_guard (by rfl) ?_; dsimp only)); refine xq (N := 5) (cs := #[.bool a2_0, .int .i64 a2_1, .string a2_2]) (t := 103) ?_; intro gb251 hg w8 hbox hb; have BK251 := xy (hbox); have GW251 := xs w hg; have GE251 := xs w hg; replace HB := xy (below_step xb hb); have NB249_251 := xn hg BK249.out; have NB251_249 := xp hg BK249.out; replace BK249 := xd BK249.out hb; have NB250_251 := xn hg BK250.out; have NB251_250 := xp hg BK250.out; replace BK250 := xd BK250.out hb; clear hb hbox hg) | ((with_reducible refine gate_dst (N := 6) rfl ?_); (try (refine gate_guard (by rfl) ?_; dsimp only)); refine xq (N := 6) (cs := #[.bool false, .int .i64 0, .string (⟨#[]⟩ : ByteArray)]) (t := 24) ?_; intro gb252 hg w9 hbox hb; have BK252 := xy (hbox); have GW252 := xs w hg; have GE252 := xs w hg; replace HB := xy (below_step xb hb); have NB249_252 := xn hg BK249.out; have NB252_249 := xp hg BK249.out; replace BK249 := xd BK249.out hb; have NB250_252 := xn hg BK250.out; have NB252_250 := xp hg BK250.out; replace BK250 := xd BK250.out hb; have NB251_252 := xn hg BK251.out; have NB252_251 := xp hg BK251.out; replace BK251 := xd BK251.out hb; clear hb hbox hg; have hnb10 := NB249_250.out; have hnc10 := NB250_249.out; have hnb11 := NB249_251.out; have hnc11 := NB251_249.out; have hnb12 := NB249_252.out; have hnc12 := NB252_249.out; have hcz13_0 : w9.cell? ⟨gb249, 0, none⟩ = some (.bool a0_0) := (kc BK249.out 0).trans rfl; have hcz13_1 : w9.cell? ⟨gb249, 1, none⟩ = some (.int .i64 a0_1) := (kc BK249.out 1).trans rfl; have hcz13_2 : w9.cell? ⟨gb249, 2, none⟩ = some (.string a0_2) := (kc BK249.out 2).trans rfl; have hfz13_0 := kf BK249.out 0; have hfz13_1 := kf BK249.out 1; have hfz13_2 := kf BK249.out 2) | ((with_reducible refine gate_callee (f := 97) rfl ?_); refine goesL_ (some 12) rfl rfl Tryz.func97 (by kernel_rfl) rfl #[.string a0_2, .string (⟨#[45]⟩ : ByteArray)] rfl xr ?_; (with_reducible refine (strings_TrimPrefix.calls a0_2 (⟨#[45]⟩ : ByteArray) t253 _ (Tabs.below hT xf) A4.out).mono ?_); rintro e w' ⟨rfl, ⟨nd, rfl⟩⟩; refine ⟨_, rfl, ?_⟩))
 (try simp only [Act.put, List.setIfInBounds_toArray, List.set_cons_zero, List.set_cons_succ])
 go_cut [24] (fun v24 wc => ∃ (kq : Nat) (x24_4 : Bool), v24 = .bool x24_4 ∧ Aside0 (value_val_number.j0 kq x24_4 a0_0 a0_1 a0_2 = some (r1, r2, r3)) ∧ Aside0 (kq ≤ k) ∧ Aside0 (wc.heap[gb249]? = some (.cells #[.bool a0_0, .int .i64 a0_1, .string a0_2] 103 (0, 0))) ∧ Aside0 (wc.heap[gb250]? = some (.cells #[.bool a1_0, .int .i64 a1_1, .string a1_2] 103 (0, 0))) ∧ Aside0 (wc.heap[gb251]? = some (.cells #[.bool a2_0, .int .i64 a2_1, .string a2_2] 103 (0, 0))) ∧ Aside0 (wc.heap[gb252]? = some (.cells #[.bool false, .int .i64 0, .string (⟨#[]⟩ : ByteArray)] 24 (0, 0))) ∧ Aside0 (Below w.heap.size w wc))
 case first =>
  have H := HC5.out
  clear HC5
  by_cases c14 : t253.toList = ([] : List UInt8)
  ·rw [if_pos c14] at H
   have c14b0 : (t253.toList == ([] : List UInt8)) = true := beq_iff_eq.mpr c14
   have c14b1 : (t253.toList != ([] : List UInt8)) = false := bne_eq_false_iff_eq.mpr c14
   clear c14
   (first | rw [c14b0] | (simp only [i64_w, i32_w]; rw [c14b0]) | skip)
   have H' := xy H
   clear H
   go_wp2
   go_meet
   case rel => exact ⟨_, (true), xg, H', ⟨by first | omega | exact Nat.le_refl _⟩, ⟨by (with_reducible repeat (first | refine blk_drewN ?_ _ | refine blk_drew ?_ | refine blk_alloc ?_ _)); exact BK249.out⟩, ⟨by (with_reducible repeat (first | refine blk_drewN ?_ _ | refine blk_drew ?_ | refine blk_alloc ?_ _)); exact BK250.out⟩, ⟨by (with_reducible repeat (first | refine blk_drewN ?_ _ | refine blk_drew ?_ | refine blk_alloc ?_ _)); exact BK251.out⟩, ⟨by (with_reducible repeat (first | refine blk_drewN ?_ _ | refine blk_drew ?_ | refine blk_alloc ?_ _)); exact BK252.out⟩, ⟨xb⟩⟩
  ·rw [if_neg c14] at H
   have c14b0 : (t253.toList == ([] : List UInt8)) = false := beq_eq_false_iff_ne.mpr c14
   have c14b1 : (t253.toList != ([] : List UInt8)) = true := bne_iff_ne.mpr c14
   (first | rw [c14b0] | (simp only [i64_w, i32_w]; rw [c14b0]) | skip)
   by_cases c15 : (t253.size : Int) > 18
   ·rw [if_pos c15] at H
    have c15b0 : decide (18 < (t253.size : Int)) = true := decide_eq_true c15
    have c15b1 : decide (18 < t253.size) = true := decide_eq_true (by omega)
    clear c15
    have H' := xy H
    clear H
    go_wp2
    go_meet
    case rel => exact ⟨_, (true), xg, H', ⟨by first | omega | exact Nat.le_refl _⟩, ⟨by (with_reducible repeat (first | refine blk_drewN ?_ _ | refine blk_drew ?_ | refine blk_alloc ?_ _)); exact BK249.out⟩, ⟨by (with_reducible repeat (first | refine blk_drewN ?_ _ | refine blk_drew ?_ | refine blk_alloc ?_ _)); exact BK250.out⟩, ⟨by (with_reducible repeat (first | refine blk_drewN ?_ _ | refine blk_drew ?_ | refine blk_alloc ?_ _)); exact BK251.out⟩, ⟨by (with_reducible repeat (first | refine blk_drewN ?_ _ | refine blk_drew ?_ | refine blk_alloc ?_ _)); exact BK252.out⟩, ⟨xb⟩⟩
   ·rw [if_neg c15] at H
    have c15b0 : decide (18 < (t253.size : Int)) = false := decide_eq_false c15
    have c15b1 : decide (18 < t253.size) = false := decide_eq_false (by omega)
    clear c15
    replace H := xj H
    obtain ⟨t254, A160, H⟩ := H
    try dsimp only at H
    have A16 := xy A160
    clear A160
    have H' := xy H
    clear H
    go_wp2_with ((go_at_call 98; (with_reducible refine (strings_Trim.calls t253 (⟨#[48, 49, 50, 51, 52, 53, 54, 55, 56, 57]⟩ : ByteArray) t254 _ (Tabs.below hT xf) A16.out).mono ?_); rintro e w17 ⟨rfl, hb⟩; replace BK249 := xd BK249.out hb; replace BK250 := xd BK250.out hb; replace BK251 := xd BK251.out hb; replace BK252 := xd BK252.out hb; replace HB := xy (below_step xb hb); (try clear hb); (try clear hb2); (try clear hk); (try clear hi)))
    go_meet
    case rel => exact ⟨_, ((t254.toList != ([] : List UInt8))), xg, H', ⟨by first | omega | exact Nat.le_refl _⟩, ⟨by (with_reducible repeat (first | refine blk_drewN ?_ _ | refine blk_drew ?_ | refine blk_alloc ?_ _)); exact BK249.out⟩, ⟨by (with_reducible repeat (first | refine blk_drewN ?_ _ | refine blk_drew ?_ | refine blk_alloc ?_ _)); exact BK250.out⟩, ⟨by (with_reducible repeat (first | refine blk_drewN ?_ _ | refine blk_drew ?_ | refine blk_alloc ?_ _)); exact BK251.out⟩, ⟨by (with_reducible repeat (first | refine blk_drewN ?_ _ | refine blk_drew ?_ | refine blk_alloc ?_ _)); exact BK252.out⟩, ⟨xb⟩⟩
 case rest =>
  clear HC5
  try clear c1
  try clear p2
  try clear c8
  try clear c9
  try clear c10
  try clear c11
  try clear c12
  try clear c14
  try clear c14b0
  try clear c14b1
  try clear c15
  try clear c15b0
  try clear c15b1
  try clear hcz13_0
  try clear hcz13_1
  try clear hcz13_2
  try clear hfz13_0
  try clear hfz13_1
  try clear hfz13_2
  obtain ⟨kq, x24_4, rfl, HA, HJ4, BK249, BK250, BK251, BK252, HB⟩ := hcut
  cases kq with
  | zero => exact absurd HA.out (by simp [value_val_number.j0])
  | succ kj4 =>
   have H := HA.out
   clear HA
   simp only [value_val_number.j0] at H
   by_cases c18 : x24_4 = true
   ·subst c18
    rw [if_pos rfl] at H
    replace H := xj H
    obtain ⟨⟨t255, t256, t257⟩, A190, H⟩ := H
    try dsimp only at H
    have A19 := xy A190
    clear A190
    simp only [Option.some.injEq, Prod.mk.injEq] at H
    obtain ⟨rfl, rfl, rfl⟩ := H
    go_wp2_with (((with_reducible refine gate_callee (f := 93) rfl ?_); refine goesL_ (some 25) rfl rfl Tryz.func93 (by kernel_rfl) rfl #[.int .i64 0] rfl xr ?_; (with_reducible refine (value_Num.calls 0 t255 t256 t257 _ (Tabs.below hT xf) A19.out).mono ?_); rintro e w20 ⟨rfl, hb⟩; refine ⟨_, rfl, ?_⟩; replace BK249 := xd BK249.out hb; replace BK250 := xd BK250.out hb; replace BK251 := xd BK251.out hb; replace BK252 := xd BK252.out hb; replace HB := xy (below_step xb hb); (try clear hb); (try clear hb2); (try clear hk); (try clear hi); have hnb21 := NB252_249.out; have hnc21 := NB249_252.out; have hnb22 := NB252_250.out; have hnc22 := NB250_252.out; have hnb23 := NB252_251.out; have hnc23 := NB251_252.out; have hcz24_0 : w20.cell? ⟨gb252, 0, none⟩ = some (.bool false) := (kc BK252.out 0).trans rfl; have hcz24_1 : w20.cell? ⟨gb252, 1, none⟩ = some (.int .i64 0) := (kc BK252.out 1).trans rfl; have hcz24_2 : w20.cell? ⟨gb252, 2, none⟩ = some (.string (⟨#[]⟩ : ByteArray)) := (kc BK252.out 2).trans rfl; have hfz24_0 := kf BK252.out 0; have hfz24_1 := kf BK252.out 1; have hfz24_2 := kf BK252.out 2))
    refine bodyPost_ret (results_cell_row rfl _ _ gb252 24 #[.bool t255, .int .i64 t256, .string t257] (0, 0) _ rfl (kp BK252.out) Tryz.underlying24 rfl (by kernel_rfl)) rfl ?_
    exact ⟨xe, xb⟩
   ·replace c18 := Bool.eq_false_iff.mpr c18
    subst c18
    rw [if_neg (show ¬ (false = true) by decide)] at H
    replace H := xj H
    obtain ⟨⟨t258, t259⟩, A250, H⟩ := H
    try dsimp only at H
    have A25 := xy A250
    clear A250
    replace H := xj H
    obtain ⟨⟨t260, t261, t262⟩, A260, H⟩ := H
    try dsimp only at H
    have A26 := xy A260
    clear A260
    simp only [Option.some.injEq, Prod.mk.injEq] at H
    obtain ⟨rfl, rfl, rfl⟩ := H
    have hnb27 := NB249_250.out
    have hnc27 := NB250_249.out
    have hnb28 := NB249_251.out
    have hnc28 := NB251_249.out
    have hnb29 := NB249_252.out
    have hnc29 := NB252_249.out
    have hcz30_0 : wc.cell? ⟨gb249, 0, none⟩ = some (.bool a0_0) := (kc BK249.out 0).trans rfl
    have hcz30_1 : wc.cell? ⟨gb249, 1, none⟩ = some (.int .i64 a0_1) := (kc BK249.out 1).trans rfl
    have hcz30_2 : wc.cell? ⟨gb249, 2, none⟩ = some (.string a0_2) := (kc BK249.out 2).trans rfl
    have hfz30_0 := kf BK249.out 0
    have hfz30_1 := kf BK249.out 1
    have hfz30_2 := kf BK249.out 2
    go_wp2_with (first | ((with_reducible refine gate_callee (f := 99) rfl ?_); refine goesL_ (some 29) rfl rfl Tryz.func99 (by kernel_rfl) rfl #[.string a0_2] rfl xr ?_; (with_reducible refine (strconv_Atoi.calls a0_2 t258 t259 _ (Tabs.below hT xf) A25.out).mono ?_); rintro e w31 ⟨rfl, hb⟩; refine ⟨_, rfl, ?_⟩; replace BK249 := xd BK249.out hb; replace BK250 := xd BK250.out hb; replace BK251 := xd BK251.out hb; replace BK252 := xd BK252.out hb; replace HB := xy (below_step xb hb); (try clear hb); (try clear hb2); (try clear hk); (try clear hi); (try simp only [errW_none, errW_some])) | ((with_reducible refine gate_callee (f := 93) rfl ?_); refine goesL_ (some 33) rfl rfl Tryz.func93 (by kernel_rfl) rfl #[.int .i64 t258] rfl xr ?_; (with_reducible refine (value_Num.calls t258 t260 t261 t262 _ (Tabs.below hT xf) A26.out).mono ?_); rintro e w32 ⟨rfl, hb⟩; refine ⟨_, rfl, ?_⟩; replace BK249 := xd BK249.out hb; replace BK250 := xd BK250.out hb; replace BK251 := xd BK251.out hb; replace BK252 := xd BK252.out hb; replace HB := xy (below_step xb hb); (try clear hb); (try clear hb2); (try clear hk); (try clear hi); have hnb33 := NB252_250.out; have hnc33 := NB250_252.out; have hnb34 := NB252_251.out; have hnc34 := NB251_252.out; have hcz35_0 : w32.cell? ⟨gb252, 0, none⟩ = some (.bool false) := (kc BK252.out 0).trans rfl; have hcz35_1 : w32.cell? ⟨gb252, 1, none⟩ = some (.int .i64 0) := (kc BK252.out 1).trans rfl; have hcz35_2 : w32.cell? ⟨gb252, 2, none⟩ = some (.string (⟨#[]⟩ : ByteArray)) := (kc BK252.out 2).trans rfl; have hfz35_0 := kf BK252.out 0; have hfz35_1 := kf BK252.out 1; have hfz35_2 := kf BK252.out 2))
    refine bodyPost_ret (results_cell_row rfl _ _ gb252 24 #[.bool t260, .int .i64 t261, .string t262] (0, 0) _ rfl (kp BK252.out) Tryz.underlying24 rfl (by kernel_rfl)) rfl ?_
    exact ⟨xe, xb⟩
def strconv_Itoa.f (a0 : Int) : Option (ByteArray) := if -9223372036854775808 ≤ a0 ∧ a0 ≤ 9223372036854775807 then some ⟨(Lib.itoa a0).toArray⟩ else none
theorem strconv_Itoa.calls (a0 : Int) (r : ByteArray) (w : World) (hT : Tabs w) (h : strconv_Itoa.f a0 = some r) :
  Calls Tryz.prog 100 #[.int .i64 a0] w fun e w' => e = .returned (.string r) ∧ Below w.heap.size w w' := by
 unfold strconv_Itoa.f at h
 by_cases hq : -9223372036854775808 ≤ a0 ∧ a0 ≤ 9223372036854775807
 ·rw [if_pos hq] at h
  obtain rfl := Option.some.inj h
  refine (Any.strconv_Itoa Tryz.laysM171 a0 hq.1 hq.2 w hT.pow10).mono ?_
  rintro e w' ⟨rfl, k, os, rfl⟩
  exact ⟨rfl, Lib.below_grow _ _ (Nat.le_refl _) _ _⟩
 ·rw [if_neg hq] at h
  cases h
def value_val_text.f (a0_0 : Bool) (a0_1 : Int) (a0_2 : ByteArray) (a1_0 : Bool) (a1_1 : Int) (a1_2 : ByteArray) (a2_0 : Bool) (a2_1 : Int) (a2_2 : ByteArray) : Option (Bool × Int × ByteArray) := (strconv_Itoa.f a0_1).bind fun t267 => ((value_Text.f t267).bind fun bt268 => (some (bt268.1, bt268.2.1, bt268.2.2)))
set_option maxHeartbeats 8000000 in
set_option maxRecDepth 100000 in
theorem value_val_text.calls (a0_0 : Bool) (a0_1 : Int) (a0_2 : ByteArray) (a1_0 : Bool) (a1_1 : Int) (a1_2 : ByteArray) (a2_0 : Bool) (a2_1 : Int) (a2_2 : ByteArray) (r1 : Bool) (r2 : Int) (r3 : ByteArray) (w : World) (hT : Tabs w) (h : value_val_text.f a0_0 a0_1 a0_2 a1_0 a1_1 a1_2 a2_0 a2_1 a2_2 = some (r1, r2, r3)) :
  Calls Tryz.prog 89 #[.agg #[.bool a0_0, .int .i64 a0_1, .string a0_2], .agg #[.bool a1_0, .int .i64 a1_1, .string a1_2], .agg #[.bool a2_0, .int .i64 a2_1, .string a2_2]] w fun e w' => e = .returned (.agg #[.bool r1, .int .i64 r2, .string r3]) ∧ Below w.heap.size w w' := by
 have hu103 := Tryz.underlying103
 have hu24 := Tryz.underlying24
 have HB := xy (Below.refl w.heap.size w)
 unfold value_val_text.f at h
 have H := h
 clear h
 replace H := xj H
 obtain ⟨t267, A40, H⟩ := H
 try dsimp only at H
 have A4 := xy A40
 clear A40
 replace H := xj H
 obtain ⟨⟨t268, t269, t270⟩, A50, H⟩ := H
 try dsimp only at H
 have A5 := xy A50
 clear A50
 simp only [Option.some.injEq, Prod.mk.injEq] at H
 obtain ⟨rfl, rfl, rfl⟩ := H
 go_enter Tryz.func89, Tryz.ntmps89
 go_wp2_with (first | ((with_reducible refine gate_dst (N := 3) rfl ?_); refine xq (N := 3) (cs := #[.bool a0_0, .int .i64 a0_1, .string a0_2]) (t := 103) ?_; intro gb263 hg w6 hbox hb; have BK263 := xy (hbox); have GW263 := xs w hg; have GE263 := xs w hg; replace HB := xy (below_step xb hb); clear hb hbox hg) | ((with_reducible refine gate_dst (N := 4) rfl ?_); refine xq (N := 4) (cs := #[.bool a1_0, .int .i64 a1_1, .string a1_2]) (t := 103) ?_; intro gb264 hg w7 hbox hb; have BK264 := xy (hbox); have GW264 := xs w hg; have GE264 := xs w hg; replace HB := xy (below_step xb hb); have NB263_264 := xn hg BK263.out; have NB264_263 := xp hg BK263.out; replace BK263 := xd BK263.out hb; clear hb hbox hg) | ((with_reducible refine gate_dst (N := 5) rfl ?_); refine xq (N := 5) (cs := #[.bool a2_0, .int .i64 a2_1, .string a2_2]) (t := 103) ?_; intro gb265 hg w8 hbox hb; have BK265 := xy (hbox); have GW265 := xs w hg; have GE265 := xs w hg; replace HB := xy (below_step xb hb); have NB263_265 := xn hg BK263.out; have NB265_263 := xp hg BK263.out; replace BK263 := xd BK263.out hb; have NB264_265 := xn hg BK264.out; have NB265_264 := xp hg BK264.out; replace BK264 := xd BK264.out hb; clear hb hbox hg) | ((with_reducible refine gate_dst (N := 6) rfl ?_); refine xq (N := 6) (cs := #[.bool false, .int .i64 0, .string (⟨#[]⟩ : ByteArray)]) (t := 24) ?_; intro gb266 hg w9 hbox hb; have BK266 := xy (hbox); have GW266 := xs w hg; have GE266 := xs w hg; replace HB := xy (below_step xb hb); have NB263_266 := xn hg BK263.out; have NB266_263 := xp hg BK263.out; replace BK263 := xd BK263.out hb; have NB264_266 := xn hg BK264.out; have NB266_264 := xp hg BK264.out; replace BK264 := xd BK264.out hb; have NB265_266 := xn hg BK265.out; have NB266_265 := xp hg BK265.out; replace BK265 := xd BK265.out hb; clear hb hbox hg; have hnb10 := NB263_264.out; have hnc10 := NB264_263.out; have hnb11 := NB263_265.out; have hnc11 := NB265_263.out; have hnb12 := NB263_266.out; have hnc12 := NB266_263.out; have hcz13_0 : w9.cell? ⟨gb263, 0, none⟩ = some (.bool a0_0) := (kc BK263.out 0).trans rfl; have hcz13_1 : w9.cell? ⟨gb263, 1, none⟩ = some (.int .i64 a0_1) := (kc BK263.out 1).trans rfl; have hcz13_2 : w9.cell? ⟨gb263, 2, none⟩ = some (.string a0_2) := (kc BK263.out 2).trans rfl; have hfz13_0 := kf BK263.out 0; have hfz13_1 := kf BK263.out 1; have hfz13_2 := kf BK263.out 2) | ((with_reducible refine gate_callee (f := 100) rfl ?_); refine goesL_ (some 9) rfl rfl Tryz.func100 (by kernel_rfl) rfl #[.int .i64 a0_1] rfl xr ?_; (with_reducible refine (strconv_Itoa.calls a0_1 t267 _ (Tabs.below hT xf) A4.out).mono ?_); rintro e w14 ⟨rfl, hb⟩; refine ⟨_, rfl, ?_⟩; replace BK263 := xd BK263.out hb; replace BK264 := xd BK264.out hb; replace BK265 := xd BK265.out hb; replace BK266 := xd BK266.out hb; replace HB := xy (below_step xb hb); (try clear hb); (try clear hb2); (try clear hk); (try clear hi)) | ((with_reducible refine gate_callee (f := 52) rfl ?_); refine goesL_ (some 10) rfl rfl Tryz.func52 (by kernel_rfl) rfl #[.string t267] rfl xr ?_; (with_reducible refine (value_Text.calls t267 t268 t269 t270 _ (Tabs.below hT xf) A5.out).mono ?_); rintro e w15 ⟨rfl, hb⟩; refine ⟨_, rfl, ?_⟩; replace BK263 := xd BK263.out hb; replace BK264 := xd BK264.out hb; replace BK265 := xd BK265.out hb; replace BK266 := xd BK266.out hb; replace HB := xy (below_step xb hb); (try clear hb); (try clear hb2); (try clear hk); (try clear hi); have hnb16 := NB266_264.out; have hnc16 := NB264_266.out; have hnb17 := NB266_265.out; have hnc17 := NB265_266.out; have hcz18_0 : w15.cell? ⟨gb266, 0, none⟩ = some (.bool false) := (kc BK266.out 0).trans rfl; have hcz18_1 : w15.cell? ⟨gb266, 1, none⟩ = some (.int .i64 0) := (kc BK266.out 1).trans rfl; have hcz18_2 : w15.cell? ⟨gb266, 2, none⟩ = some (.string (⟨#[]⟩ : ByteArray)) := (kc BK266.out 2).trans rfl; have hfz18_0 := kf BK266.out 0; have hfz18_1 := kf BK266.out 1; have hfz18_2 := kf BK266.out 2))
 refine bodyPost_ret (results_cell_row rfl _ _ gb266 24 #[.bool t268, .int .i64 t269, .string t270] (0, 0) _ rfl (kp BK266.out) Tryz.underlying24 rfl (by kernel_rfl)) rfl ?_
 exact ⟨xe, xb⟩
/- Walked functions, by this session's program over the kit's print. -/
def value_Hash.l0 : Nat → ByteArray → Int → Int → Int → Option (Int)
 | 0, _, _, _, _ => none
 | k + 1, x0, x3, x6, x7 => if x7 < x6 then (if 0 ≤ x7 then (if x7 < (x0.size : Int) then (value_Hash.l0 k x0 (((Go.bits .xor .u32 x3 ((bt x0 x7) % 4294967296)) * 16777619) % 4294967296) x6 (wrap64 (x7 + 1))) else (none)) else (none)) else (some (wrap64 (Go.bits .and .u32 x3 2147483647)))
def value_Hash.f (k : Nat) (a0 : ByteArray) : Option (Int) := value_Hash.l0 k a0 2166136261 (a0.size : Int) 0
theorem value_Hash.mono_l : ∀ k, (∀ y0 y1 y2 y3, LeO (value_Hash.l0 k y0 y1 y2 y3) (value_Hash.l0 (k + 1) y0 y1 y2 y3))
 | 0 => fun _ _ _ _ r h => by simp [value_Hash.l0] at h
 | k + 1 => by
  have ih0 := value_Hash.mono_l k
  ·intro y0 y1 y2 y3
   unfold value_Hash.l0
   repeat' (with_reducible first | exact ih0 _ _ _ _ | exact LeO.refl _ | exact LeO.none _ | refine LeO.ite ?_ ?_ | refine LeO.bind ?_ (fun _ => ?_))
theorem value_Hash.mono : ∀ a0 k, LeO (value_Hash.f k a0) (value_Hash.f (k + 1) a0) := by
 intro a0 k
 have ih0 := value_Hash.mono_l k
 unfold value_Hash.f
 repeat' (with_reducible first | exact ih0 _ _ _ _ | exact LeO.refl _ | exact LeO.none _ | refine LeO.ite ?_ ?_ | refine LeO.bind ?_ (fun _ => ?_))
set_option maxHeartbeats 8000000 in
set_option maxRecDepth 100000 in
theorem value_Hash.calls (k : Nat) (a0 : ByteArray) (r : Int) (w : World) (hT : Tabs w) (h : value_Hash.f k a0 = some r) :
  Calls Tryz.prog 101 #[.string a0] w fun e w' => e = .returned (.int .i64 r) ∧ Drawn0 w w' := by
 unfold value_Hash.f at h
 have H := h
 clear h
 have H' := xy H
 clear H
 go_enter Tryz.func101, Tryz.ntmps101
 go_wp2
 go_loopg [3, 7] k (fun kq v3 v7 w' => ∃ (x3_1 : Int) (x7_1 : Int), v3 = .int .u32 x3_1 ∧ v7 = .int .i64 x7_1 ∧ Aside0 (value_Hash.l0 kq a0 x3_1 (a0.size : Int) x7_1 = some r) ∧ Aside0 (kq ≤ k) ∧ Drawn0 w w')
 case atStart => exact ⟨(2166136261), (0), xg, xg, H', ⟨Nat.le_refl _⟩, by repeat (first | exact Drawn0.refl _ | apply Drawn0.step)⟩
 case round =>
  clear H'
  try clear c1
  obtain ⟨x3_1, x7_1, rfl, rfl, HA, HK1, ⟨m1, rfl⟩⟩ := hrel
  cases gk with
  | zero => exact absurd HA.out (by simp [value_Hash.l0])
  | succ k1 =>
   have H := HA.out
   clear HA
   simp only [value_Hash.l0] at H
   by_cases c2 : x7_1 < (a0.size : Int)
   ·rw [if_pos c2] at H
    have c2b0 : decide (x7_1 < (a0.size : Int)) = true := decide_eq_true c2
    clear c2
    by_cases c3 : 0 ≤ x7_1
    ·rw [if_pos c3] at H
     have c3b0 : decide (0 ≤ x7_1) = true := decide_eq_true c3
     clear c3
     by_cases c4 : x7_1 < (a0.size : Int)
     ·rw [if_pos c4] at H
      have c4b0 : decide (x7_1 < (a0.size : Int)) = true := decide_eq_true c4
      clear c4
      have H' := xy H
      clear H
      have p5 : 0 ≤ (x7_1 : Int) := xi
      have q5 : x7_1 < (a0.size : Int) := xi
      have hx5 := bt_at a0 x7_1
      replace p5 := eq_true p5
      replace q5 := eq_true q5
      go_wp2
      go_roundg k1
      case measure => have := HK1.out; omega
      case rel => exact ⟨(((Go.bits .xor .u32 x3_1 ((bt a0 x7_1) % 4294967296)) * 16777619) % 4294967296), (wrap64 (x7_1 + 1)), xg, xg, H', ⟨by have := HK1.out; omega⟩, by repeat (first | exact Drawn0.refl _ | apply Drawn0.step)⟩
     ·rw [if_neg c4] at H
      exact absurd H (by simp)
    ·rw [if_neg c3] at H
     exact absurd H (by simp)
   ·rw [if_neg c2] at H
    have c2b0 : decide (x7_1 < (a0.size : Int)) = false := decide_eq_false c2
    clear c2
    obtain rfl := Option.some.inj H
    go_wp2
    go_ret
    exact ⟨xg, xz⟩
def value_val_hash.f (k : Nat) (a0_0 : Bool) (a0_1 : Int) (a0_2 : ByteArray) (a1_0 : Bool) (a1_1 : Int) (a1_2 : ByteArray) (a2_0 : Bool) (a2_1 : Int) (a2_2 : ByteArray) : Option (Bool × Int × ByteArray) := (value_Hash.f k a0_2).bind fun t275 => ((value_Num.f t275).bind fun bt276 => (some (bt276.1, bt276.2.1, bt276.2.2)))
theorem value_val_hash.mono : ∀ a0 a1 a2 a3 a4 a5 a6 a7 a8 k, LeO (value_val_hash.f k a0 a1 a2 a3 a4 a5 a6 a7 a8) (value_val_hash.f (k + 1) a0 a1 a2 a3 a4 a5 a6 a7 a8) := by
 intro a0 a1 a2 a3 a4 a5 a6 a7 a8 k
 unfold value_val_hash.f
 repeat' (with_reducible first | exact value_Hash.mono _ _ | exact LeO.refl _ | exact LeO.none _ | refine LeO.ite ?_ ?_ | refine LeO.bind ?_ (fun _ => ?_))
set_option maxHeartbeats 8000000 in
set_option maxRecDepth 100000 in
theorem value_val_hash.calls (k : Nat) (a0_0 : Bool) (a0_1 : Int) (a0_2 : ByteArray) (a1_0 : Bool) (a1_1 : Int) (a1_2 : ByteArray) (a2_0 : Bool) (a2_1 : Int) (a2_2 : ByteArray) (r1 : Bool) (r2 : Int) (r3 : ByteArray) (w : World) (hT : Tabs w) (h : value_val_hash.f k a0_0 a0_1 a0_2 a1_0 a1_1 a1_2 a2_0 a2_1 a2_2 = some (r1, r2, r3)) :
  Calls Tryz.prog 90 #[.agg #[.bool a0_0, .int .i64 a0_1, .string a0_2], .agg #[.bool a1_0, .int .i64 a1_1, .string a1_2], .agg #[.bool a2_0, .int .i64 a2_1, .string a2_2]] w fun e w' => e = .returned (.agg #[.bool r1, .int .i64 r2, .string r3]) ∧ Below w.heap.size w w' := by
 have hu103 := Tryz.underlying103
 have hu24 := Tryz.underlying24
 have HB := xy (Below.refl w.heap.size w)
 unfold value_val_hash.f at h
 have H := h
 clear h
 replace H := xj H
 obtain ⟨t275, A40, H⟩ := H
 try dsimp only at H
 have A4 := xy A40
 clear A40
 replace H := xj H
 obtain ⟨⟨t276, t277, t278⟩, A50, H⟩ := H
 try dsimp only at H
 have A5 := xy A50
 clear A50
 simp only [Option.some.injEq, Prod.mk.injEq] at H
 obtain ⟨rfl, rfl, rfl⟩ := H
 go_enter Tryz.func90, Tryz.ntmps90
 go_wp2_with (first | ((with_reducible refine gate_dst (N := 3) rfl ?_); refine xq (N := 3) (cs := #[.bool a0_0, .int .i64 a0_1, .string a0_2]) (t := 103) ?_; intro gb271 hg w6 hbox hb; have BK271 := xy (hbox); have GW271 := xs w hg; have GE271 := xs w hg; replace HB := xy (below_step xb hb); clear hb hbox hg) | ((with_reducible refine gate_dst (N := 4) rfl ?_); refine xq (N := 4) (cs := #[.bool a1_0, .int .i64 a1_1, .string a1_2]) (t := 103) ?_; intro gb272 hg w7 hbox hb; have BK272 := xy (hbox); have GW272 := xs w hg; have GE272 := xs w hg; replace HB := xy (below_step xb hb); have NB271_272 := xn hg BK271.out; have NB272_271 := xp hg BK271.out; replace BK271 := xd BK271.out hb; clear hb hbox hg) | ((with_reducible refine gate_dst (N := 5) rfl ?_); refine xq (N := 5) (cs := #[.bool a2_0, .int .i64 a2_1, .string a2_2]) (t := 103) ?_; intro gb273 hg w8 hbox hb; have BK273 := xy (hbox); have GW273 := xs w hg; have GE273 := xs w hg; replace HB := xy (below_step xb hb); have NB271_273 := xn hg BK271.out; have NB273_271 := xp hg BK271.out; replace BK271 := xd BK271.out hb; have NB272_273 := xn hg BK272.out; have NB273_272 := xp hg BK272.out; replace BK272 := xd BK272.out hb; clear hb hbox hg) | ((with_reducible refine gate_dst (N := 6) rfl ?_); refine xq (N := 6) (cs := #[.bool false, .int .i64 0, .string (⟨#[]⟩ : ByteArray)]) (t := 24) ?_; intro gb274 hg w9 hbox hb; have BK274 := xy (hbox); have GW274 := xs w hg; have GE274 := xs w hg; replace HB := xy (below_step xb hb); have NB271_274 := xn hg BK271.out; have NB274_271 := xp hg BK271.out; replace BK271 := xd BK271.out hb; have NB272_274 := xn hg BK272.out; have NB274_272 := xp hg BK272.out; replace BK272 := xd BK272.out hb; have NB273_274 := xn hg BK273.out; have NB274_273 := xp hg BK273.out; replace BK273 := xd BK273.out hb; clear hb hbox hg; have hnb10 := NB271_272.out; have hnc10 := NB272_271.out; have hnb11 := NB271_273.out; have hnc11 := NB273_271.out; have hnb12 := NB271_274.out; have hnc12 := NB274_271.out; have hcz13_0 : w9.cell? ⟨gb271, 0, none⟩ = some (.bool a0_0) := (kc BK271.out 0).trans rfl; have hcz13_1 : w9.cell? ⟨gb271, 1, none⟩ = some (.int .i64 a0_1) := (kc BK271.out 1).trans rfl; have hcz13_2 : w9.cell? ⟨gb271, 2, none⟩ = some (.string a0_2) := (kc BK271.out 2).trans rfl; have hfz13_0 := kf BK271.out 0; have hfz13_1 := kf BK271.out 1; have hfz13_2 := kf BK271.out 2) | ((with_reducible refine gate_callee (f := 101) rfl ?_); refine goesL_ (some 9) rfl rfl Tryz.func101 (by kernel_rfl) rfl #[.string a0_2] rfl xr ?_; (with_reducible refine (value_Hash.calls k a0_2 t275 _ (Tabs.below hT xf) A4.out).mono ?_); rintro e w' ⟨rfl, ⟨nd, rfl⟩⟩; refine ⟨_, rfl, ?_⟩; (try (rw [drewN_self w9]; generalize hq_ : World.drewN w9 _ = w9; have n0_ : Aside0 (w9.heap[gb271]? = some (.cells #[.bool a0_0, .int .i64 a0_1, .string a0_2] 103 (0, 0))) := ⟨by rw [← hq_]; exact (xk BK271.out)⟩; have n1_ : Aside0 (w9.heap[gb272]? = some (.cells #[.bool a1_0, .int .i64 a1_1, .string a1_2] 103 (0, 0))) := ⟨by rw [← hq_]; exact (xk BK272.out)⟩; have n2_ : Aside0 (w9.heap[gb273]? = some (.cells #[.bool a2_0, .int .i64 a2_1, .string a2_2] 103 (0, 0))) := ⟨by rw [← hq_]; exact (xk BK273.out)⟩; have n3_ : Aside0 (w9.heap[gb274]? = some (.cells #[.bool false, .int .i64 0, .string (⟨#[]⟩ : ByteArray)] 24 (0, 0))) := ⟨by rw [← hq_]; exact (xk BK274.out)⟩; have n4_ : Aside0 (Below w.heap.size w w9) := ⟨by rw [← hq_]; exact xb⟩; clear BK271 BK272 BK273 BK274 HB hq_; have BK271 := n0_; have BK272 := n1_; have BK273 := n2_; have BK274 := n3_; have HB := n4_; clear n0_ n1_ n2_ n3_ n4_))) | ((with_reducible refine gate_callee (f := 93) rfl ?_); refine goesL_ (some 10) rfl rfl Tryz.func93 (by kernel_rfl) rfl #[.int .i64 t275] rfl xr ?_; (with_reducible refine (value_Num.calls t275 t276 t277 t278 _ (Tabs.below hT xf) A5.out).mono ?_); rintro e w14 ⟨rfl, hb⟩; refine ⟨_, rfl, ?_⟩; replace BK271 := xd BK271.out hb; replace BK272 := xd BK272.out hb; replace BK273 := xd BK273.out hb; replace BK274 := xd BK274.out hb; replace HB := xy (below_step xb hb); (try clear hb); (try clear hb2); (try clear hk); (try clear hi); have hnb15 := NB274_272.out; have hnc15 := NB272_274.out; have hnb16 := NB274_273.out; have hnc16 := NB273_274.out; have hcz17_0 : w14.cell? ⟨gb274, 0, none⟩ = some (.bool false) := (kc BK274.out 0).trans rfl; have hcz17_1 : w14.cell? ⟨gb274, 1, none⟩ = some (.int .i64 0) := (kc BK274.out 1).trans rfl; have hcz17_2 : w14.cell? ⟨gb274, 2, none⟩ = some (.string (⟨#[]⟩ : ByteArray)) := (kc BK274.out 2).trans rfl; have hfz17_0 := kf BK274.out 0; have hfz17_1 := kf BK274.out 1; have hfz17_2 := kf BK274.out 2))
 refine bodyPost_ret (results_cell_row rfl _ _ gb274 24 #[.bool t276, .int .i64 t277, .string t278] (0, 0) _ rfl (kp BK274.out) Tryz.underlying24 rfl (by kernel_rfl)) rfl ?_
 exact ⟨xe, xb⟩
def strings_Index.f (a0 : ByteArray) (a1 : ByteArray) : Option (Int) := if a0.size < 4294967281 then some (Lib.index a0.data.toList a1.data.toList) else none
theorem strings_Index.calls (a0 : ByteArray) (a1 : ByteArray) (r : Int) (w : World) (hT : Tabs w) (h : strings_Index.f a0 a1 = some r) :
  Calls Tryz.prog 102 #[.string a0, .string a1] w fun e w' => e = .returned (.int .i64 r) ∧ Drawn0 w w' := by
 unfold strings_Index.f at h
 split at h
 ·obtain rfl := Option.some.inj h
  obtain ⟨m, hm⟩ := hT.maxlen
  refine (Any.strings_Index { Tryz.laysM143 with } a0 a1 m w (by assumption) hm).mono ?_
  rintro e w' ⟨rfl, rfl⟩
  exact ⟨rfl, Drawn0.refl _⟩
 ·cases h
def value_val_find.f (a0_0 : Bool) (a0_1 : Int) (a0_2 : ByteArray) (a1_0 : Bool) (a1_1 : Int) (a1_2 : ByteArray) (a2_0 : Bool) (a2_1 : Int) (a2_2 : ByteArray) : Option (Bool × Int × ByteArray) := (strings_Index.f a0_2 a1_2).bind fun t283 => ((value_Num.f t283).bind fun bt284 => (some (bt284.1, bt284.2.1, bt284.2.2)))
set_option maxHeartbeats 8000000 in
set_option maxRecDepth 100000 in
theorem value_val_find.calls (a0_0 : Bool) (a0_1 : Int) (a0_2 : ByteArray) (a1_0 : Bool) (a1_1 : Int) (a1_2 : ByteArray) (a2_0 : Bool) (a2_1 : Int) (a2_2 : ByteArray) (r1 : Bool) (r2 : Int) (r3 : ByteArray) (w : World) (hT : Tabs w) (h : value_val_find.f a0_0 a0_1 a0_2 a1_0 a1_1 a1_2 a2_0 a2_1 a2_2 = some (r1, r2, r3)) :
  Calls Tryz.prog 91 #[.agg #[.bool a0_0, .int .i64 a0_1, .string a0_2], .agg #[.bool a1_0, .int .i64 a1_1, .string a1_2], .agg #[.bool a2_0, .int .i64 a2_1, .string a2_2]] w fun e w' => e = .returned (.agg #[.bool r1, .int .i64 r2, .string r3]) ∧ Below w.heap.size w w' := by
 have hu103 := Tryz.underlying103
 have hu24 := Tryz.underlying24
 have HB := xy (Below.refl w.heap.size w)
 unfold value_val_find.f at h
 have H := h
 clear h
 replace H := xj H
 obtain ⟨t283, A40, H⟩ := H
 try dsimp only at H
 have A4 := xy A40
 clear A40
 replace H := xj H
 obtain ⟨⟨t284, t285, t286⟩, A50, H⟩ := H
 try dsimp only at H
 have A5 := xy A50
 clear A50
 simp only [Option.some.injEq, Prod.mk.injEq] at H
 obtain ⟨rfl, rfl, rfl⟩ := H
 go_enter Tryz.func91, Tryz.ntmps91
 go_wp2_with (first | ((with_reducible refine gate_dst (N := 3) rfl ?_); refine xq (N := 3) (cs := #[.bool a0_0, .int .i64 a0_1, .string a0_2]) (t := 103) ?_; intro gb279 hg w6 hbox hb; have BK279 := xy (hbox); have GW279 := xs w hg; have GE279 := xs w hg; replace HB := xy (below_step xb hb); clear hb hbox hg) | ((with_reducible refine gate_dst (N := 4) rfl ?_); refine xq (N := 4) (cs := #[.bool a1_0, .int .i64 a1_1, .string a1_2]) (t := 103) ?_; intro gb280 hg w7 hbox hb; have BK280 := xy (hbox); have GW280 := xs w hg; have GE280 := xs w hg; replace HB := xy (below_step xb hb); have NB279_280 := xn hg BK279.out; have NB280_279 := xp hg BK279.out; replace BK279 := xd BK279.out hb; clear hb hbox hg) | ((with_reducible refine gate_dst (N := 5) rfl ?_); refine xq (N := 5) (cs := #[.bool a2_0, .int .i64 a2_1, .string a2_2]) (t := 103) ?_; intro gb281 hg w8 hbox hb; have BK281 := xy (hbox); have GW281 := xs w hg; have GE281 := xs w hg; replace HB := xy (below_step xb hb); have NB279_281 := xn hg BK279.out; have NB281_279 := xp hg BK279.out; replace BK279 := xd BK279.out hb; have NB280_281 := xn hg BK280.out; have NB281_280 := xp hg BK280.out; replace BK280 := xd BK280.out hb; clear hb hbox hg) | ((with_reducible refine gate_dst (N := 6) rfl ?_); refine xq (N := 6) (cs := #[.bool false, .int .i64 0, .string (⟨#[]⟩ : ByteArray)]) (t := 24) ?_; intro gb282 hg w9 hbox hb; have BK282 := xy (hbox); have GW282 := xs w hg; have GE282 := xs w hg; replace HB := xy (below_step xb hb); have NB279_282 := xn hg BK279.out; have NB282_279 := xp hg BK279.out; replace BK279 := xd BK279.out hb; have NB280_282 := xn hg BK280.out; have NB282_280 := xp hg BK280.out; replace BK280 := xd BK280.out hb; have NB281_282 := xn hg BK281.out; have NB282_281 := xp hg BK281.out; replace BK281 := xd BK281.out hb; clear hb hbox hg; have hnb10 := NB279_280.out; have hnc10 := NB280_279.out; have hnb11 := NB279_281.out; have hnc11 := NB281_279.out; have hnb12 := NB279_282.out; have hnc12 := NB282_279.out; have hcz13_0 : w9.cell? ⟨gb279, 0, none⟩ = some (.bool a0_0) := (kc BK279.out 0).trans rfl; have hcz13_1 : w9.cell? ⟨gb279, 1, none⟩ = some (.int .i64 a0_1) := (kc BK279.out 1).trans rfl; have hcz13_2 : w9.cell? ⟨gb279, 2, none⟩ = some (.string a0_2) := (kc BK279.out 2).trans rfl; have hfz13_0 := kf BK279.out 0; have hfz13_1 := kf BK279.out 1; have hfz13_2 := kf BK279.out 2; have hnb14 := NB280_281.out; have hnc14 := NB281_280.out; have hnb15 := NB280_282.out; have hnc15 := NB282_280.out; have hcz16_0 : w9.cell? ⟨gb280, 0, none⟩ = some (.bool a1_0) := (kc BK280.out 0).trans rfl; have hcz16_1 : w9.cell? ⟨gb280, 1, none⟩ = some (.int .i64 a1_1) := (kc BK280.out 1).trans rfl; have hcz16_2 : w9.cell? ⟨gb280, 2, none⟩ = some (.string a1_2) := (kc BK280.out 2).trans rfl; have hfz16_0 := kf BK280.out 0; have hfz16_1 := kf BK280.out 1; have hfz16_2 := kf BK280.out 2) | ((with_reducible refine gate_callee (f := 102) rfl ?_); refine goesL_ (some 11) rfl rfl Tryz.func102 (by kernel_rfl) rfl #[.string a0_2, .string a1_2] rfl xr ?_; (with_reducible refine (strings_Index.calls a0_2 a1_2 t283 _ (Tabs.below hT xf) A4.out).mono ?_); rintro e w' ⟨rfl, ⟨nd, rfl⟩⟩; refine ⟨_, rfl, ?_⟩; (try (rw [drewN_self w9]; generalize hq_ : World.drewN w9 _ = w9; have n0_ : Aside0 (w9.heap[gb279]? = some (.cells #[.bool a0_0, .int .i64 a0_1, .string a0_2] 103 (0, 0))) := ⟨by rw [← hq_]; exact (xk BK279.out)⟩; have n1_ : Aside0 (w9.heap[gb280]? = some (.cells #[.bool a1_0, .int .i64 a1_1, .string a1_2] 103 (0, 0))) := ⟨by rw [← hq_]; exact (xk BK280.out)⟩; have n2_ : Aside0 (w9.heap[gb281]? = some (.cells #[.bool a2_0, .int .i64 a2_1, .string a2_2] 103 (0, 0))) := ⟨by rw [← hq_]; exact (xk BK281.out)⟩; have n3_ : Aside0 (w9.heap[gb282]? = some (.cells #[.bool false, .int .i64 0, .string (⟨#[]⟩ : ByteArray)] 24 (0, 0))) := ⟨by rw [← hq_]; exact (xk BK282.out)⟩; have n4_ : Aside0 (Below w.heap.size w w9) := ⟨by rw [← hq_]; exact xb⟩; clear BK279 BK280 BK281 BK282 HB hq_; have BK279 := n0_; have BK280 := n1_; have BK281 := n2_; have BK282 := n3_; have HB := n4_; clear n0_ n1_ n2_ n3_ n4_))) | ((with_reducible refine gate_callee (f := 93) rfl ?_); refine goesL_ (some 12) rfl rfl Tryz.func93 (by kernel_rfl) rfl #[.int .i64 t283] rfl xr ?_; (with_reducible refine (value_Num.calls t283 t284 t285 t286 _ (Tabs.below hT xf) A5.out).mono ?_); rintro e w17 ⟨rfl, hb⟩; refine ⟨_, rfl, ?_⟩; replace BK279 := xd BK279.out hb; replace BK280 := xd BK280.out hb; replace BK281 := xd BK281.out hb; replace BK282 := xd BK282.out hb; replace HB := xy (below_step xb hb); (try clear hb); (try clear hb2); (try clear hk); (try clear hi); have hnb18 := NB282_281.out; have hnc18 := NB281_282.out; have hcz19_0 : w17.cell? ⟨gb282, 0, none⟩ = some (.bool false) := (kc BK282.out 0).trans rfl; have hcz19_1 : w17.cell? ⟨gb282, 1, none⟩ = some (.int .i64 0) := (kc BK282.out 1).trans rfl; have hcz19_2 : w17.cell? ⟨gb282, 2, none⟩ = some (.string (⟨#[]⟩ : ByteArray)) := (kc BK282.out 2).trans rfl; have hfz19_0 := kf BK282.out 0; have hfz19_1 := kf BK282.out 1; have hfz19_2 := kf BK282.out 2))
 refine bodyPost_ret (results_cell_row rfl _ _ gb282 24 #[.bool t284, .int .i64 t285, .string t286] (0, 0) _ rfl (kp BK282.out) Tryz.underlying24 rfl (by kernel_rfl)) rfl ?_
 exact ⟨xe, xb⟩
def value_Do.D (k : Nat) (f : Nat) (x y z : XOps.Sv) : Option XOps.Sv :=
 if f = 74 then (value_val_add.f x.f0 x.f1 x.f2 y.f0 y.f1 y.f2 z.f0 z.f1 z.f2).map fun p => ⟨p.1, p.2.1, p.2.2⟩ else
 if f = 75 then (value_val_sub.f x.f0 x.f1 x.f2 y.f0 y.f1 y.f2 z.f0 z.f1 z.f2).map fun p => ⟨p.1, p.2.1, p.2.2⟩ else
 if f = 76 then (value_val_mul.f x.f0 x.f1 x.f2 y.f0 y.f1 y.f2 z.f0 z.f1 z.f2).map fun p => ⟨p.1, p.2.1, p.2.2⟩ else
 if f = 77 then (value_val_div.f x.f0 x.f1 x.f2 y.f0 y.f1 y.f2 z.f0 z.f1 z.f2).map fun p => ⟨p.1, p.2.1, p.2.2⟩ else
 if f = 78 then (value_val_mod.f x.f0 x.f1 x.f2 y.f0 y.f1 y.f2 z.f0 z.f1 z.f2).map fun p => ⟨p.1, p.2.1, p.2.2⟩ else
 if f = 79 then (value_val_join.f x.f0 x.f1 x.f2 y.f0 y.f1 y.f2 z.f0 z.f1 z.f2).map fun p => ⟨p.1, p.2.1, p.2.2⟩ else
 if f = 80 then (value_val_long.f x.f0 x.f1 x.f2 y.f0 y.f1 y.f2 z.f0 z.f1 z.f2).map fun p => ⟨p.1, p.2.1, p.2.2⟩ else
 if f = 81 then (value_val_slice.f x.f0 x.f1 x.f2 y.f0 y.f1 y.f2 z.f0 z.f1 z.f2).map fun p => ⟨p.1, p.2.1, p.2.2⟩ else
 if f = 82 then (value_val_upper.f x.f0 x.f1 x.f2 y.f0 y.f1 y.f2 z.f0 z.f1 z.f2).map fun p => ⟨p.1, p.2.1, p.2.2⟩ else
 if f = 83 then (value_val_lower.f x.f0 x.f1 x.f2 y.f0 y.f1 y.f2 z.f0 z.f1 z.f2).map fun p => ⟨p.1, p.2.1, p.2.2⟩ else
 if f = 84 then (value_val_eq.f k x.f0 x.f1 x.f2 y.f0 y.f1 y.f2 z.f0 z.f1 z.f2).map fun p => ⟨p.1, p.2.1, p.2.2⟩ else
 if f = 85 then (value_val_less.f k x.f0 x.f1 x.f2 y.f0 y.f1 y.f2 z.f0 z.f1 z.f2).map fun p => ⟨p.1, p.2.1, p.2.2⟩ else
 if f = 86 then (value_val_not.f x.f0 x.f1 x.f2 y.f0 y.f1 y.f2 z.f0 z.f1 z.f2).map fun p => ⟨p.1, p.2.1, p.2.2⟩ else
 if f = 87 then (value_val_choose.f x.f0 x.f1 x.f2 y.f0 y.f1 y.f2 z.f0 z.f1 z.f2).map fun p => ⟨p.1, p.2.1, p.2.2⟩ else
 if f = 88 then (value_val_number.f k x.f0 x.f1 x.f2 y.f0 y.f1 y.f2 z.f0 z.f1 z.f2).map fun p => ⟨p.1, p.2.1, p.2.2⟩ else
 if f = 89 then (value_val_text.f x.f0 x.f1 x.f2 y.f0 y.f1 y.f2 z.f0 z.f1 z.f2).map fun p => ⟨p.1, p.2.1, p.2.2⟩ else
 if f = 90 then (value_val_hash.f k x.f0 x.f1 x.f2 y.f0 y.f1 y.f2 z.f0 z.f1 z.f2).map fun p => ⟨p.1, p.2.1, p.2.2⟩ else
 if f = 91 then (value_val_find.f x.f0 x.f1 x.f2 y.f0 y.f1 y.f2 z.f0 z.f1 z.f2).map fun p => ⟨p.1, p.2.1, p.2.2⟩ else
 none
theorem value_Do.D_mono (k : Nat) (f : Nat) (x y z r : XOps.Sv) (h : value_Do.D k f x y z = some r) : value_Do.D (k + 1) f x y z = some r := by
 unfold value_Do.D at h ⊢
 by_cases e : f = 74
 ·subst e
  rw [if_pos rfl] at h ⊢
  obtain ⟨p, h1, h2⟩ := Option.map_eq_some_iff.1 h
  exact Option.map_eq_some_iff.2 ⟨p, h1, h2⟩
 rw [if_neg e] at h ⊢
 clear e
 by_cases e : f = 75
 ·subst e
  rw [if_pos rfl] at h ⊢
  obtain ⟨p, h1, h2⟩ := Option.map_eq_some_iff.1 h
  exact Option.map_eq_some_iff.2 ⟨p, h1, h2⟩
 rw [if_neg e] at h ⊢
 clear e
 by_cases e : f = 76
 ·subst e
  rw [if_pos rfl] at h ⊢
  obtain ⟨p, h1, h2⟩ := Option.map_eq_some_iff.1 h
  exact Option.map_eq_some_iff.2 ⟨p, h1, h2⟩
 rw [if_neg e] at h ⊢
 clear e
 by_cases e : f = 77
 ·subst e
  rw [if_pos rfl] at h ⊢
  obtain ⟨p, h1, h2⟩ := Option.map_eq_some_iff.1 h
  exact Option.map_eq_some_iff.2 ⟨p, h1, h2⟩
 rw [if_neg e] at h ⊢
 clear e
 by_cases e : f = 78
 ·subst e
  rw [if_pos rfl] at h ⊢
  obtain ⟨p, h1, h2⟩ := Option.map_eq_some_iff.1 h
  exact Option.map_eq_some_iff.2 ⟨p, h1, h2⟩
 rw [if_neg e] at h ⊢
 clear e
 by_cases e : f = 79
 ·subst e
  rw [if_pos rfl] at h ⊢
  obtain ⟨p, h1, h2⟩ := Option.map_eq_some_iff.1 h
  exact Option.map_eq_some_iff.2 ⟨p, h1, h2⟩
 rw [if_neg e] at h ⊢
 clear e
 by_cases e : f = 80
 ·subst e
  rw [if_pos rfl] at h ⊢
  obtain ⟨p, h1, h2⟩ := Option.map_eq_some_iff.1 h
  exact Option.map_eq_some_iff.2 ⟨p, h1, h2⟩
 rw [if_neg e] at h ⊢
 clear e
 by_cases e : f = 81
 ·subst e
  rw [if_pos rfl] at h ⊢
  obtain ⟨p, h1, h2⟩ := Option.map_eq_some_iff.1 h
  exact Option.map_eq_some_iff.2 ⟨p, h1, h2⟩
 rw [if_neg e] at h ⊢
 clear e
 by_cases e : f = 82
 ·subst e
  rw [if_pos rfl] at h ⊢
  obtain ⟨p, h1, h2⟩ := Option.map_eq_some_iff.1 h
  exact Option.map_eq_some_iff.2 ⟨p, h1, h2⟩
 rw [if_neg e] at h ⊢
 clear e
 by_cases e : f = 83
 ·subst e
  rw [if_pos rfl] at h ⊢
  obtain ⟨p, h1, h2⟩ := Option.map_eq_some_iff.1 h
  exact Option.map_eq_some_iff.2 ⟨p, h1, h2⟩
 rw [if_neg e] at h ⊢
 clear e
 by_cases e : f = 84
 ·subst e
  rw [if_pos rfl] at h ⊢
  obtain ⟨p, h1, h2⟩ := Option.map_eq_some_iff.1 h
  exact Option.map_eq_some_iff.2 ⟨p, value_val_eq.mono _ _ _ _ _ _ _ _ _ k _ h1, h2⟩
 rw [if_neg e] at h ⊢
 clear e
 by_cases e : f = 85
 ·subst e
  rw [if_pos rfl] at h ⊢
  obtain ⟨p, h1, h2⟩ := Option.map_eq_some_iff.1 h
  exact Option.map_eq_some_iff.2 ⟨p, value_val_less.mono _ _ _ _ _ _ _ _ _ k _ h1, h2⟩
 rw [if_neg e] at h ⊢
 clear e
 by_cases e : f = 86
 ·subst e
  rw [if_pos rfl] at h ⊢
  obtain ⟨p, h1, h2⟩ := Option.map_eq_some_iff.1 h
  exact Option.map_eq_some_iff.2 ⟨p, h1, h2⟩
 rw [if_neg e] at h ⊢
 clear e
 by_cases e : f = 87
 ·subst e
  rw [if_pos rfl] at h ⊢
  obtain ⟨p, h1, h2⟩ := Option.map_eq_some_iff.1 h
  exact Option.map_eq_some_iff.2 ⟨p, h1, h2⟩
 rw [if_neg e] at h ⊢
 clear e
 by_cases e : f = 88
 ·subst e
  rw [if_pos rfl] at h ⊢
  obtain ⟨p, h1, h2⟩ := Option.map_eq_some_iff.1 h
  exact Option.map_eq_some_iff.2 ⟨p, value_val_number.mono _ _ _ _ _ _ _ _ _ k _ h1, h2⟩
 rw [if_neg e] at h ⊢
 clear e
 by_cases e : f = 89
 ·subst e
  rw [if_pos rfl] at h ⊢
  obtain ⟨p, h1, h2⟩ := Option.map_eq_some_iff.1 h
  exact Option.map_eq_some_iff.2 ⟨p, h1, h2⟩
 rw [if_neg e] at h ⊢
 clear e
 by_cases e : f = 90
 ·subst e
  rw [if_pos rfl] at h ⊢
  obtain ⟨p, h1, h2⟩ := Option.map_eq_some_iff.1 h
  exact Option.map_eq_some_iff.2 ⟨p, value_val_hash.mono _ _ _ _ _ _ _ _ _ k _ h1, h2⟩
 rw [if_neg e] at h ⊢
 clear e
 by_cases e : f = 91
 ·subst e
  rw [if_pos rfl] at h ⊢
  obtain ⟨p, h1, h2⟩ := Option.map_eq_some_iff.1 h
  exact Option.map_eq_some_iff.2 ⟨p, h1, h2⟩
 rw [if_neg e] at h ⊢
 clear e
 cases h
theorem value_Do.D_calls (k : Nat) (f : Nat) (x y z r : XOps.Sv) (w : World) (hT : Tabs w) (h : value_Do.D k f x y z = some r) : Calls Tryz.prog f #[XOps.enV x, XOps.enV y, XOps.enV z] w fun e w' => e = .returned (XOps.enV r) ∧ Below w.heap.size w w' := by
 unfold value_Do.D at h
 by_cases e : f = 74
 ·subst e
  rw [if_pos rfl] at h
  obtain ⟨⟨p1, p2, p3⟩, h1, rfl⟩ := Option.map_eq_some_iff.1 h
  exact value_val_add.calls _ _ _ _ _ _ _ _ _ _ _ _ w hT h1
 rw [if_neg e] at h
 clear e
 by_cases e : f = 75
 ·subst e
  rw [if_pos rfl] at h
  obtain ⟨⟨p1, p2, p3⟩, h1, rfl⟩ := Option.map_eq_some_iff.1 h
  exact value_val_sub.calls _ _ _ _ _ _ _ _ _ _ _ _ w hT h1
 rw [if_neg e] at h
 clear e
 by_cases e : f = 76
 ·subst e
  rw [if_pos rfl] at h
  obtain ⟨⟨p1, p2, p3⟩, h1, rfl⟩ := Option.map_eq_some_iff.1 h
  exact value_val_mul.calls _ _ _ _ _ _ _ _ _ _ _ _ w hT h1
 rw [if_neg e] at h
 clear e
 by_cases e : f = 77
 ·subst e
  rw [if_pos rfl] at h
  obtain ⟨⟨p1, p2, p3⟩, h1, rfl⟩ := Option.map_eq_some_iff.1 h
  exact value_val_div.calls _ _ _ _ _ _ _ _ _ _ _ _ w hT h1
 rw [if_neg e] at h
 clear e
 by_cases e : f = 78
 ·subst e
  rw [if_pos rfl] at h
  obtain ⟨⟨p1, p2, p3⟩, h1, rfl⟩ := Option.map_eq_some_iff.1 h
  exact value_val_mod.calls _ _ _ _ _ _ _ _ _ _ _ _ w hT h1
 rw [if_neg e] at h
 clear e
 by_cases e : f = 79
 ·subst e
  rw [if_pos rfl] at h
  obtain ⟨⟨p1, p2, p3⟩, h1, rfl⟩ := Option.map_eq_some_iff.1 h
  exact value_val_join.calls _ _ _ _ _ _ _ _ _ _ _ _ w hT h1
 rw [if_neg e] at h
 clear e
 by_cases e : f = 80
 ·subst e
  rw [if_pos rfl] at h
  obtain ⟨⟨p1, p2, p3⟩, h1, rfl⟩ := Option.map_eq_some_iff.1 h
  exact value_val_long.calls _ _ _ _ _ _ _ _ _ _ _ _ w hT h1
 rw [if_neg e] at h
 clear e
 by_cases e : f = 81
 ·subst e
  rw [if_pos rfl] at h
  obtain ⟨⟨p1, p2, p3⟩, h1, rfl⟩ := Option.map_eq_some_iff.1 h
  exact value_val_slice.calls _ _ _ _ _ _ _ _ _ _ _ _ w hT h1
 rw [if_neg e] at h
 clear e
 by_cases e : f = 82
 ·subst e
  rw [if_pos rfl] at h
  obtain ⟨⟨p1, p2, p3⟩, h1, rfl⟩ := Option.map_eq_some_iff.1 h
  exact value_val_upper.calls _ _ _ _ _ _ _ _ _ _ _ _ w hT h1
 rw [if_neg e] at h
 clear e
 by_cases e : f = 83
 ·subst e
  rw [if_pos rfl] at h
  obtain ⟨⟨p1, p2, p3⟩, h1, rfl⟩ := Option.map_eq_some_iff.1 h
  exact value_val_lower.calls _ _ _ _ _ _ _ _ _ _ _ _ w hT h1
 rw [if_neg e] at h
 clear e
 by_cases e : f = 84
 ·subst e
  rw [if_pos rfl] at h
  obtain ⟨⟨p1, p2, p3⟩, h1, rfl⟩ := Option.map_eq_some_iff.1 h
  exact value_val_eq.calls k _ _ _ _ _ _ _ _ _ _ _ _ w hT h1
 rw [if_neg e] at h
 clear e
 by_cases e : f = 85
 ·subst e
  rw [if_pos rfl] at h
  obtain ⟨⟨p1, p2, p3⟩, h1, rfl⟩ := Option.map_eq_some_iff.1 h
  exact value_val_less.calls k _ _ _ _ _ _ _ _ _ _ _ _ w hT h1
 rw [if_neg e] at h
 clear e
 by_cases e : f = 86
 ·subst e
  rw [if_pos rfl] at h
  obtain ⟨⟨p1, p2, p3⟩, h1, rfl⟩ := Option.map_eq_some_iff.1 h
  exact value_val_not.calls _ _ _ _ _ _ _ _ _ _ _ _ w hT h1
 rw [if_neg e] at h
 clear e
 by_cases e : f = 87
 ·subst e
  rw [if_pos rfl] at h
  obtain ⟨⟨p1, p2, p3⟩, h1, rfl⟩ := Option.map_eq_some_iff.1 h
  exact value_val_choose.calls _ _ _ _ _ _ _ _ _ _ _ _ w hT h1
 rw [if_neg e] at h
 clear e
 by_cases e : f = 88
 ·subst e
  rw [if_pos rfl] at h
  obtain ⟨⟨p1, p2, p3⟩, h1, rfl⟩ := Option.map_eq_some_iff.1 h
  exact value_val_number.calls k _ _ _ _ _ _ _ _ _ _ _ _ w hT h1
 rw [if_neg e] at h
 clear e
 by_cases e : f = 89
 ·subst e
  rw [if_pos rfl] at h
  obtain ⟨⟨p1, p2, p3⟩, h1, rfl⟩ := Option.map_eq_some_iff.1 h
  exact value_val_text.calls _ _ _ _ _ _ _ _ _ _ _ _ w hT h1
 rw [if_neg e] at h
 clear e
 by_cases e : f = 90
 ·subst e
  rw [if_pos rfl] at h
  obtain ⟨⟨p1, p2, p3⟩, h1, rfl⟩ := Option.map_eq_some_iff.1 h
  exact value_val_hash.calls k _ _ _ _ _ _ _ _ _ _ _ _ w hT h1
 rw [if_neg e] at h
 clear e
 by_cases e : f = 91
 ·subst e
  rw [if_pos rfl] at h
  obtain ⟨⟨p1, p2, p3⟩, h1, rfl⟩ := Option.map_eq_some_iff.1 h
  exact value_val_find.calls _ _ _ _ _ _ _ _ _ _ _ _ w hT h1
 rw [if_neg e] at h
 clear e
 cases h
theorem value_Do.isVal (x : XOps.Sv) (w : World) (hT : Tabs w) : Calls Tryz.prog 60 #[XOps.enV x] w fun e w' => e = .returned (.bool (XOps.isValB x)) ∧ Below w.heap.size w w' := by
 refine value_isVal.calls x.f0 x.f1 x.f2 (XOps.isValB x) w hT ?_
 unfold value_isVal.f XOps.isValB
 by_cases h1 : x.f0 = true
 ·rw [if_pos h1, if_pos h1]
  by_cases h2 : x.f1 = 0
  ·rw [if_pos h2, decide_eq_true h2, Bool.true_and]
  ·rw [if_neg h2, decide_eq_false h2, Bool.false_and]
 ·rw [if_neg h1, if_neg h1]
def value_Do.f (k : Nat) (a0 : Int) (l1 : List (S24)) : Option (Bool × Int × ByteArray × Int) := if l1.length ≤ 1000000 then (XOps.doF (value_Do.D k) a0 l1).map fun p => (p.1.f0, p.1.f1, p.1.f2, p.2) else none
theorem value_Do.mono : ∀ a0 a1 k, LeO (value_Do.f k a0 a1) (value_Do.f (k + 1) a0 a1) := by
 intro a0 a1 k r h
 unfold value_Do.f at h ⊢
 by_cases hl : a1.length ≤ 1000000
 ·rw [if_pos hl] at h ⊢
  obtain ⟨p, h1, h2⟩ := Option.map_eq_some_iff.1 h
  exact Option.map_eq_some_iff.2 ⟨p, XOps.doF_mono (value_Do.D_mono k) h1, h2⟩
 ·rw [if_neg hl] at h
  cases h
theorem value_Do.calls (k : Nat) (a0 : Int) (A1 : Option Addr) (c1 : Nat) (l1 : List (S24)) (r1 : Bool) (r2 : Int) (r3 : ByteArray) (r4 : Int) (w : World) (hT : Tabs w) (hr1 : Kd.C k24 w A1 l1.length l1) (hc1 : l1.length ≤ c1) (h : value_Do.f k a0 l1 = some (r1, r2, r3, r4)) :
  Calls Tryz.prog 51 #[.int .i64 a0, .slice A1 l1.length c1] w fun e w' => e = .returned (.tuple #[.agg #[.bool r1, .int .i64 r2, .string r3], .int .i64 r4]) ∧ Below w.heap.size w w' := by
 unfold value_Do.f at h
 by_cases hl : l1.length ≤ 1000000
 ·rw [if_pos hl] at h
  obtain ⟨⟨r, er⟩, h1, h2⟩ := Option.map_eq_some_iff.1 h
  simp only [Prod.mk.injEq] at h2
  obtain ⟨rfl, rfl, rfl, rfl⟩ := h2
  exact XOps.do_calls (T := Tabs) (fun w w' h hb => h.below hb) value_Do.isVal (value_Do.D k) (value_Do.D_calls k) a0 A1 c1 l1 r er w hT hr1 hc1 h1 (by omega)
 ·rw [if_neg hl] at h
  cases h
end Go.Proofs.YtebofnoljebakaaGreatDoor.PX
