/- Walked functions, by this session's program over the kit's print. -/
import Derived.Test.YtnodgcakmolleaaGreatDoorPXx0
import Derived.Test.YtnodgcakmolleaaGreatDoorPXx3
import Derived.Test.YtnodgcakmolleaaGreatDoorPXx4
import Derived.Test.YtnodgcakmolleaaGreatDoorPXx6
namespace Go.Proofs.YtnodgcakmolleaaGreatDoor.PX
open Go.RowKit Go.Proofs.YtnodgcakmolleaaGreatDoorW.PrintWords Go.Proofs.YtnodgcakmolleaaGreatDoorW.PrintLast Go.Proofs.YtnodgcakmolleaaGreatDoorW.PrintMore
attribute [local go_sem] xm_gtr max2_int min2_int max_two min_two max_three min_three max_four min_four
set_option linter.unusedVariables false
set_option linter.unusedSimpArgs false
/- Walked functions, by this session's program over the kit's print. -/
def value_val_eq.f (k : Nat) (a0_0 : Bool) (a0_1 : Int) (a0_2 : ByteArray) (a1_0 : Bool) (a1_1 : Int) (a1_2 : ByteArray) (a2_0 : Bool) (a2_1 : Int) (a2_2 : ByteArray) : Option (Bool × Int × ByteArray) := (value_Compare.f k a0_0 a0_1 a0_2 a1_0 a1_1 a1_2).bind fun t231 => ((value_yes.f (t231 == 0)).bind fun bt232 => (some (bt232.1, bt232.2.1, bt232.2.2)))
theorem value_val_eq.mono : ∀ a0 a1 a2 a3 a4 a5 a6 a7 a8 k, LeO (value_val_eq.f k a0 a1 a2 a3 a4 a5 a6 a7 a8) (value_val_eq.f (k + 1) a0 a1 a2 a3 a4 a5 a6 a7 a8) := by
 intro a0 a1 a2 a3 a4 a5 a6 a7 a8 k
 unfold value_val_eq.f
 repeat' (with_reducible first | exact value_Compare.mono _ _ _ _ _ _ _ | exact LeO.refl _ | exact LeO.none _ | refine LeO.ite ?_ ?_ | refine LeO.bind ?_ (fun _ => ?_))
set_option maxHeartbeats 8000000 in
set_option maxRecDepth 100000 in
theorem value_val_eq.calls (k : Nat) (a0_0 : Bool) (a0_1 : Int) (a0_2 : ByteArray) (a1_0 : Bool) (a1_1 : Int) (a1_2 : ByteArray) (a2_0 : Bool) (a2_1 : Int) (a2_2 : ByteArray) (r1 : Bool) (r2 : Int) (r3 : ByteArray) (w : World) (hT : Tabs w) (h : value_val_eq.f k a0_0 a0_1 a0_2 a1_0 a1_1 a1_2 a2_0 a2_1 a2_2 = some (r1, r2, r3)) :
  Calls Tryz.prog 80 #[.agg #[.bool a0_0, .int .i64 a0_1, .string a0_2], .agg #[.bool a1_0, .int .i64 a1_1, .string a1_2], .agg #[.bool a2_0, .int .i64 a2_1, .string a2_2]] w fun e w' => e = .returned (.agg #[.bool r1, .int .i64 r2, .string r3]) ∧ Below w.heap.size w w' := by
 have hu104 := Tryz.underlying104
 have hu32 := Tryz.underlying32
 have HB := xy (Below.refl w.heap.size w)
 unfold value_val_eq.f at h
 have H := h
 clear h
 replace H := xj H
 obtain ⟨t231, A40, H⟩ := H
 try dsimp only at H
 have A4 := xy A40
 clear A40
 replace H := xj H
 obtain ⟨⟨t232, t233, t234⟩, A50, H⟩ := H
 try dsimp only at H
 have A5 := xy A50
 clear A50
 simp only [Option.some.injEq, Prod.mk.injEq] at H
 obtain ⟨rfl, rfl, rfl⟩ := H
 go_enter Tryz.func80, Tryz.ntmps80
 go_wp2_with (first | ((with_reducible refine gate_dst (N := 3) rfl ?_); refine xq (N := 3) (cs := #[.bool a0_0, .int .i64 a0_1, .string a0_2]) (t := 104) ?_; intro gb227 hg w6 hbox hb; have BK227 := xy (hbox); have GW227 := xs w hg; have GE227 := xs w hg; replace HB := xy (below_step xb hb); clear hb hbox hg) | ((with_reducible refine gate_dst (N := 4) rfl ?_); refine xq (N := 4) (cs := #[.bool a1_0, .int .i64 a1_1, .string a1_2]) (t := 104) ?_; intro gb228 hg w7 hbox hb; have BK228 := xy (hbox); have GW228 := xs w hg; have GE228 := xs w hg; replace HB := xy (below_step xb hb); have NB227_228 := xn hg BK227.out; have NB228_227 := xp hg BK227.out; replace BK227 := xd BK227.out hb; clear hb hbox hg) | ((with_reducible refine gate_dst (N := 5) rfl ?_); refine xq (N := 5) (cs := #[.bool a2_0, .int .i64 a2_1, .string a2_2]) (t := 104) ?_; intro gb229 hg w8 hbox hb; have BK229 := xy (hbox); have GW229 := xs w hg; have GE229 := xs w hg; replace HB := xy (below_step xb hb); have NB227_229 := xn hg BK227.out; have NB229_227 := xp hg BK227.out; replace BK227 := xd BK227.out hb; have NB228_229 := xn hg BK228.out; have NB229_228 := xp hg BK228.out; replace BK228 := xd BK228.out hb; clear hb hbox hg) | ((with_reducible refine gate_dst (N := 6) rfl ?_); refine xq (N := 6) (cs := #[.bool false, .int .i64 0, .string (⟨#[]⟩ : ByteArray)]) (t := 32) ?_; intro gb230 hg w9 hbox hb; have BK230 := xy (hbox); have GW230 := xs w hg; have GE230 := xs w hg; replace HB := xy (below_step xb hb); have NB227_230 := xn hg BK227.out; have NB230_227 := xp hg BK227.out; replace BK227 := xd BK227.out hb; have NB228_230 := xn hg BK228.out; have NB230_228 := xp hg BK228.out; replace BK228 := xd BK228.out hb; have NB229_230 := xn hg BK229.out; have NB230_229 := xp hg BK229.out; replace BK229 := xd BK229.out hb; clear hb hbox hg; have hnb10 := NB227_228.out; have hnc10 := NB228_227.out; have hnb11 := NB227_229.out; have hnc11 := NB229_227.out; have hnb12 := NB227_230.out; have hnc12 := NB230_227.out; have hcz13_0 : w9.cell? ⟨gb227, 0, none⟩ = some (.bool a0_0) := (kc BK227.out 0).trans rfl; have hcz13_1 : w9.cell? ⟨gb227, 1, none⟩ = some (.int .i64 a0_1) := (kc BK227.out 1).trans rfl; have hcz13_2 : w9.cell? ⟨gb227, 2, none⟩ = some (.string a0_2) := (kc BK227.out 2).trans rfl; have hfz13_0 := kf BK227.out 0; have hfz13_1 := kf BK227.out 1; have hfz13_2 := kf BK227.out 2; have hnb14 := NB228_229.out; have hnc14 := NB229_228.out; have hnb15 := NB228_230.out; have hnc15 := NB230_228.out; have hcz16_0 : w9.cell? ⟨gb228, 0, none⟩ = some (.bool a1_0) := (kc BK228.out 0).trans rfl; have hcz16_1 : w9.cell? ⟨gb228, 1, none⟩ = some (.int .i64 a1_1) := (kc BK228.out 1).trans rfl; have hcz16_2 : w9.cell? ⟨gb228, 2, none⟩ = some (.string a1_2) := (kc BK228.out 2).trans rfl; have hfz16_0 := kf BK228.out 0; have hfz16_1 := kf BK228.out 1; have hfz16_2 := kf BK228.out 2) | ((with_reducible refine gate_callee (f := 92) rfl ?_); refine goesL_ (some 9) rfl rfl Tryz.func92 (by kernel_rfl) rfl #[.agg #[.bool a0_0, .int .i64 a0_1, .string a0_2], .agg #[.bool a1_0, .int .i64 a1_1, .string a1_2]] rfl xr ?_; (with_reducible refine (value_Compare.calls k a0_0 a0_1 a0_2 a1_0 a1_1 a1_2 t231 _ (Tabs.below hT xf) A4.out).mono ?_); rintro e w17 ⟨rfl, hb⟩; refine ⟨_, rfl, ?_⟩; replace BK227 := xd BK227.out hb; replace BK228 := xd BK228.out hb; replace BK229 := xd BK229.out hb; replace BK230 := xd BK230.out hb; replace HB := xy (below_step xb hb); (try clear hb); (try clear hb2); (try clear hk); (try clear hi)) | ((with_reducible refine gate_callee (f := 91) rfl ?_); refine goesL_ (some 11) rfl rfl Tryz.func91 (by kernel_rfl) rfl #[.bool (t231 == 0)] rfl xr ?_; (with_reducible refine (value_yes.calls (t231 == 0) t232 t233 t234 _ (Tabs.below hT xf) A5.out).mono ?_); rintro e w18 ⟨rfl, hb⟩; refine ⟨_, rfl, ?_⟩; replace BK227 := xd BK227.out hb; replace BK228 := xd BK228.out hb; replace BK229 := xd BK229.out hb; replace BK230 := xd BK230.out hb; replace HB := xy (below_step xb hb); (try clear hb); (try clear hb2); (try clear hk); (try clear hi); have hnb19 := NB230_229.out; have hnc19 := NB229_230.out; have hcz20_0 : w18.cell? ⟨gb230, 0, none⟩ = some (.bool false) := (kc BK230.out 0).trans rfl; have hcz20_1 : w18.cell? ⟨gb230, 1, none⟩ = some (.int .i64 0) := (kc BK230.out 1).trans rfl; have hcz20_2 : w18.cell? ⟨gb230, 2, none⟩ = some (.string (⟨#[]⟩ : ByteArray)) := (kc BK230.out 2).trans rfl; have hfz20_0 := kf BK230.out 0; have hfz20_1 := kf BK230.out 1; have hfz20_2 := kf BK230.out 2))
 refine bodyPost_ret (results_cell_row rfl _ _ gb230 32 #[.bool t232, .int .i64 t233, .string t234] (0, 0) _ rfl (kp BK230.out) Tryz.underlying32 rfl (by kernel_rfl)) rfl ?_
 exact ⟨xe, xb⟩
def value_val_less.f (k : Nat) (a0_0 : Bool) (a0_1 : Int) (a0_2 : ByteArray) (a1_0 : Bool) (a1_1 : Int) (a1_2 : ByteArray) (a2_0 : Bool) (a2_1 : Int) (a2_2 : ByteArray) : Option (Bool × Int × ByteArray) := (value_Compare.f k a0_0 a0_1 a0_2 a1_0 a1_1 a1_2).bind fun t239 => ((value_yes.f (decide (t239 < 0))).bind fun bt240 => (some (bt240.1, bt240.2.1, bt240.2.2)))
theorem value_val_less.mono : ∀ a0 a1 a2 a3 a4 a5 a6 a7 a8 k, LeO (value_val_less.f k a0 a1 a2 a3 a4 a5 a6 a7 a8) (value_val_less.f (k + 1) a0 a1 a2 a3 a4 a5 a6 a7 a8) := by
 intro a0 a1 a2 a3 a4 a5 a6 a7 a8 k
 unfold value_val_less.f
 repeat' (with_reducible first | exact value_Compare.mono _ _ _ _ _ _ _ | exact LeO.refl _ | exact LeO.none _ | refine LeO.ite ?_ ?_ | refine LeO.bind ?_ (fun _ => ?_))
set_option maxHeartbeats 8000000 in
set_option maxRecDepth 100000 in
theorem value_val_less.calls (k : Nat) (a0_0 : Bool) (a0_1 : Int) (a0_2 : ByteArray) (a1_0 : Bool) (a1_1 : Int) (a1_2 : ByteArray) (a2_0 : Bool) (a2_1 : Int) (a2_2 : ByteArray) (r1 : Bool) (r2 : Int) (r3 : ByteArray) (w : World) (hT : Tabs w) (h : value_val_less.f k a0_0 a0_1 a0_2 a1_0 a1_1 a1_2 a2_0 a2_1 a2_2 = some (r1, r2, r3)) :
  Calls Tryz.prog 81 #[.agg #[.bool a0_0, .int .i64 a0_1, .string a0_2], .agg #[.bool a1_0, .int .i64 a1_1, .string a1_2], .agg #[.bool a2_0, .int .i64 a2_1, .string a2_2]] w fun e w' => e = .returned (.agg #[.bool r1, .int .i64 r2, .string r3]) ∧ Below w.heap.size w w' := by
 have hu104 := Tryz.underlying104
 have hu32 := Tryz.underlying32
 have HB := xy (Below.refl w.heap.size w)
 unfold value_val_less.f at h
 have H := h
 clear h
 replace H := xj H
 obtain ⟨t239, A40, H⟩ := H
 try dsimp only at H
 have A4 := xy A40
 clear A40
 replace H := xj H
 obtain ⟨⟨t240, t241, t242⟩, A50, H⟩ := H
 try dsimp only at H
 have A5 := xy A50
 clear A50
 simp only [Option.some.injEq, Prod.mk.injEq] at H
 obtain ⟨rfl, rfl, rfl⟩ := H
 go_enter Tryz.func81, Tryz.ntmps81
 go_wp2_with (first | ((with_reducible refine gate_dst (N := 3) rfl ?_); refine xq (N := 3) (cs := #[.bool a0_0, .int .i64 a0_1, .string a0_2]) (t := 104) ?_; intro gb235 hg w6 hbox hb; have BK235 := xy (hbox); have GW235 := xs w hg; have GE235 := xs w hg; replace HB := xy (below_step xb hb); clear hb hbox hg) | ((with_reducible refine gate_dst (N := 4) rfl ?_); refine xq (N := 4) (cs := #[.bool a1_0, .int .i64 a1_1, .string a1_2]) (t := 104) ?_; intro gb236 hg w7 hbox hb; have BK236 := xy (hbox); have GW236 := xs w hg; have GE236 := xs w hg; replace HB := xy (below_step xb hb); have NB235_236 := xn hg BK235.out; have NB236_235 := xp hg BK235.out; replace BK235 := xd BK235.out hb; clear hb hbox hg) | ((with_reducible refine gate_dst (N := 5) rfl ?_); refine xq (N := 5) (cs := #[.bool a2_0, .int .i64 a2_1, .string a2_2]) (t := 104) ?_; intro gb237 hg w8 hbox hb; have BK237 := xy (hbox); have GW237 := xs w hg; have GE237 := xs w hg; replace HB := xy (below_step xb hb); have NB235_237 := xn hg BK235.out; have NB237_235 := xp hg BK235.out; replace BK235 := xd BK235.out hb; have NB236_237 := xn hg BK236.out; have NB237_236 := xp hg BK236.out; replace BK236 := xd BK236.out hb; clear hb hbox hg) | ((with_reducible refine gate_dst (N := 6) rfl ?_); refine xq (N := 6) (cs := #[.bool false, .int .i64 0, .string (⟨#[]⟩ : ByteArray)]) (t := 32) ?_; intro gb238 hg w9 hbox hb; have BK238 := xy (hbox); have GW238 := xs w hg; have GE238 := xs w hg; replace HB := xy (below_step xb hb); have NB235_238 := xn hg BK235.out; have NB238_235 := xp hg BK235.out; replace BK235 := xd BK235.out hb; have NB236_238 := xn hg BK236.out; have NB238_236 := xp hg BK236.out; replace BK236 := xd BK236.out hb; have NB237_238 := xn hg BK237.out; have NB238_237 := xp hg BK237.out; replace BK237 := xd BK237.out hb; clear hb hbox hg; have hnb10 := NB235_236.out; have hnc10 := NB236_235.out; have hnb11 := NB235_237.out; have hnc11 := NB237_235.out; have hnb12 := NB235_238.out; have hnc12 := NB238_235.out; have hcz13_0 : w9.cell? ⟨gb235, 0, none⟩ = some (.bool a0_0) := (kc BK235.out 0).trans rfl; have hcz13_1 : w9.cell? ⟨gb235, 1, none⟩ = some (.int .i64 a0_1) := (kc BK235.out 1).trans rfl; have hcz13_2 : w9.cell? ⟨gb235, 2, none⟩ = some (.string a0_2) := (kc BK235.out 2).trans rfl; have hfz13_0 := kf BK235.out 0; have hfz13_1 := kf BK235.out 1; have hfz13_2 := kf BK235.out 2; have hnb14 := NB236_237.out; have hnc14 := NB237_236.out; have hnb15 := NB236_238.out; have hnc15 := NB238_236.out; have hcz16_0 : w9.cell? ⟨gb236, 0, none⟩ = some (.bool a1_0) := (kc BK236.out 0).trans rfl; have hcz16_1 : w9.cell? ⟨gb236, 1, none⟩ = some (.int .i64 a1_1) := (kc BK236.out 1).trans rfl; have hcz16_2 : w9.cell? ⟨gb236, 2, none⟩ = some (.string a1_2) := (kc BK236.out 2).trans rfl; have hfz16_0 := kf BK236.out 0; have hfz16_1 := kf BK236.out 1; have hfz16_2 := kf BK236.out 2) | ((with_reducible refine gate_callee (f := 92) rfl ?_); refine goesL_ (some 9) rfl rfl Tryz.func92 (by kernel_rfl) rfl #[.agg #[.bool a0_0, .int .i64 a0_1, .string a0_2], .agg #[.bool a1_0, .int .i64 a1_1, .string a1_2]] rfl xr ?_; (with_reducible refine (value_Compare.calls k a0_0 a0_1 a0_2 a1_0 a1_1 a1_2 t239 _ (Tabs.below hT xf) A4.out).mono ?_); rintro e w17 ⟨rfl, hb⟩; refine ⟨_, rfl, ?_⟩; replace BK235 := xd BK235.out hb; replace BK236 := xd BK236.out hb; replace BK237 := xd BK237.out hb; replace BK238 := xd BK238.out hb; replace HB := xy (below_step xb hb); (try clear hb); (try clear hb2); (try clear hk); (try clear hi)) | ((with_reducible refine gate_callee (f := 91) rfl ?_); refine goesL_ (some 11) rfl rfl Tryz.func91 (by kernel_rfl) rfl #[.bool (decide (t239 < 0))] rfl xr ?_; (with_reducible refine (value_yes.calls (decide (t239 < 0)) t240 t241 t242 _ (Tabs.below hT xf) A5.out).mono ?_); rintro e w18 ⟨rfl, hb⟩; refine ⟨_, rfl, ?_⟩; replace BK235 := xd BK235.out hb; replace BK236 := xd BK236.out hb; replace BK237 := xd BK237.out hb; replace BK238 := xd BK238.out hb; replace HB := xy (below_step xb hb); (try clear hb); (try clear hb2); (try clear hk); (try clear hi); have hnb19 := NB238_237.out; have hnc19 := NB237_238.out; have hcz20_0 : w18.cell? ⟨gb238, 0, none⟩ = some (.bool false) := (kc BK238.out 0).trans rfl; have hcz20_1 : w18.cell? ⟨gb238, 1, none⟩ = some (.int .i64 0) := (kc BK238.out 1).trans rfl; have hcz20_2 : w18.cell? ⟨gb238, 2, none⟩ = some (.string (⟨#[]⟩ : ByteArray)) := (kc BK238.out 2).trans rfl; have hfz20_0 := kf BK238.out 0; have hfz20_1 := kf BK238.out 1; have hfz20_2 := kf BK238.out 2))
 refine bodyPost_ret (results_cell_row rfl _ _ gb238 32 #[.bool t240, .int .i64 t241, .string t242] (0, 0) _ rfl (kp BK238.out) Tryz.underlying32 rfl (by kernel_rfl)) rfl ?_
 exact ⟨xe, xb⟩
def value_val_not.f (a0_0 : Bool) (a0_1 : Int) (a0_2 : ByteArray) (a1_0 : Bool) (a1_1 : Int) (a1_2 : ByteArray) (a2_0 : Bool) (a2_1 : Int) (a2_2 : ByteArray) : Option (Bool × Int × ByteArray) := (value_yes.f (a0_1 == 0)).bind fun bt247 => (some (bt247.1, bt247.2.1, bt247.2.2))
set_option maxHeartbeats 8000000 in
set_option maxRecDepth 100000 in
theorem value_val_not.calls (a0_0 : Bool) (a0_1 : Int) (a0_2 : ByteArray) (a1_0 : Bool) (a1_1 : Int) (a1_2 : ByteArray) (a2_0 : Bool) (a2_1 : Int) (a2_2 : ByteArray) (r1 : Bool) (r2 : Int) (r3 : ByteArray) (w : World) (hT : Tabs w) (h : value_val_not.f a0_0 a0_1 a0_2 a1_0 a1_1 a1_2 a2_0 a2_1 a2_2 = some (r1, r2, r3)) :
  Calls Tryz.prog 82 #[.agg #[.bool a0_0, .int .i64 a0_1, .string a0_2], .agg #[.bool a1_0, .int .i64 a1_1, .string a1_2], .agg #[.bool a2_0, .int .i64 a2_1, .string a2_2]] w fun e w' => e = .returned (.agg #[.bool r1, .int .i64 r2, .string r3]) ∧ Below w.heap.size w w' := by
 have hu104 := Tryz.underlying104
 have hu32 := Tryz.underlying32
 have HB := xy (Below.refl w.heap.size w)
 unfold value_val_not.f at h
 have H := h
 clear h
 replace H := xj H
 obtain ⟨⟨t247, t248, t249⟩, A40, H⟩ := H
 try dsimp only at H
 have A4 := xy A40
 clear A40
 simp only [Option.some.injEq, Prod.mk.injEq] at H
 obtain ⟨rfl, rfl, rfl⟩ := H
 go_enter Tryz.func82, Tryz.ntmps82
 go_wp2_with (first | ((with_reducible refine gate_dst (N := 3) rfl ?_); refine xq (N := 3) (cs := #[.bool a0_0, .int .i64 a0_1, .string a0_2]) (t := 104) ?_; intro gb243 hg w5 hbox hb; have BK243 := xy (hbox); have GW243 := xs w hg; have GE243 := xs w hg; replace HB := xy (below_step xb hb); clear hb hbox hg) | ((with_reducible refine gate_dst (N := 4) rfl ?_); refine xq (N := 4) (cs := #[.bool a1_0, .int .i64 a1_1, .string a1_2]) (t := 104) ?_; intro gb244 hg w6 hbox hb; have BK244 := xy (hbox); have GW244 := xs w hg; have GE244 := xs w hg; replace HB := xy (below_step xb hb); have NB243_244 := xn hg BK243.out; have NB244_243 := xp hg BK243.out; replace BK243 := xd BK243.out hb; clear hb hbox hg) | ((with_reducible refine gate_dst (N := 5) rfl ?_); refine xq (N := 5) (cs := #[.bool a2_0, .int .i64 a2_1, .string a2_2]) (t := 104) ?_; intro gb245 hg w7 hbox hb; have BK245 := xy (hbox); have GW245 := xs w hg; have GE245 := xs w hg; replace HB := xy (below_step xb hb); have NB243_245 := xn hg BK243.out; have NB245_243 := xp hg BK243.out; replace BK243 := xd BK243.out hb; have NB244_245 := xn hg BK244.out; have NB245_244 := xp hg BK244.out; replace BK244 := xd BK244.out hb; clear hb hbox hg) | ((with_reducible refine gate_dst (N := 6) rfl ?_); refine xq (N := 6) (cs := #[.bool false, .int .i64 0, .string (⟨#[]⟩ : ByteArray)]) (t := 32) ?_; intro gb246 hg w8 hbox hb; have BK246 := xy (hbox); have GW246 := xs w hg; have GE246 := xs w hg; replace HB := xy (below_step xb hb); have NB243_246 := xn hg BK243.out; have NB246_243 := xp hg BK243.out; replace BK243 := xd BK243.out hb; have NB244_246 := xn hg BK244.out; have NB246_244 := xp hg BK244.out; replace BK244 := xd BK244.out hb; have NB245_246 := xn hg BK245.out; have NB246_245 := xp hg BK245.out; replace BK245 := xd BK245.out hb; clear hb hbox hg; have hnb9 := NB243_244.out; have hnc9 := NB244_243.out; have hnb10 := NB243_245.out; have hnc10 := NB245_243.out; have hnb11 := NB243_246.out; have hnc11 := NB246_243.out; have hcz12_0 : w8.cell? ⟨gb243, 0, none⟩ = some (.bool a0_0) := (kc BK243.out 0).trans rfl; have hcz12_1 : w8.cell? ⟨gb243, 1, none⟩ = some (.int .i64 a0_1) := (kc BK243.out 1).trans rfl; have hcz12_2 : w8.cell? ⟨gb243, 2, none⟩ = some (.string a0_2) := (kc BK243.out 2).trans rfl; have hfz12_0 := kf BK243.out 0; have hfz12_1 := kf BK243.out 1; have hfz12_2 := kf BK243.out 2) | ((with_reducible refine gate_callee (f := 91) rfl ?_); refine goesL_ (some 10) rfl rfl Tryz.func91 (by kernel_rfl) rfl #[.bool (a0_1 == 0)] rfl xr ?_; (with_reducible refine (value_yes.calls (a0_1 == 0) t247 t248 t249 _ (Tabs.below hT xf) A4.out).mono ?_); rintro e w13 ⟨rfl, hb⟩; refine ⟨_, rfl, ?_⟩; replace BK243 := xd BK243.out hb; replace BK244 := xd BK244.out hb; replace BK245 := xd BK245.out hb; replace BK246 := xd BK246.out hb; replace HB := xy (below_step xb hb); (try clear hb); (try clear hb2); (try clear hk); (try clear hi); have hnb14 := NB246_244.out; have hnc14 := NB244_246.out; have hnb15 := NB246_245.out; have hnc15 := NB245_246.out; have hcz16_0 : w13.cell? ⟨gb246, 0, none⟩ = some (.bool false) := (kc BK246.out 0).trans rfl; have hcz16_1 : w13.cell? ⟨gb246, 1, none⟩ = some (.int .i64 0) := (kc BK246.out 1).trans rfl; have hcz16_2 : w13.cell? ⟨gb246, 2, none⟩ = some (.string (⟨#[]⟩ : ByteArray)) := (kc BK246.out 2).trans rfl; have hfz16_0 := kf BK246.out 0; have hfz16_1 := kf BK246.out 1; have hfz16_2 := kf BK246.out 2))
 refine bodyPost_ret (results_cell_row rfl _ _ gb246 32 #[.bool t247, .int .i64 t248, .string t249] (0, 0) _ rfl (kp BK246.out) Tryz.underlying32 rfl (by kernel_rfl)) rfl ?_
 exact ⟨xe, xb⟩
def value_val_choose.f (a0_0 : Bool) (a0_1 : Int) (a0_2 : ByteArray) (a1_0 : Bool) (a1_1 : Int) (a1_2 : ByteArray) (a2_0 : Bool) (a2_1 : Int) (a2_2 : ByteArray) : Option (Bool × Int × ByteArray) := if a0_1 = 0 then (some (a2_0, a2_1, a2_2)) else (some (a1_0, a1_1, a1_2))
set_option maxHeartbeats 8000000 in
set_option maxRecDepth 100000 in
theorem value_val_choose.calls (a0_0 : Bool) (a0_1 : Int) (a0_2 : ByteArray) (a1_0 : Bool) (a1_1 : Int) (a1_2 : ByteArray) (a2_0 : Bool) (a2_1 : Int) (a2_2 : ByteArray) (r1 : Bool) (r2 : Int) (r3 : ByteArray) (w : World) (hT : Tabs w) (h : value_val_choose.f a0_0 a0_1 a0_2 a1_0 a1_1 a1_2 a2_0 a2_1 a2_2 = some (r1, r2, r3)) :
  Calls Tryz.prog 83 #[.agg #[.bool a0_0, .int .i64 a0_1, .string a0_2], .agg #[.bool a1_0, .int .i64 a1_1, .string a1_2], .agg #[.bool a2_0, .int .i64 a2_1, .string a2_2]] w fun e w' => e = .returned (.agg #[.bool r1, .int .i64 r2, .string r3]) ∧ Below w.heap.size w w' := by
 have hu104 := Tryz.underlying104
 have hu32 := Tryz.underlying32
 have HB := xy (Below.refl w.heap.size w)
 unfold value_val_choose.f at h
 have H := h
 clear h
 by_cases c4 : a0_1 = 0
 ·rw [if_pos c4] at H
  have c4b0 : (a0_1 == 0) = true := beq_iff_eq.mpr c4
  have c4b1 : (a0_1 != 0) = false := bne_eq_false_iff_eq.mpr c4
  clear c4
  simp only [Option.some.injEq, Prod.mk.injEq] at H
  obtain ⟨rfl, rfl, rfl⟩ := H
  go_enter Tryz.func83, Tryz.ntmps83
  go_wp2_with (first | ((with_reducible refine gate_dst (N := 3) rfl ?_); refine xq (N := 3) (cs := #[.bool a0_0, .int .i64 a0_1, .string a0_2]) (t := 104) ?_; intro gb250 hg w5 hbox hb; have BK250 := xy (hbox); have GW250 := xs w hg; have GE250 := xs w hg; replace HB := xy (below_step xb hb); clear hb hbox hg) | ((with_reducible refine gate_dst (N := 4) rfl ?_); refine xq (N := 4) (cs := #[.bool a1_0, .int .i64 a1_1, .string a1_2]) (t := 104) ?_; intro gb251 hg w6 hbox hb; have BK251 := xy (hbox); have GW251 := xs w hg; have GE251 := xs w hg; replace HB := xy (below_step xb hb); have NB250_251 := xn hg BK250.out; have NB251_250 := xp hg BK250.out; replace BK250 := xd BK250.out hb; clear hb hbox hg) | ((with_reducible refine gate_dst (N := 5) rfl ?_); refine xq (N := 5) (cs := #[.bool a2_0, .int .i64 a2_1, .string a2_2]) (t := 104) ?_; intro gb252 hg w7 hbox hb; have BK252 := xy (hbox); have GW252 := xs w hg; have GE252 := xs w hg; replace HB := xy (below_step xb hb); have NB250_252 := xn hg BK250.out; have NB252_250 := xp hg BK250.out; replace BK250 := xd BK250.out hb; have NB251_252 := xn hg BK251.out; have NB252_251 := xp hg BK251.out; replace BK251 := xd BK251.out hb; clear hb hbox hg) | ((with_reducible refine gate_dst (N := 6) rfl ?_); refine xq (N := 6) (cs := #[.bool false, .int .i64 0, .string (⟨#[]⟩ : ByteArray)]) (t := 32) ?_; intro gb253 hg w8 hbox hb; have BK253 := xy (hbox); have GW253 := xs w hg; have GE253 := xs w hg; replace HB := xy (below_step xb hb); have NB250_253 := xn hg BK250.out; have NB253_250 := xp hg BK250.out; replace BK250 := xd BK250.out hb; have NB251_253 := xn hg BK251.out; have NB253_251 := xp hg BK251.out; replace BK251 := xd BK251.out hb; have NB252_253 := xn hg BK252.out; have NB253_252 := xp hg BK252.out; replace BK252 := xd BK252.out hb; clear hb hbox hg; have hnb9 := NB250_251.out; have hnc9 := NB251_250.out; have hnb10 := NB250_252.out; have hnc10 := NB252_250.out; have hnb11 := NB250_253.out; have hnc11 := NB253_250.out; have hcz12_0 : w8.cell? ⟨gb250, 0, none⟩ = some (.bool a0_0) := (kc BK250.out 0).trans rfl; have hcz12_1 : w8.cell? ⟨gb250, 1, none⟩ = some (.int .i64 a0_1) := (kc BK250.out 1).trans rfl; have hcz12_2 : w8.cell? ⟨gb250, 2, none⟩ = some (.string a0_2) := (kc BK250.out 2).trans rfl; have hfz12_0 := kf BK250.out 0; have hfz12_1 := kf BK250.out 1; have hfz12_2 := kf BK250.out 2; have hnb13 := NB252_251.out; have hnc13 := NB251_252.out; have hnb14 := NB252_253.out; have hnc14 := NB253_252.out; have hcz15_0 : w8.cell? ⟨gb252, 0, none⟩ = some (.bool a2_0) := (kc BK252.out 0).trans rfl; have hcz15_1 : w8.cell? ⟨gb252, 1, none⟩ = some (.int .i64 a2_1) := (kc BK252.out 1).trans rfl; have hcz15_2 : w8.cell? ⟨gb252, 2, none⟩ = some (.string a2_2) := (kc BK252.out 2).trans rfl; have hfz15_0 := kf BK252.out 0; have hfz15_1 := kf BK252.out 1; have hfz15_2 := kf BK252.out 2; have hnb16 := NB253_251.out; have hnc16 := NB251_253.out; have hcz17_0 : w8.cell? ⟨gb253, 0, none⟩ = some (.bool false) := (kc BK253.out 0).trans rfl; have hcz17_1 : w8.cell? ⟨gb253, 1, none⟩ = some (.int .i64 0) := (kc BK253.out 1).trans rfl; have hcz17_2 : w8.cell? ⟨gb253, 2, none⟩ = some (.string (⟨#[]⟩ : ByteArray)) := (kc BK253.out 2).trans rfl; have hfz17_0 := kf BK253.out 0; have hfz17_1 := kf BK253.out 1; have hfz17_2 := kf BK253.out 2))
  refine bodyPost_ret (results_cell_row rfl _ _ gb253 32 #[.bool a2_0, .int .i64 a2_1, .string a2_2] (0, 0) _ rfl (kp BK253.out) Tryz.underlying32 rfl (by kernel_rfl)) rfl ?_
  exact ⟨xe, xb⟩
 ·rw [if_neg c4] at H
  have c4b0 : (a0_1 == 0) = false := beq_eq_false_iff_ne.mpr c4
  have c4b1 : (a0_1 != 0) = true := bne_iff_ne.mpr c4
  simp only [Option.some.injEq, Prod.mk.injEq] at H
  obtain ⟨rfl, rfl, rfl⟩ := H
  go_enter Tryz.func83, Tryz.ntmps83
  go_wp2_with (first | ((with_reducible refine gate_dst (N := 3) rfl ?_); refine xq (N := 3) (cs := #[.bool a0_0, .int .i64 a0_1, .string a0_2]) (t := 104) ?_; intro gb250 hg w18 hbox hb; have BK250 := xy (hbox); have GW250 := xs w hg; have GE250 := xs w hg; replace HB := xy (below_step xb hb); clear hb hbox hg) | ((with_reducible refine gate_dst (N := 4) rfl ?_); refine xq (N := 4) (cs := #[.bool a1_0, .int .i64 a1_1, .string a1_2]) (t := 104) ?_; intro gb251 hg w19 hbox hb; have BK251 := xy (hbox); have GW251 := xs w hg; have GE251 := xs w hg; replace HB := xy (below_step xb hb); have NB250_251 := xn hg BK250.out; have NB251_250 := xp hg BK250.out; replace BK250 := xd BK250.out hb; clear hb hbox hg) | ((with_reducible refine gate_dst (N := 5) rfl ?_); refine xq (N := 5) (cs := #[.bool a2_0, .int .i64 a2_1, .string a2_2]) (t := 104) ?_; intro gb252 hg w20 hbox hb; have BK252 := xy (hbox); have GW252 := xs w hg; have GE252 := xs w hg; replace HB := xy (below_step xb hb); have NB250_252 := xn hg BK250.out; have NB252_250 := xp hg BK250.out; replace BK250 := xd BK250.out hb; have NB251_252 := xn hg BK251.out; have NB252_251 := xp hg BK251.out; replace BK251 := xd BK251.out hb; clear hb hbox hg) | ((with_reducible refine gate_dst (N := 6) rfl ?_); refine xq (N := 6) (cs := #[.bool false, .int .i64 0, .string (⟨#[]⟩ : ByteArray)]) (t := 32) ?_; intro gb253 hg w21 hbox hb; have BK253 := xy (hbox); have GW253 := xs w hg; have GE253 := xs w hg; replace HB := xy (below_step xb hb); have NB250_253 := xn hg BK250.out; have NB253_250 := xp hg BK250.out; replace BK250 := xd BK250.out hb; have NB251_253 := xn hg BK251.out; have NB253_251 := xp hg BK251.out; replace BK251 := xd BK251.out hb; have NB252_253 := xn hg BK252.out; have NB253_252 := xp hg BK252.out; replace BK252 := xd BK252.out hb; clear hb hbox hg; have hnb22 := NB250_251.out; have hnc22 := NB251_250.out; have hnb23 := NB250_252.out; have hnc23 := NB252_250.out; have hnb24 := NB250_253.out; have hnc24 := NB253_250.out; have hcz25_0 : w21.cell? ⟨gb250, 0, none⟩ = some (.bool a0_0) := (kc BK250.out 0).trans rfl; have hcz25_1 : w21.cell? ⟨gb250, 1, none⟩ = some (.int .i64 a0_1) := (kc BK250.out 1).trans rfl; have hcz25_2 : w21.cell? ⟨gb250, 2, none⟩ = some (.string a0_2) := (kc BK250.out 2).trans rfl; have hfz25_0 := kf BK250.out 0; have hfz25_1 := kf BK250.out 1; have hfz25_2 := kf BK250.out 2; have hnb26 := NB251_252.out; have hnc26 := NB252_251.out; have hnb27 := NB251_253.out; have hnc27 := NB253_251.out; have hcz28_0 : w21.cell? ⟨gb251, 0, none⟩ = some (.bool a1_0) := (kc BK251.out 0).trans rfl; have hcz28_1 : w21.cell? ⟨gb251, 1, none⟩ = some (.int .i64 a1_1) := (kc BK251.out 1).trans rfl; have hcz28_2 : w21.cell? ⟨gb251, 2, none⟩ = some (.string a1_2) := (kc BK251.out 2).trans rfl; have hfz28_0 := kf BK251.out 0; have hfz28_1 := kf BK251.out 1; have hfz28_2 := kf BK251.out 2; have hnb29 := NB253_252.out; have hnc29 := NB252_253.out; have hcz30_0 : w21.cell? ⟨gb253, 0, none⟩ = some (.bool false) := (kc BK253.out 0).trans rfl; have hcz30_1 : w21.cell? ⟨gb253, 1, none⟩ = some (.int .i64 0) := (kc BK253.out 1).trans rfl; have hcz30_2 : w21.cell? ⟨gb253, 2, none⟩ = some (.string (⟨#[]⟩ : ByteArray)) := (kc BK253.out 2).trans rfl; have hfz30_0 := kf BK253.out 0; have hfz30_1 := kf BK253.out 1; have hfz30_2 := kf BK253.out 2))
  refine bodyPost_ret (results_cell_row rfl _ _ gb253 32 #[.bool a1_0, .int .i64 a1_1, .string a1_2] (0, 0) _ rfl (kp BK253.out) Tryz.underlying32 rfl (by kernel_rfl)) rfl ?_
  exact ⟨xe, xb⟩
def stringslite_HasPrefix.f (a0 : ByteArray) (a1 : ByteArray) : Option (Bool) := if (a0.size : Int) ≥ (a1.size : Int) then (if 0 ≤ (a1.size : Int) then (if (a1.size : Int) ≤ (a0.size : Int) then (some ((a0.extract 0 ((a1.size : Int) : Int).toNat).toList == a1.toList)) else (none)) else (none)) else (some false)
set_option maxHeartbeats 8000000 in
set_option maxRecDepth 100000 in
theorem stringslite_HasPrefix.calls (a0 : ByteArray) (a1 : ByteArray) (r : Bool) (w : World) (hT : Tabs w) (h : stringslite_HasPrefix.f a0 a1 = some r) :
  Calls Tryz.prog 116 #[.string a0, .string a1] w fun e w' => e = .returned (.bool r) ∧ Drawn0 w w' := by
 unfold stringslite_HasPrefix.f at h
 have H := h
 clear h
 by_cases c3 : (a0.size : Int) ≥ (a1.size : Int)
 ·rw [if_pos c3] at H
  have c3b0 : decide ((a1.size : Int) ≤ (a0.size : Int)) = true := decide_eq_true c3
  have c3b1 : decide (a1.size ≤ a0.size) = true := decide_eq_true (Int.ofNat_le.mp c3)
  clear c3
  by_cases c4 : 0 ≤ (a1.size : Int)
  ·rw [if_pos c4] at H
   have c4b0 := eq_true c4
   have c4b1 : decide (0 ≤ (a1.size : Int)) = true := decide_eq_true c4
   clear c4
   by_cases c5 : (a1.size : Int) ≤ (a0.size : Int)
   ·rw [if_pos c5] at H
    have c5b0 := eq_true c5
    have c5b1 : decide ((a1.size : Int) ≤ (a0.size : Int)) = true := decide_eq_true c5
    clear c5
    obtain rfl := Option.some.inj H
    go_enter Tryz.func116, Tryz.ntmps116
    go_wp2
    go_ret
    exact ⟨xg, xz⟩
   ·rw [if_neg c5] at H
    exact absurd H (by simp)
  ·rw [if_neg c4] at H
   exact absurd H (by simp)
 ·rw [if_neg c3] at H
  have c3b0 : decide ((a1.size : Int) ≤ (a0.size : Int)) = false := decide_eq_false c3
  have c3b1 : decide (a1.size ≤ a0.size) = false := decide_eq_false (fun h => c3 (Int.ofNat_le.mpr h))
  clear c3
  obtain rfl := Option.some.inj H
  go_enter Tryz.func116, Tryz.ntmps116
  go_wp2
  go_ret
  exact ⟨xg, xz⟩
def stringslite_TrimPrefix.f (a0 : ByteArray) (a1 : ByteArray) : Option (ByteArray) := (stringslite_HasPrefix.f a0 a1).bind fun t254 => (if t254 = true then (if 0 ≤ (a1.size : Int) then (if (a1.size : Int) ≤ (a0.size : Int) then (some (a0.extract ((a1.size : Int) : Int).toNat a0.size)) else (none)) else (none)) else (some a0))
set_option maxHeartbeats 8000000 in
set_option maxRecDepth 100000 in
theorem stringslite_TrimPrefix.calls (a0 : ByteArray) (a1 : ByteArray) (r : ByteArray) (w : World) (hT : Tabs w) (h : stringslite_TrimPrefix.f a0 a1 = some r) :
  Calls Tryz.prog 102 #[.string a0, .string a1] w fun e w' => e = .returned (.string r) ∧ Drawn0 w w' := by
 unfold stringslite_TrimPrefix.f at h
 have H := h
 clear h
 replace H := xj H
 obtain ⟨t254, A30, H⟩ := H
 try dsimp only at H
 have A3 := xy A30
 clear A30
 by_cases c4 : t254 = true
 ·subst c4
  rw [if_pos rfl] at H
  by_cases c5 : 0 ≤ (a1.size : Int)
  ·rw [if_pos c5] at H
   have c5b0 := eq_true c5
   have c5b1 : decide (0 ≤ (a1.size : Int)) = true := decide_eq_true c5
   clear c5
   by_cases c6 : (a1.size : Int) ≤ (a0.size : Int)
   ·rw [if_pos c6] at H
    have c6b0 := eq_true c6
    have c6b1 : decide ((a1.size : Int) ≤ (a0.size : Int)) = true := decide_eq_true c6
    clear c6
    obtain rfl := Option.some.inj H
    go_enter Tryz.func102, Tryz.ntmps102
    go_wp2_with (((with_reducible refine gate_callee (f := 116) rfl ?_); refine goesL_ (some 7) rfl rfl Tryz.func116 (by kernel_rfl) rfl #[.string a0, .string a1] rfl xr ?_; (with_reducible refine (stringslite_HasPrefix.calls a0 a1 true _ (Tabs.below hT xf) A3.out).mono ?_); rintro e w' ⟨rfl, ⟨nd, rfl⟩⟩; refine ⟨_, rfl, ?_⟩))
    go_ret
    exact ⟨xg, xz⟩
   ·rw [if_neg c6] at H
    exact absurd H (by simp)
  ·rw [if_neg c5] at H
   exact absurd H (by simp)
 ·replace c4 := Bool.eq_false_iff.mpr c4
  subst c4
  rw [if_neg (show ¬ (false = true) by decide)] at H
  obtain rfl := Option.some.inj H
  go_enter Tryz.func102, Tryz.ntmps102
  go_wp2_with (((with_reducible refine gate_callee (f := 116) rfl ?_); refine goesL_ (some 7) rfl rfl Tryz.func116 (by kernel_rfl) rfl #[.string a0, .string a1] rfl xr ?_; (with_reducible refine (stringslite_HasPrefix.calls a0 a1 false _ (Tabs.below hT xf) A3.out).mono ?_); rintro e w' ⟨rfl, ⟨nd, rfl⟩⟩; refine ⟨_, rfl, ?_⟩))
  go_ret
  exact ⟨xg, xz⟩
def strings_TrimPrefix.f (a0 : ByteArray) (a1 : ByteArray) : Option (ByteArray) := (stringslite_TrimPrefix.f a0 a1).bind fun t255 => (some t255)
set_option maxHeartbeats 8000000 in
set_option maxRecDepth 100000 in
theorem strings_TrimPrefix.calls (a0 : ByteArray) (a1 : ByteArray) (r : ByteArray) (w : World) (hT : Tabs w) (h : strings_TrimPrefix.f a0 a1 = some r) :
  Calls Tryz.prog 93 #[.string a0, .string a1] w fun e w' => e = .returned (.string r) ∧ Drawn0 w w' := by
 unfold strings_TrimPrefix.f at h
 have H := h
 clear h
 replace H := xj H
 obtain ⟨t255, A30, H⟩ := H
 try dsimp only at H
 have A3 := xy A30
 clear A30
 obtain rfl := Option.some.inj H
 go_enter Tryz.func93, Tryz.ntmps93
 go_wp2_with (((with_reducible refine gate_callee (f := 102) rfl ?_); refine goesL_ (some 7) rfl rfl Tryz.func102 (by kernel_rfl) rfl #[.string a0, .string a1] rfl xr ?_; (with_reducible refine (stringslite_TrimPrefix.calls a0 a1 t255 _ (Tabs.below hT xf) A3.out).mono ?_); rintro e w' ⟨rfl, ⟨nd, rfl⟩⟩; refine ⟨_, rfl, ?_⟩))
 go_ret
 exact ⟨xg, xz⟩
def strings_Trim.f (a0 : ByteArray) (a1 : ByteArray) : Option (ByteArray) := if a0.size ≤ 9223372036854775807 ∧ a1.size < 4294967281 ∧ (a1.data.toList.all fun b => decide (b.toNat < 128)) = true then some ⟨(Lib.trimS a0.data.toList a1.data.toList).toArray⟩ else none
theorem strings_Trim.calls (a0 : ByteArray) (a1 : ByteArray) (r : ByteArray) (w : World) (hT : Tabs w) (h : strings_Trim.f a0 a1 = some r) :
  Calls Tryz.prog 94 #[.string a0, .string a1] w fun e w' => e = .returned (.string r) ∧ Below w.heap.size w w' := by
 unfold strings_Trim.f at h
 by_cases hq : a0.size ≤ 9223372036854775807 ∧ a1.size < 4294967281 ∧ (a1.data.toList.all fun b => decide (b.toNat < 128)) = true
 ·rw [if_pos hq] at h
  obtain ⟨h1, h2, h3⟩ := hq
  obtain rfl := Option.some.inj h
  refine (Any.strings_Trim_laid Tryz.lays160 (by kernel_rfl) a0 a1 w h1 h2 (fun j b hj => ?_)).mono ?_
  ·have := List.all_eq_true.1 h3 b (List.mem_of_getElem? hj)
   simpa using this
  ·rintro e w' ⟨rfl, hb⟩
   exact ⟨rfl, hb⟩
 ·rw [if_neg hq] at h
  cases h
def strconv_Atoi.f (a0 : ByteArray) : Option (Int × Option Int) := if a0.size ≤ 9223372036854775806 then (match Lib.atoiAll a0.data.toList with | .ok n => some (n, none) | _ => none) else none
theorem strconv_Atoi.calls (a0 : ByteArray) (r1 : Int) (r2 : Option Int) (w : World) (hT : Tabs w) (h : strconv_Atoi.f a0 = some (r1, r2)) :
  Calls Tryz.prog 95 #[.string a0] w fun e w' => e = .returned (.tuple #[.int .i64 r1, errW r2]) ∧ Below w.heap.size w w' := by
 unfold strconv_Atoi.f at h
 split at h
 ·split at h
  ·simp only [Option.some.injEq, Prod.mk.injEq] at h
   obtain ⟨rfl, rfl⟩ := h
   refine (Any.strconv_Atoi_ok Tryz.laysC172 a0 (by assumption) _ (by assumption) w).mono ?_
   rintro e w' ⟨rfl, hw⟩
   refine ⟨rfl, ?_⟩
   rcases hw with rfl | ⟨t, rfl⟩
   ·exact Below.refl _ _
   ·exact bytes_below (Below.refl _ _) (Nat.le_refl _) _ t
  ·cases h
 ·cases h
def value_val_number.j0 : Nat → Bool → Bool → Int → ByteArray → Option (Bool × Int × ByteArray)
 | 0, _, _, _, _ => none
 | k + 1, x24, x257000, x257001, x257002 => if x24 = true then ((value_Num.f 0).bind fun bt262 => (some (bt262.1, bt262.2.1, bt262.2.2))) else ((strconv_Atoi.f x257002).bind fun bt265 => ((value_Num.f bt265.1).bind fun bt267 => (some (bt267.1, bt267.2.1, bt267.2.2))))
def value_val_number.f (k : Nat) (a0_0 : Bool) (a0_1 : Int) (a0_2 : ByteArray) (a1_0 : Bool) (a1_1 : Int) (a1_2 : ByteArray) (a2_0 : Bool) (a2_1 : Int) (a2_2 : ByteArray) : Option (Bool × Int × ByteArray) := (strings_TrimPrefix.f a0_2 (⟨#[45]⟩ : ByteArray)).bind fun t260 => (if t260.toList = ([] : List UInt8) then (value_val_number.j0 k true a0_0 a0_1 a0_2) else (if (t260.size : Int) > 18 then (value_val_number.j0 k true a0_0 a0_1 a0_2) else ((strings_Trim.f t260 (⟨#[48, 49, 50, 51, 52, 53, 54, 55, 56, 57]⟩ : ByteArray)).bind fun t261 => (value_val_number.j0 k (t261.toList != ([] : List UInt8)) a0_0 a0_1 a0_2))))
theorem value_val_number.mono_l : ∀ k, (∀ y0 y1 y2 y3, LeO (value_val_number.j0 k y0 y1 y2 y3) (value_val_number.j0 (k + 1) y0 y1 y2 y3))
 | 0 => fun _ _ _ _ r h => by simp [value_val_number.j0] at h
 | k + 1 => by
  have ih0 := value_val_number.mono_l k
  ·intro y0 y1 y2 y3
   unfold value_val_number.j0
   repeat' (with_reducible first | exact ih0 _ _ _ _ | exact LeO.refl _ | exact LeO.none _ | refine LeO.ite ?_ ?_ | refine LeO.bind ?_ (fun _ => ?_))
theorem value_val_number.mono : ∀ a0 a1 a2 a3 a4 a5 a6 a7 a8 k, LeO (value_val_number.f k a0 a1 a2 a3 a4 a5 a6 a7 a8) (value_val_number.f (k + 1) a0 a1 a2 a3 a4 a5 a6 a7 a8) := by
 intro a0 a1 a2 a3 a4 a5 a6 a7 a8 k
 have ih0 := value_val_number.mono_l k
 unfold value_val_number.f
 repeat' (with_reducible first | exact ih0 _ _ _ _ | exact LeO.refl _ | exact LeO.none _ | refine LeO.ite ?_ ?_ | refine LeO.bind ?_ (fun _ => ?_))
set_option maxHeartbeats 8000000 in
set_option maxRecDepth 100000 in
theorem value_val_number.calls (k : Nat) (a0_0 : Bool) (a0_1 : Int) (a0_2 : ByteArray) (a1_0 : Bool) (a1_1 : Int) (a1_2 : ByteArray) (a2_0 : Bool) (a2_1 : Int) (a2_2 : ByteArray) (r1 : Bool) (r2 : Int) (r3 : ByteArray) (w : World) (hT : Tabs w) (h : value_val_number.f k a0_0 a0_1 a0_2 a1_0 a1_1 a1_2 a2_0 a2_1 a2_2 = some (r1, r2, r3)) :
  Calls Tryz.prog 84 #[.agg #[.bool a0_0, .int .i64 a0_1, .string a0_2], .agg #[.bool a1_0, .int .i64 a1_1, .string a1_2], .agg #[.bool a2_0, .int .i64 a2_1, .string a2_2]] w fun e w' => e = .returned (.agg #[.bool r1, .int .i64 r2, .string r3]) ∧ Below w.heap.size w w' := by
 have hu104 := Tryz.underlying104
 have hu32 := Tryz.underlying32
 have HB := xy (Below.refl w.heap.size w)
 unfold value_val_number.f at h
 have H := h
 clear h
 replace H := xj H
 obtain ⟨t260, A40, H⟩ := H
 try dsimp only at H
 have A4 := xy A40
 clear A40
 have HC5 := xy H
 clear H
 go_enter Tryz.func84, Tryz.ntmps84
 go_upto_region 2 with (first | ((with_reducible refine gate_dst (N := 3) rfl ?_); (try (refine gate_guard (by rfl) ?_; dsimp only)); refine xq (N := 3) (cs := #[.bool a0_0, .int .i64 a0_1, .string a0_2]) (t := 104) ?_; intro gb256 hg w6 hbox hb; have BK256 := xy (hbox); have GW256 := xs w hg; have GE256 := xs w hg; replace HB := xy (below_step xb hb); clear hb hbox hg) | ((with_reducible refine gate_dst (N := 4) rfl ?_); (try (refine gate_guard (by rfl) ?_; dsimp only)); refine xq (N := 4) (cs := #[.bool a1_0, .int .i64 a1_1, .string a1_2]) (t := 104) ?_; intro gb257 hg w7 hbox hb; have BK257 := xy (hbox); have GW257 := xs w hg; have GE257 := xs w hg; replace HB := xy (below_step xb hb); have NB256_257 := xn hg BK256.out; have NB257_256 := xp hg BK256.out; replace BK256 := xd BK256.out hb; clear hb hbox hg) | ((with_reducible refine gate_dst (N := 5) rfl ?_); (try (refine gate_guard (by rfl) ?_; dsimp only)); refine xq (N := 5) (cs := #[.bool a2_0, .int .i64 a2_1, .string a2_2]) (t := 104) ?_; intro gb258 hg w8 hbox hb; have BK258 := xy (hbox); have GW258 := xs w hg; have GE258 := xs w hg; replace HB := xy (below_step xb hb); have NB256_258 := xn hg BK256.out; have NB258_256 := xp hg BK256.out; replace BK256 := xd BK256.out hb; have NB257_258 := xn hg BK257.out; have NB258_257 := xp hg BK257.out; replace BK257 := xd BK257.out hb; clear hb hbox hg) | ((with_reducible refine gate_dst (N := 6) rfl ?_); (try (refine gate_guard (by rfl) ?_; dsimp only)); refine xq (N := 6) (cs := #[.bool false, .int .i64 0, .string (⟨#[]⟩ : ByteArray)]) (t := 32) ?_; intro gb259 hg w9 hbox hb; have BK259 := xy (hbox); have GW259 := xs w hg; have GE259 := xs w hg; replace HB := xy (below_step xb hb); have NB256_259 := xn hg BK256.out; have NB259_256 := xp hg BK256.out; replace BK256 := xd BK256.out hb; have NB257_259 := xn hg BK257.out; have NB259_257 := xp hg BK257.out; replace BK257 := xd BK257.out hb; have NB258_259 := xn hg BK258.out; have NB259_258 := xp hg BK258.out; replace BK258 := xd BK258.out hb; clear hb hbox hg; have hnb10 := NB256_257.out; have hnc10 := NB257_256.out; have hnb11 := NB256_258.out; have hnc11 := NB258_256.out; have hnb12 := NB256_259.out; have hnc12 := NB259_256.out; have hcz13_0 : w9.cell? ⟨gb256, 0, none⟩ = some (.bool a0_0) := (kc BK256.out 0).trans rfl; have hcz13_1 : w9.cell? ⟨gb256, 1, none⟩ = some (.int .i64 a0_1) := (kc BK256.out 1).trans rfl; have hcz13_2 : w9.cell? ⟨gb256, 2, none⟩ = some (.string a0_2) := (kc BK256.out 2).trans rfl; have hfz13_0 := kf BK256.out 0; have hfz13_1 := kf BK256.out 1; have hfz13_2 := kf BK256.out 2) | ((with_reducible refine gate_callee (f := 93) rfl ?_); refine goesL_ (some 12) rfl rfl Tryz.func93 (by kernel_rfl) rfl #[.string a0_2, .string (⟨#[45]⟩ : ByteArray)] rfl xr ?_; (with_reducible refine (strings_TrimPrefix.calls a0_2 (⟨#[45]⟩ : ByteArray) t260 _ (Tabs.below hT xf) A4.out).mono ?_); rintro e w' ⟨rfl, ⟨nd, rfl⟩⟩; refine ⟨_, rfl, ?_⟩))
 (try simp only [Act.put, List.setIfInBounds_toArray, List.set_cons_zero, List.set_cons_succ])
 go_cut [24] (fun v24 wc => ∃ (kq : Nat) (x24_4 : Bool), v24 = .bool x24_4 ∧ Aside0 (value_val_number.j0 kq x24_4 a0_0 a0_1 a0_2 = some (r1, r2, r3)) ∧ Aside0 (kq ≤ k) ∧ Aside0 (wc.heap[gb256]? = some (.cells #[.bool a0_0, .int .i64 a0_1, .string a0_2] 104 (0, 0))) ∧ Aside0 (wc.heap[gb257]? = some (.cells #[.bool a1_0, .int .i64 a1_1, .string a1_2] 104 (0, 0))) ∧ Aside0 (wc.heap[gb258]? = some (.cells #[.bool a2_0, .int .i64 a2_1, .string a2_2] 104 (0, 0))) ∧ Aside0 (wc.heap[gb259]? = some (.cells #[.bool false, .int .i64 0, .string (⟨#[]⟩ : ByteArray)] 32 (0, 0))) ∧ Aside0 (Below w.heap.size w wc))
 case first =>
  have H := HC5.out
  clear HC5
  by_cases c14 : t260.toList = ([] : List UInt8)
  ·rw [if_pos c14] at H
   have c14b0 : (t260.toList == ([] : List UInt8)) = true := beq_iff_eq.mpr c14
   have c14b1 : (t260.toList != ([] : List UInt8)) = false := bne_eq_false_iff_eq.mpr c14
   clear c14
   (first | rw [c14b0] | (simp only [i64_w, i32_w]; rw [c14b0]) | skip)
   have H' := xy H
   clear H
   go_wp2
   go_meet
   case rel => exact ⟨_, (true), xg, H', ⟨by first | omega | exact Nat.le_refl _⟩, ⟨by (with_reducible repeat (first | refine blk_drewN ?_ _ | refine blk_drew ?_ | refine blk_alloc ?_ _)); exact BK256.out⟩, ⟨by (with_reducible repeat (first | refine blk_drewN ?_ _ | refine blk_drew ?_ | refine blk_alloc ?_ _)); exact BK257.out⟩, ⟨by (with_reducible repeat (first | refine blk_drewN ?_ _ | refine blk_drew ?_ | refine blk_alloc ?_ _)); exact BK258.out⟩, ⟨by (with_reducible repeat (first | refine blk_drewN ?_ _ | refine blk_drew ?_ | refine blk_alloc ?_ _)); exact BK259.out⟩, ⟨xb⟩⟩
  ·rw [if_neg c14] at H
   have c14b0 : (t260.toList == ([] : List UInt8)) = false := beq_eq_false_iff_ne.mpr c14
   have c14b1 : (t260.toList != ([] : List UInt8)) = true := bne_iff_ne.mpr c14
   (first | rw [c14b0] | (simp only [i64_w, i32_w]; rw [c14b0]) | skip)
   by_cases c15 : (t260.size : Int) > 18
   ·rw [if_pos c15] at H
    have c15b0 : decide (18 < (t260.size : Int)) = true := decide_eq_true c15
    have c15b1 : decide (18 < t260.size) = true := decide_eq_true (by omega)
    clear c15
    have H' := xy H
    clear H
    go_wp2
    go_meet
    case rel => exact ⟨_, (true), xg, H', ⟨by first | omega | exact Nat.le_refl _⟩, ⟨by (with_reducible repeat (first | refine blk_drewN ?_ _ | refine blk_drew ?_ | refine blk_alloc ?_ _)); exact BK256.out⟩, ⟨by (with_reducible repeat (first | refine blk_drewN ?_ _ | refine blk_drew ?_ | refine blk_alloc ?_ _)); exact BK257.out⟩, ⟨by (with_reducible repeat (first | refine blk_drewN ?_ _ | refine blk_drew ?_ | refine blk_alloc ?_ _)); exact BK258.out⟩, ⟨by (with_reducible repeat (first | refine blk_drewN ?_ _ | refine blk_drew ?_ | refine blk_alloc ?_ _)); exact BK259.out⟩, ⟨xb⟩⟩
   ·rw [if_neg c15] at H
    have c15b0 : decide (18 < (t260.size : Int)) = false := decide_eq_false c15
    have c15b1 : decide (18 < t260.size) = false := decide_eq_false (by omega)
    clear c15
    replace H := xj H
    obtain ⟨t261, A160, H⟩ := H
    try dsimp only at H
    have A16 := xy A160
    clear A160
    have H' := xy H
    clear H
    go_wp2_with ((go_at_call 94; (with_reducible refine (strings_Trim.calls t260 (⟨#[48, 49, 50, 51, 52, 53, 54, 55, 56, 57]⟩ : ByteArray) t261 _ (Tabs.below hT xf) A16.out).mono ?_); rintro e w17 ⟨rfl, hb⟩; replace BK256 := xd BK256.out hb; replace BK257 := xd BK257.out hb; replace BK258 := xd BK258.out hb; replace BK259 := xd BK259.out hb; replace HB := xy (below_step xb hb); (try clear hb); (try clear hb2); (try clear hk); (try clear hi)))
    go_meet
    case rel => exact ⟨_, ((t261.toList != ([] : List UInt8))), xg, H', ⟨by first | omega | exact Nat.le_refl _⟩, ⟨by (with_reducible repeat (first | refine blk_drewN ?_ _ | refine blk_drew ?_ | refine blk_alloc ?_ _)); exact BK256.out⟩, ⟨by (with_reducible repeat (first | refine blk_drewN ?_ _ | refine blk_drew ?_ | refine blk_alloc ?_ _)); exact BK257.out⟩, ⟨by (with_reducible repeat (first | refine blk_drewN ?_ _ | refine blk_drew ?_ | refine blk_alloc ?_ _)); exact BK258.out⟩, ⟨by (with_reducible repeat (first | refine blk_drewN ?_ _ | refine blk_drew ?_ | refine blk_alloc ?_ _)); exact BK259.out⟩, ⟨xb⟩⟩
 case rest =>
  clear HC5
  try clear c1
  try clear p2
  try clear c8
  try clear c9
  try clear c10
  try clear c11
  try clear c12
  try clear c14
  try clear c14b0
  try clear c14b1
  try clear c15
  try clear c15b0
  try clear c15b1
  try clear hcz13_0
  try clear hcz13_1
  try clear hcz13_2
  try clear hfz13_0
  try clear hfz13_1
  try clear hfz13_2
  obtain ⟨kq, x24_4, rfl, HA, HJ4, BK256, BK257, BK258, BK259, HB⟩ := hcut
  cases kq with
  | zero => exact absurd HA.out (by simp [value_val_number.j0])
  | succ kj4 =>
   have H := HA.out
   clear HA
   simp only [value_val_number.j0] at H
   by_cases c18 : x24_4 = true
   ·subst c18
    rw [if_pos rfl] at H
    replace H := xj H
    obtain ⟨⟨t262, t263, t264⟩, A190, H⟩ := H
    try dsimp only at H
    have A19 := xy A190
    clear A190
    simp only [Option.some.injEq, Prod.mk.injEq] at H
    obtain ⟨rfl, rfl, rfl⟩ := H
    go_wp2_with (((with_reducible refine gate_callee (f := 36) rfl ?_); refine goesL_ (some 25) rfl rfl Tryz.func36 (by kernel_rfl) rfl #[.int .i64 0] rfl xr ?_; (with_reducible refine (value_Num.calls 0 t262 t263 t264 _ (Tabs.below hT xf) A19.out).mono ?_); rintro e w20 ⟨rfl, hb⟩; refine ⟨_, rfl, ?_⟩; replace BK256 := xd BK256.out hb; replace BK257 := xd BK257.out hb; replace BK258 := xd BK258.out hb; replace BK259 := xd BK259.out hb; replace HB := xy (below_step xb hb); (try clear hb); (try clear hb2); (try clear hk); (try clear hi); have hnb21 := NB259_256.out; have hnc21 := NB256_259.out; have hnb22 := NB259_257.out; have hnc22 := NB257_259.out; have hnb23 := NB259_258.out; have hnc23 := NB258_259.out; have hcz24_0 : w20.cell? ⟨gb259, 0, none⟩ = some (.bool false) := (kc BK259.out 0).trans rfl; have hcz24_1 : w20.cell? ⟨gb259, 1, none⟩ = some (.int .i64 0) := (kc BK259.out 1).trans rfl; have hcz24_2 : w20.cell? ⟨gb259, 2, none⟩ = some (.string (⟨#[]⟩ : ByteArray)) := (kc BK259.out 2).trans rfl; have hfz24_0 := kf BK259.out 0; have hfz24_1 := kf BK259.out 1; have hfz24_2 := kf BK259.out 2))
    refine bodyPost_ret (results_cell_row rfl _ _ gb259 32 #[.bool t262, .int .i64 t263, .string t264] (0, 0) _ rfl (kp BK259.out) Tryz.underlying32 rfl (by kernel_rfl)) rfl ?_
    exact ⟨xe, xb⟩
   ·replace c18 := Bool.eq_false_iff.mpr c18
    subst c18
    rw [if_neg (show ¬ (false = true) by decide)] at H
    replace H := xj H
    obtain ⟨⟨t265, t266⟩, A250, H⟩ := H
    try dsimp only at H
    have A25 := xy A250
    clear A250
    replace H := xj H
    obtain ⟨⟨t267, t268, t269⟩, A260, H⟩ := H
    try dsimp only at H
    have A26 := xy A260
    clear A260
    simp only [Option.some.injEq, Prod.mk.injEq] at H
    obtain ⟨rfl, rfl, rfl⟩ := H
    have hnb27 := NB256_257.out
    have hnc27 := NB257_256.out
    have hnb28 := NB256_258.out
    have hnc28 := NB258_256.out
    have hnb29 := NB256_259.out
    have hnc29 := NB259_256.out
    have hcz30_0 : wc.cell? ⟨gb256, 0, none⟩ = some (.bool a0_0) := (kc BK256.out 0).trans rfl
    have hcz30_1 : wc.cell? ⟨gb256, 1, none⟩ = some (.int .i64 a0_1) := (kc BK256.out 1).trans rfl
    have hcz30_2 : wc.cell? ⟨gb256, 2, none⟩ = some (.string a0_2) := (kc BK256.out 2).trans rfl
    have hfz30_0 := kf BK256.out 0
    have hfz30_1 := kf BK256.out 1
    have hfz30_2 := kf BK256.out 2
    go_wp2_with (first | ((with_reducible refine gate_callee (f := 95) rfl ?_); refine goesL_ (some 29) rfl rfl Tryz.func95 (by kernel_rfl) rfl #[.string a0_2] rfl xr ?_; (with_reducible refine (strconv_Atoi.calls a0_2 t265 t266 _ (Tabs.below hT xf) A25.out).mono ?_); rintro e w31 ⟨rfl, hb⟩; refine ⟨_, rfl, ?_⟩; replace BK256 := xd BK256.out hb; replace BK257 := xd BK257.out hb; replace BK258 := xd BK258.out hb; replace BK259 := xd BK259.out hb; replace HB := xy (below_step xb hb); (try clear hb); (try clear hb2); (try clear hk); (try clear hi); (try simp only [errW_none, errW_some])) | ((with_reducible refine gate_callee (f := 36) rfl ?_); refine goesL_ (some 33) rfl rfl Tryz.func36 (by kernel_rfl) rfl #[.int .i64 t265] rfl xr ?_; (with_reducible refine (value_Num.calls t265 t267 t268 t269 _ (Tabs.below hT xf) A26.out).mono ?_); rintro e w32 ⟨rfl, hb⟩; refine ⟨_, rfl, ?_⟩; replace BK256 := xd BK256.out hb; replace BK257 := xd BK257.out hb; replace BK258 := xd BK258.out hb; replace BK259 := xd BK259.out hb; replace HB := xy (below_step xb hb); (try clear hb); (try clear hb2); (try clear hk); (try clear hi); have hnb33 := NB259_257.out; have hnc33 := NB257_259.out; have hnb34 := NB259_258.out; have hnc34 := NB258_259.out; have hcz35_0 : w32.cell? ⟨gb259, 0, none⟩ = some (.bool false) := (kc BK259.out 0).trans rfl; have hcz35_1 : w32.cell? ⟨gb259, 1, none⟩ = some (.int .i64 0) := (kc BK259.out 1).trans rfl; have hcz35_2 : w32.cell? ⟨gb259, 2, none⟩ = some (.string (⟨#[]⟩ : ByteArray)) := (kc BK259.out 2).trans rfl; have hfz35_0 := kf BK259.out 0; have hfz35_1 := kf BK259.out 1; have hfz35_2 := kf BK259.out 2))
    refine bodyPost_ret (results_cell_row rfl _ _ gb259 32 #[.bool t267, .int .i64 t268, .string t269] (0, 0) _ rfl (kp BK259.out) Tryz.underlying32 rfl (by kernel_rfl)) rfl ?_
    exact ⟨xe, xb⟩
def strconv_Itoa.f (a0 : Int) : Option (ByteArray) := if -9223372036854775808 ≤ a0 ∧ a0 ≤ 9223372036854775807 then some ⟨(Lib.itoa a0).toArray⟩ else none
theorem strconv_Itoa.calls (a0 : Int) (r : ByteArray) (w : World) (hT : Tabs w) (h : strconv_Itoa.f a0 = some r) :
  Calls Tryz.prog 96 #[.int .i64 a0] w fun e w' => e = .returned (.string r) ∧ Below w.heap.size w w' := by
 unfold strconv_Itoa.f at h
 by_cases hq : -9223372036854775808 ≤ a0 ∧ a0 ≤ 9223372036854775807
 ·rw [if_pos hq] at h
  obtain rfl := Option.some.inj h
  refine (Any.strconv_Itoa Tryz.laysM171 a0 hq.1 hq.2 w hT.pow10).mono ?_
  rintro e w' ⟨rfl, k, os, rfl⟩
  exact ⟨rfl, Lib.below_grow _ _ (Nat.le_refl _) _ _⟩
 ·rw [if_neg hq] at h
  cases h
def value_val_text.f (a0_0 : Bool) (a0_1 : Int) (a0_2 : ByteArray) (a1_0 : Bool) (a1_1 : Int) (a1_2 : ByteArray) (a2_0 : Bool) (a2_1 : Int) (a2_2 : ByteArray) : Option (Bool × Int × ByteArray) := (strconv_Itoa.f a0_1).bind fun t274 => ((value_Text.f t274).bind fun bt275 => (some (bt275.1, bt275.2.1, bt275.2.2)))
set_option maxHeartbeats 8000000 in
set_option maxRecDepth 100000 in
theorem value_val_text.calls (a0_0 : Bool) (a0_1 : Int) (a0_2 : ByteArray) (a1_0 : Bool) (a1_1 : Int) (a1_2 : ByteArray) (a2_0 : Bool) (a2_1 : Int) (a2_2 : ByteArray) (r1 : Bool) (r2 : Int) (r3 : ByteArray) (w : World) (hT : Tabs w) (h : value_val_text.f a0_0 a0_1 a0_2 a1_0 a1_1 a1_2 a2_0 a2_1 a2_2 = some (r1, r2, r3)) :
  Calls Tryz.prog 85 #[.agg #[.bool a0_0, .int .i64 a0_1, .string a0_2], .agg #[.bool a1_0, .int .i64 a1_1, .string a1_2], .agg #[.bool a2_0, .int .i64 a2_1, .string a2_2]] w fun e w' => e = .returned (.agg #[.bool r1, .int .i64 r2, .string r3]) ∧ Below w.heap.size w w' := by
 have hu104 := Tryz.underlying104
 have hu32 := Tryz.underlying32
 have HB := xy (Below.refl w.heap.size w)
 unfold value_val_text.f at h
 have H := h
 clear h
 replace H := xj H
 obtain ⟨t274, A40, H⟩ := H
 try dsimp only at H
 have A4 := xy A40
 clear A40
 replace H := xj H
 obtain ⟨⟨t275, t276, t277⟩, A50, H⟩ := H
 try dsimp only at H
 have A5 := xy A50
 clear A50
 simp only [Option.some.injEq, Prod.mk.injEq] at H
 obtain ⟨rfl, rfl, rfl⟩ := H
 go_enter Tryz.func85, Tryz.ntmps85
 go_wp2_with (first | ((with_reducible refine gate_dst (N := 3) rfl ?_); refine xq (N := 3) (cs := #[.bool a0_0, .int .i64 a0_1, .string a0_2]) (t := 104) ?_; intro gb270 hg w6 hbox hb; have BK270 := xy (hbox); have GW270 := xs w hg; have GE270 := xs w hg; replace HB := xy (below_step xb hb); clear hb hbox hg) | ((with_reducible refine gate_dst (N := 4) rfl ?_); refine xq (N := 4) (cs := #[.bool a1_0, .int .i64 a1_1, .string a1_2]) (t := 104) ?_; intro gb271 hg w7 hbox hb; have BK271 := xy (hbox); have GW271 := xs w hg; have GE271 := xs w hg; replace HB := xy (below_step xb hb); have NB270_271 := xn hg BK270.out; have NB271_270 := xp hg BK270.out; replace BK270 := xd BK270.out hb; clear hb hbox hg) | ((with_reducible refine gate_dst (N := 5) rfl ?_); refine xq (N := 5) (cs := #[.bool a2_0, .int .i64 a2_1, .string a2_2]) (t := 104) ?_; intro gb272 hg w8 hbox hb; have BK272 := xy (hbox); have GW272 := xs w hg; have GE272 := xs w hg; replace HB := xy (below_step xb hb); have NB270_272 := xn hg BK270.out; have NB272_270 := xp hg BK270.out; replace BK270 := xd BK270.out hb; have NB271_272 := xn hg BK271.out; have NB272_271 := xp hg BK271.out; replace BK271 := xd BK271.out hb; clear hb hbox hg) | ((with_reducible refine gate_dst (N := 6) rfl ?_); refine xq (N := 6) (cs := #[.bool false, .int .i64 0, .string (⟨#[]⟩ : ByteArray)]) (t := 32) ?_; intro gb273 hg w9 hbox hb; have BK273 := xy (hbox); have GW273 := xs w hg; have GE273 := xs w hg; replace HB := xy (below_step xb hb); have NB270_273 := xn hg BK270.out; have NB273_270 := xp hg BK270.out; replace BK270 := xd BK270.out hb; have NB271_273 := xn hg BK271.out; have NB273_271 := xp hg BK271.out; replace BK271 := xd BK271.out hb; have NB272_273 := xn hg BK272.out; have NB273_272 := xp hg BK272.out; replace BK272 := xd BK272.out hb; clear hb hbox hg; have hnb10 := NB270_271.out; have hnc10 := NB271_270.out; have hnb11 := NB270_272.out; have hnc11 := NB272_270.out; have hnb12 := NB270_273.out; have hnc12 := NB273_270.out; have hcz13_0 : w9.cell? ⟨gb270, 0, none⟩ = some (.bool a0_0) := (kc BK270.out 0).trans rfl; have hcz13_1 : w9.cell? ⟨gb270, 1, none⟩ = some (.int .i64 a0_1) := (kc BK270.out 1).trans rfl; have hcz13_2 : w9.cell? ⟨gb270, 2, none⟩ = some (.string a0_2) := (kc BK270.out 2).trans rfl; have hfz13_0 := kf BK270.out 0; have hfz13_1 := kf BK270.out 1; have hfz13_2 := kf BK270.out 2) | ((with_reducible refine gate_callee (f := 96) rfl ?_); refine goesL_ (some 9) rfl rfl Tryz.func96 (by kernel_rfl) rfl #[.int .i64 a0_1] rfl xr ?_; (with_reducible refine (strconv_Itoa.calls a0_1 t274 _ (Tabs.below hT xf) A4.out).mono ?_); rintro e w14 ⟨rfl, hb⟩; refine ⟨_, rfl, ?_⟩; replace BK270 := xd BK270.out hb; replace BK271 := xd BK271.out hb; replace BK272 := xd BK272.out hb; replace BK273 := xd BK273.out hb; replace HB := xy (below_step xb hb); (try clear hb); (try clear hb2); (try clear hk); (try clear hi)) | ((with_reducible refine gate_callee (f := 35) rfl ?_); refine goesL_ (some 10) rfl rfl Tryz.func35 (by kernel_rfl) rfl #[.string t274] rfl xr ?_; (with_reducible refine (value_Text.calls t274 t275 t276 t277 _ (Tabs.below hT xf) A5.out).mono ?_); rintro e w15 ⟨rfl, hb⟩; refine ⟨_, rfl, ?_⟩; replace BK270 := xd BK270.out hb; replace BK271 := xd BK271.out hb; replace BK272 := xd BK272.out hb; replace BK273 := xd BK273.out hb; replace HB := xy (below_step xb hb); (try clear hb); (try clear hb2); (try clear hk); (try clear hi); have hnb16 := NB273_271.out; have hnc16 := NB271_273.out; have hnb17 := NB273_272.out; have hnc17 := NB272_273.out; have hcz18_0 : w15.cell? ⟨gb273, 0, none⟩ = some (.bool false) := (kc BK273.out 0).trans rfl; have hcz18_1 : w15.cell? ⟨gb273, 1, none⟩ = some (.int .i64 0) := (kc BK273.out 1).trans rfl; have hcz18_2 : w15.cell? ⟨gb273, 2, none⟩ = some (.string (⟨#[]⟩ : ByteArray)) := (kc BK273.out 2).trans rfl; have hfz18_0 := kf BK273.out 0; have hfz18_1 := kf BK273.out 1; have hfz18_2 := kf BK273.out 2))
 refine bodyPost_ret (results_cell_row rfl _ _ gb273 32 #[.bool t275, .int .i64 t276, .string t277] (0, 0) _ rfl (kp BK273.out) Tryz.underlying32 rfl (by kernel_rfl)) rfl ?_
 exact ⟨xe, xb⟩
/- Walked functions, by this session's program over the kit's print. -/
def value_Hash.l0 : Nat → ByteArray → Int → Int → Int → Option (Int)
 | 0, _, _, _, _ => none
 | k + 1, x0, x3, x6, x7 => if x7 < x6 then (if 0 ≤ x7 then (if x7 < (x0.size : Int) then (value_Hash.l0 k x0 (((Go.bits .xor .u32 x3 ((bt x0 x7) % 4294967296)) * 16777619) % 4294967296) x6 (wrap64 (x7 + 1))) else (none)) else (none)) else (some (wrap64 (Go.bits .and .u32 x3 2147483647)))
def value_Hash.f (k : Nat) (a0 : ByteArray) : Option (Int) := value_Hash.l0 k a0 2166136261 (a0.size : Int) 0
theorem value_Hash.mono_l : ∀ k, (∀ y0 y1 y2 y3, LeO (value_Hash.l0 k y0 y1 y2 y3) (value_Hash.l0 (k + 1) y0 y1 y2 y3))
 | 0 => fun _ _ _ _ r h => by simp [value_Hash.l0] at h
 | k + 1 => by
  have ih0 := value_Hash.mono_l k
  ·intro y0 y1 y2 y3
   unfold value_Hash.l0
   repeat' (with_reducible first | exact ih0 _ _ _ _ | exact LeO.refl _ | exact LeO.none _ | refine LeO.ite ?_ ?_ | refine LeO.bind ?_ (fun _ => ?_))
theorem value_Hash.mono : ∀ a0 k, LeO (value_Hash.f k a0) (value_Hash.f (k + 1) a0) := by
 intro a0 k
 have ih0 := value_Hash.mono_l k
 unfold value_Hash.f
 repeat' (with_reducible first | exact ih0 _ _ _ _ | exact LeO.refl _ | exact LeO.none _ | refine LeO.ite ?_ ?_ | refine LeO.bind ?_ (fun _ => ?_))
set_option maxHeartbeats 8000000 in
set_option maxRecDepth 100000 in
theorem value_Hash.calls (k : Nat) (a0 : ByteArray) (r : Int) (w : World) (hT : Tabs w) (h : value_Hash.f k a0 = some r) :
  Calls Tryz.prog 97 #[.string a0] w fun e w' => e = .returned (.int .i64 r) ∧ Drawn0 w w' := by
 unfold value_Hash.f at h
 have H := h
 clear h
 have H' := xy H
 clear H
 go_enter Tryz.func97, Tryz.ntmps97
 go_wp2
 go_loopg [3, 7] k (fun kq v3 v7 w' => ∃ (x3_1 : Int) (x7_1 : Int), v3 = .int .u32 x3_1 ∧ v7 = .int .i64 x7_1 ∧ Aside0 (value_Hash.l0 kq a0 x3_1 (a0.size : Int) x7_1 = some r) ∧ Aside0 (kq ≤ k) ∧ Drawn0 w w')
 case atStart => exact ⟨(2166136261), (0), xg, xg, H', ⟨Nat.le_refl _⟩, by repeat (first | exact Drawn0.refl _ | apply Drawn0.step)⟩
 case round =>
  clear H'
  obtain ⟨x3_1, x7_1, rfl, rfl, HA, HK1, ⟨m1, rfl⟩⟩ := hrel
  cases gk with
  | zero => exact absurd HA.out (by simp [value_Hash.l0])
  | succ k1 =>
   have H := HA.out
   clear HA
   simp only [value_Hash.l0] at H
   by_cases c2 : x7_1 < (a0.size : Int)
   ·rw [if_pos c2] at H
    have c2b0 : decide (x7_1 < (a0.size : Int)) = true := decide_eq_true c2
    clear c2
    by_cases c3 : 0 ≤ x7_1
    ·rw [if_pos c3] at H
     have c3b0 : decide (0 ≤ x7_1) = true := decide_eq_true c3
     clear c3
     by_cases c4 : x7_1 < (a0.size : Int)
     ·rw [if_pos c4] at H
      have c4b0 : decide (x7_1 < (a0.size : Int)) = true := decide_eq_true c4
      clear c4
      have H' := xy H
      clear H
      have p5 : 0 ≤ (x7_1 : Int) := xi
      have q5 : x7_1 < (a0.size : Int) := xi
      have hx5 := bt_at a0 x7_1
      replace p5 := eq_true p5
      replace q5 := eq_true q5
      go_wp2
      go_roundg k1
      case measure => have := HK1.out; omega
      case rel => exact ⟨(((Go.bits .xor .u32 x3_1 ((bt a0 x7_1) % 4294967296)) * 16777619) % 4294967296), (wrap64 (x7_1 + 1)), xg, xg, H', ⟨by have := HK1.out; omega⟩, by repeat (first | exact Drawn0.refl _ | apply Drawn0.step)⟩
     ·rw [if_neg c4] at H
      exact absurd H (by simp)
    ·rw [if_neg c3] at H
     exact absurd H (by simp)
   ·rw [if_neg c2] at H
    have c2b0 : decide (x7_1 < (a0.size : Int)) = false := decide_eq_false c2
    clear c2
    obtain rfl := Option.some.inj H
    go_wp2
    go_ret
    exact ⟨xg, xz⟩
def value_val_hash.f (k : Nat) (a0_0 : Bool) (a0_1 : Int) (a0_2 : ByteArray) (a1_0 : Bool) (a1_1 : Int) (a1_2 : ByteArray) (a2_0 : Bool) (a2_1 : Int) (a2_2 : ByteArray) : Option (Bool × Int × ByteArray) := (value_Hash.f k a0_2).bind fun t282 => ((value_Num.f t282).bind fun bt283 => (some (bt283.1, bt283.2.1, bt283.2.2)))
theorem value_val_hash.mono : ∀ a0 a1 a2 a3 a4 a5 a6 a7 a8 k, LeO (value_val_hash.f k a0 a1 a2 a3 a4 a5 a6 a7 a8) (value_val_hash.f (k + 1) a0 a1 a2 a3 a4 a5 a6 a7 a8) := by
 intro a0 a1 a2 a3 a4 a5 a6 a7 a8 k
 unfold value_val_hash.f
 repeat' (with_reducible first | exact value_Hash.mono _ _ | exact LeO.refl _ | exact LeO.none _ | refine LeO.ite ?_ ?_ | refine LeO.bind ?_ (fun _ => ?_))
set_option maxHeartbeats 8000000 in
set_option maxRecDepth 100000 in
theorem value_val_hash.calls (k : Nat) (a0_0 : Bool) (a0_1 : Int) (a0_2 : ByteArray) (a1_0 : Bool) (a1_1 : Int) (a1_2 : ByteArray) (a2_0 : Bool) (a2_1 : Int) (a2_2 : ByteArray) (r1 : Bool) (r2 : Int) (r3 : ByteArray) (w : World) (hT : Tabs w) (h : value_val_hash.f k a0_0 a0_1 a0_2 a1_0 a1_1 a1_2 a2_0 a2_1 a2_2 = some (r1, r2, r3)) :
  Calls Tryz.prog 86 #[.agg #[.bool a0_0, .int .i64 a0_1, .string a0_2], .agg #[.bool a1_0, .int .i64 a1_1, .string a1_2], .agg #[.bool a2_0, .int .i64 a2_1, .string a2_2]] w fun e w' => e = .returned (.agg #[.bool r1, .int .i64 r2, .string r3]) ∧ Below w.heap.size w w' := by
 have hu104 := Tryz.underlying104
 have hu32 := Tryz.underlying32
 have HB := xy (Below.refl w.heap.size w)
 unfold value_val_hash.f at h
 have H := h
 clear h
 replace H := xj H
 obtain ⟨t282, A40, H⟩ := H
 try dsimp only at H
 have A4 := xy A40
 clear A40
 replace H := xj H
 obtain ⟨⟨t283, t284, t285⟩, A50, H⟩ := H
 try dsimp only at H
 have A5 := xy A50
 clear A50
 simp only [Option.some.injEq, Prod.mk.injEq] at H
 obtain ⟨rfl, rfl, rfl⟩ := H
 go_enter Tryz.func86, Tryz.ntmps86
 go_wp2_with (first | ((with_reducible refine gate_dst (N := 3) rfl ?_); refine xq (N := 3) (cs := #[.bool a0_0, .int .i64 a0_1, .string a0_2]) (t := 104) ?_; intro gb278 hg w6 hbox hb; have BK278 := xy (hbox); have GW278 := xs w hg; have GE278 := xs w hg; replace HB := xy (below_step xb hb); clear hb hbox hg) | ((with_reducible refine gate_dst (N := 4) rfl ?_); refine xq (N := 4) (cs := #[.bool a1_0, .int .i64 a1_1, .string a1_2]) (t := 104) ?_; intro gb279 hg w7 hbox hb; have BK279 := xy (hbox); have GW279 := xs w hg; have GE279 := xs w hg; replace HB := xy (below_step xb hb); have NB278_279 := xn hg BK278.out; have NB279_278 := xp hg BK278.out; replace BK278 := xd BK278.out hb; clear hb hbox hg) | ((with_reducible refine gate_dst (N := 5) rfl ?_); refine xq (N := 5) (cs := #[.bool a2_0, .int .i64 a2_1, .string a2_2]) (t := 104) ?_; intro gb280 hg w8 hbox hb; have BK280 := xy (hbox); have GW280 := xs w hg; have GE280 := xs w hg; replace HB := xy (below_step xb hb); have NB278_280 := xn hg BK278.out; have NB280_278 := xp hg BK278.out; replace BK278 := xd BK278.out hb; have NB279_280 := xn hg BK279.out; have NB280_279 := xp hg BK279.out; replace BK279 := xd BK279.out hb; clear hb hbox hg) | ((with_reducible refine gate_dst (N := 6) rfl ?_); refine xq (N := 6) (cs := #[.bool false, .int .i64 0, .string (⟨#[]⟩ : ByteArray)]) (t := 32) ?_; intro gb281 hg w9 hbox hb; have BK281 := xy (hbox); have GW281 := xs w hg; have GE281 := xs w hg; replace HB := xy (below_step xb hb); have NB278_281 := xn hg BK278.out; have NB281_278 := xp hg BK278.out; replace BK278 := xd BK278.out hb; have NB279_281 := xn hg BK279.out; have NB281_279 := xp hg BK279.out; replace BK279 := xd BK279.out hb; have NB280_281 := xn hg BK280.out; have NB281_280 := xp hg BK280.out; replace BK280 := xd BK280.out hb; clear hb hbox hg; have hnb10 := NB278_279.out; have hnc10 := NB279_278.out; have hnb11 := NB278_280.out; have hnc11 := NB280_278.out; have hnb12 := NB278_281.out; have hnc12 := NB281_278.out; have hcz13_0 : w9.cell? ⟨gb278, 0, none⟩ = some (.bool a0_0) := (kc BK278.out 0).trans rfl; have hcz13_1 : w9.cell? ⟨gb278, 1, none⟩ = some (.int .i64 a0_1) := (kc BK278.out 1).trans rfl; have hcz13_2 : w9.cell? ⟨gb278, 2, none⟩ = some (.string a0_2) := (kc BK278.out 2).trans rfl; have hfz13_0 := kf BK278.out 0; have hfz13_1 := kf BK278.out 1; have hfz13_2 := kf BK278.out 2) | ((with_reducible refine gate_callee (f := 97) rfl ?_); refine goesL_ (some 9) rfl rfl Tryz.func97 (by kernel_rfl) rfl #[.string a0_2] rfl xr ?_; (with_reducible refine (value_Hash.calls k a0_2 t282 _ (Tabs.below hT xf) A4.out).mono ?_); rintro e w' ⟨rfl, ⟨nd, rfl⟩⟩; refine ⟨_, rfl, ?_⟩; (try (rw [drewN_self w9]; generalize hq_ : World.drewN w9 _ = w9; have n0_ : Aside0 (w9.heap[gb278]? = some (.cells #[.bool a0_0, .int .i64 a0_1, .string a0_2] 104 (0, 0))) := ⟨by rw [← hq_]; exact (xk BK278.out)⟩; have n1_ : Aside0 (w9.heap[gb279]? = some (.cells #[.bool a1_0, .int .i64 a1_1, .string a1_2] 104 (0, 0))) := ⟨by rw [← hq_]; exact (xk BK279.out)⟩; have n2_ : Aside0 (w9.heap[gb280]? = some (.cells #[.bool a2_0, .int .i64 a2_1, .string a2_2] 104 (0, 0))) := ⟨by rw [← hq_]; exact (xk BK280.out)⟩; have n3_ : Aside0 (w9.heap[gb281]? = some (.cells #[.bool false, .int .i64 0, .string (⟨#[]⟩ : ByteArray)] 32 (0, 0))) := ⟨by rw [← hq_]; exact (xk BK281.out)⟩; have n4_ : Aside0 (Below w.heap.size w w9) := ⟨by rw [← hq_]; exact xb⟩; clear BK278 BK279 BK280 BK281 HB hq_; have BK278 := n0_; have BK279 := n1_; have BK280 := n2_; have BK281 := n3_; have HB := n4_; clear n0_ n1_ n2_ n3_ n4_))) | ((with_reducible refine gate_callee (f := 36) rfl ?_); refine goesL_ (some 10) rfl rfl Tryz.func36 (by kernel_rfl) rfl #[.int .i64 t282] rfl xr ?_; (with_reducible refine (value_Num.calls t282 t283 t284 t285 _ (Tabs.below hT xf) A5.out).mono ?_); rintro e w14 ⟨rfl, hb⟩; refine ⟨_, rfl, ?_⟩; replace BK278 := xd BK278.out hb; replace BK279 := xd BK279.out hb; replace BK280 := xd BK280.out hb; replace BK281 := xd BK281.out hb; replace HB := xy (below_step xb hb); (try clear hb); (try clear hb2); (try clear hk); (try clear hi); have hnb15 := NB281_279.out; have hnc15 := NB279_281.out; have hnb16 := NB281_280.out; have hnc16 := NB280_281.out; have hcz17_0 : w14.cell? ⟨gb281, 0, none⟩ = some (.bool false) := (kc BK281.out 0).trans rfl; have hcz17_1 : w14.cell? ⟨gb281, 1, none⟩ = some (.int .i64 0) := (kc BK281.out 1).trans rfl; have hcz17_2 : w14.cell? ⟨gb281, 2, none⟩ = some (.string (⟨#[]⟩ : ByteArray)) := (kc BK281.out 2).trans rfl; have hfz17_0 := kf BK281.out 0; have hfz17_1 := kf BK281.out 1; have hfz17_2 := kf BK281.out 2))
 refine bodyPost_ret (results_cell_row rfl _ _ gb281 32 #[.bool t283, .int .i64 t284, .string t285] (0, 0) _ rfl (kp BK281.out) Tryz.underlying32 rfl (by kernel_rfl)) rfl ?_
 exact ⟨xe, xb⟩
def strings_Index.f (a0 : ByteArray) (a1 : ByteArray) : Option (Int) := if a0.size < 4294967281 then some (Lib.index a0.data.toList a1.data.toList) else none
theorem strings_Index.calls (a0 : ByteArray) (a1 : ByteArray) (r : Int) (w : World) (hT : Tabs w) (h : strings_Index.f a0 a1 = some r) :
  Calls Tryz.prog 98 #[.string a0, .string a1] w fun e w' => e = .returned (.int .i64 r) ∧ Drawn0 w w' := by
 unfold strings_Index.f at h
 split at h
 ·obtain rfl := Option.some.inj h
  obtain ⟨m, hm⟩ := hT.maxlen
  refine (Any.strings_Index { Tryz.laysM143 with } a0 a1 m w (by assumption) hm).mono ?_
  rintro e w' ⟨rfl, rfl⟩
  exact ⟨rfl, Drawn0.refl _⟩
 ·cases h
def value_val_find.f (a0_0 : Bool) (a0_1 : Int) (a0_2 : ByteArray) (a1_0 : Bool) (a1_1 : Int) (a1_2 : ByteArray) (a2_0 : Bool) (a2_1 : Int) (a2_2 : ByteArray) : Option (Bool × Int × ByteArray) := (strings_Index.f a0_2 a1_2).bind fun t290 => ((value_Num.f t290).bind fun bt291 => (some (bt291.1, bt291.2.1, bt291.2.2)))
set_option maxHeartbeats 8000000 in
set_option maxRecDepth 100000 in
theorem value_val_find.calls (a0_0 : Bool) (a0_1 : Int) (a0_2 : ByteArray) (a1_0 : Bool) (a1_1 : Int) (a1_2 : ByteArray) (a2_0 : Bool) (a2_1 : Int) (a2_2 : ByteArray) (r1 : Bool) (r2 : Int) (r3 : ByteArray) (w : World) (hT : Tabs w) (h : value_val_find.f a0_0 a0_1 a0_2 a1_0 a1_1 a1_2 a2_0 a2_1 a2_2 = some (r1, r2, r3)) :
  Calls Tryz.prog 87 #[.agg #[.bool a0_0, .int .i64 a0_1, .string a0_2], .agg #[.bool a1_0, .int .i64 a1_1, .string a1_2], .agg #[.bool a2_0, .int .i64 a2_1, .string a2_2]] w fun e w' => e = .returned (.agg #[.bool r1, .int .i64 r2, .string r3]) ∧ Below w.heap.size w w' := by
 have hu104 := Tryz.underlying104
 have hu32 := Tryz.underlying32
 have HB := xy (Below.refl w.heap.size w)
 unfold value_val_find.f at h
 have H := h
 clear h
 replace H := xj H
 obtain ⟨t290, A40, H⟩ := H
 try dsimp only at H
 have A4 := xy A40
 clear A40
 replace H := xj H
 obtain ⟨⟨t291, t292, t293⟩, A50, H⟩ := H
 try dsimp only at H
 have A5 := xy A50
 clear A50
 simp only [Option.some.injEq, Prod.mk.injEq] at H
 obtain ⟨rfl, rfl, rfl⟩ := H
 go_enter Tryz.func87, Tryz.ntmps87
 go_wp2_with (first | ((with_reducible refine gate_dst (N := 3) rfl ?_); refine xq (N := 3) (cs := #[.bool a0_0, .int .i64 a0_1, .string a0_2]) (t := 104) ?_; intro gb286 hg w6 hbox hb; have BK286 := xy (hbox); have GW286 := xs w hg; have GE286 := xs w hg; replace HB := xy (below_step xb hb); clear hb hbox hg) | ((with_reducible refine gate_dst (N := 4) rfl ?_); refine xq (N := 4) (cs := #[.bool a1_0, .int .i64 a1_1, .string a1_2]) (t := 104) ?_; intro gb287 hg w7 hbox hb; have BK287 := xy (hbox); have GW287 := xs w hg; have GE287 := xs w hg; replace HB := xy (below_step xb hb); have NB286_287 := xn hg BK286.out; have NB287_286 := xp hg BK286.out; replace BK286 := xd BK286.out hb; clear hb hbox hg) | ((with_reducible refine gate_dst (N := 5) rfl ?_); refine xq (N := 5) (cs := #[.bool a2_0, .int .i64 a2_1, .string a2_2]) (t := 104) ?_; intro gb288 hg w8 hbox hb; have BK288 := xy (hbox); have GW288 := xs w hg; have GE288 := xs w hg; replace HB := xy (below_step xb hb); have NB286_288 := xn hg BK286.out; have NB288_286 := xp hg BK286.out; replace BK286 := xd BK286.out hb; have NB287_288 := xn hg BK287.out; have NB288_287 := xp hg BK287.out; replace BK287 := xd BK287.out hb; clear hb hbox hg) | ((with_reducible refine gate_dst (N := 6) rfl ?_); refine xq (N := 6) (cs := #[.bool false, .int .i64 0, .string (⟨#[]⟩ : ByteArray)]) (t := 32) ?_; intro gb289 hg w9 hbox hb; have BK289 := xy (hbox); have GW289 := xs w hg; have GE289 := xs w hg; replace HB := xy (below_step xb hb); have NB286_289 := xn hg BK286.out; have NB289_286 := xp hg BK286.out; replace BK286 := xd BK286.out hb; have NB287_289 := xn hg BK287.out; have NB289_287 := xp hg BK287.out; replace BK287 := xd BK287.out hb; have NB288_289 := xn hg BK288.out; have NB289_288 := xp hg BK288.out; replace BK288 := xd BK288.out hb; clear hb hbox hg; have hnb10 := NB286_287.out; have hnc10 := NB287_286.out; have hnb11 := NB286_288.out; have hnc11 := NB288_286.out; have hnb12 := NB286_289.out; have hnc12 := NB289_286.out; have hcz13_0 : w9.cell? ⟨gb286, 0, none⟩ = some (.bool a0_0) := (kc BK286.out 0).trans rfl; have hcz13_1 : w9.cell? ⟨gb286, 1, none⟩ = some (.int .i64 a0_1) := (kc BK286.out 1).trans rfl; have hcz13_2 : w9.cell? ⟨gb286, 2, none⟩ = some (.string a0_2) := (kc BK286.out 2).trans rfl; have hfz13_0 := kf BK286.out 0; have hfz13_1 := kf BK286.out 1; have hfz13_2 := kf BK286.out 2; have hnb14 := NB287_288.out; have hnc14 := NB288_287.out; have hnb15 := NB287_289.out; have hnc15 := NB289_287.out; have hcz16_0 : w9.cell? ⟨gb287, 0, none⟩ = some (.bool a1_0) := (kc BK287.out 0).trans rfl; have hcz16_1 : w9.cell? ⟨gb287, 1, none⟩ = some (.int .i64 a1_1) := (kc BK287.out 1).trans rfl; have hcz16_2 : w9.cell? ⟨gb287, 2, none⟩ = some (.string a1_2) := (kc BK287.out 2).trans rfl; have hfz16_0 := kf BK287.out 0; have hfz16_1 := kf BK287.out 1; have hfz16_2 := kf BK287.out 2) | ((with_reducible refine gate_callee (f := 98) rfl ?_); refine goesL_ (some 11) rfl rfl Tryz.func98 (by kernel_rfl) rfl #[.string a0_2, .string a1_2] rfl xr ?_; (with_reducible refine (strings_Index.calls a0_2 a1_2 t290 _ (Tabs.below hT xf) A4.out).mono ?_); rintro e w' ⟨rfl, ⟨nd, rfl⟩⟩; refine ⟨_, rfl, ?_⟩; (try (rw [drewN_self w9]; generalize hq_ : World.drewN w9 _ = w9; have n0_ : Aside0 (w9.heap[gb286]? = some (.cells #[.bool a0_0, .int .i64 a0_1, .string a0_2] 104 (0, 0))) := ⟨by rw [← hq_]; exact (xk BK286.out)⟩; have n1_ : Aside0 (w9.heap[gb287]? = some (.cells #[.bool a1_0, .int .i64 a1_1, .string a1_2] 104 (0, 0))) := ⟨by rw [← hq_]; exact (xk BK287.out)⟩; have n2_ : Aside0 (w9.heap[gb288]? = some (.cells #[.bool a2_0, .int .i64 a2_1, .string a2_2] 104 (0, 0))) := ⟨by rw [← hq_]; exact (xk BK288.out)⟩; have n3_ : Aside0 (w9.heap[gb289]? = some (.cells #[.bool false, .int .i64 0, .string (⟨#[]⟩ : ByteArray)] 32 (0, 0))) := ⟨by rw [← hq_]; exact (xk BK289.out)⟩; have n4_ : Aside0 (Below w.heap.size w w9) := ⟨by rw [← hq_]; exact xb⟩; clear BK286 BK287 BK288 BK289 HB hq_; have BK286 := n0_; have BK287 := n1_; have BK288 := n2_; have BK289 := n3_; have HB := n4_; clear n0_ n1_ n2_ n3_ n4_))) | ((with_reducible refine gate_callee (f := 36) rfl ?_); refine goesL_ (some 12) rfl rfl Tryz.func36 (by kernel_rfl) rfl #[.int .i64 t290] rfl xr ?_; (with_reducible refine (value_Num.calls t290 t291 t292 t293 _ (Tabs.below hT xf) A5.out).mono ?_); rintro e w17 ⟨rfl, hb⟩; refine ⟨_, rfl, ?_⟩; replace BK286 := xd BK286.out hb; replace BK287 := xd BK287.out hb; replace BK288 := xd BK288.out hb; replace BK289 := xd BK289.out hb; replace HB := xy (below_step xb hb); (try clear hb); (try clear hb2); (try clear hk); (try clear hi); have hnb18 := NB289_288.out; have hnc18 := NB288_289.out; have hcz19_0 : w17.cell? ⟨gb289, 0, none⟩ = some (.bool false) := (kc BK289.out 0).trans rfl; have hcz19_1 : w17.cell? ⟨gb289, 1, none⟩ = some (.int .i64 0) := (kc BK289.out 1).trans rfl; have hcz19_2 : w17.cell? ⟨gb289, 2, none⟩ = some (.string (⟨#[]⟩ : ByteArray)) := (kc BK289.out 2).trans rfl; have hfz19_0 := kf BK289.out 0; have hfz19_1 := kf BK289.out 1; have hfz19_2 := kf BK289.out 2))
 refine bodyPost_ret (results_cell_row rfl _ _ gb289 32 #[.bool t291, .int .i64 t292, .string t293] (0, 0) _ rfl (kp BK289.out) Tryz.underlying32 rfl (by kernel_rfl)) rfl ?_
 exact ⟨xe, xb⟩
def value_isVal.f (a0_0 : Bool) (a0_1 : Int) (a0_2 : ByteArray) : Option (Bool) := if a0_0 = true then (if a0_1 = 0 then (some (decide ((a0_2.size : Int) ≤ 1000))) else (some false)) else (some (a0_2.toList == ([] : List UInt8)))
set_option maxHeartbeats 8000000 in
set_option maxRecDepth 100000 in
theorem value_isVal.calls (a0_0 : Bool) (a0_1 : Int) (a0_2 : ByteArray) (r : Bool) (w : World) (hT : Tabs w) (h : value_isVal.f a0_0 a0_1 a0_2 = some r) :
  Calls Tryz.prog 88 #[.agg #[.bool a0_0, .int .i64 a0_1, .string a0_2]] w fun e w' => e = .returned (.bool r) ∧ Below w.heap.size w w' := by
 have hu32 := Tryz.underlying32
 have HB := xy (Below.refl w.heap.size w)
 unfold value_isVal.f at h
 have H := h
 clear h
 by_cases c2 : a0_0 = true
 ·subst c2
  rw [if_pos rfl] at H
  by_cases c3 : a0_1 = 0
  ·rw [if_pos c3] at H
   have c3b0 : (a0_1 == 0) = true := beq_iff_eq.mpr c3
   have c3b1 : (a0_1 != 0) = false := bne_eq_false_iff_eq.mpr c3
   clear c3
   obtain rfl := Option.some.inj H
   go_enter Tryz.func88, Tryz.ntmps88
   go_wp2_with (((with_reducible refine gate_dst (N := 1) rfl ?_); (try (refine gate_guard (by rfl) ?_; dsimp only)); refine xq (N := 1) (cs := #[.bool true, .int .i64 a0_1, .string a0_2]) (t := 32) ?_; intro gb294 hg w4 hbox hb; have BK294 := xy (hbox); have GW294 := xs w hg; have GE294 := xs w hg; replace HB := xy (below_step xb hb); clear hb hbox hg; have hcz5_0 : w4.cell? ⟨gb294, 0, none⟩ = some (.bool true) := (kc BK294.out 0).trans rfl; have hcz5_1 : w4.cell? ⟨gb294, 1, none⟩ = some (.int .i64 a0_1) := (kc BK294.out 1).trans rfl; have hcz5_2 : w4.cell? ⟨gb294, 2, none⟩ = some (.string a0_2) := (kc BK294.out 2).trans rfl; have hfz5_0 := kf BK294.out 0; have hfz5_1 := kf BK294.out 1; have hfz5_2 := kf BK294.out 2))
   go_ret
   exact ⟨xe, xb⟩
  ·rw [if_neg c3] at H
   have c3b0 : (a0_1 == 0) = false := beq_eq_false_iff_ne.mpr c3
   have c3b1 : (a0_1 != 0) = true := bne_iff_ne.mpr c3
   obtain rfl := Option.some.inj H
   go_enter Tryz.func88, Tryz.ntmps88
   go_wp2_with (((with_reducible refine gate_dst (N := 1) rfl ?_); (try (refine gate_guard (by rfl) ?_; dsimp only)); refine xq (N := 1) (cs := #[.bool true, .int .i64 a0_1, .string a0_2]) (t := 32) ?_; intro gb294 hg w6 hbox hb; have BK294 := xy (hbox); have GW294 := xs w hg; have GE294 := xs w hg; replace HB := xy (below_step xb hb); clear hb hbox hg; have hcz7_0 : w6.cell? ⟨gb294, 0, none⟩ = some (.bool true) := (kc BK294.out 0).trans rfl; have hcz7_1 : w6.cell? ⟨gb294, 1, none⟩ = some (.int .i64 a0_1) := (kc BK294.out 1).trans rfl; have hcz7_2 : w6.cell? ⟨gb294, 2, none⟩ = some (.string a0_2) := (kc BK294.out 2).trans rfl; have hfz7_0 := kf BK294.out 0; have hfz7_1 := kf BK294.out 1; have hfz7_2 := kf BK294.out 2))
   go_ret
   exact ⟨xe, xb⟩
 ·replace c2 := Bool.eq_false_iff.mpr c2
  subst c2
  rw [if_neg (show ¬ (false = true) by decide)] at H
  obtain rfl := Option.some.inj H
  go_enter Tryz.func88, Tryz.ntmps88
  go_wp2_with (((with_reducible refine gate_dst (N := 1) rfl ?_); (try (refine gate_guard (by rfl) ?_; dsimp only)); refine xq (N := 1) (cs := #[.bool false, .int .i64 a0_1, .string a0_2]) (t := 32) ?_; intro gb294 hg w8 hbox hb; have BK294 := xy (hbox); have GW294 := xs w hg; have GE294 := xs w hg; replace HB := xy (below_step xb hb); clear hb hbox hg; have hcz9_0 : w8.cell? ⟨gb294, 0, none⟩ = some (.bool false) := (kc BK294.out 0).trans rfl; have hcz9_1 : w8.cell? ⟨gb294, 1, none⟩ = some (.int .i64 a0_1) := (kc BK294.out 1).trans rfl; have hcz9_2 : w8.cell? ⟨gb294, 2, none⟩ = some (.string a0_2) := (kc BK294.out 2).trans rfl; have hfz9_0 := kf BK294.out 0; have hfz9_1 := kf BK294.out 1; have hfz9_2 := kf BK294.out 2))
  go_ret
  exact ⟨xe, xb⟩
end Go.Proofs.YtnodgcakmolleaaGreatDoor.PX
