/- Walked functions, by this session's program over the kit's print. -/
import Derived.Test.YtialoecplmnjfaaGreatDoorXA
import Derived.Test.YtialoecplmnjfaaGreatDoorPXx0
import Derived.Test.YtialoecplmnjfaaGreatDoorPXx3
import Derived.Test.YtialoecplmnjfaaGreatDoorPXx6
namespace Go.Proofs.YtialoecplmnjfaaGreatDoor.PX
open Go.RowKit Go.Proofs.YtialoecplmnjfaaGreatDoorW.PrintWords Go.Proofs.YtialoecplmnjfaaGreatDoorW.PrintLast Go.Proofs.YtialoecplmnjfaaGreatDoorW.PrintMore
attribute [local go_sem] xm_gtr max2_int min2_int max_two min_two max_three min_three max_four min_four
set_option linter.unusedVariables false
set_option linter.unusedSimpArgs false
/- Walked functions, by this session's program over the kit's print. -/
def value_Result.f (a0 : Int) (l1 : List Bool) : Option (Bool × Int) := some (XOps.resultF a0 l1)
theorem value_Result.calls (a0 : Int) (A1 : Option Addr) (c1 : Nat) (l1 : List Bool) (r1 : Bool) (r2 : Int) (w : World) (hT : Tabs w) (hr1 : Kd.C Kd.bool w A1 l1.length l1) (hc1 : l1.length ≤ c1) (h : value_Result.f a0 l1 = some (r1, r2)) :
  Calls Tryz.prog 74 #[.int .i64 a0, .slice A1 l1.length c1] w fun e w' => e = .returned (.tuple #[.bool r1, .int .i64 r2]) ∧ Below w.heap.size w w' := by
 have e : XOps.resultF a0 l1 = (r1, r2) := Option.some.inj h
 have := XOps.result_calls a0 A1 c1 l1 w hr1
 rw [e] at this
 exact this
def value_val_add.f (a0_0 : Bool) (a0_1 : Int) (a0_2 : ByteArray) (a1_0 : Bool) (a1_1 : Int) (a1_2 : ByteArray) (a2_0 : Bool) (a2_1 : Int) (a2_2 : ByteArray) : Option (Bool × Int × ByteArray) := (value_Num.f (wrap64 (a0_1 + a1_1))).bind fun bt200 => (some (bt200.1, bt200.2.1, bt200.2.2))
set_option maxHeartbeats 8000000 in
set_option maxRecDepth 100000 in
theorem value_val_add.calls (a0_0 : Bool) (a0_1 : Int) (a0_2 : ByteArray) (a1_0 : Bool) (a1_1 : Int) (a1_2 : ByteArray) (a2_0 : Bool) (a2_1 : Int) (a2_2 : ByteArray) (r1 : Bool) (r2 : Int) (r3 : ByteArray) (w : World) (hT : Tabs w) (h : value_val_add.f a0_0 a0_1 a0_2 a1_0 a1_1 a1_2 a2_0 a2_1 a2_2 = some (r1, r2, r3)) :
  Calls Tryz.prog 76 #[.agg #[.bool a0_0, .int .i64 a0_1, .string a0_2], .agg #[.bool a1_0, .int .i64 a1_1, .string a1_2], .agg #[.bool a2_0, .int .i64 a2_1, .string a2_2]] w fun e w' => e = .returned (.agg #[.bool r1, .int .i64 r2, .string r3]) ∧ Below w.heap.size w w' := by
 have hu137 := Tryz.underlying137
 have hu24 := Tryz.underlying24
 have HB := xy (Below.refl w.heap.size w)
 unfold value_val_add.f at h
 have H := h
 clear h
 replace H := xj H
 obtain ⟨⟨t200, t201, t202⟩, A40, H⟩ := H
 try dsimp only at H
 have A4 := xy A40
 clear A40
 simp only [Option.some.injEq, Prod.mk.injEq] at H
 obtain ⟨rfl, rfl, rfl⟩ := H
 go_enter Tryz.func76, Tryz.ntmps76
 go_wp2_with (first | ((with_reducible refine gate_dst (N := 3) rfl ?_); refine xq (N := 3) (cs := #[.bool a0_0, .int .i64 a0_1, .string a0_2]) (t := 137) ?_; intro gb196 hg w5 hbox hb; have BK196 := xy (hbox); have GW196 := xs w hg; have GE196 := xs w hg; replace HB := xy (below_step xb hb); clear hb hbox hg) | ((with_reducible refine gate_dst (N := 4) rfl ?_); refine xq (N := 4) (cs := #[.bool a1_0, .int .i64 a1_1, .string a1_2]) (t := 137) ?_; intro gb197 hg w6 hbox hb; have BK197 := xy (hbox); have GW197 := xs w hg; have GE197 := xs w hg; replace HB := xy (below_step xb hb); have NB196_197 := xn hg BK196.out; have NB197_196 := xp hg BK196.out; replace BK196 := xd BK196.out hb; clear hb hbox hg) | ((with_reducible refine gate_dst (N := 5) rfl ?_); refine xq (N := 5) (cs := #[.bool a2_0, .int .i64 a2_1, .string a2_2]) (t := 137) ?_; intro gb198 hg w7 hbox hb; have BK198 := xy (hbox); have GW198 := xs w hg; have GE198 := xs w hg; replace HB := xy (below_step xb hb); have NB196_198 := xn hg BK196.out; have NB198_196 := xp hg BK196.out; replace BK196 := xd BK196.out hb; have NB197_198 := xn hg BK197.out; have NB198_197 := xp hg BK197.out; replace BK197 := xd BK197.out hb; clear hb hbox hg) | ((with_reducible refine gate_dst (N := 6) rfl ?_); refine xq (N := 6) (cs := #[.bool false, .int .i64 0, .string (⟨#[]⟩ : ByteArray)]) (t := 24) ?_; intro gb199 hg w8 hbox hb; have BK199 := xy (hbox); have GW199 := xs w hg; have GE199 := xs w hg; replace HB := xy (below_step xb hb); have NB196_199 := xn hg BK196.out; have NB199_196 := xp hg BK196.out; replace BK196 := xd BK196.out hb; have NB197_199 := xn hg BK197.out; have NB199_197 := xp hg BK197.out; replace BK197 := xd BK197.out hb; have NB198_199 := xn hg BK198.out; have NB199_198 := xp hg BK198.out; replace BK198 := xd BK198.out hb; clear hb hbox hg; have hnb9 := NB196_197.out; have hnc9 := NB197_196.out; have hnb10 := NB196_198.out; have hnc10 := NB198_196.out; have hnb11 := NB196_199.out; have hnc11 := NB199_196.out; obtain ⟨hcz12_0, hcz12_1, hcz12_2⟩ := kt3 BK196.out; obtain ⟨hfz12_0, hfz12_1, hfz12_2⟩ := kz3 BK196.out; have hnb13 := NB197_198.out; have hnc13 := NB198_197.out; have hnb14 := NB197_199.out; have hnc14 := NB199_197.out; obtain ⟨hcz15_0, hcz15_1, hcz15_2⟩ := kt3 BK197.out; obtain ⟨hfz15_0, hfz15_1, hfz15_2⟩ := kz3 BK197.out) | ((with_reducible refine gate_callee (f := 31) rfl ?_); refine goesL_ (some 12) rfl rfl Tryz.func31 (by kernel_rfl) rfl #[.int .i64 (wrap64 (a0_1 + a1_1))] rfl xr ?_; (with_reducible refine (value_Num.calls (wrap64 (a0_1 + a1_1)) t200 t201 t202 _ (Tabs.below hT xf) A4.out).mono ?_); rintro e w16 ⟨rfl, hb⟩; refine ⟨_, rfl, ?_⟩; replace BK196 := xd BK196.out hb; replace BK197 := xd BK197.out hb; replace BK198 := xd BK198.out hb; replace BK199 := xd BK199.out hb; replace HB := xy (below_step xb hb); (try clear hb); (try clear hb2); (try clear hk); (try clear hi); have hnb17 := NB199_198.out; have hnc17 := NB198_199.out; obtain ⟨hcz18_0, hcz18_1, hcz18_2⟩ := kt3 BK199.out; obtain ⟨hfz18_0, hfz18_1, hfz18_2⟩ := kz3 BK199.out))
 refine bodyPost_ret (results_cell_row rfl _ _ gb199 24 #[.bool t200, .int .i64 t201, .string t202] (0, 0) _ rfl (kp BK199.out) Tryz.underlying24 rfl (by kernel_rfl)) rfl ?_
 exact ⟨xe, xb⟩
def value_val_sub.f (a0_0 : Bool) (a0_1 : Int) (a0_2 : ByteArray) (a1_0 : Bool) (a1_1 : Int) (a1_2 : ByteArray) (a2_0 : Bool) (a2_1 : Int) (a2_2 : ByteArray) : Option (Bool × Int × ByteArray) := (value_Num.f (wrap64 (a0_1 - a1_1))).bind fun bt207 => (some (bt207.1, bt207.2.1, bt207.2.2))
set_option maxHeartbeats 8000000 in
set_option maxRecDepth 100000 in
theorem value_val_sub.calls (a0_0 : Bool) (a0_1 : Int) (a0_2 : ByteArray) (a1_0 : Bool) (a1_1 : Int) (a1_2 : ByteArray) (a2_0 : Bool) (a2_1 : Int) (a2_2 : ByteArray) (r1 : Bool) (r2 : Int) (r3 : ByteArray) (w : World) (hT : Tabs w) (h : value_val_sub.f a0_0 a0_1 a0_2 a1_0 a1_1 a1_2 a2_0 a2_1 a2_2 = some (r1, r2, r3)) :
  Calls Tryz.prog 77 #[.agg #[.bool a0_0, .int .i64 a0_1, .string a0_2], .agg #[.bool a1_0, .int .i64 a1_1, .string a1_2], .agg #[.bool a2_0, .int .i64 a2_1, .string a2_2]] w fun e w' => e = .returned (.agg #[.bool r1, .int .i64 r2, .string r3]) ∧ Below w.heap.size w w' := by
 have hu137 := Tryz.underlying137
 have hu24 := Tryz.underlying24
 have HB := xy (Below.refl w.heap.size w)
 unfold value_val_sub.f at h
 have H := h
 clear h
 replace H := xj H
 obtain ⟨⟨t207, t208, t209⟩, A40, H⟩ := H
 try dsimp only at H
 have A4 := xy A40
 clear A40
 simp only [Option.some.injEq, Prod.mk.injEq] at H
 obtain ⟨rfl, rfl, rfl⟩ := H
 go_enter Tryz.func77, Tryz.ntmps77
 go_wp2_with (first | ((with_reducible refine gate_dst (N := 3) rfl ?_); refine xq (N := 3) (cs := #[.bool a0_0, .int .i64 a0_1, .string a0_2]) (t := 137) ?_; intro gb203 hg w5 hbox hb; have BK203 := xy (hbox); have GW203 := xs w hg; have GE203 := xs w hg; replace HB := xy (below_step xb hb); clear hb hbox hg) | ((with_reducible refine gate_dst (N := 4) rfl ?_); refine xq (N := 4) (cs := #[.bool a1_0, .int .i64 a1_1, .string a1_2]) (t := 137) ?_; intro gb204 hg w6 hbox hb; have BK204 := xy (hbox); have GW204 := xs w hg; have GE204 := xs w hg; replace HB := xy (below_step xb hb); have NB203_204 := xn hg BK203.out; have NB204_203 := xp hg BK203.out; replace BK203 := xd BK203.out hb; clear hb hbox hg) | ((with_reducible refine gate_dst (N := 5) rfl ?_); refine xq (N := 5) (cs := #[.bool a2_0, .int .i64 a2_1, .string a2_2]) (t := 137) ?_; intro gb205 hg w7 hbox hb; have BK205 := xy (hbox); have GW205 := xs w hg; have GE205 := xs w hg; replace HB := xy (below_step xb hb); have NB203_205 := xn hg BK203.out; have NB205_203 := xp hg BK203.out; replace BK203 := xd BK203.out hb; have NB204_205 := xn hg BK204.out; have NB205_204 := xp hg BK204.out; replace BK204 := xd BK204.out hb; clear hb hbox hg) | ((with_reducible refine gate_dst (N := 6) rfl ?_); refine xq (N := 6) (cs := #[.bool false, .int .i64 0, .string (⟨#[]⟩ : ByteArray)]) (t := 24) ?_; intro gb206 hg w8 hbox hb; have BK206 := xy (hbox); have GW206 := xs w hg; have GE206 := xs w hg; replace HB := xy (below_step xb hb); have NB203_206 := xn hg BK203.out; have NB206_203 := xp hg BK203.out; replace BK203 := xd BK203.out hb; have NB204_206 := xn hg BK204.out; have NB206_204 := xp hg BK204.out; replace BK204 := xd BK204.out hb; have NB205_206 := xn hg BK205.out; have NB206_205 := xp hg BK205.out; replace BK205 := xd BK205.out hb; clear hb hbox hg; have hnb9 := NB203_204.out; have hnc9 := NB204_203.out; have hnb10 := NB203_205.out; have hnc10 := NB205_203.out; have hnb11 := NB203_206.out; have hnc11 := NB206_203.out; obtain ⟨hcz12_0, hcz12_1, hcz12_2⟩ := kt3 BK203.out; obtain ⟨hfz12_0, hfz12_1, hfz12_2⟩ := kz3 BK203.out; have hnb13 := NB204_205.out; have hnc13 := NB205_204.out; have hnb14 := NB204_206.out; have hnc14 := NB206_204.out; obtain ⟨hcz15_0, hcz15_1, hcz15_2⟩ := kt3 BK204.out; obtain ⟨hfz15_0, hfz15_1, hfz15_2⟩ := kz3 BK204.out) | ((with_reducible refine gate_callee (f := 31) rfl ?_); refine goesL_ (some 12) rfl rfl Tryz.func31 (by kernel_rfl) rfl #[.int .i64 (wrap64 (a0_1 - a1_1))] rfl xr ?_; (with_reducible refine (value_Num.calls (wrap64 (a0_1 - a1_1)) t207 t208 t209 _ (Tabs.below hT xf) A4.out).mono ?_); rintro e w16 ⟨rfl, hb⟩; refine ⟨_, rfl, ?_⟩; replace BK203 := xd BK203.out hb; replace BK204 := xd BK204.out hb; replace BK205 := xd BK205.out hb; replace BK206 := xd BK206.out hb; replace HB := xy (below_step xb hb); (try clear hb); (try clear hb2); (try clear hk); (try clear hi); have hnb17 := NB206_205.out; have hnc17 := NB205_206.out; obtain ⟨hcz18_0, hcz18_1, hcz18_2⟩ := kt3 BK206.out; obtain ⟨hfz18_0, hfz18_1, hfz18_2⟩ := kz3 BK206.out))
 refine bodyPost_ret (results_cell_row rfl _ _ gb206 24 #[.bool t207, .int .i64 t208, .string t209] (0, 0) _ rfl (kp BK206.out) Tryz.underlying24 rfl (by kernel_rfl)) rfl ?_
 exact ⟨xe, xb⟩
def value_val_mul.f (a0_0 : Bool) (a0_1 : Int) (a0_2 : ByteArray) (a1_0 : Bool) (a1_1 : Int) (a1_2 : ByteArray) (a2_0 : Bool) (a2_1 : Int) (a2_2 : ByteArray) : Option (Bool × Int × ByteArray) := (value_Num.f (wrap64 (a0_1 * a1_1))).bind fun bt214 => (some (bt214.1, bt214.2.1, bt214.2.2))
set_option maxHeartbeats 8000000 in
set_option maxRecDepth 100000 in
theorem value_val_mul.calls (a0_0 : Bool) (a0_1 : Int) (a0_2 : ByteArray) (a1_0 : Bool) (a1_1 : Int) (a1_2 : ByteArray) (a2_0 : Bool) (a2_1 : Int) (a2_2 : ByteArray) (r1 : Bool) (r2 : Int) (r3 : ByteArray) (w : World) (hT : Tabs w) (h : value_val_mul.f a0_0 a0_1 a0_2 a1_0 a1_1 a1_2 a2_0 a2_1 a2_2 = some (r1, r2, r3)) :
  Calls Tryz.prog 78 #[.agg #[.bool a0_0, .int .i64 a0_1, .string a0_2], .agg #[.bool a1_0, .int .i64 a1_1, .string a1_2], .agg #[.bool a2_0, .int .i64 a2_1, .string a2_2]] w fun e w' => e = .returned (.agg #[.bool r1, .int .i64 r2, .string r3]) ∧ Below w.heap.size w w' := by
 have hu137 := Tryz.underlying137
 have hu24 := Tryz.underlying24
 have HB := xy (Below.refl w.heap.size w)
 unfold value_val_mul.f at h
 have H := h
 clear h
 replace H := xj H
 obtain ⟨⟨t214, t215, t216⟩, A40, H⟩ := H
 try dsimp only at H
 have A4 := xy A40
 clear A40
 simp only [Option.some.injEq, Prod.mk.injEq] at H
 obtain ⟨rfl, rfl, rfl⟩ := H
 go_enter Tryz.func78, Tryz.ntmps78
 go_wp2_with (first | ((with_reducible refine gate_dst (N := 3) rfl ?_); refine xq (N := 3) (cs := #[.bool a0_0, .int .i64 a0_1, .string a0_2]) (t := 137) ?_; intro gb210 hg w5 hbox hb; have BK210 := xy (hbox); have GW210 := xs w hg; have GE210 := xs w hg; replace HB := xy (below_step xb hb); clear hb hbox hg) | ((with_reducible refine gate_dst (N := 4) rfl ?_); refine xq (N := 4) (cs := #[.bool a1_0, .int .i64 a1_1, .string a1_2]) (t := 137) ?_; intro gb211 hg w6 hbox hb; have BK211 := xy (hbox); have GW211 := xs w hg; have GE211 := xs w hg; replace HB := xy (below_step xb hb); have NB210_211 := xn hg BK210.out; have NB211_210 := xp hg BK210.out; replace BK210 := xd BK210.out hb; clear hb hbox hg) | ((with_reducible refine gate_dst (N := 5) rfl ?_); refine xq (N := 5) (cs := #[.bool a2_0, .int .i64 a2_1, .string a2_2]) (t := 137) ?_; intro gb212 hg w7 hbox hb; have BK212 := xy (hbox); have GW212 := xs w hg; have GE212 := xs w hg; replace HB := xy (below_step xb hb); have NB210_212 := xn hg BK210.out; have NB212_210 := xp hg BK210.out; replace BK210 := xd BK210.out hb; have NB211_212 := xn hg BK211.out; have NB212_211 := xp hg BK211.out; replace BK211 := xd BK211.out hb; clear hb hbox hg) | ((with_reducible refine gate_dst (N := 6) rfl ?_); refine xq (N := 6) (cs := #[.bool false, .int .i64 0, .string (⟨#[]⟩ : ByteArray)]) (t := 24) ?_; intro gb213 hg w8 hbox hb; have BK213 := xy (hbox); have GW213 := xs w hg; have GE213 := xs w hg; replace HB := xy (below_step xb hb); have NB210_213 := xn hg BK210.out; have NB213_210 := xp hg BK210.out; replace BK210 := xd BK210.out hb; have NB211_213 := xn hg BK211.out; have NB213_211 := xp hg BK211.out; replace BK211 := xd BK211.out hb; have NB212_213 := xn hg BK212.out; have NB213_212 := xp hg BK212.out; replace BK212 := xd BK212.out hb; clear hb hbox hg; have hnb9 := NB210_211.out; have hnc9 := NB211_210.out; have hnb10 := NB210_212.out; have hnc10 := NB212_210.out; have hnb11 := NB210_213.out; have hnc11 := NB213_210.out; obtain ⟨hcz12_0, hcz12_1, hcz12_2⟩ := kt3 BK210.out; obtain ⟨hfz12_0, hfz12_1, hfz12_2⟩ := kz3 BK210.out; have hnb13 := NB211_212.out; have hnc13 := NB212_211.out; have hnb14 := NB211_213.out; have hnc14 := NB213_211.out; obtain ⟨hcz15_0, hcz15_1, hcz15_2⟩ := kt3 BK211.out; obtain ⟨hfz15_0, hfz15_1, hfz15_2⟩ := kz3 BK211.out) | ((with_reducible refine gate_callee (f := 31) rfl ?_); refine goesL_ (some 12) rfl rfl Tryz.func31 (by kernel_rfl) rfl #[.int .i64 (wrap64 (a0_1 * a1_1))] rfl xr ?_; (with_reducible refine (value_Num.calls (wrap64 (a0_1 * a1_1)) t214 t215 t216 _ (Tabs.below hT xf) A4.out).mono ?_); rintro e w16 ⟨rfl, hb⟩; refine ⟨_, rfl, ?_⟩; replace BK210 := xd BK210.out hb; replace BK211 := xd BK211.out hb; replace BK212 := xd BK212.out hb; replace BK213 := xd BK213.out hb; replace HB := xy (below_step xb hb); (try clear hb); (try clear hb2); (try clear hk); (try clear hi); have hnb17 := NB213_212.out; have hnc17 := NB212_213.out; obtain ⟨hcz18_0, hcz18_1, hcz18_2⟩ := kt3 BK213.out; obtain ⟨hfz18_0, hfz18_1, hfz18_2⟩ := kz3 BK213.out))
 refine bodyPost_ret (results_cell_row rfl _ _ gb213 24 #[.bool t214, .int .i64 t215, .string t216] (0, 0) _ rfl (kp BK213.out) Tryz.underlying24 rfl (by kernel_rfl)) rfl ?_
 exact ⟨xe, xb⟩
def value_val_div.f (a0_0 : Bool) (a0_1 : Int) (a0_2 : ByteArray) (a1_0 : Bool) (a1_1 : Int) (a1_2 : ByteArray) (a2_0 : Bool) (a2_1 : Int) (a2_2 : ByteArray) : Option (Bool × Int × ByteArray) := if a1_1 = 0 then ((value_Num.f 0).bind fun bt221 => (some (bt221.1, bt221.2.1, bt221.2.2))) else ((value_Num.f (wrap64 (Int.tdiv a0_1 a1_1))).bind fun bt224 => (some (bt224.1, bt224.2.1, bt224.2.2)))
set_option maxHeartbeats 8000000 in
set_option maxRecDepth 100000 in
theorem value_val_div.calls (a0_0 : Bool) (a0_1 : Int) (a0_2 : ByteArray) (a1_0 : Bool) (a1_1 : Int) (a1_2 : ByteArray) (a2_0 : Bool) (a2_1 : Int) (a2_2 : ByteArray) (r1 : Bool) (r2 : Int) (r3 : ByteArray) (w : World) (hT : Tabs w) (h : value_val_div.f a0_0 a0_1 a0_2 a1_0 a1_1 a1_2 a2_0 a2_1 a2_2 = some (r1, r2, r3)) :
  Calls Tryz.prog 79 #[.agg #[.bool a0_0, .int .i64 a0_1, .string a0_2], .agg #[.bool a1_0, .int .i64 a1_1, .string a1_2], .agg #[.bool a2_0, .int .i64 a2_1, .string a2_2]] w fun e w' => e = .returned (.agg #[.bool r1, .int .i64 r2, .string r3]) ∧ Below w.heap.size w w' := by
 have hu137 := Tryz.underlying137
 have hu24 := Tryz.underlying24
 have HB := xy (Below.refl w.heap.size w)
 unfold value_val_div.f at h
 have H := h
 clear h
 by_cases c4 : a1_1 = 0
 ·rw [if_pos c4] at H
  have c4b0 : (a1_1 == 0) = true := beq_iff_eq.mpr c4
  have c4b1 : (a1_1 != 0) = false := bne_eq_false_iff_eq.mpr c4
  clear c4
  replace H := xj H
  obtain ⟨⟨t221, t222, t223⟩, A50, H⟩ := H
  try dsimp only at H
  have A5 := xy A50
  clear A50
  simp only [Option.some.injEq, Prod.mk.injEq] at H
  obtain ⟨rfl, rfl, rfl⟩ := H
  go_enter Tryz.func79, Tryz.ntmps79
  go_wp2_with (first | ((with_reducible refine gate_dst (N := 3) rfl ?_); refine xq (N := 3) (cs := #[.bool a0_0, .int .i64 a0_1, .string a0_2]) (t := 137) ?_; intro gb217 hg w6 hbox hb; have BK217 := xy (hbox); have GW217 := xs w hg; have GE217 := xs w hg; replace HB := xy (below_step xb hb); clear hb hbox hg) | ((with_reducible refine gate_dst (N := 4) rfl ?_); refine xq (N := 4) (cs := #[.bool a1_0, .int .i64 a1_1, .string a1_2]) (t := 137) ?_; intro gb218 hg w7 hbox hb; have BK218 := xy (hbox); have GW218 := xs w hg; have GE218 := xs w hg; replace HB := xy (below_step xb hb); have NB217_218 := xn hg BK217.out; have NB218_217 := xp hg BK217.out; replace BK217 := xd BK217.out hb; clear hb hbox hg) | ((with_reducible refine gate_dst (N := 5) rfl ?_); refine xq (N := 5) (cs := #[.bool a2_0, .int .i64 a2_1, .string a2_2]) (t := 137) ?_; intro gb219 hg w8 hbox hb; have BK219 := xy (hbox); have GW219 := xs w hg; have GE219 := xs w hg; replace HB := xy (below_step xb hb); have NB217_219 := xn hg BK217.out; have NB219_217 := xp hg BK217.out; replace BK217 := xd BK217.out hb; have NB218_219 := xn hg BK218.out; have NB219_218 := xp hg BK218.out; replace BK218 := xd BK218.out hb; clear hb hbox hg) | ((with_reducible refine gate_dst (N := 6) rfl ?_); refine xq (N := 6) (cs := #[.bool false, .int .i64 0, .string (⟨#[]⟩ : ByteArray)]) (t := 24) ?_; intro gb220 hg w9 hbox hb; have BK220 := xy (hbox); have GW220 := xs w hg; have GE220 := xs w hg; replace HB := xy (below_step xb hb); have NB217_220 := xn hg BK217.out; have NB220_217 := xp hg BK217.out; replace BK217 := xd BK217.out hb; have NB218_220 := xn hg BK218.out; have NB220_218 := xp hg BK218.out; replace BK218 := xd BK218.out hb; have NB219_220 := xn hg BK219.out; have NB220_219 := xp hg BK219.out; replace BK219 := xd BK219.out hb; clear hb hbox hg; have hnb10 := NB218_217.out; have hnc10 := NB217_218.out; have hnb11 := NB218_219.out; have hnc11 := NB219_218.out; have hnb12 := NB218_220.out; have hnc12 := NB220_218.out; obtain ⟨hcz13_0, hcz13_1, hcz13_2⟩ := kt3 BK218.out; obtain ⟨hfz13_0, hfz13_1, hfz13_2⟩ := kz3 BK218.out) | ((with_reducible refine gate_callee (f := 31) rfl ?_); refine goesL_ (some 10) rfl rfl Tryz.func31 (by kernel_rfl) rfl #[.int .i64 0] rfl xr ?_; (with_reducible refine (value_Num.calls 0 t221 t222 t223 _ (Tabs.below hT xf) A5.out).mono ?_); rintro e w14 ⟨rfl, hb⟩; refine ⟨_, rfl, ?_⟩; replace BK217 := xd BK217.out hb; replace BK218 := xd BK218.out hb; replace BK219 := xd BK219.out hb; replace BK220 := xd BK220.out hb; replace HB := xy (below_step xb hb); (try clear hb); (try clear hb2); (try clear hk); (try clear hi); have hnb15 := NB220_217.out; have hnc15 := NB217_220.out; have hnb16 := NB220_219.out; have hnc16 := NB219_220.out; obtain ⟨hcz17_0, hcz17_1, hcz17_2⟩ := kt3 BK220.out; obtain ⟨hfz17_0, hfz17_1, hfz17_2⟩ := kz3 BK220.out))
  refine bodyPost_ret (results_cell_row rfl _ _ gb220 24 #[.bool t221, .int .i64 t222, .string t223] (0, 0) _ rfl (kp BK220.out) Tryz.underlying24 rfl (by kernel_rfl)) rfl ?_
  exact ⟨xe, xb⟩
 ·rw [if_neg c4] at H
  have c4b0 : (a1_1 == 0) = false := beq_eq_false_iff_ne.mpr c4
  have c4b1 : (a1_1 != 0) = true := bne_iff_ne.mpr c4
  replace H := xj H
  obtain ⟨⟨t224, t225, t226⟩, A180, H⟩ := H
  try dsimp only at H
  have A18 := xy A180
  clear A180
  simp only [Option.some.injEq, Prod.mk.injEq] at H
  obtain ⟨rfl, rfl, rfl⟩ := H
  go_enter Tryz.func79, Tryz.ntmps79
  go_wp2_with (first | ((with_reducible refine gate_dst (N := 3) rfl ?_); refine xq (N := 3) (cs := #[.bool a0_0, .int .i64 a0_1, .string a0_2]) (t := 137) ?_; intro gb217 hg w19 hbox hb; have BK217 := xy (hbox); have GW217 := xs w hg; have GE217 := xs w hg; replace HB := xy (below_step xb hb); clear hb hbox hg) | ((with_reducible refine gate_dst (N := 4) rfl ?_); refine xq (N := 4) (cs := #[.bool a1_0, .int .i64 a1_1, .string a1_2]) (t := 137) ?_; intro gb218 hg w20 hbox hb; have BK218 := xy (hbox); have GW218 := xs w hg; have GE218 := xs w hg; replace HB := xy (below_step xb hb); have NB217_218 := xn hg BK217.out; have NB218_217 := xp hg BK217.out; replace BK217 := xd BK217.out hb; clear hb hbox hg) | ((with_reducible refine gate_dst (N := 5) rfl ?_); refine xq (N := 5) (cs := #[.bool a2_0, .int .i64 a2_1, .string a2_2]) (t := 137) ?_; intro gb219 hg w21 hbox hb; have BK219 := xy (hbox); have GW219 := xs w hg; have GE219 := xs w hg; replace HB := xy (below_step xb hb); have NB217_219 := xn hg BK217.out; have NB219_217 := xp hg BK217.out; replace BK217 := xd BK217.out hb; have NB218_219 := xn hg BK218.out; have NB219_218 := xp hg BK218.out; replace BK218 := xd BK218.out hb; clear hb hbox hg) | ((with_reducible refine gate_dst (N := 6) rfl ?_); refine xq (N := 6) (cs := #[.bool false, .int .i64 0, .string (⟨#[]⟩ : ByteArray)]) (t := 24) ?_; intro gb220 hg w22 hbox hb; have BK220 := xy (hbox); have GW220 := xs w hg; have GE220 := xs w hg; replace HB := xy (below_step xb hb); have NB217_220 := xn hg BK217.out; have NB220_217 := xp hg BK217.out; replace BK217 := xd BK217.out hb; have NB218_220 := xn hg BK218.out; have NB220_218 := xp hg BK218.out; replace BK218 := xd BK218.out hb; have NB219_220 := xn hg BK219.out; have NB220_219 := xp hg BK219.out; replace BK219 := xd BK219.out hb; clear hb hbox hg; have hnb23 := NB218_217.out; have hnc23 := NB217_218.out; have hnb24 := NB218_219.out; have hnc24 := NB219_218.out; have hnb25 := NB218_220.out; have hnc25 := NB220_218.out; obtain ⟨hcz26_0, hcz26_1, hcz26_2⟩ := kt3 BK218.out; obtain ⟨hfz26_0, hfz26_1, hfz26_2⟩ := kz3 BK218.out; have hnb27 := NB217_219.out; have hnc27 := NB219_217.out; have hnb28 := NB217_220.out; have hnc28 := NB220_217.out; obtain ⟨hcz29_0, hcz29_1, hcz29_2⟩ := kt3 BK217.out; obtain ⟨hfz29_0, hfz29_1, hfz29_2⟩ := kz3 BK217.out) | ((with_reducible refine gate_callee (f := 31) rfl ?_); refine goesL_ (some 16) rfl rfl Tryz.func31 (by kernel_rfl) rfl #[.int .i64 (wrap64 (Int.tdiv a0_1 a1_1))] rfl xr ?_; (with_reducible refine (value_Num.calls (wrap64 (Int.tdiv a0_1 a1_1)) t224 t225 t226 _ (Tabs.below hT xf) A18.out).mono ?_); rintro e w30 ⟨rfl, hb⟩; refine ⟨_, rfl, ?_⟩; replace BK217 := xd BK217.out hb; replace BK218 := xd BK218.out hb; replace BK219 := xd BK219.out hb; replace BK220 := xd BK220.out hb; replace HB := xy (below_step xb hb); (try clear hb); (try clear hb2); (try clear hk); (try clear hi); have hnb31 := NB220_219.out; have hnc31 := NB219_220.out; obtain ⟨hcz32_0, hcz32_1, hcz32_2⟩ := kt3 BK220.out; obtain ⟨hfz32_0, hfz32_1, hfz32_2⟩ := kz3 BK220.out))
  refine bodyPost_ret (results_cell_row rfl _ _ gb220 24 #[.bool t224, .int .i64 t225, .string t226] (0, 0) _ rfl (kp BK220.out) Tryz.underlying24 rfl (by kernel_rfl)) rfl ?_
  exact ⟨xe, xb⟩
def value_val_mod.f (a0_0 : Bool) (a0_1 : Int) (a0_2 : ByteArray) (a1_0 : Bool) (a1_1 : Int) (a1_2 : ByteArray) (a2_0 : Bool) (a2_1 : Int) (a2_2 : ByteArray) : Option (Bool × Int × ByteArray) := if a1_1 = 0 then ((value_Num.f 0).bind fun bt231 => (some (bt231.1, bt231.2.1, bt231.2.2))) else ((value_Num.f (Int.tmod a0_1 a1_1)).bind fun bt234 => (some (bt234.1, bt234.2.1, bt234.2.2)))
set_option maxHeartbeats 8000000 in
set_option maxRecDepth 100000 in
theorem value_val_mod.calls (a0_0 : Bool) (a0_1 : Int) (a0_2 : ByteArray) (a1_0 : Bool) (a1_1 : Int) (a1_2 : ByteArray) (a2_0 : Bool) (a2_1 : Int) (a2_2 : ByteArray) (r1 : Bool) (r2 : Int) (r3 : ByteArray) (w : World) (hT : Tabs w) (h : value_val_mod.f a0_0 a0_1 a0_2 a1_0 a1_1 a1_2 a2_0 a2_1 a2_2 = some (r1, r2, r3)) :
  Calls Tryz.prog 80 #[.agg #[.bool a0_0, .int .i64 a0_1, .string a0_2], .agg #[.bool a1_0, .int .i64 a1_1, .string a1_2], .agg #[.bool a2_0, .int .i64 a2_1, .string a2_2]] w fun e w' => e = .returned (.agg #[.bool r1, .int .i64 r2, .string r3]) ∧ Below w.heap.size w w' := by
 have hu137 := Tryz.underlying137
 have hu24 := Tryz.underlying24
 have HB := xy (Below.refl w.heap.size w)
 unfold value_val_mod.f at h
 have H := h
 clear h
 by_cases c4 : a1_1 = 0
 ·rw [if_pos c4] at H
  have c4b0 : (a1_1 == 0) = true := beq_iff_eq.mpr c4
  have c4b1 : (a1_1 != 0) = false := bne_eq_false_iff_eq.mpr c4
  clear c4
  replace H := xj H
  obtain ⟨⟨t231, t232, t233⟩, A50, H⟩ := H
  try dsimp only at H
  have A5 := xy A50
  clear A50
  simp only [Option.some.injEq, Prod.mk.injEq] at H
  obtain ⟨rfl, rfl, rfl⟩ := H
  go_enter Tryz.func80, Tryz.ntmps80
  go_wp2_with (first | ((with_reducible refine gate_dst (N := 3) rfl ?_); refine xq (N := 3) (cs := #[.bool a0_0, .int .i64 a0_1, .string a0_2]) (t := 137) ?_; intro gb227 hg w6 hbox hb; have BK227 := xy (hbox); have GW227 := xs w hg; have GE227 := xs w hg; replace HB := xy (below_step xb hb); clear hb hbox hg) | ((with_reducible refine gate_dst (N := 4) rfl ?_); refine xq (N := 4) (cs := #[.bool a1_0, .int .i64 a1_1, .string a1_2]) (t := 137) ?_; intro gb228 hg w7 hbox hb; have BK228 := xy (hbox); have GW228 := xs w hg; have GE228 := xs w hg; replace HB := xy (below_step xb hb); have NB227_228 := xn hg BK227.out; have NB228_227 := xp hg BK227.out; replace BK227 := xd BK227.out hb; clear hb hbox hg) | ((with_reducible refine gate_dst (N := 5) rfl ?_); refine xq (N := 5) (cs := #[.bool a2_0, .int .i64 a2_1, .string a2_2]) (t := 137) ?_; intro gb229 hg w8 hbox hb; have BK229 := xy (hbox); have GW229 := xs w hg; have GE229 := xs w hg; replace HB := xy (below_step xb hb); have NB227_229 := xn hg BK227.out; have NB229_227 := xp hg BK227.out; replace BK227 := xd BK227.out hb; have NB228_229 := xn hg BK228.out; have NB229_228 := xp hg BK228.out; replace BK228 := xd BK228.out hb; clear hb hbox hg) | ((with_reducible refine gate_dst (N := 6) rfl ?_); refine xq (N := 6) (cs := #[.bool false, .int .i64 0, .string (⟨#[]⟩ : ByteArray)]) (t := 24) ?_; intro gb230 hg w9 hbox hb; have BK230 := xy (hbox); have GW230 := xs w hg; have GE230 := xs w hg; replace HB := xy (below_step xb hb); have NB227_230 := xn hg BK227.out; have NB230_227 := xp hg BK227.out; replace BK227 := xd BK227.out hb; have NB228_230 := xn hg BK228.out; have NB230_228 := xp hg BK228.out; replace BK228 := xd BK228.out hb; have NB229_230 := xn hg BK229.out; have NB230_229 := xp hg BK229.out; replace BK229 := xd BK229.out hb; clear hb hbox hg; have hnb10 := NB228_227.out; have hnc10 := NB227_228.out; have hnb11 := NB228_229.out; have hnc11 := NB229_228.out; have hnb12 := NB228_230.out; have hnc12 := NB230_228.out; obtain ⟨hcz13_0, hcz13_1, hcz13_2⟩ := kt3 BK228.out; obtain ⟨hfz13_0, hfz13_1, hfz13_2⟩ := kz3 BK228.out) | ((with_reducible refine gate_callee (f := 31) rfl ?_); refine goesL_ (some 10) rfl rfl Tryz.func31 (by kernel_rfl) rfl #[.int .i64 0] rfl xr ?_; (with_reducible refine (value_Num.calls 0 t231 t232 t233 _ (Tabs.below hT xf) A5.out).mono ?_); rintro e w14 ⟨rfl, hb⟩; refine ⟨_, rfl, ?_⟩; replace BK227 := xd BK227.out hb; replace BK228 := xd BK228.out hb; replace BK229 := xd BK229.out hb; replace BK230 := xd BK230.out hb; replace HB := xy (below_step xb hb); (try clear hb); (try clear hb2); (try clear hk); (try clear hi); have hnb15 := NB230_227.out; have hnc15 := NB227_230.out; have hnb16 := NB230_229.out; have hnc16 := NB229_230.out; obtain ⟨hcz17_0, hcz17_1, hcz17_2⟩ := kt3 BK230.out; obtain ⟨hfz17_0, hfz17_1, hfz17_2⟩ := kz3 BK230.out))
  refine bodyPost_ret (results_cell_row rfl _ _ gb230 24 #[.bool t231, .int .i64 t232, .string t233] (0, 0) _ rfl (kp BK230.out) Tryz.underlying24 rfl (by kernel_rfl)) rfl ?_
  exact ⟨xe, xb⟩
 ·rw [if_neg c4] at H
  have c4b0 : (a1_1 == 0) = false := beq_eq_false_iff_ne.mpr c4
  have c4b1 : (a1_1 != 0) = true := bne_iff_ne.mpr c4
  replace H := xj H
  obtain ⟨⟨t234, t235, t236⟩, A180, H⟩ := H
  try dsimp only at H
  have A18 := xy A180
  clear A180
  simp only [Option.some.injEq, Prod.mk.injEq] at H
  obtain ⟨rfl, rfl, rfl⟩ := H
  go_enter Tryz.func80, Tryz.ntmps80
  go_wp2_with (first | ((with_reducible refine gate_dst (N := 3) rfl ?_); refine xq (N := 3) (cs := #[.bool a0_0, .int .i64 a0_1, .string a0_2]) (t := 137) ?_; intro gb227 hg w19 hbox hb; have BK227 := xy (hbox); have GW227 := xs w hg; have GE227 := xs w hg; replace HB := xy (below_step xb hb); clear hb hbox hg) | ((with_reducible refine gate_dst (N := 4) rfl ?_); refine xq (N := 4) (cs := #[.bool a1_0, .int .i64 a1_1, .string a1_2]) (t := 137) ?_; intro gb228 hg w20 hbox hb; have BK228 := xy (hbox); have GW228 := xs w hg; have GE228 := xs w hg; replace HB := xy (below_step xb hb); have NB227_228 := xn hg BK227.out; have NB228_227 := xp hg BK227.out; replace BK227 := xd BK227.out hb; clear hb hbox hg) | ((with_reducible refine gate_dst (N := 5) rfl ?_); refine xq (N := 5) (cs := #[.bool a2_0, .int .i64 a2_1, .string a2_2]) (t := 137) ?_; intro gb229 hg w21 hbox hb; have BK229 := xy (hbox); have GW229 := xs w hg; have GE229 := xs w hg; replace HB := xy (below_step xb hb); have NB227_229 := xn hg BK227.out; have NB229_227 := xp hg BK227.out; replace BK227 := xd BK227.out hb; have NB228_229 := xn hg BK228.out; have NB229_228 := xp hg BK228.out; replace BK228 := xd BK228.out hb; clear hb hbox hg) | ((with_reducible refine gate_dst (N := 6) rfl ?_); refine xq (N := 6) (cs := #[.bool false, .int .i64 0, .string (⟨#[]⟩ : ByteArray)]) (t := 24) ?_; intro gb230 hg w22 hbox hb; have BK230 := xy (hbox); have GW230 := xs w hg; have GE230 := xs w hg; replace HB := xy (below_step xb hb); have NB227_230 := xn hg BK227.out; have NB230_227 := xp hg BK227.out; replace BK227 := xd BK227.out hb; have NB228_230 := xn hg BK228.out; have NB230_228 := xp hg BK228.out; replace BK228 := xd BK228.out hb; have NB229_230 := xn hg BK229.out; have NB230_229 := xp hg BK229.out; replace BK229 := xd BK229.out hb; clear hb hbox hg; have hnb23 := NB228_227.out; have hnc23 := NB227_228.out; have hnb24 := NB228_229.out; have hnc24 := NB229_228.out; have hnb25 := NB228_230.out; have hnc25 := NB230_228.out; obtain ⟨hcz26_0, hcz26_1, hcz26_2⟩ := kt3 BK228.out; obtain ⟨hfz26_0, hfz26_1, hfz26_2⟩ := kz3 BK228.out; have hnb27 := NB227_229.out; have hnc27 := NB229_227.out; have hnb28 := NB227_230.out; have hnc28 := NB230_227.out; obtain ⟨hcz29_0, hcz29_1, hcz29_2⟩ := kt3 BK227.out; obtain ⟨hfz29_0, hfz29_1, hfz29_2⟩ := kz3 BK227.out) | ((with_reducible refine gate_callee (f := 31) rfl ?_); refine goesL_ (some 16) rfl rfl Tryz.func31 (by kernel_rfl) rfl #[.int .i64 (Int.tmod a0_1 a1_1)] rfl xr ?_; (with_reducible refine (value_Num.calls (Int.tmod a0_1 a1_1) t234 t235 t236 _ (Tabs.below hT xf) A18.out).mono ?_); rintro e w30 ⟨rfl, hb⟩; refine ⟨_, rfl, ?_⟩; replace BK227 := xd BK227.out hb; replace BK228 := xd BK228.out hb; replace BK229 := xd BK229.out hb; replace BK230 := xd BK230.out hb; replace HB := xy (below_step xb hb); (try clear hb); (try clear hb2); (try clear hk); (try clear hi); have hnb31 := NB230_229.out; have hnc31 := NB229_230.out; obtain ⟨hcz32_0, hcz32_1, hcz32_2⟩ := kt3 BK230.out; obtain ⟨hfz32_0, hfz32_1, hfz32_2⟩ := kz3 BK230.out))
  refine bodyPost_ret (results_cell_row rfl _ _ gb230 24 #[.bool t234, .int .i64 t235, .string t236] (0, 0) _ rfl (kp BK230.out) Tryz.underlying24 rfl (by kernel_rfl)) rfl ?_
  exact ⟨xe, xb⟩
def value_val_join.f (a0_0 : Bool) (a0_1 : Int) (a0_2 : ByteArray) (a1_0 : Bool) (a1_1 : Int) (a1_2 : ByteArray) (a2_0 : Bool) (a2_1 : Int) (a2_2 : ByteArray) : Option (Bool × Int × ByteArray) := if a0_2.size + a1_2.size ≤ 9223372036854775807 then ((value_Text.f (a0_2 ++ a1_2)).bind fun bt241 => (some (bt241.1, bt241.2.1, bt241.2.2))) else (none)
set_option maxHeartbeats 8000000 in
set_option maxRecDepth 100000 in
theorem value_val_join.calls (a0_0 : Bool) (a0_1 : Int) (a0_2 : ByteArray) (a1_0 : Bool) (a1_1 : Int) (a1_2 : ByteArray) (a2_0 : Bool) (a2_1 : Int) (a2_2 : ByteArray) (r1 : Bool) (r2 : Int) (r3 : ByteArray) (w : World) (hT : Tabs w) (h : value_val_join.f a0_0 a0_1 a0_2 a1_0 a1_1 a1_2 a2_0 a2_1 a2_2 = some (r1, r2, r3)) :
  Calls Tryz.prog 81 #[.agg #[.bool a0_0, .int .i64 a0_1, .string a0_2], .agg #[.bool a1_0, .int .i64 a1_1, .string a1_2], .agg #[.bool a2_0, .int .i64 a2_1, .string a2_2]] w fun e w' => e = .returned (.agg #[.bool r1, .int .i64 r2, .string r3]) ∧ Below w.heap.size w w' := by
 have hu137 := Tryz.underlying137
 have hu24 := Tryz.underlying24
 have HB := xy (Below.refl w.heap.size w)
 unfold value_val_join.f at h
 have H := h
 clear h
 by_cases c4 : a0_2.size + a1_2.size ≤ 9223372036854775807
 ·rw [if_pos c4] at H
  have c4b0 := eq_true c4
  have c4b1 : decide (a0_2.size + a1_2.size ≤ 9223372036854775807) = true := decide_eq_true c4
  try have c4b2 : (9223372036854775807 < a0_2.size + a1_2.size) = False := eq_false (Nat.not_lt.2 c4)
  replace H := xj H
  obtain ⟨⟨t241, t242, t243⟩, A50, H⟩ := H
  try dsimp only at H
  have A5 := xy A50
  clear A50
  simp only [Option.some.injEq, Prod.mk.injEq] at H
  obtain ⟨rfl, rfl, rfl⟩ := H
  go_enter Tryz.func81, Tryz.ntmps81
  go_wp2_with (first | ((with_reducible refine gate_dst (N := 3) rfl ?_); refine xq (N := 3) (cs := #[.bool a0_0, .int .i64 a0_1, .string a0_2]) (t := 137) ?_; intro gb237 hg w6 hbox hb; have BK237 := xy (hbox); have GW237 := xs w hg; have GE237 := xs w hg; replace HB := xy (below_step xb hb); clear hb hbox hg) | ((with_reducible refine gate_dst (N := 4) rfl ?_); refine xq (N := 4) (cs := #[.bool a1_0, .int .i64 a1_1, .string a1_2]) (t := 137) ?_; intro gb238 hg w7 hbox hb; have BK238 := xy (hbox); have GW238 := xs w hg; have GE238 := xs w hg; replace HB := xy (below_step xb hb); have NB237_238 := xn hg BK237.out; have NB238_237 := xp hg BK237.out; replace BK237 := xd BK237.out hb; clear hb hbox hg) | ((with_reducible refine gate_dst (N := 5) rfl ?_); refine xq (N := 5) (cs := #[.bool a2_0, .int .i64 a2_1, .string a2_2]) (t := 137) ?_; intro gb239 hg w8 hbox hb; have BK239 := xy (hbox); have GW239 := xs w hg; have GE239 := xs w hg; replace HB := xy (below_step xb hb); have NB237_239 := xn hg BK237.out; have NB239_237 := xp hg BK237.out; replace BK237 := xd BK237.out hb; have NB238_239 := xn hg BK238.out; have NB239_238 := xp hg BK238.out; replace BK238 := xd BK238.out hb; clear hb hbox hg) | ((with_reducible refine gate_dst (N := 6) rfl ?_); refine xq (N := 6) (cs := #[.bool false, .int .i64 0, .string (⟨#[]⟩ : ByteArray)]) (t := 24) ?_; intro gb240 hg w9 hbox hb; have BK240 := xy (hbox); have GW240 := xs w hg; have GE240 := xs w hg; replace HB := xy (below_step xb hb); have NB237_240 := xn hg BK237.out; have NB240_237 := xp hg BK237.out; replace BK237 := xd BK237.out hb; have NB238_240 := xn hg BK238.out; have NB240_238 := xp hg BK238.out; replace BK238 := xd BK238.out hb; have NB239_240 := xn hg BK239.out; have NB240_239 := xp hg BK239.out; replace BK239 := xd BK239.out hb; clear hb hbox hg; have hnb10 := NB237_238.out; have hnc10 := NB238_237.out; have hnb11 := NB237_239.out; have hnc11 := NB239_237.out; have hnb12 := NB237_240.out; have hnc12 := NB240_237.out; obtain ⟨hcz13_0, hcz13_1, hcz13_2⟩ := kt3 BK237.out; obtain ⟨hfz13_0, hfz13_1, hfz13_2⟩ := kz3 BK237.out; have hnb14 := NB238_239.out; have hnc14 := NB239_238.out; have hnb15 := NB238_240.out; have hnc15 := NB240_238.out; obtain ⟨hcz16_0, hcz16_1, hcz16_2⟩ := kt3 BK238.out; obtain ⟨hfz16_0, hfz16_1, hfz16_2⟩ := kz3 BK238.out) | ((with_reducible refine gate_callee (f := 39) rfl ?_); refine goesL_ (some 12) rfl rfl Tryz.func39 (by kernel_rfl) rfl #[.string (a0_2 ++ a1_2)] rfl xr ?_; (with_reducible refine (value_Text.calls (a0_2 ++ a1_2) t241 t242 t243 _ (Tabs.below hT xf) A5.out).mono ?_); rintro e w17 ⟨rfl, hb⟩; refine ⟨_, rfl, ?_⟩; replace BK237 := xd BK237.out hb; replace BK238 := xd BK238.out hb; replace BK239 := xd BK239.out hb; replace BK240 := xd BK240.out hb; replace HB := xy (below_step xb hb); (try clear hb); (try clear hb2); (try clear hk); (try clear hi); have hnb18 := NB240_239.out; have hnc18 := NB239_240.out; obtain ⟨hcz19_0, hcz19_1, hcz19_2⟩ := kt3 BK240.out; obtain ⟨hfz19_0, hfz19_1, hfz19_2⟩ := kz3 BK240.out))
  refine bodyPost_ret (results_cell_row rfl _ _ gb240 24 #[.bool t241, .int .i64 t242, .string t243] (0, 0) _ rfl (kp BK240.out) Tryz.underlying24 rfl (by kernel_rfl)) rfl ?_
  exact ⟨xe, xb⟩
 ·rw [if_neg c4] at H
  exact absurd H (by simp)
def value_val_long.f (a0_0 : Bool) (a0_1 : Int) (a0_2 : ByteArray) (a1_0 : Bool) (a1_1 : Int) (a1_2 : ByteArray) (a2_0 : Bool) (a2_1 : Int) (a2_2 : ByteArray) : Option (Bool × Int × ByteArray) := (value_Num.f (a0_2.size : Int)).bind fun bt248 => (some (bt248.1, bt248.2.1, bt248.2.2))
set_option maxHeartbeats 8000000 in
set_option maxRecDepth 100000 in
theorem value_val_long.calls (a0_0 : Bool) (a0_1 : Int) (a0_2 : ByteArray) (a1_0 : Bool) (a1_1 : Int) (a1_2 : ByteArray) (a2_0 : Bool) (a2_1 : Int) (a2_2 : ByteArray) (r1 : Bool) (r2 : Int) (r3 : ByteArray) (w : World) (hT : Tabs w) (h : value_val_long.f a0_0 a0_1 a0_2 a1_0 a1_1 a1_2 a2_0 a2_1 a2_2 = some (r1, r2, r3)) :
  Calls Tryz.prog 82 #[.agg #[.bool a0_0, .int .i64 a0_1, .string a0_2], .agg #[.bool a1_0, .int .i64 a1_1, .string a1_2], .agg #[.bool a2_0, .int .i64 a2_1, .string a2_2]] w fun e w' => e = .returned (.agg #[.bool r1, .int .i64 r2, .string r3]) ∧ Below w.heap.size w w' := by
 have hu137 := Tryz.underlying137
 have hu24 := Tryz.underlying24
 have HB := xy (Below.refl w.heap.size w)
 unfold value_val_long.f at h
 have H := h
 clear h
 replace H := xj H
 obtain ⟨⟨t248, t249, t250⟩, A40, H⟩ := H
 try dsimp only at H
 have A4 := xy A40
 clear A40
 simp only [Option.some.injEq, Prod.mk.injEq] at H
 obtain ⟨rfl, rfl, rfl⟩ := H
 go_enter Tryz.func82, Tryz.ntmps82
 go_wp2_with (first | ((with_reducible refine gate_dst (N := 3) rfl ?_); refine xq (N := 3) (cs := #[.bool a0_0, .int .i64 a0_1, .string a0_2]) (t := 137) ?_; intro gb244 hg w5 hbox hb; have BK244 := xy (hbox); have GW244 := xs w hg; have GE244 := xs w hg; replace HB := xy (below_step xb hb); clear hb hbox hg) | ((with_reducible refine gate_dst (N := 4) rfl ?_); refine xq (N := 4) (cs := #[.bool a1_0, .int .i64 a1_1, .string a1_2]) (t := 137) ?_; intro gb245 hg w6 hbox hb; have BK245 := xy (hbox); have GW245 := xs w hg; have GE245 := xs w hg; replace HB := xy (below_step xb hb); have NB244_245 := xn hg BK244.out; have NB245_244 := xp hg BK244.out; replace BK244 := xd BK244.out hb; clear hb hbox hg) | ((with_reducible refine gate_dst (N := 5) rfl ?_); refine xq (N := 5) (cs := #[.bool a2_0, .int .i64 a2_1, .string a2_2]) (t := 137) ?_; intro gb246 hg w7 hbox hb; have BK246 := xy (hbox); have GW246 := xs w hg; have GE246 := xs w hg; replace HB := xy (below_step xb hb); have NB244_246 := xn hg BK244.out; have NB246_244 := xp hg BK244.out; replace BK244 := xd BK244.out hb; have NB245_246 := xn hg BK245.out; have NB246_245 := xp hg BK245.out; replace BK245 := xd BK245.out hb; clear hb hbox hg) | ((with_reducible refine gate_dst (N := 6) rfl ?_); refine xq (N := 6) (cs := #[.bool false, .int .i64 0, .string (⟨#[]⟩ : ByteArray)]) (t := 24) ?_; intro gb247 hg w8 hbox hb; have BK247 := xy (hbox); have GW247 := xs w hg; have GE247 := xs w hg; replace HB := xy (below_step xb hb); have NB244_247 := xn hg BK244.out; have NB247_244 := xp hg BK244.out; replace BK244 := xd BK244.out hb; have NB245_247 := xn hg BK245.out; have NB247_245 := xp hg BK245.out; replace BK245 := xd BK245.out hb; have NB246_247 := xn hg BK246.out; have NB247_246 := xp hg BK246.out; replace BK246 := xd BK246.out hb; clear hb hbox hg; have hnb9 := NB244_245.out; have hnc9 := NB245_244.out; have hnb10 := NB244_246.out; have hnc10 := NB246_244.out; have hnb11 := NB244_247.out; have hnc11 := NB247_244.out; obtain ⟨hcz12_0, hcz12_1, hcz12_2⟩ := kt3 BK244.out; obtain ⟨hfz12_0, hfz12_1, hfz12_2⟩ := kz3 BK244.out) | ((with_reducible refine gate_callee (f := 31) rfl ?_); refine goesL_ (some 10) rfl rfl Tryz.func31 (by kernel_rfl) rfl #[.int .i64 (a0_2.size : Int)] rfl xr ?_; (with_reducible refine (value_Num.calls (a0_2.size : Int) t248 t249 t250 _ (Tabs.below hT xf) A4.out).mono ?_); rintro e w13 ⟨rfl, hb⟩; refine ⟨_, rfl, ?_⟩; replace BK244 := xd BK244.out hb; replace BK245 := xd BK245.out hb; replace BK246 := xd BK246.out hb; replace BK247 := xd BK247.out hb; replace HB := xy (below_step xb hb); (try clear hb); (try clear hb2); (try clear hk); (try clear hi); have hnb14 := NB247_245.out; have hnc14 := NB245_247.out; have hnb15 := NB247_246.out; have hnc15 := NB246_247.out; obtain ⟨hcz16_0, hcz16_1, hcz16_2⟩ := kt3 BK247.out; obtain ⟨hfz16_0, hfz16_1, hfz16_2⟩ := kz3 BK247.out))
 refine bodyPost_ret (results_cell_row rfl _ _ gb247 24 #[.bool t248, .int .i64 t249, .string t250] (0, 0) _ rfl (kp BK247.out) Tryz.underlying24 rfl (by kernel_rfl)) rfl ?_
 exact ⟨xe, xb⟩
def value_val_slice.f (a0_0 : Bool) (a0_1 : Int) (a0_2 : ByteArray) (a1_0 : Bool) (a1_1 : Int) (a1_2 : ByteArray) (a2_0 : Bool) (a2_1 : Int) (a2_2 : ByteArray) : Option (Bool × Int × ByteArray) := if 0 ≤ (mn (mx a1_1 0) (a0_2.size : Int)) then (if (mn (mx a1_1 0) (a0_2.size : Int)) ≤ (a0_2.size : Int) then (if 0 ≤ (mn (mx a2_1 0) ((a0_2.extract ((mn (mx a1_1 0) (a0_2.size : Int)) : Int).toNat a0_2.size).size : Int)) then (if (mn (mx a2_1 0) ((a0_2.extract ((mn (mx a1_1 0) (a0_2.size : Int)) : Int).toNat a0_2.size).size : Int)) ≤ ((a0_2.extract ((mn (mx a1_1 0) (a0_2.size : Int)) : Int).toNat a0_2.size).size : Int) then ((value_Text.f ((a0_2.extract ((mn (mx a1_1 0) (a0_2.size : Int)) : Int).toNat a0_2.size).extract 0 ((mn (mx a2_1 0) ((a0_2.extract ((mn (mx a1_1 0) (a0_2.size : Int)) : Int).toNat a0_2.size).size : Int)) : Int).toNat)).bind fun bt255 => (some (bt255.1, bt255.2.1, bt255.2.2))) else (none)) else (none)) else (none)) else (none)
set_option maxHeartbeats 8000000 in
set_option maxRecDepth 100000 in
theorem value_val_slice.calls (a0_0 : Bool) (a0_1 : Int) (a0_2 : ByteArray) (a1_0 : Bool) (a1_1 : Int) (a1_2 : ByteArray) (a2_0 : Bool) (a2_1 : Int) (a2_2 : ByteArray) (r1 : Bool) (r2 : Int) (r3 : ByteArray) (w : World) (hT : Tabs w) (h : value_val_slice.f a0_0 a0_1 a0_2 a1_0 a1_1 a1_2 a2_0 a2_1 a2_2 = some (r1, r2, r3)) :
  Calls Tryz.prog 83 #[.agg #[.bool a0_0, .int .i64 a0_1, .string a0_2], .agg #[.bool a1_0, .int .i64 a1_1, .string a1_2], .agg #[.bool a2_0, .int .i64 a2_1, .string a2_2]] w fun e w' => e = .returned (.agg #[.bool r1, .int .i64 r2, .string r3]) ∧ Below w.heap.size w w' := by
 have hu137 := Tryz.underlying137
 have hu24 := Tryz.underlying24
 have HB := xy (Below.refl w.heap.size w)
 unfold value_val_slice.f at h
 have H := h
 clear h
 obtain ⟨ji4, hji4⟩ : ∃ j_ : Int, (mx a1_1 0) = j_ := ⟨_, rfl⟩
 replace H : (if 0 ≤ (mn (ji4) (a0_2.size : Int)) then (if (mn (ji4) (a0_2.size : Int)) ≤ (a0_2.size : Int) then (if 0 ≤ (mn (mx a2_1 0) ((a0_2.extract ((mn (ji4) (a0_2.size : Int)) : Int).toNat a0_2.size).size : Int)) then (if (mn (mx a2_1 0) ((a0_2.extract ((mn (ji4) (a0_2.size : Int)) : Int).toNat a0_2.size).size : Int)) ≤ ((a0_2.extract ((mn (ji4) (a0_2.size : Int)) : Int).toNat a0_2.size).size : Int) then ((value_Text.f ((a0_2.extract ((mn (ji4) (a0_2.size : Int)) : Int).toNat a0_2.size).extract 0 ((mn (mx a2_1 0) ((a0_2.extract ((mn (ji4) (a0_2.size : Int)) : Int).toNat a0_2.size).size : Int)) : Int).toNat)).bind fun bt255 => (some (bt255.1, bt255.2.1, bt255.2.2))) else (none)) else (none)) else (none)) else (none)) = some (r1, r2, r3) := by first | (rw [hji4] at H; exact H) | (simp only [hji4] at H ⊢; exact H)
 (try (have hji4l : 0 ≤ ji4 := by (rw [← hji4]; unfold mx; (repeat' split) <;> omega)))
 (try (have hji4m : 0 ≤ ji4 := by omega))
 have hji4_ : (if a1_1 < 0 then 0 else a1_1) = ji4 := hji4
 obtain ⟨ji5, hji5⟩ : ∃ j_ : Int, (mn (ji4) (a0_2.size : Int)) = j_ := ⟨_, rfl⟩
 replace H : (if 0 ≤ (ji5) then (if (ji5) ≤ (a0_2.size : Int) then (if 0 ≤ (mn (mx a2_1 0) ((a0_2.extract ((ji5) : Int).toNat a0_2.size).size : Int)) then (if (mn (mx a2_1 0) ((a0_2.extract ((ji5) : Int).toNat a0_2.size).size : Int)) ≤ ((a0_2.extract ((ji5) : Int).toNat a0_2.size).size : Int) then ((value_Text.f ((a0_2.extract ((ji5) : Int).toNat a0_2.size).extract 0 ((mn (mx a2_1 0) ((a0_2.extract ((ji5) : Int).toNat a0_2.size).size : Int)) : Int).toNat)).bind fun bt255 => (some (bt255.1, bt255.2.1, bt255.2.2))) else (none)) else (none)) else (none)) else (none)) = some (r1, r2, r3) := by first | (rw [hji5] at H; exact H) | (simp only [hji5] at H ⊢; exact H)
 have hji5_ : (if (a0_2.size : Int) < (ji4) then (a0_2.size : Int) else (ji4)) = ji5 := hji5
 by_cases c6 : 0 ≤ (ji5)
 ·rw [if_pos c6] at H
  have c6b0 := eq_true c6
  have c6b1 : decide (0 ≤ (ji5)) = true := decide_eq_true c6
  clear c6
  by_cases c7 : (ji5) ≤ (a0_2.size : Int)
  ·rw [if_pos c7] at H
   have c7b0 := eq_true c7
   have c7b1 : decide ((ji5) ≤ (a0_2.size : Int)) = true := decide_eq_true c7
   clear c7
   obtain ⟨ji8, hji8⟩ : ∃ j_ : Int, (mx a2_1 0) = j_ := ⟨_, rfl⟩
   replace H : (if 0 ≤ (mn (ji8) ((a0_2.extract ((ji5) : Int).toNat a0_2.size).size : Int)) then (if (mn (ji8) ((a0_2.extract ((ji5) : Int).toNat a0_2.size).size : Int)) ≤ ((a0_2.extract ((ji5) : Int).toNat a0_2.size).size : Int) then ((value_Text.f ((a0_2.extract ((ji5) : Int).toNat a0_2.size).extract 0 ((mn (ji8) ((a0_2.extract ((ji5) : Int).toNat a0_2.size).size : Int)) : Int).toNat)).bind fun bt255 => (some (bt255.1, bt255.2.1, bt255.2.2))) else (none)) else (none)) = some (r1, r2, r3) := by first | (rw [hji8] at H; exact H) | (simp only [hji8] at H ⊢; exact H)
   (try (have hji8l : 0 ≤ ji8 := by (rw [← hji8]; unfold mx; (repeat' split) <;> omega)))
   (try (have hji8m : 0 ≤ ji8 := by omega))
   have hji8_ : (if a2_1 < 0 then 0 else a2_1) = ji8 := hji8
   obtain ⟨ji9, hji9⟩ : ∃ j_ : Int, (mn (ji8) ((a0_2.extract ((ji5) : Int).toNat a0_2.size).size : Int)) = j_ := ⟨_, rfl⟩
   replace H : (if 0 ≤ (ji9) then (if (ji9) ≤ ((a0_2.extract ((ji5) : Int).toNat a0_2.size).size : Int) then ((value_Text.f ((a0_2.extract ((ji5) : Int).toNat a0_2.size).extract 0 ((ji9) : Int).toNat)).bind fun bt255 => (some (bt255.1, bt255.2.1, bt255.2.2))) else (none)) else (none)) = some (r1, r2, r3) := by first | (rw [hji9] at H; exact H) | (simp only [hji9] at H ⊢; exact H)
   have hji9_ : (if ((a0_2.extract ((ji5) : Int).toNat a0_2.size).size : Int) < (ji8) then ((a0_2.extract ((ji5) : Int).toNat a0_2.size).size : Int) else (ji8)) = ji9 := hji9
   (try (have hji9_s := hji9_; simp only [ByteArray.size_extract, Nat.min_self] at hji9_s))
   by_cases c10 : 0 ≤ (ji9)
   ·rw [if_pos c10] at H
    have c10b0 := eq_true c10
    have c10b1 : decide (0 ≤ (ji9)) = true := decide_eq_true c10
    clear c10
    by_cases c11 : (ji9) ≤ ((a0_2.extract ((ji5) : Int).toNat a0_2.size).size : Int)
    ·rw [if_pos c11] at H
     have c11b0 := eq_true c11
     have c11b1 : decide ((ji9) ≤ ((a0_2.extract ((ji5) : Int).toNat a0_2.size).size : Int)) = true := decide_eq_true c11
     (try (have c11b1s := c11b1; simp only [ByteArray.size_extract, Nat.min_self] at c11b1s))
     clear c11
     replace H := xj H
     obtain ⟨⟨t255, t256, t257⟩, A120, H⟩ := H
     try dsimp only at H
     have A12 := xy A120
     clear A120
     simp only [Option.some.injEq, Prod.mk.injEq] at H
     obtain ⟨rfl, rfl, rfl⟩ := H
     go_enter Tryz.func83, Tryz.ntmps83
     go_wp2_with (first | ((with_reducible refine gate_dst (N := 3) rfl ?_); refine xq (N := 3) (cs := #[.bool a0_0, .int .i64 a0_1, .string a0_2]) (t := 137) ?_; intro gb251 hg w13 hbox hb; have BK251 := xy (hbox); have GW251 := xs w hg; have GE251 := xs w hg; replace HB := xy (below_step xb hb); clear hb hbox hg) | ((with_reducible refine gate_dst (N := 4) rfl ?_); refine xq (N := 4) (cs := #[.bool a1_0, .int .i64 a1_1, .string a1_2]) (t := 137) ?_; intro gb252 hg w14 hbox hb; have BK252 := xy (hbox); have GW252 := xs w hg; have GE252 := xs w hg; replace HB := xy (below_step xb hb); have NB251_252 := xn hg BK251.out; have NB252_251 := xp hg BK251.out; replace BK251 := xd BK251.out hb; clear hb hbox hg) | ((with_reducible refine gate_dst (N := 5) rfl ?_); refine xq (N := 5) (cs := #[.bool a2_0, .int .i64 a2_1, .string a2_2]) (t := 137) ?_; intro gb253 hg w15 hbox hb; have BK253 := xy (hbox); have GW253 := xs w hg; have GE253 := xs w hg; replace HB := xy (below_step xb hb); have NB251_253 := xn hg BK251.out; have NB253_251 := xp hg BK251.out; replace BK251 := xd BK251.out hb; have NB252_253 := xn hg BK252.out; have NB253_252 := xp hg BK252.out; replace BK252 := xd BK252.out hb; clear hb hbox hg) | ((with_reducible refine gate_dst (N := 6) rfl ?_); refine xq (N := 6) (cs := #[.bool false, .int .i64 0, .string (⟨#[]⟩ : ByteArray)]) (t := 24) ?_; intro gb254 hg w16 hbox hb; have BK254 := xy (hbox); have GW254 := xs w hg; have GE254 := xs w hg; replace HB := xy (below_step xb hb); have NB251_254 := xn hg BK251.out; have NB254_251 := xp hg BK251.out; replace BK251 := xd BK251.out hb; have NB252_254 := xn hg BK252.out; have NB254_252 := xp hg BK252.out; replace BK252 := xd BK252.out hb; have NB253_254 := xn hg BK253.out; have NB254_253 := xp hg BK253.out; replace BK253 := xd BK253.out hb; clear hb hbox hg; have hnb17 := NB251_252.out; have hnc17 := NB252_251.out; have hnb18 := NB251_253.out; have hnc18 := NB253_251.out; have hnb19 := NB251_254.out; have hnc19 := NB254_251.out; obtain ⟨hcz20_0, hcz20_1, hcz20_2⟩ := kt3 BK251.out; obtain ⟨hfz20_0, hfz20_1, hfz20_2⟩ := kz3 BK251.out; have hnb21 := NB252_253.out; have hnc21 := NB253_252.out; have hnb22 := NB252_254.out; have hnc22 := NB254_252.out; obtain ⟨hcz23_0, hcz23_1, hcz23_2⟩ := kt3 BK252.out; obtain ⟨hfz23_0, hfz23_1, hfz23_2⟩ := kz3 BK252.out; have hnb24 := NB253_254.out; have hnc24 := NB254_253.out; obtain ⟨hcz25_0, hcz25_1, hcz25_2⟩ := kt3 BK253.out; obtain ⟨hfz25_0, hfz25_1, hfz25_2⟩ := kz3 BK253.out) | ((with_reducible refine gate_callee (f := 39) rfl ?_); refine goesL_ (some 26) rfl rfl Tryz.func39 (by kernel_rfl) rfl #[.string ((a0_2.extract ((ji5) : Int).toNat a0_2.size).extract 0 ((ji9) : Int).toNat)] rfl (by (try simp only [List.map_toArray, List.map_cons, List.map_nil]); first | done | (simp only [hji5, hji9]; rfl) | rfl | (simp only [List.length_drop, List.length_take]; rfl)) ?_; (with_reducible refine (value_Text.calls ((a0_2.extract ((ji5) : Int).toNat a0_2.size).extract 0 ((ji9) : Int).toNat) t255 t256 t257 _ (Tabs.below hT xf) A12.out).mono ?_); rintro e w26 ⟨rfl, hb⟩; refine ⟨_, rfl, ?_⟩; replace BK251 := xd BK251.out hb; replace BK252 := xd BK252.out hb; replace BK253 := xd BK253.out hb; replace BK254 := xd BK254.out hb; replace HB := xy (below_step xb hb); (try clear hb); (try clear hb2); (try clear hk); (try clear hi); obtain ⟨hcz27_0, hcz27_1, hcz27_2⟩ := kt3 BK254.out; obtain ⟨hfz27_0, hfz27_1, hfz27_2⟩ := kz3 BK254.out))
     refine bodyPost_ret (results_cell_row rfl _ _ gb254 24 #[.bool t255, .int .i64 t256, .string t257] (0, 0) _ rfl (kp BK254.out) Tryz.underlying24 rfl (by kernel_rfl)) rfl ?_
     exact ⟨by first | rfl | (simp [errW_none, errW_some] <;> rfl) | (simp only [← hji4, ← hji5, ← hji8, ← hji9]; first | rfl | (simp [errW_none, errW_some] <;> rfl)) | (simp [*, errW_none, errW_some] <;> rfl), xb⟩
    ·rw [if_neg c11] at H
     exact absurd H (by simp)
   ·rw [if_neg c10] at H
    exact absurd H (by simp)
  ·rw [if_neg c7] at H
   exact absurd H (by simp)
 ·rw [if_neg c6] at H
  exact absurd H (by simp)
def value_turn.f (a0 : ByteArray) (a1 : Int) : Option (Bool × Int × ByteArray) := if 0 ≤ a1 ∧ a1 ≤ 200 ∧ a0.size ≤ 140737488355328 then value_Text.f (strOfNums (XTurn.turnL a1 (bytesOf a0))) else none
theorem value_turn.calls (a0 : ByteArray) (a1 : Int) (r1 : Bool) (r2 : Int) (r3 : ByteArray) (w : World) (hT : Tabs w) (h : value_turn.f a0 a1 = some (r1, r2, r3)) :
  Calls Tryz.prog 95 #[.string a0, .int .u8 a1] w fun e w' => e = .returned (.agg #[.bool r1, .int .i64 r2, .string r3]) ∧ Below w.heap.size w w' := by
 unfold value_turn.f at h
 by_cases hq : 0 ≤ a1 ∧ a1 ≤ 200 ∧ a0.size ≤ 140737488355328
 ·rw [if_pos hq] at h
  exact XTurn.calls (T := Tabs) (fun w w' h hb => h.below hb) a0 a1 r1 r2 r3 ⟨hq.1, hq.2.1⟩ hq.2.2 (fun w hT => value_Text.calls _ _ _ _ w hT h) w hT
 ·rw [if_neg hq] at h
  cases h
def value_val_upper.f (a0_0 : Bool) (a0_1 : Int) (a0_2 : ByteArray) (a1_0 : Bool) (a1_1 : Int) (a1_2 : ByteArray) (a2_0 : Bool) (a2_1 : Int) (a2_2 : ByteArray) : Option (Bool × Int × ByteArray) := (value_turn.f a0_2 97).bind fun bt262 => (some (bt262.1, bt262.2.1, bt262.2.2))
set_option maxHeartbeats 8000000 in
set_option maxRecDepth 100000 in
theorem value_val_upper.calls (a0_0 : Bool) (a0_1 : Int) (a0_2 : ByteArray) (a1_0 : Bool) (a1_1 : Int) (a1_2 : ByteArray) (a2_0 : Bool) (a2_1 : Int) (a2_2 : ByteArray) (r1 : Bool) (r2 : Int) (r3 : ByteArray) (w : World) (hT : Tabs w) (h : value_val_upper.f a0_0 a0_1 a0_2 a1_0 a1_1 a1_2 a2_0 a2_1 a2_2 = some (r1, r2, r3)) :
  Calls Tryz.prog 84 #[.agg #[.bool a0_0, .int .i64 a0_1, .string a0_2], .agg #[.bool a1_0, .int .i64 a1_1, .string a1_2], .agg #[.bool a2_0, .int .i64 a2_1, .string a2_2]] w fun e w' => e = .returned (.agg #[.bool r1, .int .i64 r2, .string r3]) ∧ Below w.heap.size w w' := by
 have hu137 := Tryz.underlying137
 have hu24 := Tryz.underlying24
 have HB := xy (Below.refl w.heap.size w)
 unfold value_val_upper.f at h
 have H := h
 clear h
 replace H := xj H
 obtain ⟨⟨t262, t263, t264⟩, A40, H⟩ := H
 try dsimp only at H
 have A4 := xy A40
 clear A40
 simp only [Option.some.injEq, Prod.mk.injEq] at H
 obtain ⟨rfl, rfl, rfl⟩ := H
 go_enter Tryz.func84, Tryz.ntmps84
 go_wp2_with (first | ((with_reducible refine gate_dst (N := 3) rfl ?_); refine xq (N := 3) (cs := #[.bool a0_0, .int .i64 a0_1, .string a0_2]) (t := 137) ?_; intro gb258 hg w5 hbox hb; have BK258 := xy (hbox); have GW258 := xs w hg; have GE258 := xs w hg; replace HB := xy (below_step xb hb); clear hb hbox hg) | ((with_reducible refine gate_dst (N := 4) rfl ?_); refine xq (N := 4) (cs := #[.bool a1_0, .int .i64 a1_1, .string a1_2]) (t := 137) ?_; intro gb259 hg w6 hbox hb; have BK259 := xy (hbox); have GW259 := xs w hg; have GE259 := xs w hg; replace HB := xy (below_step xb hb); have NB258_259 := xn hg BK258.out; have NB259_258 := xp hg BK258.out; replace BK258 := xd BK258.out hb; clear hb hbox hg) | ((with_reducible refine gate_dst (N := 5) rfl ?_); refine xq (N := 5) (cs := #[.bool a2_0, .int .i64 a2_1, .string a2_2]) (t := 137) ?_; intro gb260 hg w7 hbox hb; have BK260 := xy (hbox); have GW260 := xs w hg; have GE260 := xs w hg; replace HB := xy (below_step xb hb); have NB258_260 := xn hg BK258.out; have NB260_258 := xp hg BK258.out; replace BK258 := xd BK258.out hb; have NB259_260 := xn hg BK259.out; have NB260_259 := xp hg BK259.out; replace BK259 := xd BK259.out hb; clear hb hbox hg) | ((with_reducible refine gate_dst (N := 6) rfl ?_); refine xq (N := 6) (cs := #[.bool false, .int .i64 0, .string (⟨#[]⟩ : ByteArray)]) (t := 24) ?_; intro gb261 hg w8 hbox hb; have BK261 := xy (hbox); have GW261 := xs w hg; have GE261 := xs w hg; replace HB := xy (below_step xb hb); have NB258_261 := xn hg BK258.out; have NB261_258 := xp hg BK258.out; replace BK258 := xd BK258.out hb; have NB259_261 := xn hg BK259.out; have NB261_259 := xp hg BK259.out; replace BK259 := xd BK259.out hb; have NB260_261 := xn hg BK260.out; have NB261_260 := xp hg BK260.out; replace BK260 := xd BK260.out hb; clear hb hbox hg; have hnb9 := NB258_259.out; have hnc9 := NB259_258.out; have hnb10 := NB258_260.out; have hnc10 := NB260_258.out; have hnb11 := NB258_261.out; have hnc11 := NB261_258.out; obtain ⟨hcz12_0, hcz12_1, hcz12_2⟩ := kt3 BK258.out; obtain ⟨hfz12_0, hfz12_1, hfz12_2⟩ := kz3 BK258.out) | ((with_reducible refine gate_callee (f := 95) rfl ?_); refine goesL_ (some 9) rfl rfl Tryz.func95 (by kernel_rfl) rfl #[.string a0_2, .int .u8 97] rfl xr ?_; (with_reducible refine (value_turn.calls a0_2 97 t262 t263 t264 _ (Tabs.below hT xf) A4.out).mono ?_); rintro e w13 ⟨rfl, hb⟩; refine ⟨_, rfl, ?_⟩; replace BK258 := xd BK258.out hb; replace BK259 := xd BK259.out hb; replace BK260 := xd BK260.out hb; replace BK261 := xd BK261.out hb; replace HB := xy (below_step xb hb); (try clear hb); (try clear hb2); (try clear hk); (try clear hi); have hnb14 := NB261_259.out; have hnc14 := NB259_261.out; have hnb15 := NB261_260.out; have hnc15 := NB260_261.out; obtain ⟨hcz16_0, hcz16_1, hcz16_2⟩ := kt3 BK261.out; obtain ⟨hfz16_0, hfz16_1, hfz16_2⟩ := kz3 BK261.out))
 refine bodyPost_ret (results_cell_row rfl _ _ gb261 24 #[.bool t262, .int .i64 t263, .string t264] (0, 0) _ rfl (kp BK261.out) Tryz.underlying24 rfl (by kernel_rfl)) rfl ?_
 exact ⟨xe, xb⟩
def value_val_lower.f (a0_0 : Bool) (a0_1 : Int) (a0_2 : ByteArray) (a1_0 : Bool) (a1_1 : Int) (a1_2 : ByteArray) (a2_0 : Bool) (a2_1 : Int) (a2_2 : ByteArray) : Option (Bool × Int × ByteArray) := (value_turn.f a0_2 65).bind fun bt269 => (some (bt269.1, bt269.2.1, bt269.2.2))
set_option maxHeartbeats 8000000 in
set_option maxRecDepth 100000 in
theorem value_val_lower.calls (a0_0 : Bool) (a0_1 : Int) (a0_2 : ByteArray) (a1_0 : Bool) (a1_1 : Int) (a1_2 : ByteArray) (a2_0 : Bool) (a2_1 : Int) (a2_2 : ByteArray) (r1 : Bool) (r2 : Int) (r3 : ByteArray) (w : World) (hT : Tabs w) (h : value_val_lower.f a0_0 a0_1 a0_2 a1_0 a1_1 a1_2 a2_0 a2_1 a2_2 = some (r1, r2, r3)) :
  Calls Tryz.prog 85 #[.agg #[.bool a0_0, .int .i64 a0_1, .string a0_2], .agg #[.bool a1_0, .int .i64 a1_1, .string a1_2], .agg #[.bool a2_0, .int .i64 a2_1, .string a2_2]] w fun e w' => e = .returned (.agg #[.bool r1, .int .i64 r2, .string r3]) ∧ Below w.heap.size w w' := by
 have hu137 := Tryz.underlying137
 have hu24 := Tryz.underlying24
 have HB := xy (Below.refl w.heap.size w)
 unfold value_val_lower.f at h
 have H := h
 clear h
 replace H := xj H
 obtain ⟨⟨t269, t270, t271⟩, A40, H⟩ := H
 try dsimp only at H
 have A4 := xy A40
 clear A40
 simp only [Option.some.injEq, Prod.mk.injEq] at H
 obtain ⟨rfl, rfl, rfl⟩ := H
 go_enter Tryz.func85, Tryz.ntmps85
 go_wp2_with (first | ((with_reducible refine gate_dst (N := 3) rfl ?_); refine xq (N := 3) (cs := #[.bool a0_0, .int .i64 a0_1, .string a0_2]) (t := 137) ?_; intro gb265 hg w5 hbox hb; have BK265 := xy (hbox); have GW265 := xs w hg; have GE265 := xs w hg; replace HB := xy (below_step xb hb); clear hb hbox hg) | ((with_reducible refine gate_dst (N := 4) rfl ?_); refine xq (N := 4) (cs := #[.bool a1_0, .int .i64 a1_1, .string a1_2]) (t := 137) ?_; intro gb266 hg w6 hbox hb; have BK266 := xy (hbox); have GW266 := xs w hg; have GE266 := xs w hg; replace HB := xy (below_step xb hb); have NB265_266 := xn hg BK265.out; have NB266_265 := xp hg BK265.out; replace BK265 := xd BK265.out hb; clear hb hbox hg) | ((with_reducible refine gate_dst (N := 5) rfl ?_); refine xq (N := 5) (cs := #[.bool a2_0, .int .i64 a2_1, .string a2_2]) (t := 137) ?_; intro gb267 hg w7 hbox hb; have BK267 := xy (hbox); have GW267 := xs w hg; have GE267 := xs w hg; replace HB := xy (below_step xb hb); have NB265_267 := xn hg BK265.out; have NB267_265 := xp hg BK265.out; replace BK265 := xd BK265.out hb; have NB266_267 := xn hg BK266.out; have NB267_266 := xp hg BK266.out; replace BK266 := xd BK266.out hb; clear hb hbox hg) | ((with_reducible refine gate_dst (N := 6) rfl ?_); refine xq (N := 6) (cs := #[.bool false, .int .i64 0, .string (⟨#[]⟩ : ByteArray)]) (t := 24) ?_; intro gb268 hg w8 hbox hb; have BK268 := xy (hbox); have GW268 := xs w hg; have GE268 := xs w hg; replace HB := xy (below_step xb hb); have NB265_268 := xn hg BK265.out; have NB268_265 := xp hg BK265.out; replace BK265 := xd BK265.out hb; have NB266_268 := xn hg BK266.out; have NB268_266 := xp hg BK266.out; replace BK266 := xd BK266.out hb; have NB267_268 := xn hg BK267.out; have NB268_267 := xp hg BK267.out; replace BK267 := xd BK267.out hb; clear hb hbox hg; have hnb9 := NB265_266.out; have hnc9 := NB266_265.out; have hnb10 := NB265_267.out; have hnc10 := NB267_265.out; have hnb11 := NB265_268.out; have hnc11 := NB268_265.out; obtain ⟨hcz12_0, hcz12_1, hcz12_2⟩ := kt3 BK265.out; obtain ⟨hfz12_0, hfz12_1, hfz12_2⟩ := kz3 BK265.out) | ((with_reducible refine gate_callee (f := 95) rfl ?_); refine goesL_ (some 9) rfl rfl Tryz.func95 (by kernel_rfl) rfl #[.string a0_2, .int .u8 65] rfl xr ?_; (with_reducible refine (value_turn.calls a0_2 65 t269 t270 t271 _ (Tabs.below hT xf) A4.out).mono ?_); rintro e w13 ⟨rfl, hb⟩; refine ⟨_, rfl, ?_⟩; replace BK265 := xd BK265.out hb; replace BK266 := xd BK266.out hb; replace BK267 := xd BK267.out hb; replace BK268 := xd BK268.out hb; replace HB := xy (below_step xb hb); (try clear hb); (try clear hb2); (try clear hk); (try clear hi); have hnb14 := NB268_266.out; have hnc14 := NB266_268.out; have hnb15 := NB268_267.out; have hnc15 := NB267_268.out; obtain ⟨hcz16_0, hcz16_1, hcz16_2⟩ := kt3 BK268.out; obtain ⟨hfz16_0, hfz16_1, hfz16_2⟩ := kz3 BK268.out))
 refine bodyPost_ret (results_cell_row rfl _ _ gb268 24 #[.bool t269, .int .i64 t270, .string t271] (0, 0) _ rfl (kp BK268.out) Tryz.underlying24 rfl (by kernel_rfl)) rfl ?_
 exact ⟨xe, xb⟩
def value_yes.f (a0 : Bool) : Option (Bool × Int × ByteArray) := if a0 = true then ((value_Num.f 1).bind fun bt273 => (some (bt273.1, bt273.2.1, bt273.2.2))) else ((value_Num.f 0).bind fun bt276 => (some (bt276.1, bt276.2.1, bt276.2.2)))
set_option maxHeartbeats 8000000 in
set_option maxRecDepth 100000 in
theorem value_yes.calls (a0 : Bool) (r1 : Bool) (r2 : Int) (r3 : ByteArray) (w : World) (hT : Tabs w) (h : value_yes.f a0 = some (r1, r2, r3)) :
  Calls Tryz.prog 96 #[.bool a0] w fun e w' => e = .returned (.agg #[.bool r1, .int .i64 r2, .string r3]) ∧ Below w.heap.size w w' := by
 have hu24 := Tryz.underlying24
 have HB := xy (Below.refl w.heap.size w)
 unfold value_yes.f at h
 have H := h
 clear h
 by_cases c2 : a0 = true
 ·subst c2
  rw [if_pos rfl] at H
  replace H := xj H
  obtain ⟨⟨t273, t274, t275⟩, A30, H⟩ := H
  try dsimp only at H
  have A3 := xy A30
  clear A30
  simp only [Option.some.injEq, Prod.mk.injEq] at H
  obtain ⟨rfl, rfl, rfl⟩ := H
  go_enter Tryz.func96, Tryz.ntmps96
  go_wp2_with (first | ((with_reducible refine gate_dst (N := 2) rfl ?_); refine xq (N := 2) (cs := #[.bool false, .int .i64 0, .string (⟨#[]⟩ : ByteArray)]) (t := 24) ?_; intro gb272 hg w4 hbox hb; have BK272 := xy (hbox); have GW272 := xs w hg; have GE272 := xs w hg; replace HB := xy (below_step xb hb); clear hb hbox hg) | ((with_reducible refine gate_callee (f := 31) rfl ?_); refine goesL_ (some 4) rfl rfl Tryz.func31 (by kernel_rfl) rfl #[.int .i64 1] rfl xr ?_; (with_reducible refine (value_Num.calls 1 t273 t274 t275 _ (Tabs.below hT xf) A3.out).mono ?_); rintro e w5 ⟨rfl, hb⟩; refine ⟨_, rfl, ?_⟩; replace BK272 := xd BK272.out hb; replace HB := xy (below_step xb hb); (try clear hb); (try clear hb2); (try clear hk); (try clear hi); obtain ⟨hcz6_0, hcz6_1, hcz6_2⟩ := kt3 BK272.out; obtain ⟨hfz6_0, hfz6_1, hfz6_2⟩ := kz3 BK272.out))
  refine bodyPost_ret (results_cell_row rfl _ _ gb272 24 #[.bool t273, .int .i64 t274, .string t275] (0, 0) _ rfl (kp BK272.out) Tryz.underlying24 rfl (by kernel_rfl)) rfl ?_
  exact ⟨xe, xb⟩
 ·replace c2 := Bool.eq_false_iff.mpr c2
  subst c2
  rw [if_neg (show ¬ (false = true) by decide)] at H
  replace H := xj H
  obtain ⟨⟨t276, t277, t278⟩, A70, H⟩ := H
  try dsimp only at H
  have A7 := xy A70
  clear A70
  simp only [Option.some.injEq, Prod.mk.injEq] at H
  obtain ⟨rfl, rfl, rfl⟩ := H
  go_enter Tryz.func96, Tryz.ntmps96
  go_wp2_with (first | ((with_reducible refine gate_dst (N := 2) rfl ?_); refine xq (N := 2) (cs := #[.bool false, .int .i64 0, .string (⟨#[]⟩ : ByteArray)]) (t := 24) ?_; intro gb272 hg w8 hbox hb; have BK272 := xy (hbox); have GW272 := xs w hg; have GE272 := xs w hg; replace HB := xy (below_step xb hb); clear hb hbox hg) | ((with_reducible refine gate_callee (f := 31) rfl ?_); refine goesL_ (some 5) rfl rfl Tryz.func31 (by kernel_rfl) rfl #[.int .i64 0] rfl xr ?_; (with_reducible refine (value_Num.calls 0 t276 t277 t278 _ (Tabs.below hT xf) A7.out).mono ?_); rintro e w9 ⟨rfl, hb⟩; refine ⟨_, rfl, ?_⟩; replace BK272 := xd BK272.out hb; replace HB := xy (below_step xb hb); (try clear hb); (try clear hb2); (try clear hk); (try clear hi); obtain ⟨hcz10_0, hcz10_1, hcz10_2⟩ := kt3 BK272.out; obtain ⟨hfz10_0, hfz10_1, hfz10_2⟩ := kz3 BK272.out))
  refine bodyPost_ret (results_cell_row rfl _ _ gb272 24 #[.bool t276, .int .i64 t277, .string t278] (0, 0) _ rfl (kp BK272.out) Tryz.underlying24 rfl (by kernel_rfl)) rfl ?_
  exact ⟨xe, xb⟩
def cmp_Or_int.l0 : Nat → Int → List Int → Int → Int → Option (Int)
 | 0, _, _, _, _ => none
 | k + 1, x3, x6, x7, x8 => if x8 < x7 then (if 0 ≤ x8 then (if x8 < (x6.length : Int) then (if (rd x6 x8) = x3 then (cmp_Or_int.l0 k x3 x6 x7 (wrap64 (x8 + 1))) else (some (rd x6 x8))) else (none)) else (none)) else (some x3)
def cmp_Or_int.f (k : Nat) (l0 : List Int) : Option (Int) := cmp_Or_int.l0 k 0 l0 (l0.length : Int) 0
theorem cmp_Or_int.mono_l : ∀ k, (∀ y0 y1 y2 y3, LeO (cmp_Or_int.l0 k y0 y1 y2 y3) (cmp_Or_int.l0 (k + 1) y0 y1 y2 y3))
 | 0 => fun _ _ _ _ r h => by simp [cmp_Or_int.l0] at h
 | k + 1 => by
  have ih0 := cmp_Or_int.mono_l k
  ·intro y0 y1 y2 y3
   unfold cmp_Or_int.l0
   repeat' (with_reducible first | exact ih0 _ _ _ _ | exact LeO.refl _ | exact LeO.none _ | refine LeO.ite ?_ ?_ | refine LeO.bind ?_ (fun _ => ?_))
theorem cmp_Or_int.mono : ∀ a0 k, LeO (cmp_Or_int.f k a0) (cmp_Or_int.f (k + 1) a0) := by
 intro a0 k
 have ih0 := cmp_Or_int.mono_l k
 unfold cmp_Or_int.f
 repeat' (with_reducible first | exact ih0 _ _ _ _ | exact LeO.refl _ | exact LeO.none _ | refine LeO.ite ?_ ?_ | refine LeO.bind ?_ (fun _ => ?_))
set_option maxHeartbeats 8000000 in
set_option maxRecDepth 100000 in
theorem cmp_Or_int.calls (k : Nat) (A0 : Option Addr) (c0 : Nat) (l0 : List Int) (r : Int) (w : World) (hT : Tabs w) (hr0 : Kd.C (Kd.int .i64) w A0 l0.length l0) (hc0 : l0.length ≤ c0) (h : cmp_Or_int.f k l0 = some r) :
  Calls Tryz.prog 102 #[.slice A0 l0.length c0] w fun e w' => e = .returned (.int .i64 r) ∧ Drawn0 w w' := by
 have HR0 := xy hr0
 have HC0 := xy hc0
 clear hr0 hc0
 unfold cmp_Or_int.f at h
 have H := h
 clear h
 have H' := xy H
 clear H
 go_enter Tryz.func102, Tryz.ntmps102
 go_wp2
 go_loopg [8] k (fun kq v8 w' => ∃ (x8_1 : Int), v8 = .int .i64 x8_1 ∧ Aside0 (cmp_Or_int.l0 kq 0 l0 (l0.length : Int) x8_1 = some r) ∧ Aside0 (kq ≤ k) ∧ Drawn0 w w')
 case atStart => exact ⟨(0), xg, H', ⟨Nat.le_refl _⟩, by repeat (first | exact Drawn0.refl _ | apply Drawn0.step)⟩
 case round =>
  clear H'
  try clear c1
  obtain ⟨x8_1, rfl, HA, HK1, ⟨m1, rfl⟩⟩ := hrel
  cases gk with
  | zero => exact absurd HA.out (by simp [cmp_Or_int.l0])
  | succ k1 =>
   have H := HA.out
   clear HA
   simp only [cmp_Or_int.l0] at H
   by_cases c2 : x8_1 < (l0.length : Int)
   ·rw [if_pos c2] at H
    have c2b0 : decide (x8_1 < (l0.length : Int)) = true := decide_eq_true c2
    clear c2
    by_cases c3 : 0 ≤ x8_1
    ·rw [if_pos c3] at H
     have c3b0 : decide (0 ≤ x8_1) = true := decide_eq_true c3
     clear c3
     by_cases c4 : x8_1 < (l0.length : Int)
     ·rw [if_pos c4] at H
      have c4b0 : decide (x8_1 < (l0.length : Int)) = true := decide_eq_true c4
      clear c4
      by_cases c5 : (rd l0 x8_1) = 0
      ·rw [if_pos c5] at H
       have c5b0 : ((rd l0 x8_1) == 0) = true := beq_iff_eq.mpr c5
       have c5b1 : ((rd l0 x8_1) != 0) = false := bne_eq_false_iff_eq.mpr c5
       clear c5
       have H' := xy H
       clear H
       have p279 : 0 ≤ (x8_1 : Int) := xi
       have q279 : x8_1 < (l0.length : Int) := xi
       obtain ⟨ad279, e279, hx279_0⟩ := Kd.at_int HR0.out x8_1 p279 q279
       cases e279
       replace p279 := eq_true p279
       replace q279 := eq_true q279
       go_wp2
       go_roundg k1
       case measure => have := HK1.out; omega
       case rel => exact ⟨(wrap64 (x8_1 + 1)), xg, H', ⟨by have := HK1.out; omega⟩, by repeat (first | exact Drawn0.refl _ | apply Drawn0.step)⟩
      ·rw [if_neg c5] at H
       have c5b0 : ((rd l0 x8_1) == 0) = false := beq_eq_false_iff_ne.mpr c5
       have c5b1 : ((rd l0 x8_1) != 0) = true := bne_iff_ne.mpr c5
       obtain rfl := Option.some.inj H
       have p279 : 0 ≤ (x8_1 : Int) := xi
       have q279 : x8_1 < (l0.length : Int) := xi
       obtain ⟨ad279, e279, hx279_0⟩ := Kd.at_int HR0.out x8_1 p279 q279
       cases e279
       replace p279 := eq_true p279
       replace q279 := eq_true q279
       go_wp2
       go_ret
       exact ⟨xg, xz⟩
     ·rw [if_neg c4] at H
      exact absurd H (by simp)
    ·rw [if_neg c3] at H
     exact absurd H (by simp)
   ·rw [if_neg c2] at H
    have c2b0 : decide (x8_1 < (l0.length : Int)) = false := decide_eq_false c2
    clear c2
    obtain rfl := Option.some.inj H
    go_wp2
    go_ret
    exact ⟨xg, xz⟩
def cmp_isNaN_int.f (a0 : Int) : Option (Bool) := some (a0 != a0)
set_option maxHeartbeats 8000000 in
set_option maxRecDepth 100000 in
theorem cmp_isNaN_int.calls (a0 : Int) (r : Bool) (w : World) (hT : Tabs w) (h : cmp_isNaN_int.f a0 = some r) :
  Calls Tryz.prog 116 #[.int .i64 a0] w fun e w' => e = .returned (.bool r) ∧ Drawn0 w w' := by
 unfold cmp_isNaN_int.f at h
 have H := h
 clear h
 obtain rfl := Option.some.inj H
 go_enter Tryz.func116, Tryz.ntmps116
 go_wp2
 go_ret
 exact ⟨xg, xz⟩
/- Walked functions, by this session's program over the kit's print. -/
def cmp_Compare_int.f (a0 : Int) (a1 : Int) : Option (Int) := (cmp_isNaN_int.f a0).bind fun t280 => ((cmp_isNaN_int.f a1).bind fun t281 => (if t280 = true then (if t281 = true then (some 0) else (some (-1))) else (if t281 = true then (some 1) else (if a0 < a1 then (some (-1)) else (if a0 > a1 then (some 1) else (some 0))))))
set_option maxHeartbeats 8000000 in
set_option maxRecDepth 100000 in
theorem cmp_Compare_int.calls (a0 : Int) (a1 : Int) (r : Int) (w : World) (hT : Tabs w) (h : cmp_Compare_int.f a0 a1 = some r) :
  Calls Tryz.prog 103 #[.int .i64 a0, .int .i64 a1] w fun e w' => e = .returned (.int .i64 r) ∧ Drawn0 w w' := by
 unfold cmp_Compare_int.f at h
 have H := h
 clear h
 replace H := xj H
 obtain ⟨t280, A30, H⟩ := H
 try dsimp only at H
 have A3 := xy A30
 clear A30
 replace H := xj H
 obtain ⟨t281, A40, H⟩ := H
 try dsimp only at H
 have A4 := xy A40
 clear A40
 by_cases c5 : t280 = true
 ·subst c5
  rw [if_pos rfl] at H
  by_cases c6 : t281 = true
  ·subst c6
   rw [if_pos rfl] at H
   obtain rfl := Option.some.inj H
   go_enter Tryz.func103, Tryz.ntmps103
   go_wp2_with (first | ((with_reducible refine gate_callee (f := 116) rfl ?_); refine goesL_ (some 8) rfl rfl Tryz.func116 (by kernel_rfl) rfl #[.int .i64 a0] rfl xr ?_; (with_reducible refine (cmp_isNaN_int.calls a0 true _ (Tabs.below hT xf) A3.out).mono ?_); rintro e w' ⟨rfl, ⟨nd, rfl⟩⟩; refine ⟨_, rfl, ?_⟩) | ((with_reducible refine gate_callee (f := 116) rfl ?_); refine goesL_ (some 10) rfl rfl Tryz.func116 (by kernel_rfl) rfl #[.int .i64 a1] rfl xr ?_; (with_reducible refine (cmp_isNaN_int.calls a1 true _ (Tabs.below hT xf) A4.out).mono ?_); rintro e w' ⟨rfl, ⟨nd, rfl⟩⟩; refine ⟨_, rfl, ?_⟩))
   go_ret
   exact ⟨xg, xz⟩
  ·replace c6 := Bool.eq_false_iff.mpr c6
   subst c6
   rw [if_neg (show ¬ (false = true) by decide)] at H
   obtain rfl := Option.some.inj H
   go_enter Tryz.func103, Tryz.ntmps103
   go_wp2_with (first | ((with_reducible refine gate_callee (f := 116) rfl ?_); refine goesL_ (some 8) rfl rfl Tryz.func116 (by kernel_rfl) rfl #[.int .i64 a0] rfl xr ?_; (with_reducible refine (cmp_isNaN_int.calls a0 true _ (Tabs.below hT xf) A3.out).mono ?_); rintro e w' ⟨rfl, ⟨nd, rfl⟩⟩; refine ⟨_, rfl, ?_⟩) | ((with_reducible refine gate_callee (f := 116) rfl ?_); refine goesL_ (some 10) rfl rfl Tryz.func116 (by kernel_rfl) rfl #[.int .i64 a1] rfl xr ?_; (with_reducible refine (cmp_isNaN_int.calls a1 false _ (Tabs.below hT xf) A4.out).mono ?_); rintro e w' ⟨rfl, ⟨nd, rfl⟩⟩; refine ⟨_, rfl, ?_⟩))
   go_ret
   exact ⟨xg, xz⟩
 ·replace c5 := Bool.eq_false_iff.mpr c5
  subst c5
  rw [if_neg (show ¬ (false = true) by decide)] at H
  by_cases c7 : t281 = true
  ·subst c7
   rw [if_pos rfl] at H
   obtain rfl := Option.some.inj H
   go_enter Tryz.func103, Tryz.ntmps103
   go_wp2_with (first | ((with_reducible refine gate_callee (f := 116) rfl ?_); refine goesL_ (some 8) rfl rfl Tryz.func116 (by kernel_rfl) rfl #[.int .i64 a0] rfl xr ?_; (with_reducible refine (cmp_isNaN_int.calls a0 false _ (Tabs.below hT xf) A3.out).mono ?_); rintro e w' ⟨rfl, ⟨nd, rfl⟩⟩; refine ⟨_, rfl, ?_⟩) | ((with_reducible refine gate_callee (f := 116) rfl ?_); refine goesL_ (some 10) rfl rfl Tryz.func116 (by kernel_rfl) rfl #[.int .i64 a1] rfl xr ?_; (with_reducible refine (cmp_isNaN_int.calls a1 true _ (Tabs.below hT xf) A4.out).mono ?_); rintro e w' ⟨rfl, ⟨nd, rfl⟩⟩; refine ⟨_, rfl, ?_⟩))
   go_ret
   exact ⟨xg, xz⟩
  ·replace c7 := Bool.eq_false_iff.mpr c7
   subst c7
   rw [if_neg (show ¬ (false = true) by decide)] at H
   by_cases c8 : a0 < a1
   ·rw [if_pos c8] at H
    have c8b0 : decide (a0 < a1) = true := decide_eq_true c8
    clear c8
    obtain rfl := Option.some.inj H
    go_enter Tryz.func103, Tryz.ntmps103
    go_wp2_with (first | ((with_reducible refine gate_callee (f := 116) rfl ?_); refine goesL_ (some 8) rfl rfl Tryz.func116 (by kernel_rfl) rfl #[.int .i64 a0] rfl xr ?_; (with_reducible refine (cmp_isNaN_int.calls a0 false _ (Tabs.below hT xf) A3.out).mono ?_); rintro e w' ⟨rfl, ⟨nd, rfl⟩⟩; refine ⟨_, rfl, ?_⟩) | ((with_reducible refine gate_callee (f := 116) rfl ?_); refine goesL_ (some 10) rfl rfl Tryz.func116 (by kernel_rfl) rfl #[.int .i64 a1] rfl xr ?_; (with_reducible refine (cmp_isNaN_int.calls a1 false _ (Tabs.below hT xf) A4.out).mono ?_); rintro e w' ⟨rfl, ⟨nd, rfl⟩⟩; refine ⟨_, rfl, ?_⟩))
    go_ret
    exact ⟨xg, xz⟩
   ·rw [if_neg c8] at H
    have c8b0 : decide (a0 < a1) = false := decide_eq_false c8
    clear c8
    by_cases c9 : a0 > a1
    ·rw [if_pos c9] at H
     have c9b0 : decide (a1 < a0) = true := decide_eq_true c9
     clear c9
     obtain rfl := Option.some.inj H
     go_enter Tryz.func103, Tryz.ntmps103
     go_wp2_with (first | ((with_reducible refine gate_callee (f := 116) rfl ?_); refine goesL_ (some 8) rfl rfl Tryz.func116 (by kernel_rfl) rfl #[.int .i64 a0] rfl xr ?_; (with_reducible refine (cmp_isNaN_int.calls a0 false _ (Tabs.below hT xf) A3.out).mono ?_); rintro e w' ⟨rfl, ⟨nd, rfl⟩⟩; refine ⟨_, rfl, ?_⟩) | ((with_reducible refine gate_callee (f := 116) rfl ?_); refine goesL_ (some 10) rfl rfl Tryz.func116 (by kernel_rfl) rfl #[.int .i64 a1] rfl xr ?_; (with_reducible refine (cmp_isNaN_int.calls a1 false _ (Tabs.below hT xf) A4.out).mono ?_); rintro e w' ⟨rfl, ⟨nd, rfl⟩⟩; refine ⟨_, rfl, ?_⟩))
     go_ret
     exact ⟨xg, xz⟩
    ·rw [if_neg c9] at H
     have c9b0 : decide (a1 < a0) = false := decide_eq_false c9
     clear c9
     obtain rfl := Option.some.inj H
     go_enter Tryz.func103, Tryz.ntmps103
     go_wp2_with (first | ((with_reducible refine gate_callee (f := 116) rfl ?_); refine goesL_ (some 8) rfl rfl Tryz.func116 (by kernel_rfl) rfl #[.int .i64 a0] rfl xr ?_; (with_reducible refine (cmp_isNaN_int.calls a0 false _ (Tabs.below hT xf) A3.out).mono ?_); rintro e w' ⟨rfl, ⟨nd, rfl⟩⟩; refine ⟨_, rfl, ?_⟩) | ((with_reducible refine gate_callee (f := 116) rfl ?_); refine goesL_ (some 10) rfl rfl Tryz.func116 (by kernel_rfl) rfl #[.int .i64 a1] rfl xr ?_; (with_reducible refine (cmp_isNaN_int.calls a1 false _ (Tabs.below hT xf) A4.out).mono ?_); rintro e w' ⟨rfl, ⟨nd, rfl⟩⟩; refine ⟨_, rfl, ?_⟩))
     go_ret
     exact ⟨xg, xz⟩
def cmp_isNaN_string.f (a0 : ByteArray) : Option (Bool) := some (a0.toList != a0.toList)
set_option maxHeartbeats 8000000 in
set_option maxRecDepth 100000 in
theorem cmp_isNaN_string.calls (a0 : ByteArray) (r : Bool) (w : World) (hT : Tabs w) (h : cmp_isNaN_string.f a0 = some r) :
  Calls Tryz.prog 117 #[.string a0] w fun e w' => e = .returned (.bool r) ∧ Drawn0 w w' := by
 unfold cmp_isNaN_string.f at h
 have H := h
 clear h
 obtain rfl := Option.some.inj H
 go_enter Tryz.func117, Tryz.ntmps117
 go_wp2
 go_ret
 exact ⟨xg, xz⟩
def cmp_Compare_string.f (a0 : ByteArray) (a1 : ByteArray) : Option (Int) := (cmp_isNaN_string.f a0).bind fun t282 => ((cmp_isNaN_string.f a1).bind fun t283 => (if t282 = true then (if t283 = true then (some 0) else (some (-1))) else (if t283 = true then (some 1) else (if (Op.bytesLess a0.toList a1.toList) = true then (some (-1)) else (if (Op.bytesLess a1.toList a0.toList) = true then (some 1) else (some 0))))))
set_option maxHeartbeats 8000000 in
set_option maxRecDepth 100000 in
theorem cmp_Compare_string.calls (a0 : ByteArray) (a1 : ByteArray) (r : Int) (w : World) (hT : Tabs w) (h : cmp_Compare_string.f a0 a1 = some r) :
  Calls Tryz.prog 104 #[.string a0, .string a1] w fun e w' => e = .returned (.int .i64 r) ∧ Drawn0 w w' := by
 unfold cmp_Compare_string.f at h
 have H := h
 clear h
 replace H := xj H
 obtain ⟨t282, A30, H⟩ := H
 try dsimp only at H
 have A3 := xy A30
 clear A30
 replace H := xj H
 obtain ⟨t283, A40, H⟩ := H
 try dsimp only at H
 have A4 := xy A40
 clear A40
 by_cases c5 : t282 = true
 ·subst c5
  rw [if_pos rfl] at H
  by_cases c6 : t283 = true
  ·subst c6
   rw [if_pos rfl] at H
   obtain rfl := Option.some.inj H
   go_enter Tryz.func104, Tryz.ntmps104
   go_wp2_with (first | ((with_reducible refine gate_callee (f := 117) rfl ?_); refine goesL_ (some 8) rfl rfl Tryz.func117 (by kernel_rfl) rfl #[.string a0] rfl xr ?_; (with_reducible refine (cmp_isNaN_string.calls a0 true _ (Tabs.below hT xf) A3.out).mono ?_); rintro e w' ⟨rfl, ⟨nd, rfl⟩⟩; refine ⟨_, rfl, ?_⟩) | ((with_reducible refine gate_callee (f := 117) rfl ?_); refine goesL_ (some 10) rfl rfl Tryz.func117 (by kernel_rfl) rfl #[.string a1] rfl xr ?_; (with_reducible refine (cmp_isNaN_string.calls a1 true _ (Tabs.below hT xf) A4.out).mono ?_); rintro e w' ⟨rfl, ⟨nd, rfl⟩⟩; refine ⟨_, rfl, ?_⟩))
   go_ret
   exact ⟨xg, xz⟩
  ·replace c6 := Bool.eq_false_iff.mpr c6
   subst c6
   rw [if_neg (show ¬ (false = true) by decide)] at H
   obtain rfl := Option.some.inj H
   go_enter Tryz.func104, Tryz.ntmps104
   go_wp2_with (first | ((with_reducible refine gate_callee (f := 117) rfl ?_); refine goesL_ (some 8) rfl rfl Tryz.func117 (by kernel_rfl) rfl #[.string a0] rfl xr ?_; (with_reducible refine (cmp_isNaN_string.calls a0 true _ (Tabs.below hT xf) A3.out).mono ?_); rintro e w' ⟨rfl, ⟨nd, rfl⟩⟩; refine ⟨_, rfl, ?_⟩) | ((with_reducible refine gate_callee (f := 117) rfl ?_); refine goesL_ (some 10) rfl rfl Tryz.func117 (by kernel_rfl) rfl #[.string a1] rfl xr ?_; (with_reducible refine (cmp_isNaN_string.calls a1 false _ (Tabs.below hT xf) A4.out).mono ?_); rintro e w' ⟨rfl, ⟨nd, rfl⟩⟩; refine ⟨_, rfl, ?_⟩))
   go_ret
   exact ⟨xg, xz⟩
 ·replace c5 := Bool.eq_false_iff.mpr c5
  subst c5
  rw [if_neg (show ¬ (false = true) by decide)] at H
  by_cases c7 : t283 = true
  ·subst c7
   rw [if_pos rfl] at H
   obtain rfl := Option.some.inj H
   go_enter Tryz.func104, Tryz.ntmps104
   go_wp2_with (first | ((with_reducible refine gate_callee (f := 117) rfl ?_); refine goesL_ (some 8) rfl rfl Tryz.func117 (by kernel_rfl) rfl #[.string a0] rfl xr ?_; (with_reducible refine (cmp_isNaN_string.calls a0 false _ (Tabs.below hT xf) A3.out).mono ?_); rintro e w' ⟨rfl, ⟨nd, rfl⟩⟩; refine ⟨_, rfl, ?_⟩) | ((with_reducible refine gate_callee (f := 117) rfl ?_); refine goesL_ (some 10) rfl rfl Tryz.func117 (by kernel_rfl) rfl #[.string a1] rfl xr ?_; (with_reducible refine (cmp_isNaN_string.calls a1 true _ (Tabs.below hT xf) A4.out).mono ?_); rintro e w' ⟨rfl, ⟨nd, rfl⟩⟩; refine ⟨_, rfl, ?_⟩))
   go_ret
   exact ⟨xg, xz⟩
  ·replace c7 := Bool.eq_false_iff.mpr c7
   subst c7
   rw [if_neg (show ¬ (false = true) by decide)] at H
   by_cases c8 : (Op.bytesLess a0.toList a1.toList) = true
   ·rw [if_pos c8] at H
    have c8b0 : (Op.bytesLess a0.toList a1.toList) = true := c8
    clear c8
    obtain rfl := Option.some.inj H
    go_enter Tryz.func104, Tryz.ntmps104
    go_wp2_with (first | ((with_reducible refine gate_callee (f := 117) rfl ?_); refine goesL_ (some 8) rfl rfl Tryz.func117 (by kernel_rfl) rfl #[.string a0] rfl xr ?_; (with_reducible refine (cmp_isNaN_string.calls a0 false _ (Tabs.below hT xf) A3.out).mono ?_); rintro e w' ⟨rfl, ⟨nd, rfl⟩⟩; refine ⟨_, rfl, ?_⟩) | ((with_reducible refine gate_callee (f := 117) rfl ?_); refine goesL_ (some 10) rfl rfl Tryz.func117 (by kernel_rfl) rfl #[.string a1] rfl xr ?_; (with_reducible refine (cmp_isNaN_string.calls a1 false _ (Tabs.below hT xf) A4.out).mono ?_); rintro e w' ⟨rfl, ⟨nd, rfl⟩⟩; refine ⟨_, rfl, ?_⟩))
    go_ret
    exact ⟨xg, xz⟩
   ·rw [if_neg c8] at H
    have c8b0 : (Op.bytesLess a0.toList a1.toList) = false := by simpa using c8
    clear c8
    by_cases c9 : (Op.bytesLess a1.toList a0.toList) = true
    ·rw [if_pos c9] at H
     have c9b0 : (Op.bytesLess a1.toList a0.toList) = true := c9
     clear c9
     obtain rfl := Option.some.inj H
     go_enter Tryz.func104, Tryz.ntmps104
     go_wp2_with (first | ((with_reducible refine gate_callee (f := 117) rfl ?_); refine goesL_ (some 8) rfl rfl Tryz.func117 (by kernel_rfl) rfl #[.string a0] rfl xr ?_; (with_reducible refine (cmp_isNaN_string.calls a0 false _ (Tabs.below hT xf) A3.out).mono ?_); rintro e w' ⟨rfl, ⟨nd, rfl⟩⟩; refine ⟨_, rfl, ?_⟩) | ((with_reducible refine gate_callee (f := 117) rfl ?_); refine goesL_ (some 10) rfl rfl Tryz.func117 (by kernel_rfl) rfl #[.string a1] rfl xr ?_; (with_reducible refine (cmp_isNaN_string.calls a1 false _ (Tabs.below hT xf) A4.out).mono ?_); rintro e w' ⟨rfl, ⟨nd, rfl⟩⟩; refine ⟨_, rfl, ?_⟩))
     go_ret
     exact ⟨xg, xz⟩
    ·rw [if_neg c9] at H
     have c9b0 : (Op.bytesLess a1.toList a0.toList) = false := by simpa using c9
     clear c9
     obtain rfl := Option.some.inj H
     go_enter Tryz.func104, Tryz.ntmps104
     go_wp2_with (first | ((with_reducible refine gate_callee (f := 117) rfl ?_); refine goesL_ (some 8) rfl rfl Tryz.func117 (by kernel_rfl) rfl #[.string a0] rfl xr ?_; (with_reducible refine (cmp_isNaN_string.calls a0 false _ (Tabs.below hT xf) A3.out).mono ?_); rintro e w' ⟨rfl, ⟨nd, rfl⟩⟩; refine ⟨_, rfl, ?_⟩) | ((with_reducible refine gate_callee (f := 117) rfl ?_); refine goesL_ (some 10) rfl rfl Tryz.func117 (by kernel_rfl) rfl #[.string a1] rfl xr ?_; (with_reducible refine (cmp_isNaN_string.calls a1 false _ (Tabs.below hT xf) A4.out).mono ?_); rintro e w' ⟨rfl, ⟨nd, rfl⟩⟩; refine ⟨_, rfl, ?_⟩))
     go_ret
     exact ⟨xg, xz⟩
end Go.Proofs.YtialoecplmnjfaaGreatDoor.PX
