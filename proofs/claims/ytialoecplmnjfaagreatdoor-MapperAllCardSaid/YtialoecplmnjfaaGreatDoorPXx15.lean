/- Walked functions, by this session's program over the kit's print. -/
import Derived.Test.YtialoecplmnjfaaGreatDoorXD
import Derived.Test.YtialoecplmnjfaaGreatDoorPXx0
import Derived.Test.YtialoecplmnjfaaGreatDoorPXx3
import Derived.Test.YtialoecplmnjfaaGreatDoorPXx6
import Derived.Test.YtialoecplmnjfaaGreatDoorPXx11
import Derived.Test.YtialoecplmnjfaaGreatDoorPXx13
namespace Go.Proofs.YtialoecplmnjfaaGreatDoor.PX
open Go.RowKit Go.Proofs.YtialoecplmnjfaaGreatDoorW.PrintWords Go.Proofs.YtialoecplmnjfaaGreatDoorW.PrintLast Go.Proofs.YtialoecplmnjfaaGreatDoorW.PrintMore
attribute [local go_sem] xm_gtr max2_int min2_int max_two min_two max_three min_three max_four min_four
set_option linter.unusedVariables false
set_option linter.unusedSimpArgs false
/- Walked functions, by this session's program over the kit's print. -/
def value_val_hash.f (k : Nat) (a0_0 : Bool) (a0_1 : Int) (a0_2 : ByteArray) (a1_0 : Bool) (a1_1 : Int) (a1_2 : ByteArray) (a2_0 : Bool) (a2_1 : Int) (a2_2 : ByteArray) : Option (Bool × Int × ByteArray) := (value_Hash.f k a0_2).bind fun t359 => ((value_Num.f t359).bind fun bt360 => (some (bt360.1, bt360.2.1, bt360.2.2)))
theorem value_val_hash.mono : ∀ a0 a1 a2 a3 a4 a5 a6 a7 a8 k, LeO (value_val_hash.f k a0 a1 a2 a3 a4 a5 a6 a7 a8) (value_val_hash.f (k + 1) a0 a1 a2 a3 a4 a5 a6 a7 a8) := by
 intro a0 a1 a2 a3 a4 a5 a6 a7 a8 k
 unfold value_val_hash.f
 repeat' (with_reducible first | exact value_Hash.mono _ _ | exact LeO.refl _ | exact LeO.none _ | refine LeO.ite ?_ ?_ | refine LeO.bind ?_ (fun _ => ?_))
set_option maxHeartbeats 8000000 in
set_option maxRecDepth 100000 in
theorem value_val_hash.calls (k : Nat) (a0_0 : Bool) (a0_1 : Int) (a0_2 : ByteArray) (a1_0 : Bool) (a1_1 : Int) (a1_2 : ByteArray) (a2_0 : Bool) (a2_1 : Int) (a2_2 : ByteArray) (r1 : Bool) (r2 : Int) (r3 : ByteArray) (w : World) (hT : Tabs w) (h : value_val_hash.f k a0_0 a0_1 a0_2 a1_0 a1_1 a1_2 a2_0 a2_1 a2_2 = some (r1, r2, r3)) :
  Calls Tryz.prog 92 #[.agg #[.bool a0_0, .int .i64 a0_1, .string a0_2], .agg #[.bool a1_0, .int .i64 a1_1, .string a1_2], .agg #[.bool a2_0, .int .i64 a2_1, .string a2_2]] w fun e w' => e = .returned (.agg #[.bool r1, .int .i64 r2, .string r3]) ∧ Below w.heap.size w w' := by
 have hu137 := Tryz.underlying137
 have hu24 := Tryz.underlying24
 have HB := xy (Below.refl w.heap.size w)
 unfold value_val_hash.f at h
 have H := h
 clear h
 replace H := xj H
 obtain ⟨t359, A40, H⟩ := H
 try dsimp only at H
 have A4 := xy A40
 clear A40
 replace H := xj H
 obtain ⟨⟨t360, t361, t362⟩, A50, H⟩ := H
 try dsimp only at H
 have A5 := xy A50
 clear A50
 simp only [Option.some.injEq, Prod.mk.injEq] at H
 obtain ⟨rfl, rfl, rfl⟩ := H
 go_enter Tryz.func92, Tryz.ntmps92
 go_wp2_with (first | ((with_reducible refine gate_dst (N := 3) rfl ?_); refine xq (N := 3) (cs := #[.bool a0_0, .int .i64 a0_1, .string a0_2]) (t := 137) ?_; intro gb355 hg w6 hbox hb; have BK355 := xy (hbox); have GW355 := xs w hg; have GE355 := xs w hg; replace HB := xy (below_step xb hb); clear hb hbox hg) | ((with_reducible refine gate_dst (N := 4) rfl ?_); refine xq (N := 4) (cs := #[.bool a1_0, .int .i64 a1_1, .string a1_2]) (t := 137) ?_; intro gb356 hg w7 hbox hb; have BK356 := xy (hbox); have GW356 := xs w hg; have GE356 := xs w hg; replace HB := xy (below_step xb hb); have NB355_356 := xn hg BK355.out; have NB356_355 := xp hg BK355.out; replace BK355 := xd BK355.out hb; clear hb hbox hg) | ((with_reducible refine gate_dst (N := 5) rfl ?_); refine xq (N := 5) (cs := #[.bool a2_0, .int .i64 a2_1, .string a2_2]) (t := 137) ?_; intro gb357 hg w8 hbox hb; have BK357 := xy (hbox); have GW357 := xs w hg; have GE357 := xs w hg; replace HB := xy (below_step xb hb); have NB355_357 := xn hg BK355.out; have NB357_355 := xp hg BK355.out; replace BK355 := xd BK355.out hb; have NB356_357 := xn hg BK356.out; have NB357_356 := xp hg BK356.out; replace BK356 := xd BK356.out hb; clear hb hbox hg) | ((with_reducible refine gate_dst (N := 6) rfl ?_); refine xq (N := 6) (cs := #[.bool false, .int .i64 0, .string (⟨#[]⟩ : ByteArray)]) (t := 24) ?_; intro gb358 hg w9 hbox hb; have BK358 := xy (hbox); have GW358 := xs w hg; have GE358 := xs w hg; replace HB := xy (below_step xb hb); have NB355_358 := xn hg BK355.out; have NB358_355 := xp hg BK355.out; replace BK355 := xd BK355.out hb; have NB356_358 := xn hg BK356.out; have NB358_356 := xp hg BK356.out; replace BK356 := xd BK356.out hb; have NB357_358 := xn hg BK357.out; have NB358_357 := xp hg BK357.out; replace BK357 := xd BK357.out hb; clear hb hbox hg; have hnb10 := NB355_356.out; have hnc10 := NB356_355.out; have hnb11 := NB355_357.out; have hnc11 := NB357_355.out; have hnb12 := NB355_358.out; have hnc12 := NB358_355.out; obtain ⟨hcz13_0, hcz13_1, hcz13_2⟩ := kt3 BK355.out; obtain ⟨hfz13_0, hfz13_1, hfz13_2⟩ := kz3 BK355.out) | ((with_reducible refine gate_callee (f := 26) rfl ?_); refine goesL_ (some 9) rfl rfl Tryz.func26 (by kernel_rfl) rfl #[.string a0_2] rfl xr ?_; (with_reducible refine (value_Hash.calls k a0_2 t359 _ (Tabs.below hT xf) A4.out).mono ?_); rintro e w' ⟨rfl, ⟨nd, rfl⟩⟩; refine ⟨_, rfl, ?_⟩; (try (rw [drewN_self w9]; generalize hq_ : World.drewN w9 _ = w9; have n0_ : Aside0 (w9.heap[gb355]? = some (.cells #[.bool a0_0, .int .i64 a0_1, .string a0_2] 137 (0, 0))) := ⟨by rw [← hq_]; exact (xk BK355.out)⟩; have n1_ : Aside0 (w9.heap[gb356]? = some (.cells #[.bool a1_0, .int .i64 a1_1, .string a1_2] 137 (0, 0))) := ⟨by rw [← hq_]; exact (xk BK356.out)⟩; have n2_ : Aside0 (w9.heap[gb357]? = some (.cells #[.bool a2_0, .int .i64 a2_1, .string a2_2] 137 (0, 0))) := ⟨by rw [← hq_]; exact (xk BK357.out)⟩; have n3_ : Aside0 (w9.heap[gb358]? = some (.cells #[.bool false, .int .i64 0, .string (⟨#[]⟩ : ByteArray)] 24 (0, 0))) := ⟨by rw [← hq_]; exact (xk BK358.out)⟩; have n4_ : Aside0 (Below w.heap.size w w9) := ⟨by rw [← hq_]; exact xb⟩; clear BK355 BK356 BK357 BK358 HB hq_; have BK355 := n0_; have BK356 := n1_; have BK357 := n2_; have BK358 := n3_; have HB := n4_; clear n0_ n1_ n2_ n3_ n4_))) | ((with_reducible refine gate_callee (f := 31) rfl ?_); refine goesL_ (some 10) rfl rfl Tryz.func31 (by kernel_rfl) rfl #[.int .i64 t359] rfl xr ?_; (with_reducible refine (value_Num.calls t359 t360 t361 t362 _ (Tabs.below hT xf) A5.out).mono ?_); rintro e w14 ⟨rfl, hb⟩; refine ⟨_, rfl, ?_⟩; replace BK355 := xd BK355.out hb; replace BK356 := xd BK356.out hb; replace BK357 := xd BK357.out hb; replace BK358 := xd BK358.out hb; replace HB := xy (below_step xb hb); (try clear hb); (try clear hb2); (try clear hk); (try clear hi); have hnb15 := NB358_356.out; have hnc15 := NB356_358.out; have hnb16 := NB358_357.out; have hnc16 := NB357_358.out; obtain ⟨hcz17_0, hcz17_1, hcz17_2⟩ := kt3 BK358.out; obtain ⟨hfz17_0, hfz17_1, hfz17_2⟩ := kz3 BK358.out))
 refine bodyPost_ret (results_cell_row rfl _ _ gb358 24 #[.bool t360, .int .i64 t361, .string t362] (0, 0) _ rfl (kp BK358.out) Tryz.underlying24 rfl (by kernel_rfl)) rfl ?_
 exact ⟨xe, xb⟩
def strings_Index.f (a0 : ByteArray) (a1 : ByteArray) : Option (Int) := if a0.size < 4294967281 then some (Lib.index a0.data.toList a1.data.toList) else none
theorem strings_Index.calls (a0 : ByteArray) (a1 : ByteArray) (r : Int) (w : World) (hT : Tabs w) (h : strings_Index.f a0 a1 = some r) :
  Calls Tryz.prog 101 #[.string a0, .string a1] w fun e w' => e = .returned (.int .i64 r) ∧ Drawn0 w w' := by
 unfold strings_Index.f at h
 split at h
 ·obtain rfl := Option.some.inj h
  obtain ⟨m, hm⟩ := hT.maxlen
  refine (Any.strings_Index { Tryz.laysM143 with } a0 a1 m w (by assumption) hm).mono ?_
  rintro e w' ⟨rfl, rfl⟩
  exact ⟨rfl, Drawn0.refl _⟩
 ·cases h
def value_val_find.f (a0_0 : Bool) (a0_1 : Int) (a0_2 : ByteArray) (a1_0 : Bool) (a1_1 : Int) (a1_2 : ByteArray) (a2_0 : Bool) (a2_1 : Int) (a2_2 : ByteArray) : Option (Bool × Int × ByteArray) := (strings_Index.f a0_2 a1_2).bind fun t367 => ((value_Num.f t367).bind fun bt368 => (some (bt368.1, bt368.2.1, bt368.2.2)))
set_option maxHeartbeats 8000000 in
set_option maxRecDepth 100000 in
theorem value_val_find.calls (a0_0 : Bool) (a0_1 : Int) (a0_2 : ByteArray) (a1_0 : Bool) (a1_1 : Int) (a1_2 : ByteArray) (a2_0 : Bool) (a2_1 : Int) (a2_2 : ByteArray) (r1 : Bool) (r2 : Int) (r3 : ByteArray) (w : World) (hT : Tabs w) (h : value_val_find.f a0_0 a0_1 a0_2 a1_0 a1_1 a1_2 a2_0 a2_1 a2_2 = some (r1, r2, r3)) :
  Calls Tryz.prog 93 #[.agg #[.bool a0_0, .int .i64 a0_1, .string a0_2], .agg #[.bool a1_0, .int .i64 a1_1, .string a1_2], .agg #[.bool a2_0, .int .i64 a2_1, .string a2_2]] w fun e w' => e = .returned (.agg #[.bool r1, .int .i64 r2, .string r3]) ∧ Below w.heap.size w w' := by
 have hu137 := Tryz.underlying137
 have hu24 := Tryz.underlying24
 have HB := xy (Below.refl w.heap.size w)
 unfold value_val_find.f at h
 have H := h
 clear h
 replace H := xj H
 obtain ⟨t367, A40, H⟩ := H
 try dsimp only at H
 have A4 := xy A40
 clear A40
 replace H := xj H
 obtain ⟨⟨t368, t369, t370⟩, A50, H⟩ := H
 try dsimp only at H
 have A5 := xy A50
 clear A50
 simp only [Option.some.injEq, Prod.mk.injEq] at H
 obtain ⟨rfl, rfl, rfl⟩ := H
 go_enter Tryz.func93, Tryz.ntmps93
 go_wp2_with (first | ((with_reducible refine gate_dst (N := 3) rfl ?_); refine xq (N := 3) (cs := #[.bool a0_0, .int .i64 a0_1, .string a0_2]) (t := 137) ?_; intro gb363 hg w6 hbox hb; have BK363 := xy (hbox); have GW363 := xs w hg; have GE363 := xs w hg; replace HB := xy (below_step xb hb); clear hb hbox hg) | ((with_reducible refine gate_dst (N := 4) rfl ?_); refine xq (N := 4) (cs := #[.bool a1_0, .int .i64 a1_1, .string a1_2]) (t := 137) ?_; intro gb364 hg w7 hbox hb; have BK364 := xy (hbox); have GW364 := xs w hg; have GE364 := xs w hg; replace HB := xy (below_step xb hb); have NB363_364 := xn hg BK363.out; have NB364_363 := xp hg BK363.out; replace BK363 := xd BK363.out hb; clear hb hbox hg) | ((with_reducible refine gate_dst (N := 5) rfl ?_); refine xq (N := 5) (cs := #[.bool a2_0, .int .i64 a2_1, .string a2_2]) (t := 137) ?_; intro gb365 hg w8 hbox hb; have BK365 := xy (hbox); have GW365 := xs w hg; have GE365 := xs w hg; replace HB := xy (below_step xb hb); have NB363_365 := xn hg BK363.out; have NB365_363 := xp hg BK363.out; replace BK363 := xd BK363.out hb; have NB364_365 := xn hg BK364.out; have NB365_364 := xp hg BK364.out; replace BK364 := xd BK364.out hb; clear hb hbox hg) | ((with_reducible refine gate_dst (N := 6) rfl ?_); refine xq (N := 6) (cs := #[.bool false, .int .i64 0, .string (⟨#[]⟩ : ByteArray)]) (t := 24) ?_; intro gb366 hg w9 hbox hb; have BK366 := xy (hbox); have GW366 := xs w hg; have GE366 := xs w hg; replace HB := xy (below_step xb hb); have NB363_366 := xn hg BK363.out; have NB366_363 := xp hg BK363.out; replace BK363 := xd BK363.out hb; have NB364_366 := xn hg BK364.out; have NB366_364 := xp hg BK364.out; replace BK364 := xd BK364.out hb; have NB365_366 := xn hg BK365.out; have NB366_365 := xp hg BK365.out; replace BK365 := xd BK365.out hb; clear hb hbox hg; have hnb10 := NB363_364.out; have hnc10 := NB364_363.out; have hnb11 := NB363_365.out; have hnc11 := NB365_363.out; have hnb12 := NB363_366.out; have hnc12 := NB366_363.out; obtain ⟨hcz13_0, hcz13_1, hcz13_2⟩ := kt3 BK363.out; obtain ⟨hfz13_0, hfz13_1, hfz13_2⟩ := kz3 BK363.out; have hnb14 := NB364_365.out; have hnc14 := NB365_364.out; have hnb15 := NB364_366.out; have hnc15 := NB366_364.out; obtain ⟨hcz16_0, hcz16_1, hcz16_2⟩ := kt3 BK364.out; obtain ⟨hfz16_0, hfz16_1, hfz16_2⟩ := kz3 BK364.out) | ((with_reducible refine gate_callee (f := 101) rfl ?_); refine goesL_ (some 11) rfl rfl Tryz.func101 (by kernel_rfl) rfl #[.string a0_2, .string a1_2] rfl xr ?_; (with_reducible refine (strings_Index.calls a0_2 a1_2 t367 _ (Tabs.below hT xf) A4.out).mono ?_); rintro e w' ⟨rfl, ⟨nd, rfl⟩⟩; refine ⟨_, rfl, ?_⟩; (try (rw [drewN_self w9]; generalize hq_ : World.drewN w9 _ = w9; have n0_ : Aside0 (w9.heap[gb363]? = some (.cells #[.bool a0_0, .int .i64 a0_1, .string a0_2] 137 (0, 0))) := ⟨by rw [← hq_]; exact (xk BK363.out)⟩; have n1_ : Aside0 (w9.heap[gb364]? = some (.cells #[.bool a1_0, .int .i64 a1_1, .string a1_2] 137 (0, 0))) := ⟨by rw [← hq_]; exact (xk BK364.out)⟩; have n2_ : Aside0 (w9.heap[gb365]? = some (.cells #[.bool a2_0, .int .i64 a2_1, .string a2_2] 137 (0, 0))) := ⟨by rw [← hq_]; exact (xk BK365.out)⟩; have n3_ : Aside0 (w9.heap[gb366]? = some (.cells #[.bool false, .int .i64 0, .string (⟨#[]⟩ : ByteArray)] 24 (0, 0))) := ⟨by rw [← hq_]; exact (xk BK366.out)⟩; have n4_ : Aside0 (Below w.heap.size w w9) := ⟨by rw [← hq_]; exact xb⟩; clear BK363 BK364 BK365 BK366 HB hq_; have BK363 := n0_; have BK364 := n1_; have BK365 := n2_; have BK366 := n3_; have HB := n4_; clear n0_ n1_ n2_ n3_ n4_))) | ((with_reducible refine gate_callee (f := 31) rfl ?_); refine goesL_ (some 12) rfl rfl Tryz.func31 (by kernel_rfl) rfl #[.int .i64 t367] rfl xr ?_; (with_reducible refine (value_Num.calls t367 t368 t369 t370 _ (Tabs.below hT xf) A5.out).mono ?_); rintro e w17 ⟨rfl, hb⟩; refine ⟨_, rfl, ?_⟩; replace BK363 := xd BK363.out hb; replace BK364 := xd BK364.out hb; replace BK365 := xd BK365.out hb; replace BK366 := xd BK366.out hb; replace HB := xy (below_step xb hb); (try clear hb); (try clear hb2); (try clear hk); (try clear hi); have hnb18 := NB366_365.out; have hnc18 := NB365_366.out; obtain ⟨hcz19_0, hcz19_1, hcz19_2⟩ := kt3 BK366.out; obtain ⟨hfz19_0, hfz19_1, hfz19_2⟩ := kz3 BK366.out))
 refine bodyPost_ret (results_cell_row rfl _ _ gb366 24 #[.bool t368, .int .i64 t369, .string t370] (0, 0) _ rfl (kp BK366.out) Tryz.underlying24 rfl (by kernel_rfl)) rfl ?_
 exact ⟨xe, xb⟩
def value_isVal.f (a0_0 : Bool) (a0_1 : Int) (a0_2 : ByteArray) : Option (Bool) := if a0_0 = true then (if a0_1 = 0 then (some (decide ((a0_2.size : Int) ≤ 1000))) else (some false)) else (some (a0_2.toList == ([] : List UInt8)))
set_option maxHeartbeats 8000000 in
set_option maxRecDepth 100000 in
theorem value_isVal.calls (a0_0 : Bool) (a0_1 : Int) (a0_2 : ByteArray) (r : Bool) (w : World) (hT : Tabs w) (h : value_isVal.f a0_0 a0_1 a0_2 = some r) :
  Calls Tryz.prog 94 #[.agg #[.bool a0_0, .int .i64 a0_1, .string a0_2]] w fun e w' => e = .returned (.bool r) ∧ Below w.heap.size w w' := by
 have hu24 := Tryz.underlying24
 have HB := xy (Below.refl w.heap.size w)
 unfold value_isVal.f at h
 have H := h
 clear h
 by_cases c2 : a0_0 = true
 ·subst c2
  rw [if_pos rfl] at H
  by_cases c3 : a0_1 = 0
  ·rw [if_pos c3] at H
   have c3b0 : (a0_1 == 0) = true := beq_iff_eq.mpr c3
   have c3b1 : (a0_1 != 0) = false := bne_eq_false_iff_eq.mpr c3
   clear c3
   obtain rfl := Option.some.inj H
   go_enter Tryz.func94, Tryz.ntmps94
   go_wp2_with (((with_reducible refine gate_dst (N := 1) rfl ?_); (try (refine gate_guard (by rfl) ?_; dsimp only)); refine xq (N := 1) (cs := #[.bool true, .int .i64 a0_1, .string a0_2]) (t := 24) ?_; intro gb371 hg w4 hbox hb; have BK371 := xy (hbox); have GW371 := xs w hg; have GE371 := xs w hg; replace HB := xy (below_step xb hb); clear hb hbox hg; obtain ⟨hcz5_0, hcz5_1, hcz5_2⟩ := kt3 BK371.out))
   go_ret
   exact ⟨xe, xb⟩
  ·rw [if_neg c3] at H
   have c3b0 : (a0_1 == 0) = false := beq_eq_false_iff_ne.mpr c3
   have c3b1 : (a0_1 != 0) = true := bne_iff_ne.mpr c3
   obtain rfl := Option.some.inj H
   go_enter Tryz.func94, Tryz.ntmps94
   go_wp2_with (((with_reducible refine gate_dst (N := 1) rfl ?_); (try (refine gate_guard (by rfl) ?_; dsimp only)); refine xq (N := 1) (cs := #[.bool true, .int .i64 a0_1, .string a0_2]) (t := 24) ?_; intro gb371 hg w6 hbox hb; have BK371 := xy (hbox); have GW371 := xs w hg; have GE371 := xs w hg; replace HB := xy (below_step xb hb); clear hb hbox hg; obtain ⟨hcz7_0, hcz7_1, hcz7_2⟩ := kt3 BK371.out))
   go_ret
   exact ⟨xe, xb⟩
 ·replace c2 := Bool.eq_false_iff.mpr c2
  subst c2
  rw [if_neg (show ¬ (false = true) by decide)] at H
  obtain rfl := Option.some.inj H
  go_enter Tryz.func94, Tryz.ntmps94
  go_wp2_with (((with_reducible refine gate_dst (N := 1) rfl ?_); (try (refine gate_guard (by rfl) ?_; dsimp only)); refine xq (N := 1) (cs := #[.bool false, .int .i64 a0_1, .string a0_2]) (t := 24) ?_; intro gb371 hg w8 hbox hb; have BK371 := xy (hbox); have GW371 := xs w hg; have GE371 := xs w hg; replace HB := xy (below_step xb hb); clear hb hbox hg; obtain ⟨hcz9_0, hcz9_1, hcz9_2⟩ := kt3 BK371.out))
  go_ret
  exact ⟨xe, xb⟩
def value_Do.D (k : Nat) (f : Nat) (x y z : XOps.Sv) : Option XOps.Sv :=
 if f = 76 then (value_val_add.f x.f0 x.f1 x.f2 y.f0 y.f1 y.f2 z.f0 z.f1 z.f2).map fun p => ⟨p.1, p.2.1, p.2.2⟩ else
 if f = 77 then (value_val_sub.f x.f0 x.f1 x.f2 y.f0 y.f1 y.f2 z.f0 z.f1 z.f2).map fun p => ⟨p.1, p.2.1, p.2.2⟩ else
 if f = 78 then (value_val_mul.f x.f0 x.f1 x.f2 y.f0 y.f1 y.f2 z.f0 z.f1 z.f2).map fun p => ⟨p.1, p.2.1, p.2.2⟩ else
 if f = 79 then (value_val_div.f x.f0 x.f1 x.f2 y.f0 y.f1 y.f2 z.f0 z.f1 z.f2).map fun p => ⟨p.1, p.2.1, p.2.2⟩ else
 if f = 80 then (value_val_mod.f x.f0 x.f1 x.f2 y.f0 y.f1 y.f2 z.f0 z.f1 z.f2).map fun p => ⟨p.1, p.2.1, p.2.2⟩ else
 if f = 81 then (value_val_join.f x.f0 x.f1 x.f2 y.f0 y.f1 y.f2 z.f0 z.f1 z.f2).map fun p => ⟨p.1, p.2.1, p.2.2⟩ else
 if f = 82 then (value_val_long.f x.f0 x.f1 x.f2 y.f0 y.f1 y.f2 z.f0 z.f1 z.f2).map fun p => ⟨p.1, p.2.1, p.2.2⟩ else
 if f = 83 then (value_val_slice.f x.f0 x.f1 x.f2 y.f0 y.f1 y.f2 z.f0 z.f1 z.f2).map fun p => ⟨p.1, p.2.1, p.2.2⟩ else
 if f = 84 then (value_val_upper.f x.f0 x.f1 x.f2 y.f0 y.f1 y.f2 z.f0 z.f1 z.f2).map fun p => ⟨p.1, p.2.1, p.2.2⟩ else
 if f = 85 then (value_val_lower.f x.f0 x.f1 x.f2 y.f0 y.f1 y.f2 z.f0 z.f1 z.f2).map fun p => ⟨p.1, p.2.1, p.2.2⟩ else
 if f = 86 then (value_val_eq.f k x.f0 x.f1 x.f2 y.f0 y.f1 y.f2 z.f0 z.f1 z.f2).map fun p => ⟨p.1, p.2.1, p.2.2⟩ else
 if f = 87 then (value_val_less.f k x.f0 x.f1 x.f2 y.f0 y.f1 y.f2 z.f0 z.f1 z.f2).map fun p => ⟨p.1, p.2.1, p.2.2⟩ else
 if f = 88 then (value_val_not.f x.f0 x.f1 x.f2 y.f0 y.f1 y.f2 z.f0 z.f1 z.f2).map fun p => ⟨p.1, p.2.1, p.2.2⟩ else
 if f = 89 then (value_val_choose.f x.f0 x.f1 x.f2 y.f0 y.f1 y.f2 z.f0 z.f1 z.f2).map fun p => ⟨p.1, p.2.1, p.2.2⟩ else
 if f = 90 then (value_val_number.f k x.f0 x.f1 x.f2 y.f0 y.f1 y.f2 z.f0 z.f1 z.f2).map fun p => ⟨p.1, p.2.1, p.2.2⟩ else
 if f = 91 then (value_val_text.f x.f0 x.f1 x.f2 y.f0 y.f1 y.f2 z.f0 z.f1 z.f2).map fun p => ⟨p.1, p.2.1, p.2.2⟩ else
 if f = 92 then (value_val_hash.f k x.f0 x.f1 x.f2 y.f0 y.f1 y.f2 z.f0 z.f1 z.f2).map fun p => ⟨p.1, p.2.1, p.2.2⟩ else
 if f = 93 then (value_val_find.f x.f0 x.f1 x.f2 y.f0 y.f1 y.f2 z.f0 z.f1 z.f2).map fun p => ⟨p.1, p.2.1, p.2.2⟩ else
 none
theorem value_Do.D_mono (k : Nat) (f : Nat) (x y z r : XOps.Sv) (h : value_Do.D k f x y z = some r) : value_Do.D (k + 1) f x y z = some r := by
 unfold value_Do.D at h ⊢
 by_cases e : f = 76
 ·subst e
  rw [if_pos rfl] at h ⊢
  obtain ⟨p, h1, h2⟩ := Option.map_eq_some_iff.1 h
  exact Option.map_eq_some_iff.2 ⟨p, h1, h2⟩
 rw [if_neg e] at h ⊢
 clear e
 by_cases e : f = 77
 ·subst e
  rw [if_pos rfl] at h ⊢
  obtain ⟨p, h1, h2⟩ := Option.map_eq_some_iff.1 h
  exact Option.map_eq_some_iff.2 ⟨p, h1, h2⟩
 rw [if_neg e] at h ⊢
 clear e
 by_cases e : f = 78
 ·subst e
  rw [if_pos rfl] at h ⊢
  obtain ⟨p, h1, h2⟩ := Option.map_eq_some_iff.1 h
  exact Option.map_eq_some_iff.2 ⟨p, h1, h2⟩
 rw [if_neg e] at h ⊢
 clear e
 by_cases e : f = 79
 ·subst e
  rw [if_pos rfl] at h ⊢
  obtain ⟨p, h1, h2⟩ := Option.map_eq_some_iff.1 h
  exact Option.map_eq_some_iff.2 ⟨p, h1, h2⟩
 rw [if_neg e] at h ⊢
 clear e
 by_cases e : f = 80
 ·subst e
  rw [if_pos rfl] at h ⊢
  obtain ⟨p, h1, h2⟩ := Option.map_eq_some_iff.1 h
  exact Option.map_eq_some_iff.2 ⟨p, h1, h2⟩
 rw [if_neg e] at h ⊢
 clear e
 by_cases e : f = 81
 ·subst e
  rw [if_pos rfl] at h ⊢
  obtain ⟨p, h1, h2⟩ := Option.map_eq_some_iff.1 h
  exact Option.map_eq_some_iff.2 ⟨p, h1, h2⟩
 rw [if_neg e] at h ⊢
 clear e
 by_cases e : f = 82
 ·subst e
  rw [if_pos rfl] at h ⊢
  obtain ⟨p, h1, h2⟩ := Option.map_eq_some_iff.1 h
  exact Option.map_eq_some_iff.2 ⟨p, h1, h2⟩
 rw [if_neg e] at h ⊢
 clear e
 by_cases e : f = 83
 ·subst e
  rw [if_pos rfl] at h ⊢
  obtain ⟨p, h1, h2⟩ := Option.map_eq_some_iff.1 h
  exact Option.map_eq_some_iff.2 ⟨p, h1, h2⟩
 rw [if_neg e] at h ⊢
 clear e
 by_cases e : f = 84
 ·subst e
  rw [if_pos rfl] at h ⊢
  obtain ⟨p, h1, h2⟩ := Option.map_eq_some_iff.1 h
  exact Option.map_eq_some_iff.2 ⟨p, h1, h2⟩
 rw [if_neg e] at h ⊢
 clear e
 by_cases e : f = 85
 ·subst e
  rw [if_pos rfl] at h ⊢
  obtain ⟨p, h1, h2⟩ := Option.map_eq_some_iff.1 h
  exact Option.map_eq_some_iff.2 ⟨p, h1, h2⟩
 rw [if_neg e] at h ⊢
 clear e
 by_cases e : f = 86
 ·subst e
  rw [if_pos rfl] at h ⊢
  obtain ⟨p, h1, h2⟩ := Option.map_eq_some_iff.1 h
  exact Option.map_eq_some_iff.2 ⟨p, value_val_eq.mono _ _ _ _ _ _ _ _ _ k _ h1, h2⟩
 rw [if_neg e] at h ⊢
 clear e
 by_cases e : f = 87
 ·subst e
  rw [if_pos rfl] at h ⊢
  obtain ⟨p, h1, h2⟩ := Option.map_eq_some_iff.1 h
  exact Option.map_eq_some_iff.2 ⟨p, value_val_less.mono _ _ _ _ _ _ _ _ _ k _ h1, h2⟩
 rw [if_neg e] at h ⊢
 clear e
 by_cases e : f = 88
 ·subst e
  rw [if_pos rfl] at h ⊢
  obtain ⟨p, h1, h2⟩ := Option.map_eq_some_iff.1 h
  exact Option.map_eq_some_iff.2 ⟨p, h1, h2⟩
 rw [if_neg e] at h ⊢
 clear e
 by_cases e : f = 89
 ·subst e
  rw [if_pos rfl] at h ⊢
  obtain ⟨p, h1, h2⟩ := Option.map_eq_some_iff.1 h
  exact Option.map_eq_some_iff.2 ⟨p, h1, h2⟩
 rw [if_neg e] at h ⊢
 clear e
 by_cases e : f = 90
 ·subst e
  rw [if_pos rfl] at h ⊢
  obtain ⟨p, h1, h2⟩ := Option.map_eq_some_iff.1 h
  exact Option.map_eq_some_iff.2 ⟨p, value_val_number.mono _ _ _ _ _ _ _ _ _ k _ h1, h2⟩
 rw [if_neg e] at h ⊢
 clear e
 by_cases e : f = 91
 ·subst e
  rw [if_pos rfl] at h ⊢
  obtain ⟨p, h1, h2⟩ := Option.map_eq_some_iff.1 h
  exact Option.map_eq_some_iff.2 ⟨p, h1, h2⟩
 rw [if_neg e] at h ⊢
 clear e
 by_cases e : f = 92
 ·subst e
  rw [if_pos rfl] at h ⊢
  obtain ⟨p, h1, h2⟩ := Option.map_eq_some_iff.1 h
  exact Option.map_eq_some_iff.2 ⟨p, value_val_hash.mono _ _ _ _ _ _ _ _ _ k _ h1, h2⟩
 rw [if_neg e] at h ⊢
 clear e
 by_cases e : f = 93
 ·subst e
  rw [if_pos rfl] at h ⊢
  obtain ⟨p, h1, h2⟩ := Option.map_eq_some_iff.1 h
  exact Option.map_eq_some_iff.2 ⟨p, h1, h2⟩
 rw [if_neg e] at h ⊢
 clear e
 cases h
theorem value_Do.D_calls (k : Nat) (f : Nat) (x y z r : XOps.Sv) (w : World) (hT : Tabs w) (h : value_Do.D k f x y z = some r) : Calls Tryz.prog f #[XOps.enV x, XOps.enV y, XOps.enV z] w fun e w' => e = .returned (XOps.enV r) ∧ Below w.heap.size w w' := by
 unfold value_Do.D at h
 by_cases e : f = 76
 ·subst e
  rw [if_pos rfl] at h
  obtain ⟨⟨p1, p2, p3⟩, h1, rfl⟩ := Option.map_eq_some_iff.1 h
  exact value_val_add.calls _ _ _ _ _ _ _ _ _ _ _ _ w hT h1
 rw [if_neg e] at h
 clear e
 by_cases e : f = 77
 ·subst e
  rw [if_pos rfl] at h
  obtain ⟨⟨p1, p2, p3⟩, h1, rfl⟩ := Option.map_eq_some_iff.1 h
  exact value_val_sub.calls _ _ _ _ _ _ _ _ _ _ _ _ w hT h1
 rw [if_neg e] at h
 clear e
 by_cases e : f = 78
 ·subst e
  rw [if_pos rfl] at h
  obtain ⟨⟨p1, p2, p3⟩, h1, rfl⟩ := Option.map_eq_some_iff.1 h
  exact value_val_mul.calls _ _ _ _ _ _ _ _ _ _ _ _ w hT h1
 rw [if_neg e] at h
 clear e
 by_cases e : f = 79
 ·subst e
  rw [if_pos rfl] at h
  obtain ⟨⟨p1, p2, p3⟩, h1, rfl⟩ := Option.map_eq_some_iff.1 h
  exact value_val_div.calls _ _ _ _ _ _ _ _ _ _ _ _ w hT h1
 rw [if_neg e] at h
 clear e
 by_cases e : f = 80
 ·subst e
  rw [if_pos rfl] at h
  obtain ⟨⟨p1, p2, p3⟩, h1, rfl⟩ := Option.map_eq_some_iff.1 h
  exact value_val_mod.calls _ _ _ _ _ _ _ _ _ _ _ _ w hT h1
 rw [if_neg e] at h
 clear e
 by_cases e : f = 81
 ·subst e
  rw [if_pos rfl] at h
  obtain ⟨⟨p1, p2, p3⟩, h1, rfl⟩ := Option.map_eq_some_iff.1 h
  exact value_val_join.calls _ _ _ _ _ _ _ _ _ _ _ _ w hT h1
 rw [if_neg e] at h
 clear e
 by_cases e : f = 82
 ·subst e
  rw [if_pos rfl] at h
  obtain ⟨⟨p1, p2, p3⟩, h1, rfl⟩ := Option.map_eq_some_iff.1 h
  exact value_val_long.calls _ _ _ _ _ _ _ _ _ _ _ _ w hT h1
 rw [if_neg e] at h
 clear e
 by_cases e : f = 83
 ·subst e
  rw [if_pos rfl] at h
  obtain ⟨⟨p1, p2, p3⟩, h1, rfl⟩ := Option.map_eq_some_iff.1 h
  exact value_val_slice.calls _ _ _ _ _ _ _ _ _ _ _ _ w hT h1
 rw [if_neg e] at h
 clear e
 by_cases e : f = 84
 ·subst e
  rw [if_pos rfl] at h
  obtain ⟨⟨p1, p2, p3⟩, h1, rfl⟩ := Option.map_eq_some_iff.1 h
  exact value_val_upper.calls _ _ _ _ _ _ _ _ _ _ _ _ w hT h1
 rw [if_neg e] at h
 clear e
 by_cases e : f = 85
 ·subst e
  rw [if_pos rfl] at h
  obtain ⟨⟨p1, p2, p3⟩, h1, rfl⟩ := Option.map_eq_some_iff.1 h
  exact value_val_lower.calls _ _ _ _ _ _ _ _ _ _ _ _ w hT h1
 rw [if_neg e] at h
 clear e
 by_cases e : f = 86
 ·subst e
  rw [if_pos rfl] at h
  obtain ⟨⟨p1, p2, p3⟩, h1, rfl⟩ := Option.map_eq_some_iff.1 h
  exact value_val_eq.calls k _ _ _ _ _ _ _ _ _ _ _ _ w hT h1
 rw [if_neg e] at h
 clear e
 by_cases e : f = 87
 ·subst e
  rw [if_pos rfl] at h
  obtain ⟨⟨p1, p2, p3⟩, h1, rfl⟩ := Option.map_eq_some_iff.1 h
  exact value_val_less.calls k _ _ _ _ _ _ _ _ _ _ _ _ w hT h1
 rw [if_neg e] at h
 clear e
 by_cases e : f = 88
 ·subst e
  rw [if_pos rfl] at h
  obtain ⟨⟨p1, p2, p3⟩, h1, rfl⟩ := Option.map_eq_some_iff.1 h
  exact value_val_not.calls _ _ _ _ _ _ _ _ _ _ _ _ w hT h1
 rw [if_neg e] at h
 clear e
 by_cases e : f = 89
 ·subst e
  rw [if_pos rfl] at h
  obtain ⟨⟨p1, p2, p3⟩, h1, rfl⟩ := Option.map_eq_some_iff.1 h
  exact value_val_choose.calls _ _ _ _ _ _ _ _ _ _ _ _ w hT h1
 rw [if_neg e] at h
 clear e
 by_cases e : f = 90
 ·subst e
  rw [if_pos rfl] at h
  obtain ⟨⟨p1, p2, p3⟩, h1, rfl⟩ := Option.map_eq_some_iff.1 h
  exact value_val_number.calls k _ _ _ _ _ _ _ _ _ _ _ _ w hT h1
 rw [if_neg e] at h
 clear e
 by_cases e : f = 91
 ·subst e
  rw [if_pos rfl] at h
  obtain ⟨⟨p1, p2, p3⟩, h1, rfl⟩ := Option.map_eq_some_iff.1 h
  exact value_val_text.calls _ _ _ _ _ _ _ _ _ _ _ _ w hT h1
 rw [if_neg e] at h
 clear e
 by_cases e : f = 92
 ·subst e
  rw [if_pos rfl] at h
  obtain ⟨⟨p1, p2, p3⟩, h1, rfl⟩ := Option.map_eq_some_iff.1 h
  exact value_val_hash.calls k _ _ _ _ _ _ _ _ _ _ _ _ w hT h1
 rw [if_neg e] at h
 clear e
 by_cases e : f = 93
 ·subst e
  rw [if_pos rfl] at h
  obtain ⟨⟨p1, p2, p3⟩, h1, rfl⟩ := Option.map_eq_some_iff.1 h
  exact value_val_find.calls _ _ _ _ _ _ _ _ _ _ _ _ w hT h1
 rw [if_neg e] at h
 clear e
 cases h
theorem value_Do.isVal (x : XOps.Sv) (w : World) (hT : Tabs w) : Calls Tryz.prog 94 #[XOps.enV x] w fun e w' => e = .returned (.bool (XOps.isValB x)) ∧ Below w.heap.size w w' := by
 refine value_isVal.calls x.f0 x.f1 x.f2 (XOps.isValB x) w hT ?_
 unfold value_isVal.f XOps.isValB
 by_cases h1 : x.f0 = true
 ·rw [if_pos h1, if_pos h1]
  by_cases h2 : x.f1 = 0
  ·rw [if_pos h2, decide_eq_true h2, Bool.true_and]
  ·rw [if_neg h2, decide_eq_false h2, Bool.false_and]
 ·rw [if_neg h1, if_neg h1]
def value_Do.f (k : Nat) (a0 : Int) (l1 : List (S24)) : Option (Bool × Int × ByteArray × Int) := if l1.length ≤ 1000000 then (XOps.doF (value_Do.D k) a0 l1).map fun p => (p.1.f0, p.1.f1, p.1.f2, p.2) else none
theorem value_Do.mono : ∀ a0 a1 k, LeO (value_Do.f k a0 a1) (value_Do.f (k + 1) a0 a1) := by
 intro a0 a1 k r h
 unfold value_Do.f at h ⊢
 by_cases hl : a1.length ≤ 1000000
 ·rw [if_pos hl] at h ⊢
  obtain ⟨p, h1, h2⟩ := Option.map_eq_some_iff.1 h
  exact Option.map_eq_some_iff.2 ⟨p, XOps.doF_mono (value_Do.D_mono k) h1, h2⟩
 ·rw [if_neg hl] at h
  cases h
theorem value_Do.calls (k : Nat) (a0 : Int) (A1 : Option Addr) (c1 : Nat) (l1 : List (S24)) (r1 : Bool) (r2 : Int) (r3 : ByteArray) (r4 : Int) (w : World) (hT : Tabs w) (hr1 : Kd.C k24 w A1 l1.length l1) (hc1 : l1.length ≤ c1) (h : value_Do.f k a0 l1 = some (r1, r2, r3, r4)) :
  Calls Tryz.prog 75 #[.int .i64 a0, .slice A1 l1.length c1] w fun e w' => e = .returned (.tuple #[.agg #[.bool r1, .int .i64 r2, .string r3], .int .i64 r4]) ∧ Below w.heap.size w w' := by
 unfold value_Do.f at h
 by_cases hl : l1.length ≤ 1000000
 ·rw [if_pos hl] at h
  obtain ⟨⟨r, er⟩, h1, h2⟩ := Option.map_eq_some_iff.1 h
  simp only [Prod.mk.injEq] at h2
  obtain ⟨rfl, rfl, rfl, rfl⟩ := h2
  exact XOps.do_calls (T := Tabs) (fun w w' h hb => h.below hb) value_Do.isVal (value_Do.D k) (value_Do.D_calls k) a0 A1 c1 l1 r er w hT hr1 hc1 h1 (by omega)
 ·rw [if_neg hl] at h
  cases h
def eval_Run.TX (x : ByteArray) : Option XEval.Sv := (value_Text.f x).map fun p => ⟨p.1, p.2.1, p.2.2⟩
def eval_Run.DO (k : Nat) (o : Int) (l : List XEval.Sv) : Option (XEval.Sv × Int) := (value_Do.f k o l).map fun p => (⟨p.1, p.2.1, p.2.2.1⟩, p.2.2.2)
theorem eval_Run.DO_mono (k : Nat) : ∀ o l y, eval_Run.DO k o l = some y → eval_Run.DO (k + 1) o l = some y := fun o l y h => by
 obtain ⟨p, h1, h2⟩ := Option.map_eq_some_iff.1 h
 exact Option.map_eq_some_iff.2 ⟨p, value_Do.mono _ _ _ _ h1, h2⟩
theorem eval_Run.env (k : Nat) : XEval.Env Tabs eval_Run.TX (eval_Run.DO k) where
 tb := fun w w' h hb => h.below hb
 num := fun n w hT => value_Num.calls n _ _ _ w hT rfl
 text := fun x y w hT h => by
  obtain ⟨⟨p1, p2, p3⟩, h1, rfl⟩ := Option.map_eq_some_iff.1 h
  exact value_Text.calls x _ _ _ w hT h1
 do_ := fun o l y er A c w hT hr hc h => by
  obtain ⟨⟨p1, p2, p3, p4⟩, h1, h2⟩ := Option.map_eq_some_iff.1 h
  simp only [Prod.mk.injEq] at h2
  obtain ⟨rfl, rfl⟩ := h2
  exact value_Do.calls k o A c l _ _ _ _ w hT hr hc h1
def eval_Run.f (k : Nat) (l0 : List (S50)) (l1 : List ByteArray) (a2 : Int) : Option ((List (S24)) × Int × Int) := (check_Stack.f l0 []).bind fun st =>
 if st.2.2 = 0 then (if l0.length ≤ 10000 ∧ a2 ≤ 9223372036854775807 then (XEval.runE eval_Run.TX (eval_Run.DO k) l1 [] l0 [] a2).map fun q => if q.2.2 = 0 then (q.1, q.2.1, q.2.2) else ([], 0, q.2.2) else none) else some ([], a2, st.2.2)
theorem eval_Run.mono : ∀ a0 a1 a2 k, LeO (eval_Run.f k a0 a1 a2) (eval_Run.f (k + 1) a0 a1 a2) := by
 intro a0 a1 a2 k r h
 unfold eval_Run.f at h ⊢
 obtain ⟨st, hst, h⟩ := Option.bind_eq_some_iff.1 h
 refine Option.bind_eq_some_iff.2 ⟨st, hst, ?_⟩
 by_cases c : st.2.2 = 0
 ·rw [if_pos c] at h ⊢
  by_cases c2 : a0.length ≤ 10000 ∧ a2 ≤ 9223372036854775807
  ·rw [if_pos c2] at h ⊢
   obtain ⟨q, hq, h⟩ := Option.map_eq_some_iff.1 h
   exact Option.map_eq_some_iff.2 ⟨q, XEval.runE_mono (eval_Run.DO_mono k) _ _ _ hq, h⟩
  ·rw [if_neg c2] at h; cases h
 ·rw [if_neg c] at h ⊢; exact h
theorem eval_Run.calls (k : Nat) (A0 : Option Addr) (c0 : Nat) (l0 : List (S50)) (A1 : Option Addr) (c1 : Nat) (l1 : List ByteArray) (a2 : Int) (r1 : List (S24)) (r2 : Int) (r3 : Int) (w : World) (hT : Tabs w) (hr0 : Kd.C k50 w A0 l0.length l0) (hc0 : l0.length ≤ c0) (hr1 : Kd.C Kd.string w A1 l1.length l1) (hc1 : l1.length ≤ c1) (h : eval_Run.f k l0 l1 a2 = some (r1, r2, r3)) :
  Calls Tryz.prog 41 #[.slice A0 l0.length c0, .slice A1 l1.length c1, .int .i64 a2] w fun e w' => ∃ v0_ : Value, e = .returned (.tuple #[v0_, .int .i64 r2, .int .i64 r3]) ∧ Kd.R k24 24 w' w.heap.size (fun _ => True) v0_ r1 ∧ Below w.heap.size w w' := by
 unfold eval_Run.f at h
 obtain ⟨⟨ks, ne, es⟩, hst, h⟩ := Option.bind_eq_some_iff.1 h
 have hS := (check_Stack.calls A0 c0 l0 none 0 [] ks ne es w hT hr0 hc0 (XEval.C_nilB w) (Nat.le_refl _) hst).mono fun e w' he => (⟨he.choose, he.choose_spec.1, he.choose_spec.2.2⟩ : ∃ v, e = Ending.returned (.tuple #[v, .int .i64 ne, .int .i64 es]) ∧ Below w.heap.size w w')
 dsimp only at h
 by_cases c : es = 0
 ·rw [if_pos c] at h
  subst c
  by_cases c2 : l0.length ≤ 10000 ∧ a2 ≤ 9223372036854775807
  ·rw [if_pos c2] at h
   obtain ⟨⟨s', u', er⟩, hq, h⟩ := Option.map_eq_some_iff.1 h
   have := XEval.Run_ok (eval_Run.env k) (rc := c1) hr1 hT A0 c0 l0 hr0 c2.1 c2.2 hS hq
   dsimp only at h
   by_cases c3 : er = 0
   ·rw [if_pos c3] at h
    rw [if_pos c3, if_pos c3] at this
    simp only [Prod.mk.injEq] at h
    obtain ⟨rfl, rfl, rfl⟩ := h
    exact this
   ·rw [if_neg c3] at h
    rw [if_neg c3, if_neg c3] at this
    simp only [Prod.mk.injEq] at h
    obtain ⟨rfl, rfl, rfl⟩ := h
    exact this
  ·rw [if_neg c2] at h; cases h
 ·rw [if_neg c] at h
  have h := Option.some.inj h
  simp only [Prod.mk.injEq] at h
  obtain ⟨rfl, rfl, rfl⟩ := h
  exact XEval.Run_err A0 c0 l0.length (.slice A1 l1.length c1) a2 c hS
/- Walked functions, by this session's program over the kit's print. -/
def eval_One.f (k : Nat) (l0 : List (S50)) (l1 : List ByteArray) (a2 : Int) : Option (Bool × Int × ByteArray × Int × Int) := (check_Stack.f l0 ([] : List Bool)).bind fun bt373 => (if bt373.2.2 = 0 then (if (bt373.1.length : Int) = 1 then ((eval_Run.f k l0 l1 a2).bind fun bt378 => (if bt378.2.2 = 0 then (if 0 < (bt378.1.length : Int) then (some ((rd_T24 bt378.1 0).f0, (rd_T24 bt378.1 0).f1, (rd_T24 bt378.1 0).f2, bt378.2.1, 0)) else (none)) else (some (false, 0, (⟨#[]⟩ : ByteArray), bt378.2.1, bt378.2.2)))) else (some (false, 0, (⟨#[]⟩ : ByteArray), a2, 11))) else (some (false, 0, (⟨#[]⟩ : ByteArray), a2, bt373.2.2)))
theorem eval_One.mono : ∀ a0 a1 a2 k, LeO (eval_One.f k a0 a1 a2) (eval_One.f (k + 1) a0 a1 a2) := by
 intro a0 a1 a2 k
 unfold eval_One.f
 repeat' (with_reducible first | exact eval_Run.mono _ _ _ _ | exact LeO.refl _ | exact LeO.none _ | refine LeO.ite ?_ ?_ | refine LeO.bind ?_ (fun _ => ?_))
set_option maxHeartbeats 8000000 in
set_option maxRecDepth 100000 in
theorem eval_One.calls (k : Nat) (A0 : Option Addr) (c0 : Nat) (l0 : List (S50)) (A1 : Option Addr) (c1 : Nat) (l1 : List ByteArray) (a2 : Int) (r1 : Bool) (r2 : Int) (r3 : ByteArray) (r4 : Int) (r5 : Int) (w : World) (hT : Tabs w) (hr0 : Kd.C k50 w A0 l0.length l0) (hc0 : l0.length ≤ c0) (hr1 : Kd.C Kd.string w A1 l1.length l1) (hc1 : l1.length ≤ c1) (h : eval_One.f k l0 l1 a2 = some (r1, r2, r3, r4, r5)) :
  Calls Tryz.prog 35 #[.slice A0 l0.length c0, .slice A1 l1.length c1, .int .i64 a2] w fun e w' => e = .returned (.tuple #[.agg #[.bool r1, .int .i64 r2, .string r3], .int .i64 r4, .int .i64 r5]) ∧ Below w.heap.size w w' := by
 have hu24 := Tryz.underlying24
 have HR0 := xy hr0
 have HC0 := xy hc0
 clear hr0 hc0
 have HR1 := xy hr1
 have HC1 := xy hc1
 clear hr1 hc1
 have HB := xy (Below.refl w.heap.size w)
 unfold eval_One.f at h
 have H := h
 clear h
 replace H := xj H
 obtain ⟨⟨t373, t374, t375⟩, A40, H⟩ := H
 try dsimp only at H
 have A4 := xy A40
 clear A40
 by_cases c5 : t375 = 0
 ·rw [if_pos c5] at H
  have c5b0 : (t375 == 0) = true := beq_iff_eq.mpr c5
  have c5b1 : (t375 != 0) = false := bne_eq_false_iff_eq.mpr c5
  clear c5
  by_cases c6 : (t373.length : Int) = 1
  ·rw [if_pos c6] at H
   have c6b0 : ((t373.length : Int) == 1) = true := beq_iff_eq.mpr c6
   have c6b1 : ((t373.length : Int) != 1) = false := bne_eq_false_iff_eq.mpr c6
   clear c6
   replace H := xj H
   obtain ⟨⟨t378, t379, t380⟩, A70, H⟩ := H
   try dsimp only at H
   have A7 := xy A70
   clear A70
   by_cases c8 : t380 = 0
   ·rw [if_pos c8] at H
    have c8b0 : (t380 == 0) = true := beq_iff_eq.mpr c8
    have c8b1 : (t380 != 0) = false := bne_eq_false_iff_eq.mpr c8
    clear c8
    by_cases c9 : 0 < (t378.length : Int)
    ·rw [if_pos c9] at H
     have c9b0 : decide (0 < (t378.length : Int)) = true := decide_eq_true c9
     have c9b1 : decide (0 < t378.length) = true := decide_eq_true (by omega)
     clear c9
     simp only [Option.some.injEq, Prod.mk.injEq] at H
     obtain ⟨rfl, rfl, rfl, rfl, rfl⟩ := H
     go_enter Tryz.func35, Tryz.ntmps35
     go_wp2_with (first | ((with_reducible refine gate_dst (N := 6) rfl ?_); refine xq (N := 6) (cs := #[.bool false, .int .i64 0, .string (⟨#[]⟩ : ByteArray)]) (t := 24) ?_; intro gb372 hg w10 hbox hb; have BK372 := xy (hbox); have GW372 := xs w hg; have GE372 := xs w hg; replace HB := xy (below_step xb hb); clear hb hbox hg) | ((with_reducible refine gate_callee (f := 40) rfl ?_); refine goesL_ (some 16) rfl rfl Tryz.func40 (by kernel_rfl) rfl #[.slice A0 l0.length c0, .slice none 0 0] rfl xr ?_; (refine (check_Stack.calls _ _ l0 _ _ ([] : List Bool) t373 t374 t375 _ (Tabs.below hT xf) ?side1 ?side2 ?side3 ?side4 A4.out).mono ?_); (case side1 => exact Kd.C_below HR0.out xb); (case side2 => exact HC0.out); (case side3 => exact Kd.C_nil _ _); (case side4 => exact Nat.le_refl _); rintro e w11 ⟨v376, rfl, ho0, hb⟩; refine ⟨_, rfl, ?_⟩; have HO377 := xy (Kd.R_lower ho0 (below_size xb)); replace BK372 := xd BK372.out hb; replace HB := xy (below_step xb hb); (try clear hb); (try clear hb2); (try clear hk); (try clear hi); (try clear ho0); obtain ⟨Ao12, co12, eo12⟩ := Kd.R_slice HO377.out; subst eo12) | ((with_reducible refine gate_callee (f := 41) rfl ?_); refine goesL_ (some 36) rfl rfl Tryz.func41 (by kernel_rfl) rfl #[.slice A0 l0.length c0, .slice A1 l1.length c1, .int .i64 a2] rfl xr ?_; (with_reducible refine (eval_Run.calls k _ _ l0 _ _ l1 a2 t378 t379 t380 _ (Tabs.below hT xf) ?side1 ?side2 ?side3 ?side4 A7.out).mono ?_); (case side1 => exact Kd.C_below HR0.out xb); (case side2 => exact HC0.out); (case side3 => exact Kd.C_below HR1.out xb); (case side4 => exact HC1.out); rintro e w13 ⟨v381, rfl, ho0, hb⟩; refine ⟨_, rfl, ?_⟩; replace HO377 := xy (Kd.R_below (xo HO377.out) hb); have HO382 := xy (Kd.R_lower (Kd.R_newB ho0 (g := gb372) (o := .cells #[.bool false, .int .i64 0, .string (⟨#[]⟩ : ByteArray)] 24 (0, 0)) (xk BK372.out)) (below_size xb)); replace BK372 := xd BK372.out hb; replace HB := xy (below_step xb hb); (try clear hb); (try clear hb2); (try clear hk); (try clear hi); (try clear ho0); obtain ⟨Ao14, co14, eo14⟩ := Kd.R_slice HO382.out; subst eo14; have p383 : 0 ≤ (0 : Int) := (by omega); have q383 : 0 < (t378.length : Int) := xi; obtain ⟨ad383, e383, hx383_0, hx383_1, hx383_2⟩ := at_T24 (Kd.R_reads' HO382.out).2.2 0 p383 q383; cases e383; have qi383 : (0 < t378.length) = True := eq_true (by omega); (try rw [show ((0 : Int)).toNat = 0 from rfl] at hx383_0); (try rw [show 0 * 3 = 0 from rfl] at hx383_0); (try rw [Addr.add_zero'] at hx383_0); (try rw [show ((0 : Int)).toNat = 0 from rfl] at hx383_1); (try rw [show 0 * 3 = 0 from rfl] at hx383_1); (try rw [Addr.add_zero'] at hx383_1); (try rw [show ((0 : Int)).toNat = 0 from rfl] at hx383_2); (try rw [show 0 * 3 = 0 from rfl] at hx383_2); (try rw [Addr.add_zero'] at hx383_2); replace p383 := eq_true p383; replace q383 := eq_true q383; obtain ⟨hcz15_0, hcz15_1, hcz15_2⟩ := kt3 BK372.out; obtain ⟨hfz15_0, hfz15_1, hfz15_2⟩ := kz3 BK372.out))
     refine bodyPost_ret (results_ctt rfl _ _ gb372 24 #[.bool ((rd_T24 t378 0).f0), .int .i64 ((rd_T24 t378 0).f1), .string ((rd_T24 t378 0).f2)] (0, 0) _ rfl (kp BK372.out) Tryz.underlying24 rfl (by kernel_rfl)) rfl ?_
     exact ⟨xe, xb⟩
    ·rw [if_neg c9] at H
     exact absurd H (by simp)
   ·rw [if_neg c8] at H
    have c8b0 : (t380 == 0) = false := beq_eq_false_iff_ne.mpr c8
    have c8b1 : (t380 != 0) = true := bne_iff_ne.mpr c8
    simp only [Option.some.injEq, Prod.mk.injEq] at H
    obtain ⟨rfl, rfl, rfl, rfl, rfl⟩ := H
    go_enter Tryz.func35, Tryz.ntmps35
    go_wp2_with (first | ((with_reducible refine gate_dst (N := 6) rfl ?_); refine xq (N := 6) (cs := #[.bool false, .int .i64 0, .string (⟨#[]⟩ : ByteArray)]) (t := 24) ?_; intro gb372 hg w16 hbox hb; have BK372 := xy (hbox); have GW372 := xs w hg; have GE372 := xs w hg; replace HB := xy (below_step xb hb); clear hb hbox hg) | ((with_reducible refine gate_callee (f := 40) rfl ?_); refine goesL_ (some 16) rfl rfl Tryz.func40 (by kernel_rfl) rfl #[.slice A0 l0.length c0, .slice none 0 0] rfl xr ?_; (refine (check_Stack.calls _ _ l0 _ _ ([] : List Bool) t373 t374 t375 _ (Tabs.below hT xf) ?side1 ?side2 ?side3 ?side4 A4.out).mono ?_); (case side1 => exact Kd.C_below HR0.out xb); (case side2 => exact HC0.out); (case side3 => exact Kd.C_nil _ _); (case side4 => exact Nat.le_refl _); rintro e w17 ⟨v376, rfl, ho0, hb⟩; refine ⟨_, rfl, ?_⟩; have HO377 := xy (Kd.R_lower ho0 (below_size xb)); replace BK372 := xd BK372.out hb; replace HB := xy (below_step xb hb); (try clear hb); (try clear hb2); (try clear hk); (try clear hi); (try clear ho0); obtain ⟨Ao18, co18, eo18⟩ := Kd.R_slice HO377.out; subst eo18) | ((with_reducible refine gate_callee (f := 41) rfl ?_); refine goesL_ (some 36) rfl rfl Tryz.func41 (by kernel_rfl) rfl #[.slice A0 l0.length c0, .slice A1 l1.length c1, .int .i64 a2] rfl xr ?_; (with_reducible refine (eval_Run.calls k _ _ l0 _ _ l1 a2 t378 t379 t380 _ (Tabs.below hT xf) ?side1 ?side2 ?side3 ?side4 A7.out).mono ?_); (case side1 => exact Kd.C_below HR0.out xb); (case side2 => exact HC0.out); (case side3 => exact Kd.C_below HR1.out xb); (case side4 => exact HC1.out); rintro e w19 ⟨v381, rfl, ho0, hb⟩; refine ⟨_, rfl, ?_⟩; replace HO377 := xy (Kd.R_below (xo HO377.out) hb); have HO382 := xy (Kd.R_lower (Kd.R_newB ho0 (g := gb372) (o := .cells #[.bool false, .int .i64 0, .string (⟨#[]⟩ : ByteArray)] 24 (0, 0)) (xk BK372.out)) (below_size xb)); replace BK372 := xd BK372.out hb; replace HB := xy (below_step xb hb); (try clear hb); (try clear hb2); (try clear hk); (try clear hi); (try clear ho0); obtain ⟨hcz20_0, hcz20_1, hcz20_2⟩ := kt3 BK372.out; obtain ⟨hfz20_0, hfz20_1, hfz20_2⟩ := kz3 BK372.out))
    refine bodyPost_ret (results_ctt rfl _ _ gb372 24 #[.bool false, .int .i64 0, .string (⟨#[]⟩ : ByteArray)] (0, 0) _ rfl (kp BK372.out) Tryz.underlying24 rfl (by kernel_rfl)) rfl ?_
    exact ⟨xe, xb⟩
  ·rw [if_neg c6] at H
   have c6b0 : ((t373.length : Int) == 1) = false := beq_eq_false_iff_ne.mpr c6
   have c6b1 : ((t373.length : Int) != 1) = true := bne_iff_ne.mpr c6
   simp only [Option.some.injEq, Prod.mk.injEq] at H
   obtain ⟨rfl, rfl, rfl, rfl, rfl⟩ := H
   go_enter Tryz.func35, Tryz.ntmps35
   go_wp2_with (first | ((with_reducible refine gate_dst (N := 6) rfl ?_); refine xq (N := 6) (cs := #[.bool false, .int .i64 0, .string (⟨#[]⟩ : ByteArray)]) (t := 24) ?_; intro gb372 hg w21 hbox hb; have BK372 := xy (hbox); have GW372 := xs w hg; have GE372 := xs w hg; replace HB := xy (below_step xb hb); clear hb hbox hg) | ((with_reducible refine gate_callee (f := 40) rfl ?_); refine goesL_ (some 16) rfl rfl Tryz.func40 (by kernel_rfl) rfl #[.slice A0 l0.length c0, .slice none 0 0] rfl xr ?_; (refine (check_Stack.calls _ _ l0 _ _ ([] : List Bool) t373 t374 t375 _ (Tabs.below hT xf) ?side1 ?side2 ?side3 ?side4 A4.out).mono ?_); (case side1 => exact Kd.C_below HR0.out xb); (case side2 => exact HC0.out); (case side3 => exact Kd.C_nil _ _); (case side4 => exact Nat.le_refl _); rintro e w22 ⟨v376, rfl, ho0, hb⟩; refine ⟨_, rfl, ?_⟩; have HO377 := xy (Kd.R_lower ho0 (below_size xb)); replace BK372 := xd BK372.out hb; replace HB := xy (below_step xb hb); (try clear hb); (try clear hb2); (try clear hk); (try clear hi); (try clear ho0); obtain ⟨Ao23, co23, eo23⟩ := Kd.R_slice HO377.out; subst eo23; obtain ⟨hcz24_0, hcz24_1, hcz24_2⟩ := kt3 BK372.out; obtain ⟨hfz24_0, hfz24_1, hfz24_2⟩ := kz3 BK372.out))
   refine bodyPost_ret (results_ctt rfl _ _ gb372 24 #[.bool false, .int .i64 0, .string (⟨#[]⟩ : ByteArray)] (0, 0) _ rfl (kp BK372.out) Tryz.underlying24 rfl (by kernel_rfl)) rfl ?_
   exact ⟨xe, xb⟩
 ·rw [if_neg c5] at H
  have c5b0 : (t375 == 0) = false := beq_eq_false_iff_ne.mpr c5
  have c5b1 : (t375 != 0) = true := bne_iff_ne.mpr c5
  simp only [Option.some.injEq, Prod.mk.injEq] at H
  obtain ⟨rfl, rfl, rfl, rfl, rfl⟩ := H
  go_enter Tryz.func35, Tryz.ntmps35
  go_wp2_with (first | ((with_reducible refine gate_dst (N := 6) rfl ?_); refine xq (N := 6) (cs := #[.bool false, .int .i64 0, .string (⟨#[]⟩ : ByteArray)]) (t := 24) ?_; intro gb372 hg w25 hbox hb; have BK372 := xy (hbox); have GW372 := xs w hg; have GE372 := xs w hg; replace HB := xy (below_step xb hb); clear hb hbox hg) | ((with_reducible refine gate_callee (f := 40) rfl ?_); refine goesL_ (some 16) rfl rfl Tryz.func40 (by kernel_rfl) rfl #[.slice A0 l0.length c0, .slice none 0 0] rfl xr ?_; (refine (check_Stack.calls _ _ l0 _ _ ([] : List Bool) t373 t374 t375 _ (Tabs.below hT xf) ?side1 ?side2 ?side3 ?side4 A4.out).mono ?_); (case side1 => exact Kd.C_below HR0.out xb); (case side2 => exact HC0.out); (case side3 => exact Kd.C_nil _ _); (case side4 => exact Nat.le_refl _); rintro e w26 ⟨v376, rfl, ho0, hb⟩; refine ⟨_, rfl, ?_⟩; have HO377 := xy (Kd.R_lower ho0 (below_size xb)); replace BK372 := xd BK372.out hb; replace HB := xy (below_step xb hb); (try clear hb); (try clear hb2); (try clear hk); (try clear hi); (try clear ho0); obtain ⟨hcz27_0, hcz27_1, hcz27_2⟩ := kt3 BK372.out; obtain ⟨hfz27_0, hfz27_1, hfz27_2⟩ := kz3 BK372.out))
  refine bodyPost_ret (results_ctt rfl _ _ gb372 24 #[.bool false, .int .i64 0, .string (⟨#[]⟩ : ByteArray)] (0, 0) _ rfl (kp BK372.out) Tryz.underlying24 rfl (by kernel_rfl)) rfl ?_
  exact ⟨xe, xb⟩
def eval_Yes.f (k : Nat) (l0 : List (S50)) (l1 : List ByteArray) (a2 : Int) : Option (Bool × Int × Int) := if (l0.length : Int) = 0 then (some (true, a2, 0)) else ((check_Check.f k l0 ([] : List Bool) (([false] : List Bool))).bind fun t387 => (if t387 = 0 then ((eval_One.f k l0 l1 a2).bind fun bt388 => (some ((bt388.2.1 != 0), bt388.2.2.2.1, bt388.2.2.2.2))) else (some (false, a2, t387))))
theorem eval_Yes.mono : ∀ a0 a1 a2 k, LeO (eval_Yes.f k a0 a1 a2) (eval_Yes.f (k + 1) a0 a1 a2) := by
 intro a0 a1 a2 k
 unfold eval_Yes.f
 repeat' (with_reducible first | exact check_Check.mono _ _ _ _ | exact eval_One.mono _ _ _ _ | exact LeO.refl _ | exact LeO.none _ | refine LeO.ite ?_ ?_ | refine LeO.bind ?_ (fun _ => ?_))
set_option maxHeartbeats 8000000 in
set_option maxRecDepth 100000 in
theorem eval_Yes.calls (k : Nat) (A0 : Option Addr) (c0 : Nat) (l0 : List (S50)) (A1 : Option Addr) (c1 : Nat) (l1 : List ByteArray) (a2 : Int) (r1 : Bool) (r2 : Int) (r3 : Int) (w : World) (hT : Tabs w) (hr0 : Kd.C k50 w A0 l0.length l0) (hc0 : l0.length ≤ c0) (hr1 : Kd.C Kd.string w A1 l1.length l1) (hc1 : l1.length ≤ c1) (h : eval_Yes.f k l0 l1 a2 = some (r1, r2, r3)) :
  Calls Tryz.prog 34 #[.slice A0 l0.length c0, .slice A1 l1.length c1, .int .i64 a2] w fun e w' => e = .returned (.tuple #[.bool r1, .int .i64 r2, .int .i64 r3]) ∧ Below w.heap.size w w' := by
 have hu24 := Tryz.underlying24
 have HR0 := xy hr0
 have HC0 := xy hc0
 clear hr0 hc0
 have HR1 := xy hr1
 have HC1 := xy hc1
 clear hr1 hc1
 have HB := xy (Below.refl w.heap.size w)
 unfold eval_Yes.f at h
 have H := h
 clear h
 by_cases c4 : (l0.length : Int) = 0
 ·rw [if_pos c4] at H
  have c4b0 : ((l0.length : Int) == 0) = true := beq_iff_eq.mpr c4
  have c4b1 : ((l0.length : Int) != 0) = false := bne_eq_false_iff_eq.mpr c4
  clear c4
  simp only [Option.some.injEq, Prod.mk.injEq] at H
  obtain ⟨rfl, rfl, rfl⟩ := H
  go_enter Tryz.func34, Tryz.ntmps34
  go_wp2
  go_ret3
  exact ⟨xe, xb⟩
 ·rw [if_neg c4] at H
  have c4b0 : ((l0.length : Int) == 0) = false := beq_eq_false_iff_ne.mpr c4
  have c4b1 : ((l0.length : Int) != 0) = true := bne_iff_ne.mpr c4
  have c4b2 : ¬ (l0 = []) := fun h_ => c4 (by rw [h_]; rfl)
  obtain ⟨y384, hy384⟩ : ∃ y_ : List Bool, y_ = (([false] : List Bool)) := ⟨_, rfl⟩
  replace H : ((check_Check.f k l0 ([] : List Bool) y384).bind fun t387 => (if t387 = 0 then ((eval_One.f k l0 l1 a2).bind fun bt388 => (some ((bt388.2.1 != 0), bt388.2.2.2.1, bt388.2.2.2.2))) else (some (false, a2, t387)))) = some (r1, r2, r3) := by first | (rw [hy384]; with_reducible exact H) | (have H2_ := (Option.bind_some _ _).symm.trans H; rw [hy384]; with_reducible exact H2_) | (have H2_ := (Option.bind_some _ _).symm.trans H; with_reducible exact H2_) | with_reducible exact H | (rw [hy384]; exact H) | exact H
  have Ny384 := xy hy384
  clear hy384
  replace H := xj H
  obtain ⟨t387, A50, H⟩ := H
  try dsimp only at H
  have A5 := xy A50
  clear A50
  by_cases c6 : t387 = 0
  ·rw [if_pos c6] at H
   have c6b0 : (t387 == 0) = true := beq_iff_eq.mpr c6
   have c6b1 : (t387 != 0) = false := bne_eq_false_iff_eq.mpr c6
   clear c6
   replace H := xj H
   obtain ⟨⟨t388, t389, t390, t391, t392⟩, A70, H⟩ := H
   try dsimp only at H
   have A7 := xy A70
   clear A70
   simp only [Option.some.injEq, Prod.mk.injEq] at H
   obtain ⟨rfl, rfl, rfl⟩ := H
   go_enter Tryz.func34, Tryz.ntmps34
   go_wp2_with (first | ((with_reducible refine gate_dst (N := 18) rfl ?_); refine Kd.R_lit Kd.bool _ 4 ?hg (N := 18) ?hd (xs := ([false] : List Bool)) (inner := [.bool false]) (ok := fun _ => True) (okp := fun _ => True) ?hr ?hp (fun _ hk => hk) trivial (Below.refl _ _) (Nat.le_refl _) (by simp) ?_; (case hd => rfl); (case hg => rfl); (case hr => exact xh); (case hp => exact (Reps.one (show Kd.M Kd.bool _ _ _ false [.bool false] from rfl) (Reps.none _ _))); intro v385 w8 ho9 hb hg_ hnew_; clear hg_ hnew_; (first | rw [← Ny384.out] at ho9 | (simp only [Int.reduceToNat] at ho9; rw [← Ny384.out] at ho9)); have HO386 := xy (Kd.R_lower ho9 (below_size xb)); replace HB := xy (below_step xb hb); clear hb ho9; obtain ⟨Ao10, co10, eo10⟩ := Kd.R_slice HO386.out; subst eo10) | ((with_reducible refine gate_callee (f := 37) rfl ?_); refine goesL_ (some 19) rfl rfl Tryz.func37 (by kernel_rfl) rfl #[.slice A0 l0.length c0, .slice none 0 0, .slice Ao10 y384.length co10] rfl xr ?_; (refine (check_Check.calls k _ _ l0 _ _ ([] : List Bool) _ _ y384 t387 _ (Tabs.below hT xf) ?side1 ?side2 ?side3 ?side4 ?side5 ?side6 A5.out).mono ?_); (case side1 => exact Kd.C_below HR0.out xb); (case side2 => exact HC0.out); (case side3 => exact Kd.C_nil _ _); (case side4 => exact Nat.le_refl _); (case side5 => repeat (first | exact (Kd.R_reads' HO386.out).2.2 | (with_reducible refine Kd.C_alloc ?_ _) | (with_reducible refine Kd.C_drewN ?_ _) | (with_reducible refine Kd.C_drew ?_))); (case side6 => exact (Kd.R_reads' HO386.out).2.1); rintro e w11 ⟨rfl, hb⟩; refine ⟨_, rfl, ?_⟩; replace HO386 := xy (Kd.R_below (xo HO386.out) hb); replace HB := xy (below_step xb hb); (try clear hb); (try clear hb2); (try clear hk); (try clear hi)) | ((with_reducible refine gate_callee (f := 35) rfl ?_); refine goesL_ (some 28) rfl rfl Tryz.func35 (by kernel_rfl) rfl #[.slice A0 l0.length c0, .slice A1 l1.length c1, .int .i64 a2] rfl xr ?_; (with_reducible refine (eval_One.calls k _ _ l0 _ _ l1 a2 t388 t389 t390 t391 t392 _ (Tabs.below hT xf) ?side1 ?side2 ?side3 ?side4 A7.out).mono ?_); (case side1 => exact Kd.C_below HR0.out xb); (case side2 => exact HC0.out); (case side3 => exact Kd.C_below HR1.out xb); (case side4 => exact HC1.out); rintro e w12 ⟨rfl, hb⟩; refine ⟨_, rfl, ?_⟩; replace HO386 := xy (Kd.R_below (xo HO386.out) hb); replace HB := xy (below_step xb hb); (try clear hb); (try clear hb2); (try clear hk); (try clear hi)) | ((with_reducible refine gate_dst (N := 10) rfl ?_); refine xq (N := 10) (cs := #[.bool false, .int .i64 0, .string (⟨#[]⟩ : ByteArray)]) (t := 24) ?_; intro gb393 hg w13 hbox hb; replace HO386 := xy (Kd.R_below (xo HO386.out) hb); have BK393 := xy (hbox); have GW393 := xs w hg; have GE393 := xs w hg; replace HB := xy (below_step xb hb); clear hb hbox hg; obtain ⟨hcz14_0, hcz14_1, hcz14_2⟩ := kt3 BK393.out; obtain ⟨hfz14_0, hfz14_1, hfz14_2⟩ := kz3 BK393.out))
   go_ret3
   exact ⟨xe, xb⟩
  ·rw [if_neg c6] at H
   have c6b0 : (t387 == 0) = false := beq_eq_false_iff_ne.mpr c6
   have c6b1 : (t387 != 0) = true := bne_iff_ne.mpr c6
   simp only [Option.some.injEq, Prod.mk.injEq] at H
   obtain ⟨rfl, rfl, rfl⟩ := H
   go_enter Tryz.func34, Tryz.ntmps34
   go_wp2_with (first | ((with_reducible refine gate_dst (N := 18) rfl ?_); refine Kd.R_lit Kd.bool _ 4 ?hg (N := 18) ?hd (xs := ([false] : List Bool)) (inner := [.bool false]) (ok := fun _ => True) (okp := fun _ => True) ?hr ?hp (fun _ hk => hk) trivial (Below.refl _ _) (Nat.le_refl _) (by simp) ?_; (case hd => rfl); (case hg => rfl); (case hr => exact xh); (case hp => exact (Reps.one (show Kd.M Kd.bool _ _ _ false [.bool false] from rfl) (Reps.none _ _))); intro v385 w15 ho16 hb hg_ hnew_; clear hg_ hnew_; (first | rw [← Ny384.out] at ho16 | (simp only [Int.reduceToNat] at ho16; rw [← Ny384.out] at ho16)); have HO386 := xy (Kd.R_lower ho16 (below_size xb)); replace HB := xy (below_step xb hb); clear hb ho16; obtain ⟨Ao17, co17, eo17⟩ := Kd.R_slice HO386.out; subst eo17) | ((with_reducible refine gate_callee (f := 37) rfl ?_); refine goesL_ (some 19) rfl rfl Tryz.func37 (by kernel_rfl) rfl #[.slice A0 l0.length c0, .slice none 0 0, .slice Ao17 y384.length co17] rfl xr ?_; (refine (check_Check.calls k _ _ l0 _ _ ([] : List Bool) _ _ y384 t387 _ (Tabs.below hT xf) ?side1 ?side2 ?side3 ?side4 ?side5 ?side6 A5.out).mono ?_); (case side1 => exact Kd.C_below HR0.out xb); (case side2 => exact HC0.out); (case side3 => exact Kd.C_nil _ _); (case side4 => exact Nat.le_refl _); (case side5 => repeat (first | exact (Kd.R_reads' HO386.out).2.2 | (with_reducible refine Kd.C_alloc ?_ _) | (with_reducible refine Kd.C_drewN ?_ _) | (with_reducible refine Kd.C_drew ?_))); (case side6 => exact (Kd.R_reads' HO386.out).2.1); rintro e w18 ⟨rfl, hb⟩; refine ⟨_, rfl, ?_⟩; replace HO386 := xy (Kd.R_below (xo HO386.out) hb); replace HB := xy (below_step xb hb); (try clear hb); (try clear hb2); (try clear hk); (try clear hi)))
   go_ret3
   exact ⟨xe, xb⟩
def mapper_one.j0 : Nat → List ByteArray → Int → Bool → Bool → List (S50) → List (S50) → List (S50) → Int → List (S50) → Bool → Int → ByteArray → Bool → Int → Bool → Bool → Int → Option (ByteArray × Bool × Int × ByteArray × Bool × Int)
 | 0, _, _, _, _, _, _, _, _, _, _, _, _, _, _, _, _, _ => none
 | k + 1, x1, x9, x29, x395000, x395001, x395002, x395003, x395004, x395005, x395006, x395007, x395008, x395009, x395010, x395011, x395012, x395013 => if x29 = true then (some ((⟨#[]⟩ : ByteArray), false, 0, (⟨#[]⟩ : ByteArray), false, x9)) else ((eval_One.f k x395002 x1 x395013).bind fun bt399 => (if bt399.2.2.2.2 = 0 then ((eval_One.f k x395003 x1 x395013).bind fun bt405 => (some (bt399.2.2.1, bt405.1, bt405.2.1, bt405.2.2.1, true, bt405.2.2.2.2))) else (some ((⟨#[]⟩ : ByteArray), false, 0, (⟨#[]⟩ : ByteArray), false, bt399.2.2.2.2))))
def mapper_one.f (k : Nat) (a0_0 : Bool) (l0_1 : List (S50)) (l0_2 : List (S50)) (l0_3 : List (S50)) (a0_4 : Int) (l0_5 : List (S50)) (a0_6 : Bool) (a0_7 : Int) (a0_8 : ByteArray) (a0_9 : Bool) (a0_10 : Int) (a0_11 : Bool) (a0_12 : Bool) (a0_13 : Int) (l1 : List ByteArray) : Option (ByteArray × Bool × Int × ByteArray × Bool × Int) := (eval_Yes.f k l0_1 l1 a0_13).bind fun bt396 => (if bt396.2.2 = 0 then (mapper_one.j0 k l1 bt396.2.2 (!bt396.1) a0_0 l0_1 l0_2 l0_3 a0_4 l0_5 a0_6 a0_7 a0_8 a0_9 a0_10 a0_11 a0_12 a0_13) else (mapper_one.j0 k l1 bt396.2.2 true a0_0 l0_1 l0_2 l0_3 a0_4 l0_5 a0_6 a0_7 a0_8 a0_9 a0_10 a0_11 a0_12 a0_13))
theorem mapper_one.mono_l : ∀ k, (∀ y0 y1 y2 y3 y4 y5 y6 y7 y8 y9 y10 y11 y12 y13 y14 y15 y16, LeO (mapper_one.j0 k y0 y1 y2 y3 y4 y5 y6 y7 y8 y9 y10 y11 y12 y13 y14 y15 y16) (mapper_one.j0 (k + 1) y0 y1 y2 y3 y4 y5 y6 y7 y8 y9 y10 y11 y12 y13 y14 y15 y16))
 | 0 => fun _ _ _ _ _ _ _ _ _ _ _ _ _ _ _ _ _ r h => by simp [mapper_one.j0] at h
 | k + 1 => by
  have ih0 := mapper_one.mono_l k
  ·intro y0 y1 y2 y3 y4 y5 y6 y7 y8 y9 y10 y11 y12 y13 y14 y15 y16
   unfold mapper_one.j0
   repeat' (with_reducible first | exact ih0 _ _ _ _ _ _ _ _ _ _ _ _ _ _ _ _ _ | exact eval_One.mono _ _ _ _ | exact eval_Yes.mono _ _ _ _ | exact LeO.refl _ | exact LeO.none _ | refine LeO.ite ?_ ?_ | refine LeO.bind ?_ (fun _ => ?_))
theorem mapper_one.mono : ∀ a0 a1 a2 a3 a4 a5 a6 a7 a8 a9 a10 a11 a12 a13 a14 k, LeO (mapper_one.f k a0 a1 a2 a3 a4 a5 a6 a7 a8 a9 a10 a11 a12 a13 a14) (mapper_one.f (k + 1) a0 a1 a2 a3 a4 a5 a6 a7 a8 a9 a10 a11 a12 a13 a14) := by
 intro a0 a1 a2 a3 a4 a5 a6 a7 a8 a9 a10 a11 a12 a13 a14 k
 have ih0 := mapper_one.mono_l k
 unfold mapper_one.f
 repeat' (with_reducible first | exact ih0 _ _ _ _ _ _ _ _ _ _ _ _ _ _ _ _ _ | exact eval_One.mono _ _ _ _ | exact eval_Yes.mono _ _ _ _ | exact LeO.refl _ | exact LeO.none _ | refine LeO.ite ?_ ?_ | refine LeO.bind ?_ (fun _ => ?_))
set_option maxHeartbeats 8000000 in
set_option maxRecDepth 100000 in
theorem mapper_one.calls (k : Nat) (a0_0 : Bool) (A0_1 : Option Addr) (c0_1 : Nat) (l0_1 : List (S50)) (A0_2 : Option Addr) (c0_2 : Nat) (l0_2 : List (S50)) (A0_3 : Option Addr) (c0_3 : Nat) (l0_3 : List (S50)) (a0_4 : Int) (A0_5 : Option Addr) (c0_5 : Nat) (l0_5 : List (S50)) (a0_6 : Bool) (a0_7 : Int) (a0_8 : ByteArray) (a0_9 : Bool) (a0_10 : Int) (a0_11 : Bool) (a0_12 : Bool) (a0_13 : Int) (A1 : Option Addr) (c1 : Nat) (l1 : List ByteArray) (r1 : ByteArray) (r2 : Bool) (r3 : Int) (r4 : ByteArray) (r5 : Bool) (r6 : Int) (w : World) (hT : Tabs w) (hr0_1 : Kd.C k50 w A0_1 l0_1.length l0_1) (hc0_1 : l0_1.length ≤ c0_1) (hr0_2 : Kd.C k50 w A0_2 l0_2.length l0_2) (hc0_2 : l0_2.length ≤ c0_2) (hr0_3 : Kd.C k50 w A0_3 l0_3.length l0_3) (hc0_3 : l0_3.length ≤ c0_3) (hr0_5 : Kd.C k50 w A0_5 l0_5.length l0_5) (hc0_5 : l0_5.length ≤ c0_5) (hr1 : Kd.C Kd.string w A1 l1.length l1) (hc1 : l1.length ≤ c1) (h : mapper_one.f k a0_0 l0_1 l0_2 l0_3 a0_4 l0_5 a0_6 a0_7 a0_8 a0_9 a0_10 a0_11 a0_12 a0_13 l1 = some (r1, r2, r3, r4, r5, r6)) :
  Calls Tryz.prog 24 #[.agg #[.bool a0_0, .slice A0_1 l0_1.length c0_1, .slice A0_2 l0_2.length c0_2, .slice A0_3 l0_3.length c0_3, .int .i64 a0_4, .slice A0_5 l0_5.length c0_5, .bool a0_6, .int .i64 a0_7, .string a0_8, .bool a0_9, .int .i64 a0_10, .bool a0_11, .bool a0_12, .int .i64 a0_13], .slice A1 l1.length c1] w fun e w' => e = .returned (.tuple #[.agg #[.string r1, .bool r2, .int .i64 r3, .string r4], .bool r5, .int .i64 r6]) ∧ Below w.heap.size w w' := by
 have hu26 := Tryz.underlying26
 have hu55 := Tryz.underlying55
 have hu24 := Tryz.underlying24
 have HR0_1 := xy hr0_1
 have HC0_1 := xy hc0_1
 clear hr0_1 hc0_1
 have HR0_2 := xy hr0_2
 have HC0_2 := xy hc0_2
 clear hr0_2 hc0_2
 have HR0_3 := xy hr0_3
 have HC0_3 := xy hc0_3
 clear hr0_3 hc0_3
 have HR0_5 := xy hr0_5
 have HC0_5 := xy hc0_5
 clear hr0_5 hc0_5
 have HR1 := xy hr1
 have HC1 := xy hc1
 clear hr1 hc1
 have HB := xy (Below.refl w.heap.size w)
 unfold mapper_one.f at h
 have H := h
 clear h
 replace H := xj H
 obtain ⟨⟨t396, t397, t398⟩, A30, H⟩ := H
 try dsimp only at H
 have A3 := xy A30
 clear A30
 have HC4 := xy H
 clear H
 go_enter Tryz.func24, Tryz.ntmps24
 go_upto_region 2 with (first | ((with_reducible refine gate_dst (N := 2) rfl ?_); refine xq (N := 2) (cs := #[.bool a0_0, .slice A0_1 l0_1.length c0_1, .slice A0_2 l0_2.length c0_2, .slice A0_3 l0_3.length c0_3, .int .i64 a0_4, .slice A0_5 l0_5.length c0_5, .bool a0_6, .int .i64 a0_7, .string a0_8, .bool a0_9, .int .i64 a0_10, .bool a0_11, .bool a0_12, .int .i64 a0_13]) (t := 26) ?_; intro gb394 hg w5 hbox hb; have BK394 := xy (hbox); have GW394 := xs w hg; have GE394 := xs w hg; replace HB := xy (below_step xb hb); clear hb hbox hg) | ((with_reducible refine gate_dst (N := 4) rfl ?_); refine xq (N := 4) (cs := #[.string (⟨#[]⟩ : ByteArray), .bool false, .int .i64 0, .string (⟨#[]⟩ : ByteArray)]) (t := 55) ?_; intro gb395 hg w6 hbox hb; have BK395 := xy (hbox); have GW395 := xs w hg; have GE395 := xs w hg; replace HB := xy (below_step xb hb); have NB394_395 := xn hg BK394.out; have NB395_394 := xp hg BK394.out; replace BK394 := xd BK394.out hb; clear hb hbox hg; have hnb7 := NB394_395.out; have hnc7 := NB395_394.out; obtain ⟨hcz8_0, hcz8_1, hcz8_2, hcz8_3, hcz8_4, hcz8_5, hcz8_6, hcz8_7, hcz8_8, hcz8_9, hcz8_10, hcz8_11, hcz8_12, hcz8_13⟩ := kt14 BK394.out; obtain ⟨hfz8_0, hfz8_1, hfz8_2, hfz8_3, hfz8_4, hfz8_5, hfz8_6, hfz8_7, hfz8_8, hfz8_9, hfz8_10, hfz8_11, hfz8_12, hfz8_13⟩ := kz14 BK394.out) | ((with_reducible refine gate_callee (f := 34) rfl ?_); refine goesL_ (some 20) rfl rfl Tryz.func34 (by kernel_rfl) rfl #[.slice A0_1 l0_1.length c0_1, .slice A1 l1.length c1, .int .i64 a0_13] rfl xr ?_; (with_reducible refine (eval_Yes.calls k _ _ l0_1 _ _ l1 a0_13 t396 t397 t398 _ (Tabs.below hT xf) ?side1 ?side2 ?side3 ?side4 A3.out).mono ?_); (case side1 => exact Kd.C_below HR0_1.out xb); (case side2 => exact HC0_1.out); (case side3 => exact Kd.C_below HR1.out xb); (case side4 => exact HC1.out); rintro e w9 ⟨rfl, hb⟩; refine ⟨_, rfl, ?_⟩; replace BK394 := xd BK394.out hb; replace BK395 := xd BK395.out hb; replace HB := xy (below_step xb hb); (try clear hb); (try clear hb2); (try clear hk); (try clear hi)))
 (try simp only [Act.put, List.setIfInBounds_toArray, List.set_cons_zero, List.set_cons_succ])
 go_cut [29] (fun v29 wc => ∃ (kq : Nat) (x29_3 : Bool), v29 = .bool x29_3 ∧ Aside0 (mapper_one.j0 kq l1 t398 x29_3 a0_0 l0_1 l0_2 l0_3 a0_4 l0_5 a0_6 a0_7 a0_8 a0_9 a0_10 a0_11 a0_12 a0_13 = some (r1, r2, r3, r4, r5, r6)) ∧ Aside0 (kq ≤ k) ∧ Aside0 (wc.heap[gb394]? = some (.cells #[.bool a0_0, (.slice A0_1 l0_1.length c0_1), (.slice A0_2 l0_2.length c0_2), (.slice A0_3 l0_3.length c0_3), .int .i64 a0_4, (.slice A0_5 l0_5.length c0_5), .bool a0_6, .int .i64 a0_7, .string a0_8, .bool a0_9, .int .i64 a0_10, .bool a0_11, .bool a0_12, .int .i64 a0_13] 26 (0, 0))) ∧ Aside0 (wc.heap[gb395]? = some (.cells #[.string (⟨#[]⟩ : ByteArray), .bool false, .int .i64 0, .string (⟨#[]⟩ : ByteArray)] 55 (0, 0))) ∧ Aside0 (Below w.heap.size w wc))
 case first =>
  have H := HC4.out
  clear HC4
  by_cases c10 : t398 = 0
  ·rw [if_pos c10] at H
   have c10b0 : (t398 == 0) = true := beq_iff_eq.mpr c10
   have c10b1 : (t398 != 0) = false := bne_eq_false_iff_eq.mpr c10
   clear c10
   (first | rw [c10b0] | (simp only [i64_w, i32_w]; rw [c10b0]) | skip)
   have H' := xy H
   clear H
   go_wp2
   go_meet
   case rel => exact ⟨_, (!t396), xg, H', ⟨by first | omega | exact Nat.le_refl _⟩, ⟨by (with_reducible repeat (first | refine blk_drewN ?_ _ | refine blk_drew ?_ | refine blk_alloc ?_ _)); exact BK394.out⟩, ⟨by (with_reducible repeat (first | refine blk_drewN ?_ _ | refine blk_drew ?_ | refine blk_alloc ?_ _)); exact BK395.out⟩, ⟨xb⟩⟩
  ·rw [if_neg c10] at H
   have c10b0 : (t398 == 0) = false := beq_eq_false_iff_ne.mpr c10
   have c10b1 : (t398 != 0) = true := bne_iff_ne.mpr c10
   (first | rw [c10b0] | (simp only [i64_w, i32_w]; rw [c10b0]) | skip)
   have H' := xy H
   clear H
   go_wp2
   go_meet
   case rel => exact ⟨_, (true), xg, H', ⟨by first | omega | exact Nat.le_refl _⟩, ⟨by (with_reducible repeat (first | refine blk_drewN ?_ _ | refine blk_drew ?_ | refine blk_alloc ?_ _)); exact BK394.out⟩, ⟨by (with_reducible repeat (first | refine blk_drewN ?_ _ | refine blk_drew ?_ | refine blk_alloc ?_ _)); exact BK395.out⟩, ⟨xb⟩⟩
 case rest =>
  clear HC4
  try clear c1
  try clear c2
  try clear p2
  try clear c3
  try clear c7
  try clear c10
  try clear c10b0
  try clear c10b1
  try clear hcz8_0 hcz8_1 hcz8_10 hcz8_11 hcz8_12 hcz8_13 hcz8_2 hcz8_3 hcz8_4 hcz8_5 hcz8_6 hcz8_7 hcz8_8 hcz8_9
  try clear hfz8_0 hfz8_1 hfz8_10 hfz8_11 hfz8_12 hfz8_13 hfz8_2 hfz8_3 hfz8_4 hfz8_5 hfz8_6 hfz8_7 hfz8_8 hfz8_9
  obtain ⟨kq, x29_3, rfl, HA, HJ3, BK394, BK395, HB⟩ := hcut
  cases kq with
  | zero => exact absurd HA.out (by simp [mapper_one.j0])
  | succ kj3 =>
   have H := HA.out
   clear HA
   simp only [mapper_one.j0] at H
   by_cases c11 : x29_3 = true
   ·subst c11
    rw [if_pos rfl] at H
    simp only [Option.some.injEq, Prod.mk.injEq] at H
    obtain ⟨rfl, rfl, rfl, rfl, rfl, rfl⟩ := H
    have hnb12 := NB395_394.out
    have hnc12 := NB394_395.out
    obtain ⟨hcz13_0, hcz13_1, hcz13_2, hcz13_3⟩ := kt4 BK395.out
    obtain ⟨hfz13_0, hfz13_1, hfz13_2, hfz13_3⟩ := kz4 BK395.out
    go_wp2
    refine bodyPost_ret (results_ctt rfl _ _ gb395 55 #[.string (⟨#[]⟩ : ByteArray), .bool false, .int .i64 0, .string (⟨#[]⟩ : ByteArray)] (0, 0) _ rfl (by (with_reducible repeat (first | refine blk_drewN ?_ _ | refine blk_drew ?_ | refine blk_alloc ?_ _)); apply kq4; (with_reducible repeat (first | refine blk_drewN ?_ _ | refine blk_drew ?_ | refine blk_alloc ?_ _)); exact BK395.out) Tryz.underlying55 rfl (by kernel_rfl)) rfl ?_
    exact ⟨xe, xb⟩
   ·replace c11 := Bool.eq_false_iff.mpr c11
    subst c11
    rw [if_neg (show ¬ (false = true) by decide)] at H
    replace H := xj H
    obtain ⟨⟨t399, t400, t401, t402, t403⟩, A140, H⟩ := H
    try dsimp only at H
    have A14 := xy A140
    clear A140
    by_cases c15 : t403 = 0
    ·rw [if_pos c15] at H
     have c15b0 : (t403 == 0) = true := beq_iff_eq.mpr c15
     have c15b1 : (t403 != 0) = false := bne_eq_false_iff_eq.mpr c15
     clear c15
     replace H := xj H
     obtain ⟨⟨t405, t406, t407, t408, t409⟩, A160, H⟩ := H
     try dsimp only at H
     have A16 := xy A160
     clear A160
     simp only [Option.some.injEq, Prod.mk.injEq] at H
     obtain ⟨rfl, rfl, rfl, rfl, rfl, rfl⟩ := H
     have hnb17 := NB394_395.out
     have hnc17 := NB395_394.out
     obtain ⟨hcz18_0, hcz18_1, hcz18_2, hcz18_3, hcz18_4, hcz18_5, hcz18_6, hcz18_7, hcz18_8, hcz18_9, hcz18_10, hcz18_11, hcz18_12, hcz18_13⟩ := kt14 BK394.out
     obtain ⟨hfz18_0, hfz18_1, hfz18_2, hfz18_3, hfz18_4, hfz18_5, hfz18_6, hfz18_7, hfz18_8, hfz18_9, hfz18_10, hfz18_11, hfz18_12, hfz18_13⟩ := kz14 BK394.out
     go_wp2_with (first | ((with_reducible refine gate_callee (f := 35) rfl ?_); refine goesL_ (some 38) rfl rfl Tryz.func35 (by kernel_rfl) rfl #[.slice A0_2 l0_2.length c0_2, .slice A1 l1.length c1, .int .i64 a0_13] rfl xr ?_; (with_reducible refine (eval_One.calls kj3 _ _ l0_2 _ _ l1 a0_13 t399 t400 t401 t402 t403 _ (Tabs.below hT xf) ?side1 ?side2 ?side3 ?side4 A14.out).mono ?_); (case side1 => exact Kd.C_below HR0_2.out xb); (case side2 => exact HC0_2.out); (case side3 => exact Kd.C_below HR1.out xb); (case side4 => exact HC1.out); rintro e w19 ⟨rfl, hb⟩; refine ⟨_, rfl, ?_⟩; replace BK394 := xd BK394.out hb; replace BK395 := xd BK395.out hb; replace HB := xy (below_step xb hb); (try clear hb); (try clear hb2); (try clear hk); (try clear hi)) | ((with_reducible refine gate_dst (N := 10) rfl ?_); refine xq (N := 10) (cs := #[.bool false, .int .i64 0, .string (⟨#[]⟩ : ByteArray)]) (t := 24) ?_; intro gb404 hg w20 hbox hb; have BK404 := xy (hbox); have GW404 := xs w hg; have GE404 := xs w hg; replace HB := xy (below_step xb hb); have NB394_404 := xn hg BK394.out; have NB404_394 := xp hg BK394.out; replace BK394 := xd BK394.out hb; have NB395_404 := xn hg BK395.out; have NB404_395 := xp hg BK395.out; replace BK395 := xd BK395.out hb; clear hb hbox hg; have hnb21 := NB404_394.out; have hnc21 := NB394_404.out; have hnb22 := NB404_395.out; have hnc22 := NB395_404.out; obtain ⟨hcz23_0, hcz23_1, hcz23_2⟩ := kt3 BK404.out; obtain ⟨hfz23_0, hfz23_1, hfz23_2⟩ := kz3 BK404.out; obtain ⟨hcz24_0, hcz24_1, hcz24_2, hcz24_3, hcz24_4, hcz24_5, hcz24_6, hcz24_7, hcz24_8, hcz24_9, hcz24_10, hcz24_11, hcz24_12, hcz24_13⟩ := kt14 BK394.out; obtain ⟨hfz24_0, hfz24_1, hfz24_2, hfz24_3, hfz24_4, hfz24_5, hfz24_6, hfz24_7, hfz24_8, hfz24_9, hfz24_10, hfz24_11, hfz24_12, hfz24_13⟩ := kz14 BK394.out) | ((with_reducible refine gate_callee (f := 35) rfl ?_); refine goesL_ (some 52) rfl rfl Tryz.func35 (by kernel_rfl) rfl #[.slice A0_3 l0_3.length c0_3, .slice A1 l1.length c1, .int .i64 a0_13] rfl xr ?_; (with_reducible refine (eval_One.calls kj3 _ _ l0_3 _ _ l1 a0_13 t405 t406 t407 t408 t409 _ (Tabs.below hT xf) ?side1 ?side2 ?side3 ?side4 A16.out).mono ?_); (case side1 => exact Kd.C_below HR0_3.out xb); (case side2 => exact HC0_3.out); (case side3 => exact Kd.C_below HR1.out xb); (case side4 => exact HC1.out); rintro e w25 ⟨rfl, hb⟩; refine ⟨_, rfl, ?_⟩; replace BK394 := xy (blk_below (g := gb394) (o := .cells #[.bool a0_0, .slice A0_1 l0_1.length c0_1, .slice A0_2 l0_2.length c0_2, .slice A0_3 l0_3.length c0_3, .int .i64 a0_4, .slice A0_5 l0_5.length c0_5, .bool a0_6, .int .i64 a0_7, .string a0_8, .bool a0_9, .int .i64 a0_10, .bool a0_11, .bool a0_12, .int .i64 a0_13] 26 (0, 0)) (by repeat (first | (with_reducible first | exact BK394.out | refine blk_drewN ?_ _ | refine blk_drew ?_ | refine blk_alloc ?_ _) | refine blk_far ?_ NB394_404.out _ | exact BK394.out)) hb); replace BK395 := xy (blk_below (g := gb395) (o := .cells #[.string (⟨#[]⟩ : ByteArray), .bool false, .int .i64 0, .string (⟨#[]⟩ : ByteArray)] 55 (0, 0)) (by repeat (first | (with_reducible first | exact BK395.out | refine blk_drewN ?_ _ | refine blk_drew ?_ | refine blk_alloc ?_ _) | refine blk_far ?_ NB395_404.out _ | exact BK395.out)) hb); replace BK404 := xy (blk_below (g := gb404) (o := .cells #[.bool t399, .int .i64 t400, .string t401] 24 (0, 0)) (kp BK404.out) hb); replace HB := xy (below_step xb hb); (try clear hb); (try clear hb2); (try clear hk); (try clear hi)) | ((with_reducible refine gate_dst (N := 12) rfl ?_); refine xq (N := 12) (cs := #[.bool false, .int .i64 0, .string (⟨#[]⟩ : ByteArray)]) (t := 24) ?_; intro gb410 hg w26 hbox hb; have BK410 := xy (hbox); have GW410 := xs w hg; have GE410 := xs w hg; replace HB := xy (below_step xb hb); have NB394_410 := xn hg BK394.out; have NB410_394 := xp hg BK394.out; replace BK394 := xd BK394.out hb; have NB395_410 := xn hg BK395.out; have NB410_395 := xp hg BK395.out; replace BK395 := xd BK395.out hb; have NB404_410 := xn hg BK404.out; have NB410_404 := xp hg BK404.out; replace BK404 := xd BK404.out hb; clear hb hbox hg; have hnb27 := NB410_394.out; have hnc27 := NB394_410.out; have hnb28 := NB410_395.out; have hnc28 := NB395_410.out; have hnb29 := NB410_404.out; have hnc29 := NB404_410.out; obtain ⟨hcz30_0, hcz30_1, hcz30_2⟩ := kt3 BK410.out; obtain ⟨hfz30_0, hfz30_1, hfz30_2⟩ := kz3 BK410.out; obtain ⟨hcz31_0, hcz31_1, hcz31_2⟩ := kt3 BK404.out; obtain ⟨hfz31_0, hfz31_1, hfz31_2⟩ := kz3 BK404.out; obtain ⟨hcz32_0, hcz32_1, hcz32_2, hcz32_3⟩ := kt4 BK395.out; obtain ⟨hfz32_0, hfz32_1, hfz32_2, hfz32_3⟩ := kz4 BK395.out))
     refine bodyPost_ret (results_ctt rfl _ _ gb395 55 #[.string t401, .bool t405, .int .i64 t406, .string t407] (0, 0) _ rfl (by (with_reducible repeat (first | refine blk_drewN ?_ _ | refine blk_drew ?_ | refine blk_alloc ?_ _)); apply kq4; (with_reducible repeat (first | refine blk_drewN ?_ _ | refine blk_drew ?_ | refine blk_alloc ?_ _)); refine blk_far ?_ NB395_410.out _; (with_reducible repeat (first | refine blk_drewN ?_ _ | refine blk_drew ?_ | refine blk_alloc ?_ _)); refine blk_far ?_ NB395_410.out _; (with_reducible repeat (first | refine blk_drewN ?_ _ | refine blk_drew ?_ | refine blk_alloc ?_ _)); refine blk_far ?_ NB395_410.out _; (with_reducible repeat (first | refine blk_drewN ?_ _ | refine blk_drew ?_ | refine blk_alloc ?_ _)); exact BK395.out) Tryz.underlying55 rfl (by kernel_rfl)) rfl ?_
     exact ⟨xe, xb⟩
    ·rw [if_neg c15] at H
     have c15b0 : (t403 == 0) = false := beq_eq_false_iff_ne.mpr c15
     have c15b1 : (t403 != 0) = true := bne_iff_ne.mpr c15
     simp only [Option.some.injEq, Prod.mk.injEq] at H
     obtain ⟨rfl, rfl, rfl, rfl, rfl, rfl⟩ := H
     have hnb33 := NB394_395.out
     have hnc33 := NB395_394.out
     obtain ⟨hcz34_0, hcz34_1, hcz34_2, hcz34_3, hcz34_4, hcz34_5, hcz34_6, hcz34_7, hcz34_8, hcz34_9, hcz34_10, hcz34_11, hcz34_12, hcz34_13⟩ := kt14 BK394.out
     obtain ⟨hfz34_0, hfz34_1, hfz34_2, hfz34_3, hfz34_4, hfz34_5, hfz34_6, hfz34_7, hfz34_8, hfz34_9, hfz34_10, hfz34_11, hfz34_12, hfz34_13⟩ := kz14 BK394.out
     go_wp2_with (first | ((with_reducible refine gate_callee (f := 35) rfl ?_); refine goesL_ (some 38) rfl rfl Tryz.func35 (by kernel_rfl) rfl #[.slice A0_2 l0_2.length c0_2, .slice A1 l1.length c1, .int .i64 a0_13] rfl xr ?_; (with_reducible refine (eval_One.calls kj3 _ _ l0_2 _ _ l1 a0_13 t399 t400 t401 t402 t403 _ (Tabs.below hT xf) ?side1 ?side2 ?side3 ?side4 A14.out).mono ?_); (case side1 => exact Kd.C_below HR0_2.out xb); (case side2 => exact HC0_2.out); (case side3 => exact Kd.C_below HR1.out xb); (case side4 => exact HC1.out); rintro e w35 ⟨rfl, hb⟩; refine ⟨_, rfl, ?_⟩; replace BK394 := xd BK394.out hb; replace BK395 := xd BK395.out hb; replace HB := xy (below_step xb hb); (try clear hb); (try clear hb2); (try clear hk); (try clear hi)) | ((with_reducible refine gate_dst (N := 10) rfl ?_); refine xq (N := 10) (cs := #[.bool false, .int .i64 0, .string (⟨#[]⟩ : ByteArray)]) (t := 24) ?_; intro gb404 hg w36 hbox hb; have BK404 := xy (hbox); have GW404 := xs w hg; have GE404 := xs w hg; replace HB := xy (below_step xb hb); have NB394_404 := xn hg BK394.out; have NB404_394 := xp hg BK394.out; replace BK394 := xd BK394.out hb; have NB395_404 := xn hg BK395.out; have NB404_395 := xp hg BK395.out; replace BK395 := xd BK395.out hb; clear hb hbox hg; have hnb37 := NB404_394.out; have hnc37 := NB394_404.out; have hnb38 := NB404_395.out; have hnc38 := NB395_404.out; obtain ⟨hcz39_0, hcz39_1, hcz39_2⟩ := kt3 BK404.out; obtain ⟨hfz39_0, hfz39_1, hfz39_2⟩ := kz3 BK404.out; obtain ⟨hcz40_0, hcz40_1, hcz40_2, hcz40_3⟩ := kt4 BK395.out; obtain ⟨hfz40_0, hfz40_1, hfz40_2, hfz40_3⟩ := kz4 BK395.out))
     refine bodyPost_ret (results_ctt rfl _ _ gb395 55 #[.string (⟨#[]⟩ : ByteArray), .bool false, .int .i64 0, .string (⟨#[]⟩ : ByteArray)] (0, 0) _ rfl (by (with_reducible repeat (first | refine blk_drewN ?_ _ | refine blk_drew ?_ | refine blk_alloc ?_ _)); apply kq4; (with_reducible repeat (first | refine blk_drewN ?_ _ | refine blk_drew ?_ | refine blk_alloc ?_ _)); refine blk_far ?_ NB395_404.out _; (with_reducible repeat (first | refine blk_drewN ?_ _ | refine blk_drew ?_ | refine blk_alloc ?_ _)); refine blk_far ?_ NB395_404.out _; (with_reducible repeat (first | refine blk_drewN ?_ _ | refine blk_drew ?_ | refine blk_alloc ?_ _)); refine blk_far ?_ NB395_404.out _; (with_reducible repeat (first | refine blk_drewN ?_ _ | refine blk_drew ?_ | refine blk_alloc ?_ _)); exact BK395.out) Tryz.underlying55 rfl (by kernel_rfl)) rfl ?_
     exact ⟨xe, xb⟩
end Go.Proofs.YtialoecplmnjfaaGreatDoor.PX
