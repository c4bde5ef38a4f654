/- Walked functions, by this session's program over the kit's print. -/
import Derived.Test.YtebofnoljebakaaGreatDoorXResult
import Derived.Test.YtebofnoljebakaaGreatDoorXTurn
import Derived.Test.YtebofnoljebakaaGreatDoorPXx0
namespace Go.Proofs.YtebofnoljebakaaGreatDoor.PX
open Go.RowKit Go.Proofs.YtebofnoljebakaaGreatDoorW.PrintWords Go.Proofs.YtebofnoljebakaaGreatDoorW.PrintLast Go.Proofs.YtebofnoljebakaaGreatDoorW.PrintMore
attribute [local go_sem] xm_gtr max2_int min2_int max_two min_two max_three min_three max_four min_four
set_option linter.unusedVariables false
set_option linter.unusedSimpArgs false
/- Walked functions, by this session's program over the kit's print. -/
def cmp_isNaN_int.f (a0 : Int) : Option (Bool) := some (a0 != a0)
set_option maxHeartbeats 8000000 in
set_option maxRecDepth 100000 in
theorem cmp_isNaN_int.calls (a0 : Int) (r : Bool) (w : World) (hT : Tabs w) (h : cmp_isNaN_int.f a0 = some r) :
  Calls Tryz.prog 50 #[.int .i64 a0] w fun e w' => e = .returned (.bool r) ∧ Drawn0 w w' := by
 unfold cmp_isNaN_int.f at h
 have H := h
 clear h
 obtain rfl := Option.some.inj H
 go_enter Tryz.func50, Tryz.ntmps50
 go_wp2
 go_ret
 exact ⟨xg, xz⟩
def cmp_Compare_int.f (a0 : Int) (a1 : Int) : Option (Int) := (cmp_isNaN_int.f a0).bind fun t101 => ((cmp_isNaN_int.f a1).bind fun t102 => (if t101 = true then (if t102 = true then (some 0) else (some (-1))) else (if t102 = true then (some 1) else (if a0 < a1 then (some (-1)) else (if a0 > a1 then (some 1) else (some 0))))))
set_option maxHeartbeats 8000000 in
set_option maxRecDepth 100000 in
theorem cmp_Compare_int.calls (a0 : Int) (a1 : Int) (r : Int) (w : World) (hT : Tabs w) (h : cmp_Compare_int.f a0 a1 = some r) :
  Calls Tryz.prog 43 #[.int .i64 a0, .int .i64 a1] w fun e w' => e = .returned (.int .i64 r) ∧ Drawn0 w w' := by
 unfold cmp_Compare_int.f at h
 have H := h
 clear h
 replace H := xj H
 obtain ⟨t101, A30, H⟩ := H
 try dsimp only at H
 have A3 := xy A30
 clear A30
 replace H := xj H
 obtain ⟨t102, A40, H⟩ := H
 try dsimp only at H
 have A4 := xy A40
 clear A40
 by_cases c5 : t101 = true
 ·subst c5
  rw [if_pos rfl] at H
  by_cases c6 : t102 = true
  ·subst c6
   rw [if_pos rfl] at H
   obtain rfl := Option.some.inj H
   go_enter Tryz.func43, Tryz.ntmps43
   go_wp2_with (first | ((with_reducible refine gate_callee (f := 50) rfl ?_); refine goesL_ (some 8) rfl rfl Tryz.func50 (by kernel_rfl) rfl #[.int .i64 a0] rfl xr ?_; (with_reducible refine (cmp_isNaN_int.calls a0 true _ (Tabs.below hT xf) A3.out).mono ?_); rintro e w' ⟨rfl, ⟨nd, rfl⟩⟩; refine ⟨_, rfl, ?_⟩) | ((with_reducible refine gate_callee (f := 50) rfl ?_); refine goesL_ (some 10) rfl rfl Tryz.func50 (by kernel_rfl) rfl #[.int .i64 a1] rfl xr ?_; (with_reducible refine (cmp_isNaN_int.calls a1 true _ (Tabs.below hT xf) A4.out).mono ?_); rintro e w' ⟨rfl, ⟨nd, rfl⟩⟩; refine ⟨_, rfl, ?_⟩))
   go_ret
   exact ⟨xg, xz⟩
  ·replace c6 := Bool.eq_false_iff.mpr c6
   subst c6
   rw [if_neg (show ¬ (false = true) by decide)] at H
   obtain rfl := Option.some.inj H
   go_enter Tryz.func43, Tryz.ntmps43
   go_wp2_with (first | ((with_reducible refine gate_callee (f := 50) rfl ?_); refine goesL_ (some 8) rfl rfl Tryz.func50 (by kernel_rfl) rfl #[.int .i64 a0] rfl xr ?_; (with_reducible refine (cmp_isNaN_int.calls a0 true _ (Tabs.below hT xf) A3.out).mono ?_); rintro e w' ⟨rfl, ⟨nd, rfl⟩⟩; refine ⟨_, rfl, ?_⟩) | ((with_reducible refine gate_callee (f := 50) rfl ?_); refine goesL_ (some 10) rfl rfl Tryz.func50 (by kernel_rfl) rfl #[.int .i64 a1] rfl xr ?_; (with_reducible refine (cmp_isNaN_int.calls a1 false _ (Tabs.below hT xf) A4.out).mono ?_); rintro e w' ⟨rfl, ⟨nd, rfl⟩⟩; refine ⟨_, rfl, ?_⟩))
   go_ret
   exact ⟨xg, xz⟩
 ·replace c5 := Bool.eq_false_iff.mpr c5
  subst c5
  rw [if_neg (show ¬ (false = true) by decide)] at H
  by_cases c7 : t102 = true
  ·subst c7
   rw [if_pos rfl] at H
   obtain rfl := Option.some.inj H
   go_enter Tryz.func43, Tryz.ntmps43
   go_wp2_with (first | ((with_reducible refine gate_callee (f := 50) rfl ?_); refine goesL_ (some 8) rfl rfl Tryz.func50 (by kernel_rfl) rfl #[.int .i64 a0] rfl xr ?_; (with_reducible refine (cmp_isNaN_int.calls a0 false _ (Tabs.below hT xf) A3.out).mono ?_); rintro e w' ⟨rfl, ⟨nd, rfl⟩⟩; refine ⟨_, rfl, ?_⟩) | ((with_reducible refine gate_callee (f := 50) rfl ?_); refine goesL_ (some 10) rfl rfl Tryz.func50 (by kernel_rfl) rfl #[.int .i64 a1] rfl xr ?_; (with_reducible refine (cmp_isNaN_int.calls a1 true _ (Tabs.below hT xf) A4.out).mono ?_); rintro e w' ⟨rfl, ⟨nd, rfl⟩⟩; refine ⟨_, rfl, ?_⟩))
   go_ret
   exact ⟨xg, xz⟩
  ·replace c7 := Bool.eq_false_iff.mpr c7
   subst c7
   rw [if_neg (show ¬ (false = true) by decide)] at H
   by_cases c8 : a0 < a1
   ·rw [if_pos c8] at H
    have c8b0 : decide (a0 < a1) = true := decide_eq_true c8
    clear c8
    obtain rfl := Option.some.inj H
    go_enter Tryz.func43, Tryz.ntmps43
    go_wp2_with (first | ((with_reducible refine gate_callee (f := 50) rfl ?_); refine goesL_ (some 8) rfl rfl Tryz.func50 (by kernel_rfl) rfl #[.int .i64 a0] rfl xr ?_; (with_reducible refine (cmp_isNaN_int.calls a0 false _ (Tabs.below hT xf) A3.out).mono ?_); rintro e w' ⟨rfl, ⟨nd, rfl⟩⟩; refine ⟨_, rfl, ?_⟩) | ((with_reducible refine gate_callee (f := 50) rfl ?_); refine goesL_ (some 10) rfl rfl Tryz.func50 (by kernel_rfl) rfl #[.int .i64 a1] rfl xr ?_; (with_reducible refine (cmp_isNaN_int.calls a1 false _ (Tabs.below hT xf) A4.out).mono ?_); rintro e w' ⟨rfl, ⟨nd, rfl⟩⟩; refine ⟨_, rfl, ?_⟩))
    go_ret
    exact ⟨xg, xz⟩
   ·rw [if_neg c8] at H
    have c8b0 : decide (a0 < a1) = false := decide_eq_false c8
    clear c8
    by_cases c9 : a0 > a1
    ·rw [if_pos c9] at H
     have c9b0 : decide (a1 < a0) = true := decide_eq_true c9
     clear c9
     obtain rfl := Option.some.inj H
     go_enter Tryz.func43, Tryz.ntmps43
     go_wp2_with (first | ((with_reducible refine gate_callee (f := 50) rfl ?_); refine goesL_ (some 8) rfl rfl Tryz.func50 (by kernel_rfl) rfl #[.int .i64 a0] rfl xr ?_; (with_reducible refine (cmp_isNaN_int.calls a0 false _ (Tabs.below hT xf) A3.out).mono ?_); rintro e w' ⟨rfl, ⟨nd, rfl⟩⟩; refine ⟨_, rfl, ?_⟩) | ((with_reducible refine gate_callee (f := 50) rfl ?_); refine goesL_ (some 10) rfl rfl Tryz.func50 (by kernel_rfl) rfl #[.int .i64 a1] rfl xr ?_; (with_reducible refine (cmp_isNaN_int.calls a1 false _ (Tabs.below hT xf) A4.out).mono ?_); rintro e w' ⟨rfl, ⟨nd, rfl⟩⟩; refine ⟨_, rfl, ?_⟩))
     go_ret
     exact ⟨xg, xz⟩
    ·rw [if_neg c9] at H
     have c9b0 : decide (a1 < a0) = false := decide_eq_false c9
     clear c9
     obtain rfl := Option.some.inj H
     go_enter Tryz.func43, Tryz.ntmps43
     go_wp2_with (first | ((with_reducible refine gate_callee (f := 50) rfl ?_); refine goesL_ (some 8) rfl rfl Tryz.func50 (by kernel_rfl) rfl #[.int .i64 a0] rfl xr ?_; (with_reducible refine (cmp_isNaN_int.calls a0 false _ (Tabs.below hT xf) A3.out).mono ?_); rintro e w' ⟨rfl, ⟨nd, rfl⟩⟩; refine ⟨_, rfl, ?_⟩) | ((with_reducible refine gate_callee (f := 50) rfl ?_); refine goesL_ (some 10) rfl rfl Tryz.func50 (by kernel_rfl) rfl #[.int .i64 a1] rfl xr ?_; (with_reducible refine (cmp_isNaN_int.calls a1 false _ (Tabs.below hT xf) A4.out).mono ?_); rintro e w' ⟨rfl, ⟨nd, rfl⟩⟩; refine ⟨_, rfl, ?_⟩))
     go_ret
     exact ⟨xg, xz⟩
def value_isVal.f (a0_0 : Bool) (a0_1 : Int) (a0_2 : ByteArray) : Option (Bool) := if a0_0 = true then (if a0_1 = 0 then (some (decide ((a0_2.size : Int) ≤ 1000))) else (some false)) else (some (a0_2.toList == ([] : List UInt8)))
set_option maxHeartbeats 8000000 in
set_option maxRecDepth 100000 in
theorem value_isVal.calls (a0_0 : Bool) (a0_1 : Int) (a0_2 : ByteArray) (r : Bool) (w : World) (hT : Tabs w) (h : value_isVal.f a0_0 a0_1 a0_2 = some r) :
  Calls Tryz.prog 60 #[.agg #[.bool a0_0, .int .i64 a0_1, .string a0_2]] w fun e w' => e = .returned (.bool r) ∧ Below w.heap.size w w' := by
 have hu24 := Tryz.underlying24
 have HB := xy (Below.refl w.heap.size w)
 unfold value_isVal.f at h
 have H := h
 clear h
 by_cases c2 : a0_0 = true
 ·subst c2
  rw [if_pos rfl] at H
  by_cases c3 : a0_1 = 0
  ·rw [if_pos c3] at H
   have c3b0 : (a0_1 == 0) = true := beq_iff_eq.mpr c3
   have c3b1 : (a0_1 != 0) = false := bne_eq_false_iff_eq.mpr c3
   clear c3
   obtain rfl := Option.some.inj H
   go_enter Tryz.func60, Tryz.ntmps60
   go_wp2_with (first | ((with_reducible refine gate_dst (N := 1) rfl ?_); (try (refine gate_guard (by rfl) ?_; dsimp only)); refine xq (N := 1) (cs := #[.bool true, .int .i64 a0_1, .string a0_2]) (t := 24) ?_; intro gb103 hg w4 hbox hb; have BK103 := xy (hbox); have GW103 := xs w hg; have GE103 := xs w hg; replace HB := xy (below_step xb hb); clear hb hbox hg; have hcz5_0 : w4.cell? ⟨gb103, 0, none⟩ = some (.bool true) := (kc BK103.out 0).trans rfl; have hcz5_1 : w4.cell? ⟨gb103, 1, none⟩ = some (.int .i64 a0_1) := (kc BK103.out 1).trans rfl; have hcz5_2 : w4.cell? ⟨gb103, 2, none⟩ = some (.string a0_2) := (kc BK103.out 2).trans rfl; have hfz5_0 := kf BK103.out 0; have hfz5_1 := kf BK103.out 1; have hfz5_2 := kf BK103.out 2))
   go_ret
   exact ⟨xe, xb⟩
  ·rw [if_neg c3] at H
   have c3b0 : (a0_1 == 0) = false := beq_eq_false_iff_ne.mpr c3
   have c3b1 : (a0_1 != 0) = true := bne_iff_ne.mpr c3
   obtain rfl := Option.some.inj H
   go_enter Tryz.func60, Tryz.ntmps60
   go_wp2_with (first | ((with_reducible refine gate_dst (N := 1) rfl ?_); (try (refine gate_guard (by rfl) ?_; dsimp only)); refine xq (N := 1) (cs := #[.bool true, .int .i64 a0_1, .string a0_2]) (t := 24) ?_; intro gb103 hg w6 hbox hb; have BK103 := xy (hbox); have GW103 := xs w hg; have GE103 := xs w hg; replace HB := xy (below_step xb hb); clear hb hbox hg; have hcz7_0 : w6.cell? ⟨gb103, 0, none⟩ = some (.bool true) := (kc BK103.out 0).trans rfl; have hcz7_1 : w6.cell? ⟨gb103, 1, none⟩ = some (.int .i64 a0_1) := (kc BK103.out 1).trans rfl; have hcz7_2 : w6.cell? ⟨gb103, 2, none⟩ = some (.string a0_2) := (kc BK103.out 2).trans rfl; have hfz7_0 := kf BK103.out 0; have hfz7_1 := kf BK103.out 1; have hfz7_2 := kf BK103.out 2))
   go_ret
   exact ⟨xe, xb⟩
 ·replace c2 := Bool.eq_false_iff.mpr c2
  subst c2
  rw [if_neg (show ¬ (false = true) by decide)] at H
  obtain rfl := Option.some.inj H
  go_enter Tryz.func60, Tryz.ntmps60
  go_wp2_with (first | ((with_reducible refine gate_dst (N := 1) rfl ?_); (try (refine gate_guard (by rfl) ?_; dsimp only)); refine xq (N := 1) (cs := #[.bool false, .int .i64 a0_1, .string a0_2]) (t := 24) ?_; intro gb103 hg w8 hbox hb; have BK103 := xy (hbox); have GW103 := xs w hg; have GE103 := xs w hg; replace HB := xy (below_step xb hb); clear hb hbox hg; have hcz9_0 : w8.cell? ⟨gb103, 0, none⟩ = some (.bool false) := (kc BK103.out 0).trans rfl; have hcz9_1 : w8.cell? ⟨gb103, 1, none⟩ = some (.int .i64 a0_1) := (kc BK103.out 1).trans rfl; have hcz9_2 : w8.cell? ⟨gb103, 2, none⟩ = some (.string a0_2) := (kc BK103.out 2).trans rfl; have hfz9_0 := kf BK103.out 0; have hfz9_1 := kf BK103.out 1; have hfz9_2 := kf BK103.out 2))
  go_ret
  exact ⟨xe, xb⟩
def value_Result.f (a0 : Int) (l1 : List Bool) : Option (Bool × Int) := some (XOps.resultF a0 l1)
theorem value_Result.calls (a0 : Int) (A1 : Option Addr) (c1 : Nat) (l1 : List Bool) (r1 : Bool) (r2 : Int) (w : World) (hT : Tabs w) (hr1 : Kd.C Kd.bool w A1 l1.length l1) (hc1 : l1.length ≤ c1) (h : value_Result.f a0 l1 = some (r1, r2)) :
  Calls Tryz.prog 61 #[.int .i64 a0, .slice A1 l1.length c1] w fun e w' => e = .returned (.tuple #[.bool r1, .int .i64 r2]) ∧ Below w.heap.size w w' := by
 have e : XOps.resultF a0 l1 = (r1, r2) := Option.some.inj h
 have := XOps.result_calls a0 A1 c1 l1 w hr1
 rw [e] at this
 exact this
def value_Num.f (a0 : Int) : Option (Bool × Int × ByteArray) := some (false, a0, (⟨#[]⟩ : ByteArray))
set_option maxHeartbeats 8000000 in
set_option maxRecDepth 100000 in
theorem value_Num.calls (a0 : Int) (r1 : Bool) (r2 : Int) (r3 : ByteArray) (w : World) (hT : Tabs w) (h : value_Num.f a0 = some (r1, r2, r3)) :
  Calls Tryz.prog 93 #[.int .i64 a0] w fun e w' => e = .returned (.agg #[.bool r1, .int .i64 r2, .string r3]) ∧ Below w.heap.size w w' := by
 have hu24 := Tryz.underlying24
 have HB := xy (Below.refl w.heap.size w)
 unfold value_Num.f at h
 have H := h
 clear h
 simp only [Option.some.injEq, Prod.mk.injEq] at H
 obtain ⟨rfl, rfl, rfl⟩ := H
 go_enter Tryz.func93, Tryz.ntmps93
 go_wp2_with (first | ((with_reducible refine gate_dst (N := 2) rfl ?_); refine xq (N := 2) (cs := #[.bool false, .int .i64 0, .string (⟨#[]⟩ : ByteArray)]) (t := 24) ?_; intro gb104 hg w2 hbox hb; have BK104 := xy (hbox); have GW104 := xs w hg; have GE104 := xs w hg; replace HB := xy (below_step xb hb); clear hb hbox hg; have hcz3_0 : w2.cell? ⟨gb104, 0, none⟩ = some (.bool false) := (kc BK104.out 0).trans rfl; have hcz3_1 : w2.cell? ⟨gb104, 1, none⟩ = some (.int .i64 0) := (kc BK104.out 1).trans rfl; have hcz3_2 : w2.cell? ⟨gb104, 2, none⟩ = some (.string (⟨#[]⟩ : ByteArray)) := (kc BK104.out 2).trans rfl; have hfz3_0 := kf BK104.out 0; have hfz3_1 := kf BK104.out 1; have hfz3_2 := kf BK104.out 2))
 refine bodyPost_ret (results_cell_row rfl _ _ gb104 24 #[.bool false, .int .i64 a0, .string (⟨#[]⟩ : ByteArray)] (0, 0) _ rfl (kp BK104.out) Tryz.underlying24 rfl (by kernel_rfl)) rfl ?_
 exact ⟨xe, xb⟩
def value_val_add.f (a0_0 : Bool) (a0_1 : Int) (a0_2 : ByteArray) (a1_0 : Bool) (a1_1 : Int) (a1_2 : ByteArray) (a2_0 : Bool) (a2_1 : Int) (a2_2 : ByteArray) : Option (Bool × Int × ByteArray) := (value_Num.f (wrap64 (a0_1 + a1_1))).bind fun bt109 => (some (bt109.1, bt109.2.1, bt109.2.2))
set_option maxHeartbeats 8000000 in
set_option maxRecDepth 100000 in
theorem value_val_add.calls (a0_0 : Bool) (a0_1 : Int) (a0_2 : ByteArray) (a1_0 : Bool) (a1_1 : Int) (a1_2 : ByteArray) (a2_0 : Bool) (a2_1 : Int) (a2_2 : ByteArray) (r1 : Bool) (r2 : Int) (r3 : ByteArray) (w : World) (hT : Tabs w) (h : value_val_add.f a0_0 a0_1 a0_2 a1_0 a1_1 a1_2 a2_0 a2_1 a2_2 = some (r1, r2, r3)) :
  Calls Tryz.prog 74 #[.agg #[.bool a0_0, .int .i64 a0_1, .string a0_2], .agg #[.bool a1_0, .int .i64 a1_1, .string a1_2], .agg #[.bool a2_0, .int .i64 a2_1, .string a2_2]] w fun e w' => e = .returned (.agg #[.bool r1, .int .i64 r2, .string r3]) ∧ Below w.heap.size w w' := by
 have hu103 := Tryz.underlying103
 have hu24 := Tryz.underlying24
 have HB := xy (Below.refl w.heap.size w)
 unfold value_val_add.f at h
 have H := h
 clear h
 replace H := xj H
 obtain ⟨⟨t109, t110, t111⟩, A40, H⟩ := H
 try dsimp only at H
 have A4 := xy A40
 clear A40
 simp only [Option.some.injEq, Prod.mk.injEq] at H
 obtain ⟨rfl, rfl, rfl⟩ := H
 go_enter Tryz.func74, Tryz.ntmps74
 go_wp2_with (first | ((with_reducible refine gate_dst (N := 3) rfl ?_); refine xq (N := 3) (cs := #[.bool a0_0, .int .i64 a0_1, .string a0_2]) (t := 103) ?_; intro gb105 hg w5 hbox hb; have BK105 := xy (hbox); have GW105 := xs w hg; have GE105 := xs w hg; replace HB := xy (below_step xb hb); clear hb hbox hg) | ((with_reducible refine gate_dst (N := 4) rfl ?_); refine xq (N := 4) (cs := #[.bool a1_0, .int .i64 a1_1, .string a1_2]) (t := 103) ?_; intro gb106 hg w6 hbox hb; have BK106 := xy (hbox); have GW106 := xs w hg; have GE106 := xs w hg; replace HB := xy (below_step xb hb); have NB105_106 := xn hg BK105.out; have NB106_105 := xp hg BK105.out; replace BK105 := xd BK105.out hb; clear hb hbox hg) | ((with_reducible refine gate_dst (N := 5) rfl ?_); refine xq (N := 5) (cs := #[.bool a2_0, .int .i64 a2_1, .string a2_2]) (t := 103) ?_; intro gb107 hg w7 hbox hb; have BK107 := xy (hbox); have GW107 := xs w hg; have GE107 := xs w hg; replace HB := xy (below_step xb hb); have NB105_107 := xn hg BK105.out; have NB107_105 := xp hg BK105.out; replace BK105 := xd BK105.out hb; have NB106_107 := xn hg BK106.out; have NB107_106 := xp hg BK106.out; replace BK106 := xd BK106.out hb; clear hb hbox hg) | ((with_reducible refine gate_dst (N := 6) rfl ?_); refine xq (N := 6) (cs := #[.bool false, .int .i64 0, .string (⟨#[]⟩ : ByteArray)]) (t := 24) ?_; intro gb108 hg w8 hbox hb; have BK108 := xy (hbox); have GW108 := xs w hg; have GE108 := xs w hg; replace HB := xy (below_step xb hb); have NB105_108 := xn hg BK105.out; have NB108_105 := xp hg BK105.out; replace BK105 := xd BK105.out hb; have NB106_108 := xn hg BK106.out; have NB108_106 := xp hg BK106.out; replace BK106 := xd BK106.out hb; have NB107_108 := xn hg BK107.out; have NB108_107 := xp hg BK107.out; replace BK107 := xd BK107.out hb; clear hb hbox hg; have hnb9 := NB105_106.out; have hnc9 := NB106_105.out; have hnb10 := NB105_107.out; have hnc10 := NB107_105.out; have hnb11 := NB105_108.out; have hnc11 := NB108_105.out; have hcz12_0 : w8.cell? ⟨gb105, 0, none⟩ = some (.bool a0_0) := (kc BK105.out 0).trans rfl; have hcz12_1 : w8.cell? ⟨gb105, 1, none⟩ = some (.int .i64 a0_1) := (kc BK105.out 1).trans rfl; have hcz12_2 : w8.cell? ⟨gb105, 2, none⟩ = some (.string a0_2) := (kc BK105.out 2).trans rfl; have hfz12_0 := kf BK105.out 0; have hfz12_1 := kf BK105.out 1; have hfz12_2 := kf BK105.out 2; have hnb13 := NB106_107.out; have hnc13 := NB107_106.out; have hnb14 := NB106_108.out; have hnc14 := NB108_106.out; have hcz15_0 : w8.cell? ⟨gb106, 0, none⟩ = some (.bool a1_0) := (kc BK106.out 0).trans rfl; have hcz15_1 : w8.cell? ⟨gb106, 1, none⟩ = some (.int .i64 a1_1) := (kc BK106.out 1).trans rfl; have hcz15_2 : w8.cell? ⟨gb106, 2, none⟩ = some (.string a1_2) := (kc BK106.out 2).trans rfl; have hfz15_0 := kf BK106.out 0; have hfz15_1 := kf BK106.out 1; have hfz15_2 := kf BK106.out 2) | ((with_reducible refine gate_callee (f := 93) rfl ?_); refine goesL_ (some 12) rfl rfl Tryz.func93 (by kernel_rfl) rfl #[.int .i64 (wrap64 (a0_1 + a1_1))] rfl xr ?_; (with_reducible refine (value_Num.calls (wrap64 (a0_1 + a1_1)) t109 t110 t111 _ (Tabs.below hT xf) A4.out).mono ?_); rintro e w16 ⟨rfl, hb⟩; refine ⟨_, rfl, ?_⟩; replace BK105 := xd BK105.out hb; replace BK106 := xd BK106.out hb; replace BK107 := xd BK107.out hb; replace BK108 := xd BK108.out hb; replace HB := xy (below_step xb hb); (try clear hb); (try clear hb2); (try clear hk); (try clear hi); have hnb17 := NB108_107.out; have hnc17 := NB107_108.out; have hcz18_0 : w16.cell? ⟨gb108, 0, none⟩ = some (.bool false) := (kc BK108.out 0).trans rfl; have hcz18_1 : w16.cell? ⟨gb108, 1, none⟩ = some (.int .i64 0) := (kc BK108.out 1).trans rfl; have hcz18_2 : w16.cell? ⟨gb108, 2, none⟩ = some (.string (⟨#[]⟩ : ByteArray)) := (kc BK108.out 2).trans rfl; have hfz18_0 := kf BK108.out 0; have hfz18_1 := kf BK108.out 1; have hfz18_2 := kf BK108.out 2))
 refine bodyPost_ret (results_cell_row rfl _ _ gb108 24 #[.bool t109, .int .i64 t110, .string t111] (0, 0) _ rfl (kp BK108.out) Tryz.underlying24 rfl (by kernel_rfl)) rfl ?_
 exact ⟨xe, xb⟩
def value_val_sub.f (a0_0 : Bool) (a0_1 : Int) (a0_2 : ByteArray) (a1_0 : Bool) (a1_1 : Int) (a1_2 : ByteArray) (a2_0 : Bool) (a2_1 : Int) (a2_2 : ByteArray) : Option (Bool × Int × ByteArray) := (value_Num.f (wrap64 (a0_1 - a1_1))).bind fun bt116 => (some (bt116.1, bt116.2.1, bt116.2.2))
set_option maxHeartbeats 8000000 in
set_option maxRecDepth 100000 in
theorem value_val_sub.calls (a0_0 : Bool) (a0_1 : Int) (a0_2 : ByteArray) (a1_0 : Bool) (a1_1 : Int) (a1_2 : ByteArray) (a2_0 : Bool) (a2_1 : Int) (a2_2 : ByteArray) (r1 : Bool) (r2 : Int) (r3 : ByteArray) (w : World) (hT : Tabs w) (h : value_val_sub.f a0_0 a0_1 a0_2 a1_0 a1_1 a1_2 a2_0 a2_1 a2_2 = some (r1, r2, r3)) :
  Calls Tryz.prog 75 #[.agg #[.bool a0_0, .int .i64 a0_1, .string a0_2], .agg #[.bool a1_0, .int .i64 a1_1, .string a1_2], .agg #[.bool a2_0, .int .i64 a2_1, .string a2_2]] w fun e w' => e = .returned (.agg #[.bool r1, .int .i64 r2, .string r3]) ∧ Below w.heap.size w w' := by
 have hu103 := Tryz.underlying103
 have hu24 := Tryz.underlying24
 have HB := xy (Below.refl w.heap.size w)
 unfold value_val_sub.f at h
 have H := h
 clear h
 replace H := xj H
 obtain ⟨⟨t116, t117, t118⟩, A40, H⟩ := H
 try dsimp only at H
 have A4 := xy A40
 clear A40
 simp only [Option.some.injEq, Prod.mk.injEq] at H
 obtain ⟨rfl, rfl, rfl⟩ := H
 go_enter Tryz.func75, Tryz.ntmps75
 go_wp2_with (first | ((with_reducible refine gate_dst (N := 3) rfl ?_); refine xq (N := 3) (cs := #[.bool a0_0, .int .i64 a0_1, .string a0_2]) (t := 103) ?_; intro gb112 hg w5 hbox hb; have BK112 := xy (hbox); have GW112 := xs w hg; have GE112 := xs w hg; replace HB := xy (below_step xb hb); clear hb hbox hg) | ((with_reducible refine gate_dst (N := 4) rfl ?_); refine xq (N := 4) (cs := #[.bool a1_0, .int .i64 a1_1, .string a1_2]) (t := 103) ?_; intro gb113 hg w6 hbox hb; have BK113 := xy (hbox); have GW113 := xs w hg; have GE113 := xs w hg; replace HB := xy (below_step xb hb); have NB112_113 := xn hg BK112.out; have NB113_112 := xp hg BK112.out; replace BK112 := xd BK112.out hb; clear hb hbox hg) | ((with_reducible refine gate_dst (N := 5) rfl ?_); refine xq (N := 5) (cs := #[.bool a2_0, .int .i64 a2_1, .string a2_2]) (t := 103) ?_; intro gb114 hg w7 hbox hb; have BK114 := xy (hbox); have GW114 := xs w hg; have GE114 := xs w hg; replace HB := xy (below_step xb hb); have NB112_114 := xn hg BK112.out; have NB114_112 := xp hg BK112.out; replace BK112 := xd BK112.out hb; have NB113_114 := xn hg BK113.out; have NB114_113 := xp hg BK113.out; replace BK113 := xd BK113.out hb; clear hb hbox hg) | ((with_reducible refine gate_dst (N := 6) rfl ?_); refine xq (N := 6) (cs := #[.bool false, .int .i64 0, .string (⟨#[]⟩ : ByteArray)]) (t := 24) ?_; intro gb115 hg w8 hbox hb; have BK115 := xy (hbox); have GW115 := xs w hg; have GE115 := xs w hg; replace HB := xy (below_step xb hb); have NB112_115 := xn hg BK112.out; have NB115_112 := xp hg BK112.out; replace BK112 := xd BK112.out hb; have NB113_115 := xn hg BK113.out; have NB115_113 := xp hg BK113.out; replace BK113 := xd BK113.out hb; have NB114_115 := xn hg BK114.out; have NB115_114 := xp hg BK114.out; replace BK114 := xd BK114.out hb; clear hb hbox hg; have hnb9 := NB112_113.out; have hnc9 := NB113_112.out; have hnb10 := NB112_114.out; have hnc10 := NB114_112.out; have hnb11 := NB112_115.out; have hnc11 := NB115_112.out; have hcz12_0 : w8.cell? ⟨gb112, 0, none⟩ = some (.bool a0_0) := (kc BK112.out 0).trans rfl; have hcz12_1 : w8.cell? ⟨gb112, 1, none⟩ = some (.int .i64 a0_1) := (kc BK112.out 1).trans rfl; have hcz12_2 : w8.cell? ⟨gb112, 2, none⟩ = some (.string a0_2) := (kc BK112.out 2).trans rfl; have hfz12_0 := kf BK112.out 0; have hfz12_1 := kf BK112.out 1; have hfz12_2 := kf BK112.out 2; have hnb13 := NB113_114.out; have hnc13 := NB114_113.out; have hnb14 := NB113_115.out; have hnc14 := NB115_113.out; have hcz15_0 : w8.cell? ⟨gb113, 0, none⟩ = some (.bool a1_0) := (kc BK113.out 0).trans rfl; have hcz15_1 : w8.cell? ⟨gb113, 1, none⟩ = some (.int .i64 a1_1) := (kc BK113.out 1).trans rfl; have hcz15_2 : w8.cell? ⟨gb113, 2, none⟩ = some (.string a1_2) := (kc BK113.out 2).trans rfl; have hfz15_0 := kf BK113.out 0; have hfz15_1 := kf BK113.out 1; have hfz15_2 := kf BK113.out 2) | ((with_reducible refine gate_callee (f := 93) rfl ?_); refine goesL_ (some 12) rfl rfl Tryz.func93 (by kernel_rfl) rfl #[.int .i64 (wrap64 (a0_1 - a1_1))] rfl xr ?_; (with_reducible refine (value_Num.calls (wrap64 (a0_1 - a1_1)) t116 t117 t118 _ (Tabs.below hT xf) A4.out).mono ?_); rintro e w16 ⟨rfl, hb⟩; refine ⟨_, rfl, ?_⟩; replace BK112 := xd BK112.out hb; replace BK113 := xd BK113.out hb; replace BK114 := xd BK114.out hb; replace BK115 := xd BK115.out hb; replace HB := xy (below_step xb hb); (try clear hb); (try clear hb2); (try clear hk); (try clear hi); have hnb17 := NB115_114.out; have hnc17 := NB114_115.out; have hcz18_0 : w16.cell? ⟨gb115, 0, none⟩ = some (.bool false) := (kc BK115.out 0).trans rfl; have hcz18_1 : w16.cell? ⟨gb115, 1, none⟩ = some (.int .i64 0) := (kc BK115.out 1).trans rfl; have hcz18_2 : w16.cell? ⟨gb115, 2, none⟩ = some (.string (⟨#[]⟩ : ByteArray)) := (kc BK115.out 2).trans rfl; have hfz18_0 := kf BK115.out 0; have hfz18_1 := kf BK115.out 1; have hfz18_2 := kf BK115.out 2))
 refine bodyPost_ret (results_cell_row rfl _ _ gb115 24 #[.bool t116, .int .i64 t117, .string t118] (0, 0) _ rfl (kp BK115.out) Tryz.underlying24 rfl (by kernel_rfl)) rfl ?_
 exact ⟨xe, xb⟩
def value_val_mul.f (a0_0 : Bool) (a0_1 : Int) (a0_2 : ByteArray) (a1_0 : Bool) (a1_1 : Int) (a1_2 : ByteArray) (a2_0 : Bool) (a2_1 : Int) (a2_2 : ByteArray) : Option (Bool × Int × ByteArray) := (value_Num.f (wrap64 (a0_1 * a1_1))).bind fun bt123 => (some (bt123.1, bt123.2.1, bt123.2.2))
set_option maxHeartbeats 8000000 in
set_option maxRecDepth 100000 in
theorem value_val_mul.calls (a0_0 : Bool) (a0_1 : Int) (a0_2 : ByteArray) (a1_0 : Bool) (a1_1 : Int) (a1_2 : ByteArray) (a2_0 : Bool) (a2_1 : Int) (a2_2 : ByteArray) (r1 : Bool) (r2 : Int) (r3 : ByteArray) (w : World) (hT : Tabs w) (h : value_val_mul.f a0_0 a0_1 a0_2 a1_0 a1_1 a1_2 a2_0 a2_1 a2_2 = some (r1, r2, r3)) :
  Calls Tryz.prog 76 #[.agg #[.bool a0_0, .int .i64 a0_1, .string a0_2], .agg #[.bool a1_0, .int .i64 a1_1, .string a1_2], .agg #[.bool a2_0, .int .i64 a2_1, .string a2_2]] w fun e w' => e = .returned (.agg #[.bool r1, .int .i64 r2, .string r3]) ∧ Below w.heap.size w w' := by
 have hu103 := Tryz.underlying103
 have hu24 := Tryz.underlying24
 have HB := xy (Below.refl w.heap.size w)
 unfold value_val_mul.f at h
 have H := h
 clear h
 replace H := xj H
 obtain ⟨⟨t123, t124, t125⟩, A40, H⟩ := H
 try dsimp only at H
 have A4 := xy A40
 clear A40
 simp only [Option.some.injEq, Prod.mk.injEq] at H
 obtain ⟨rfl, rfl, rfl⟩ := H
 go_enter Tryz.func76, Tryz.ntmps76
 go_wp2_with (first | ((with_reducible refine gate_dst (N := 3) rfl ?_); refine xq (N := 3) (cs := #[.bool a0_0, .int .i64 a0_1, .string a0_2]) (t := 103) ?_; intro gb119 hg w5 hbox hb; have BK119 := xy (hbox); have GW119 := xs w hg; have GE119 := xs w hg; replace HB := xy (below_step xb hb); clear hb hbox hg) | ((with_reducible refine gate_dst (N := 4) rfl ?_); refine xq (N := 4) (cs := #[.bool a1_0, .int .i64 a1_1, .string a1_2]) (t := 103) ?_; intro gb120 hg w6 hbox hb; have BK120 := xy (hbox); have GW120 := xs w hg; have GE120 := xs w hg; replace HB := xy (below_step xb hb); have NB119_120 := xn hg BK119.out; have NB120_119 := xp hg BK119.out; replace BK119 := xd BK119.out hb; clear hb hbox hg) | ((with_reducible refine gate_dst (N := 5) rfl ?_); refine xq (N := 5) (cs := #[.bool a2_0, .int .i64 a2_1, .string a2_2]) (t := 103) ?_; intro gb121 hg w7 hbox hb; have BK121 := xy (hbox); have GW121 := xs w hg; have GE121 := xs w hg; replace HB := xy (below_step xb hb); have NB119_121 := xn hg BK119.out; have NB121_119 := xp hg BK119.out; replace BK119 := xd BK119.out hb; have NB120_121 := xn hg BK120.out; have NB121_120 := xp hg BK120.out; replace BK120 := xd BK120.out hb; clear hb hbox hg) | ((with_reducible refine gate_dst (N := 6) rfl ?_); refine xq (N := 6) (cs := #[.bool false, .int .i64 0, .string (⟨#[]⟩ : ByteArray)]) (t := 24) ?_; intro gb122 hg w8 hbox hb; have BK122 := xy (hbox); have GW122 := xs w hg; have GE122 := xs w hg; replace HB := xy (below_step xb hb); have NB119_122 := xn hg BK119.out; have NB122_119 := xp hg BK119.out; replace BK119 := xd BK119.out hb; have NB120_122 := xn hg BK120.out; have NB122_120 := xp hg BK120.out; replace BK120 := xd BK120.out hb; have NB121_122 := xn hg BK121.out; have NB122_121 := xp hg BK121.out; replace BK121 := xd BK121.out hb; clear hb hbox hg; have hnb9 := NB119_120.out; have hnc9 := NB120_119.out; have hnb10 := NB119_121.out; have hnc10 := NB121_119.out; have hnb11 := NB119_122.out; have hnc11 := NB122_119.out; have hcz12_0 : w8.cell? ⟨gb119, 0, none⟩ = some (.bool a0_0) := (kc BK119.out 0).trans rfl; have hcz12_1 : w8.cell? ⟨gb119, 1, none⟩ = some (.int .i64 a0_1) := (kc BK119.out 1).trans rfl; have hcz12_2 : w8.cell? ⟨gb119, 2, none⟩ = some (.string a0_2) := (kc BK119.out 2).trans rfl; have hfz12_0 := kf BK119.out 0; have hfz12_1 := kf BK119.out 1; have hfz12_2 := kf BK119.out 2; have hnb13 := NB120_121.out; have hnc13 := NB121_120.out; have hnb14 := NB120_122.out; have hnc14 := NB122_120.out; have hcz15_0 : w8.cell? ⟨gb120, 0, none⟩ = some (.bool a1_0) := (kc BK120.out 0).trans rfl; have hcz15_1 : w8.cell? ⟨gb120, 1, none⟩ = some (.int .i64 a1_1) := (kc BK120.out 1).trans rfl; have hcz15_2 : w8.cell? ⟨gb120, 2, none⟩ = some (.string a1_2) := (kc BK120.out 2).trans rfl; have hfz15_0 := kf BK120.out 0; have hfz15_1 := kf BK120.out 1; have hfz15_2 := kf BK120.out 2) | ((with_reducible refine gate_callee (f := 93) rfl ?_); refine goesL_ (some 12) rfl rfl Tryz.func93 (by kernel_rfl) rfl #[.int .i64 (wrap64 (a0_1 * a1_1))] rfl xr ?_; (with_reducible refine (value_Num.calls (wrap64 (a0_1 * a1_1)) t123 t124 t125 _ (Tabs.below hT xf) A4.out).mono ?_); rintro e w16 ⟨rfl, hb⟩; refine ⟨_, rfl, ?_⟩; replace BK119 := xd BK119.out hb; replace BK120 := xd BK120.out hb; replace BK121 := xd BK121.out hb; replace BK122 := xd BK122.out hb; replace HB := xy (below_step xb hb); (try clear hb); (try clear hb2); (try clear hk); (try clear hi); have hnb17 := NB122_121.out; have hnc17 := NB121_122.out; have hcz18_0 : w16.cell? ⟨gb122, 0, none⟩ = some (.bool false) := (kc BK122.out 0).trans rfl; have hcz18_1 : w16.cell? ⟨gb122, 1, none⟩ = some (.int .i64 0) := (kc BK122.out 1).trans rfl; have hcz18_2 : w16.cell? ⟨gb122, 2, none⟩ = some (.string (⟨#[]⟩ : ByteArray)) := (kc BK122.out 2).trans rfl; have hfz18_0 := kf BK122.out 0; have hfz18_1 := kf BK122.out 1; have hfz18_2 := kf BK122.out 2))
 refine bodyPost_ret (results_cell_row rfl _ _ gb122 24 #[.bool t123, .int .i64 t124, .string t125] (0, 0) _ rfl (kp BK122.out) Tryz.underlying24 rfl (by kernel_rfl)) rfl ?_
 exact ⟨xe, xb⟩
def value_val_div.f (a0_0 : Bool) (a0_1 : Int) (a0_2 : ByteArray) (a1_0 : Bool) (a1_1 : Int) (a1_2 : ByteArray) (a2_0 : Bool) (a2_1 : Int) (a2_2 : ByteArray) : Option (Bool × Int × ByteArray) := if a1_1 = 0 then ((value_Num.f 0).bind fun bt130 => (some (bt130.1, bt130.2.1, bt130.2.2))) else ((value_Num.f (wrap64 (Int.tdiv a0_1 a1_1))).bind fun bt133 => (some (bt133.1, bt133.2.1, bt133.2.2)))
set_option maxHeartbeats 8000000 in
set_option maxRecDepth 100000 in
theorem value_val_div.calls (a0_0 : Bool) (a0_1 : Int) (a0_2 : ByteArray) (a1_0 : Bool) (a1_1 : Int) (a1_2 : ByteArray) (a2_0 : Bool) (a2_1 : Int) (a2_2 : ByteArray) (r1 : Bool) (r2 : Int) (r3 : ByteArray) (w : World) (hT : Tabs w) (h : value_val_div.f a0_0 a0_1 a0_2 a1_0 a1_1 a1_2 a2_0 a2_1 a2_2 = some (r1, r2, r3)) :
  Calls Tryz.prog 77 #[.agg #[.bool a0_0, .int .i64 a0_1, .string a0_2], .agg #[.bool a1_0, .int .i64 a1_1, .string a1_2], .agg #[.bool a2_0, .int .i64 a2_1, .string a2_2]] w fun e w' => e = .returned (.agg #[.bool r1, .int .i64 r2, .string r3]) ∧ Below w.heap.size w w' := by
 have hu103 := Tryz.underlying103
 have hu24 := Tryz.underlying24
 have HB := xy (Below.refl w.heap.size w)
 unfold value_val_div.f at h
 have H := h
 clear h
 by_cases c4 : a1_1 = 0
 ·rw [if_pos c4] at H
  have c4b0 : (a1_1 == 0) = true := beq_iff_eq.mpr c4
  have c4b1 : (a1_1 != 0) = false := bne_eq_false_iff_eq.mpr c4
  clear c4
  replace H := xj H
  obtain ⟨⟨t130, t131, t132⟩, A50, H⟩ := H
  try dsimp only at H
  have A5 := xy A50
  clear A50
  simp only [Option.some.injEq, Prod.mk.injEq] at H
  obtain ⟨rfl, rfl, rfl⟩ := H
  go_enter Tryz.func77, Tryz.ntmps77
  go_wp2_with (first | ((with_reducible refine gate_dst (N := 3) rfl ?_); refine xq (N := 3) (cs := #[.bool a0_0, .int .i64 a0_1, .string a0_2]) (t := 103) ?_; intro gb126 hg w6 hbox hb; have BK126 := xy (hbox); have GW126 := xs w hg; have GE126 := xs w hg; replace HB := xy (below_step xb hb); clear hb hbox hg) | ((with_reducible refine gate_dst (N := 4) rfl ?_); refine xq (N := 4) (cs := #[.bool a1_0, .int .i64 a1_1, .string a1_2]) (t := 103) ?_; intro gb127 hg w7 hbox hb; have BK127 := xy (hbox); have GW127 := xs w hg; have GE127 := xs w hg; replace HB := xy (below_step xb hb); have NB126_127 := xn hg BK126.out; have NB127_126 := xp hg BK126.out; replace BK126 := xd BK126.out hb; clear hb hbox hg) | ((with_reducible refine gate_dst (N := 5) rfl ?_); refine xq (N := 5) (cs := #[.bool a2_0, .int .i64 a2_1, .string a2_2]) (t := 103) ?_; intro gb128 hg w8 hbox hb; have BK128 := xy (hbox); have GW128 := xs w hg; have GE128 := xs w hg; replace HB := xy (below_step xb hb); have NB126_128 := xn hg BK126.out; have NB128_126 := xp hg BK126.out; replace BK126 := xd BK126.out hb; have NB127_128 := xn hg BK127.out; have NB128_127 := xp hg BK127.out; replace BK127 := xd BK127.out hb; clear hb hbox hg) | ((with_reducible refine gate_dst (N := 6) rfl ?_); refine xq (N := 6) (cs := #[.bool false, .int .i64 0, .string (⟨#[]⟩ : ByteArray)]) (t := 24) ?_; intro gb129 hg w9 hbox hb; have BK129 := xy (hbox); have GW129 := xs w hg; have GE129 := xs w hg; replace HB := xy (below_step xb hb); have NB126_129 := xn hg BK126.out; have NB129_126 := xp hg BK126.out; replace BK126 := xd BK126.out hb; have NB127_129 := xn hg BK127.out; have NB129_127 := xp hg BK127.out; replace BK127 := xd BK127.out hb; have NB128_129 := xn hg BK128.out; have NB129_128 := xp hg BK128.out; replace BK128 := xd BK128.out hb; clear hb hbox hg; have hnb10 := NB127_126.out; have hnc10 := NB126_127.out; have hnb11 := NB127_128.out; have hnc11 := NB128_127.out; have hnb12 := NB127_129.out; have hnc12 := NB129_127.out; have hcz13_0 : w9.cell? ⟨gb127, 0, none⟩ = some (.bool a1_0) := (kc BK127.out 0).trans rfl; have hcz13_1 : w9.cell? ⟨gb127, 1, none⟩ = some (.int .i64 a1_1) := (kc BK127.out 1).trans rfl; have hcz13_2 : w9.cell? ⟨gb127, 2, none⟩ = some (.string a1_2) := (kc BK127.out 2).trans rfl; have hfz13_0 := kf BK127.out 0; have hfz13_1 := kf BK127.out 1; have hfz13_2 := kf BK127.out 2) | ((with_reducible refine gate_callee (f := 93) rfl ?_); refine goesL_ (some 10) rfl rfl Tryz.func93 (by kernel_rfl) rfl #[.int .i64 0] rfl xr ?_; (with_reducible refine (value_Num.calls 0 t130 t131 t132 _ (Tabs.below hT xf) A5.out).mono ?_); rintro e w14 ⟨rfl, hb⟩; refine ⟨_, rfl, ?_⟩; replace BK126 := xd BK126.out hb; replace BK127 := xd BK127.out hb; replace BK128 := xd BK128.out hb; replace BK129 := xd BK129.out hb; replace HB := xy (below_step xb hb); (try clear hb); (try clear hb2); (try clear hk); (try clear hi); have hnb15 := NB129_126.out; have hnc15 := NB126_129.out; have hnb16 := NB129_128.out; have hnc16 := NB128_129.out; have hcz17_0 : w14.cell? ⟨gb129, 0, none⟩ = some (.bool false) := (kc BK129.out 0).trans rfl; have hcz17_1 : w14.cell? ⟨gb129, 1, none⟩ = some (.int .i64 0) := (kc BK129.out 1).trans rfl; have hcz17_2 : w14.cell? ⟨gb129, 2, none⟩ = some (.string (⟨#[]⟩ : ByteArray)) := (kc BK129.out 2).trans rfl; have hfz17_0 := kf BK129.out 0; have hfz17_1 := kf BK129.out 1; have hfz17_2 := kf BK129.out 2))
  refine bodyPost_ret (results_cell_row rfl _ _ gb129 24 #[.bool t130, .int .i64 t131, .string t132] (0, 0) _ rfl (kp BK129.out) Tryz.underlying24 rfl (by kernel_rfl)) rfl ?_
  exact ⟨xe, xb⟩
 ·rw [if_neg c4] at H
  have c4b0 : (a1_1 == 0) = false := beq_eq_false_iff_ne.mpr c4
  have c4b1 : (a1_1 != 0) = true := bne_iff_ne.mpr c4
  replace H := xj H
  obtain ⟨⟨t133, t134, t135⟩, A180, H⟩ := H
  try dsimp only at H
  have A18 := xy A180
  clear A180
  simp only [Option.some.injEq, Prod.mk.injEq] at H
  obtain ⟨rfl, rfl, rfl⟩ := H
  go_enter Tryz.func77, Tryz.ntmps77
  go_wp2_with (first | ((with_reducible refine gate_dst (N := 3) rfl ?_); refine xq (N := 3) (cs := #[.bool a0_0, .int .i64 a0_1, .string a0_2]) (t := 103) ?_; intro gb126 hg w19 hbox hb; have BK126 := xy (hbox); have GW126 := xs w hg; have GE126 := xs w hg; replace HB := xy (below_step xb hb); clear hb hbox hg) | ((with_reducible refine gate_dst (N := 4) rfl ?_); refine xq (N := 4) (cs := #[.bool a1_0, .int .i64 a1_1, .string a1_2]) (t := 103) ?_; intro gb127 hg w20 hbox hb; have BK127 := xy (hbox); have GW127 := xs w hg; have GE127 := xs w hg; replace HB := xy (below_step xb hb); have NB126_127 := xn hg BK126.out; have NB127_126 := xp hg BK126.out; replace BK126 := xd BK126.out hb; clear hb hbox hg) | ((with_reducible refine gate_dst (N := 5) rfl ?_); refine xq (N := 5) (cs := #[.bool a2_0, .int .i64 a2_1, .string a2_2]) (t := 103) ?_; intro gb128 hg w21 hbox hb; have BK128 := xy (hbox); have GW128 := xs w hg; have GE128 := xs w hg; replace HB := xy (below_step xb hb); have NB126_128 := xn hg BK126.out; have NB128_126 := xp hg BK126.out; replace BK126 := xd BK126.out hb; have NB127_128 := xn hg BK127.out; have NB128_127 := xp hg BK127.out; replace BK127 := xd BK127.out hb; clear hb hbox hg) | ((with_reducible refine gate_dst (N := 6) rfl ?_); refine xq (N := 6) (cs := #[.bool false, .int .i64 0, .string (⟨#[]⟩ : ByteArray)]) (t := 24) ?_; intro gb129 hg w22 hbox hb; have BK129 := xy (hbox); have GW129 := xs w hg; have GE129 := xs w hg; replace HB := xy (below_step xb hb); have NB126_129 := xn hg BK126.out; have NB129_126 := xp hg BK126.out; replace BK126 := xd BK126.out hb; have NB127_129 := xn hg BK127.out; have NB129_127 := xp hg BK127.out; replace BK127 := xd BK127.out hb; have NB128_129 := xn hg BK128.out; have NB129_128 := xp hg BK128.out; replace BK128 := xd BK128.out hb; clear hb hbox hg; have hnb23 := NB127_126.out; have hnc23 := NB126_127.out; have hnb24 := NB127_128.out; have hnc24 := NB128_127.out; have hnb25 := NB127_129.out; have hnc25 := NB129_127.out; have hcz26_0 : w22.cell? ⟨gb127, 0, none⟩ = some (.bool a1_0) := (kc BK127.out 0).trans rfl; have hcz26_1 : w22.cell? ⟨gb127, 1, none⟩ = some (.int .i64 a1_1) := (kc BK127.out 1).trans rfl; have hcz26_2 : w22.cell? ⟨gb127, 2, none⟩ = some (.string a1_2) := (kc BK127.out 2).trans rfl; have hfz26_0 := kf BK127.out 0; have hfz26_1 := kf BK127.out 1; have hfz26_2 := kf BK127.out 2; have hnb27 := NB126_128.out; have hnc27 := NB128_126.out; have hnb28 := NB126_129.out; have hnc28 := NB129_126.out; have hcz29_0 : w22.cell? ⟨gb126, 0, none⟩ = some (.bool a0_0) := (kc BK126.out 0).trans rfl; have hcz29_1 : w22.cell? ⟨gb126, 1, none⟩ = some (.int .i64 a0_1) := (kc BK126.out 1).trans rfl; have hcz29_2 : w22.cell? ⟨gb126, 2, none⟩ = some (.string a0_2) := (kc BK126.out 2).trans rfl; have hfz29_0 := kf BK126.out 0; have hfz29_1 := kf BK126.out 1; have hfz29_2 := kf BK126.out 2) | ((with_reducible refine gate_callee (f := 93) rfl ?_); refine goesL_ (some 16) rfl rfl Tryz.func93 (by kernel_rfl) rfl #[.int .i64 (wrap64 (Int.tdiv a0_1 a1_1))] rfl xr ?_; (with_reducible refine (value_Num.calls (wrap64 (Int.tdiv a0_1 a1_1)) t133 t134 t135 _ (Tabs.below hT xf) A18.out).mono ?_); rintro e w30 ⟨rfl, hb⟩; refine ⟨_, rfl, ?_⟩; replace BK126 := xd BK126.out hb; replace BK127 := xd BK127.out hb; replace BK128 := xd BK128.out hb; replace BK129 := xd BK129.out hb; replace HB := xy (below_step xb hb); (try clear hb); (try clear hb2); (try clear hk); (try clear hi); have hnb31 := NB129_128.out; have hnc31 := NB128_129.out; have hcz32_0 : w30.cell? ⟨gb129, 0, none⟩ = some (.bool false) := (kc BK129.out 0).trans rfl; have hcz32_1 : w30.cell? ⟨gb129, 1, none⟩ = some (.int .i64 0) := (kc BK129.out 1).trans rfl; have hcz32_2 : w30.cell? ⟨gb129, 2, none⟩ = some (.string (⟨#[]⟩ : ByteArray)) := (kc BK129.out 2).trans rfl; have hfz32_0 := kf BK129.out 0; have hfz32_1 := kf BK129.out 1; have hfz32_2 := kf BK129.out 2))
  refine bodyPost_ret (results_cell_row rfl _ _ gb129 24 #[.bool t133, .int .i64 t134, .string t135] (0, 0) _ rfl (kp BK129.out) Tryz.underlying24 rfl (by kernel_rfl)) rfl ?_
  exact ⟨xe, xb⟩
def value_val_mod.f (a0_0 : Bool) (a0_1 : Int) (a0_2 : ByteArray) (a1_0 : Bool) (a1_1 : Int) (a1_2 : ByteArray) (a2_0 : Bool) (a2_1 : Int) (a2_2 : ByteArray) : Option (Bool × Int × ByteArray) := if a1_1 = 0 then ((value_Num.f 0).bind fun bt140 => (some (bt140.1, bt140.2.1, bt140.2.2))) else ((value_Num.f (Int.tmod a0_1 a1_1)).bind fun bt143 => (some (bt143.1, bt143.2.1, bt143.2.2)))
set_option maxHeartbeats 8000000 in
set_option maxRecDepth 100000 in
theorem value_val_mod.calls (a0_0 : Bool) (a0_1 : Int) (a0_2 : ByteArray) (a1_0 : Bool) (a1_1 : Int) (a1_2 : ByteArray) (a2_0 : Bool) (a2_1 : Int) (a2_2 : ByteArray) (r1 : Bool) (r2 : Int) (r3 : ByteArray) (w : World) (hT : Tabs w) (h : value_val_mod.f a0_0 a0_1 a0_2 a1_0 a1_1 a1_2 a2_0 a2_1 a2_2 = some (r1, r2, r3)) :
  Calls Tryz.prog 78 #[.agg #[.bool a0_0, .int .i64 a0_1, .string a0_2], .agg #[.bool a1_0, .int .i64 a1_1, .string a1_2], .agg #[.bool a2_0, .int .i64 a2_1, .string a2_2]] w fun e w' => e = .returned (.agg #[.bool r1, .int .i64 r2, .string r3]) ∧ Below w.heap.size w w' := by
 have hu103 := Tryz.underlying103
 have hu24 := Tryz.underlying24
 have HB := xy (Below.refl w.heap.size w)
 unfold value_val_mod.f at h
 have H := h
 clear h
 by_cases c4 : a1_1 = 0
 ·rw [if_pos c4] at H
  have c4b0 : (a1_1 == 0) = true := beq_iff_eq.mpr c4
  have c4b1 : (a1_1 != 0) = false := bne_eq_false_iff_eq.mpr c4
  clear c4
  replace H := xj H
  obtain ⟨⟨t140, t141, t142⟩, A50, H⟩ := H
  try dsimp only at H
  have A5 := xy A50
  clear A50
  simp only [Option.some.injEq, Prod.mk.injEq] at H
  obtain ⟨rfl, rfl, rfl⟩ := H
  go_enter Tryz.func78, Tryz.ntmps78
  go_wp2_with (first | ((with_reducible refine gate_dst (N := 3) rfl ?_); refine xq (N := 3) (cs := #[.bool a0_0, .int .i64 a0_1, .string a0_2]) (t := 103) ?_; intro gb136 hg w6 hbox hb; have BK136 := xy (hbox); have GW136 := xs w hg; have GE136 := xs w hg; replace HB := xy (below_step xb hb); clear hb hbox hg) | ((with_reducible refine gate_dst (N := 4) rfl ?_); refine xq (N := 4) (cs := #[.bool a1_0, .int .i64 a1_1, .string a1_2]) (t := 103) ?_; intro gb137 hg w7 hbox hb; have BK137 := xy (hbox); have GW137 := xs w hg; have GE137 := xs w hg; replace HB := xy (below_step xb hb); have NB136_137 := xn hg BK136.out; have NB137_136 := xp hg BK136.out; replace BK136 := xd BK136.out hb; clear hb hbox hg) | ((with_reducible refine gate_dst (N := 5) rfl ?_); refine xq (N := 5) (cs := #[.bool a2_0, .int .i64 a2_1, .string a2_2]) (t := 103) ?_; intro gb138 hg w8 hbox hb; have BK138 := xy (hbox); have GW138 := xs w hg; have GE138 := xs w hg; replace HB := xy (below_step xb hb); have NB136_138 := xn hg BK136.out; have NB138_136 := xp hg BK136.out; replace BK136 := xd BK136.out hb; have NB137_138 := xn hg BK137.out; have NB138_137 := xp hg BK137.out; replace BK137 := xd BK137.out hb; clear hb hbox hg) | ((with_reducible refine gate_dst (N := 6) rfl ?_); refine xq (N := 6) (cs := #[.bool false, .int .i64 0, .string (⟨#[]⟩ : ByteArray)]) (t := 24) ?_; intro gb139 hg w9 hbox hb; have BK139 := xy (hbox); have GW139 := xs w hg; have GE139 := xs w hg; replace HB := xy (below_step xb hb); have NB136_139 := xn hg BK136.out; have NB139_136 := xp hg BK136.out; replace BK136 := xd BK136.out hb; have NB137_139 := xn hg BK137.out; have NB139_137 := xp hg BK137.out; replace BK137 := xd BK137.out hb; have NB138_139 := xn hg BK138.out; have NB139_138 := xp hg BK138.out; replace BK138 := xd BK138.out hb; clear hb hbox hg; have hnb10 := NB137_136.out; have hnc10 := NB136_137.out; have hnb11 := NB137_138.out; have hnc11 := NB138_137.out; have hnb12 := NB137_139.out; have hnc12 := NB139_137.out; have hcz13_0 : w9.cell? ⟨gb137, 0, none⟩ = some (.bool a1_0) := (kc BK137.out 0).trans rfl; have hcz13_1 : w9.cell? ⟨gb137, 1, none⟩ = some (.int .i64 a1_1) := (kc BK137.out 1).trans rfl; have hcz13_2 : w9.cell? ⟨gb137, 2, none⟩ = some (.string a1_2) := (kc BK137.out 2).trans rfl; have hfz13_0 := kf BK137.out 0; have hfz13_1 := kf BK137.out 1; have hfz13_2 := kf BK137.out 2) | ((with_reducible refine gate_callee (f := 93) rfl ?_); refine goesL_ (some 10) rfl rfl Tryz.func93 (by kernel_rfl) rfl #[.int .i64 0] rfl xr ?_; (with_reducible refine (value_Num.calls 0 t140 t141 t142 _ (Tabs.below hT xf) A5.out).mono ?_); rintro e w14 ⟨rfl, hb⟩; refine ⟨_, rfl, ?_⟩; replace BK136 := xd BK136.out hb; replace BK137 := xd BK137.out hb; replace BK138 := xd BK138.out hb; replace BK139 := xd BK139.out hb; replace HB := xy (below_step xb hb); (try clear hb); (try clear hb2); (try clear hk); (try clear hi); have hnb15 := NB139_136.out; have hnc15 := NB136_139.out; have hnb16 := NB139_138.out; have hnc16 := NB138_139.out; have hcz17_0 : w14.cell? ⟨gb139, 0, none⟩ = some (.bool false) := (kc BK139.out 0).trans rfl; have hcz17_1 : w14.cell? ⟨gb139, 1, none⟩ = some (.int .i64 0) := (kc BK139.out 1).trans rfl; have hcz17_2 : w14.cell? ⟨gb139, 2, none⟩ = some (.string (⟨#[]⟩ : ByteArray)) := (kc BK139.out 2).trans rfl; have hfz17_0 := kf BK139.out 0; have hfz17_1 := kf BK139.out 1; have hfz17_2 := kf BK139.out 2))
  refine bodyPost_ret (results_cell_row rfl _ _ gb139 24 #[.bool t140, .int .i64 t141, .string t142] (0, 0) _ rfl (kp BK139.out) Tryz.underlying24 rfl (by kernel_rfl)) rfl ?_
  exact ⟨xe, xb⟩
 ·rw [if_neg c4] at H
  have c4b0 : (a1_1 == 0) = false := beq_eq_false_iff_ne.mpr c4
  have c4b1 : (a1_1 != 0) = true := bne_iff_ne.mpr c4
  replace H := xj H
  obtain ⟨⟨t143, t144, t145⟩, A180, H⟩ := H
  try dsimp only at H
  have A18 := xy A180
  clear A180
  simp only [Option.some.injEq, Prod.mk.injEq] at H
  obtain ⟨rfl, rfl, rfl⟩ := H
  go_enter Tryz.func78, Tryz.ntmps78
  go_wp2_with (first | ((with_reducible refine gate_dst (N := 3) rfl ?_); refine xq (N := 3) (cs := #[.bool a0_0, .int .i64 a0_1, .string a0_2]) (t := 103) ?_; intro gb136 hg w19 hbox hb; have BK136 := xy (hbox); have GW136 := xs w hg; have GE136 := xs w hg; replace HB := xy (below_step xb hb); clear hb hbox hg) | ((with_reducible refine gate_dst (N := 4) rfl ?_); refine xq (N := 4) (cs := #[.bool a1_0, .int .i64 a1_1, .string a1_2]) (t := 103) ?_; intro gb137 hg w20 hbox hb; have BK137 := xy (hbox); have GW137 := xs w hg; have GE137 := xs w hg; replace HB := xy (below_step xb hb); have NB136_137 := xn hg BK136.out; have NB137_136 := xp hg BK136.out; replace BK136 := xd BK136.out hb; clear hb hbox hg) | ((with_reducible refine gate_dst (N := 5) rfl ?_); refine xq (N := 5) (cs := #[.bool a2_0, .int .i64 a2_1, .string a2_2]) (t := 103) ?_; intro gb138 hg w21 hbox hb; have BK138 := xy (hbox); have GW138 := xs w hg; have GE138 := xs w hg; replace HB := xy (below_step xb hb); have NB136_138 := xn hg BK136.out; have NB138_136 := xp hg BK136.out; replace BK136 := xd BK136.out hb; have NB137_138 := xn hg BK137.out; have NB138_137 := xp hg BK137.out; replace BK137 := xd BK137.out hb; clear hb hbox hg) | ((with_reducible refine gate_dst (N := 6) rfl ?_); refine xq (N := 6) (cs := #[.bool false, .int .i64 0, .string (⟨#[]⟩ : ByteArray)]) (t := 24) ?_; intro gb139 hg w22 hbox hb; have BK139 := xy (hbox); have GW139 := xs w hg; have GE139 := xs w hg; replace HB := xy (below_step xb hb); have NB136_139 := xn hg BK136.out; have NB139_136 := xp hg BK136.out; replace BK136 := xd BK136.out hb; have NB137_139 := xn hg BK137.out; have NB139_137 := xp hg BK137.out; replace BK137 := xd BK137.out hb; have NB138_139 := xn hg BK138.out; have NB139_138 := xp hg BK138.out; replace BK138 := xd BK138.out hb; clear hb hbox hg; have hnb23 := NB137_136.out; have hnc23 := NB136_137.out; have hnb24 := NB137_138.out; have hnc24 := NB138_137.out; have hnb25 := NB137_139.out; have hnc25 := NB139_137.out; have hcz26_0 : w22.cell? ⟨gb137, 0, none⟩ = some (.bool a1_0) := (kc BK137.out 0).trans rfl; have hcz26_1 : w22.cell? ⟨gb137, 1, none⟩ = some (.int .i64 a1_1) := (kc BK137.out 1).trans rfl; have hcz26_2 : w22.cell? ⟨gb137, 2, none⟩ = some (.string a1_2) := (kc BK137.out 2).trans rfl; have hfz26_0 := kf BK137.out 0; have hfz26_1 := kf BK137.out 1; have hfz26_2 := kf BK137.out 2; have hnb27 := NB136_138.out; have hnc27 := NB138_136.out; have hnb28 := NB136_139.out; have hnc28 := NB139_136.out; have hcz29_0 : w22.cell? ⟨gb136, 0, none⟩ = some (.bool a0_0) := (kc BK136.out 0).trans rfl; have hcz29_1 : w22.cell? ⟨gb136, 1, none⟩ = some (.int .i64 a0_1) := (kc BK136.out 1).trans rfl; have hcz29_2 : w22.cell? ⟨gb136, 2, none⟩ = some (.string a0_2) := (kc BK136.out 2).trans rfl; have hfz29_0 := kf BK136.out 0; have hfz29_1 := kf BK136.out 1; have hfz29_2 := kf BK136.out 2) | ((with_reducible refine gate_callee (f := 93) rfl ?_); refine goesL_ (some 16) rfl rfl Tryz.func93 (by kernel_rfl) rfl #[.int .i64 (Int.tmod a0_1 a1_1)] rfl xr ?_; (with_reducible refine (value_Num.calls (Int.tmod a0_1 a1_1) t143 t144 t145 _ (Tabs.below hT xf) A18.out).mono ?_); rintro e w30 ⟨rfl, hb⟩; refine ⟨_, rfl, ?_⟩; replace BK136 := xd BK136.out hb; replace BK137 := xd BK137.out hb; replace BK138 := xd BK138.out hb; replace BK139 := xd BK139.out hb; replace HB := xy (below_step xb hb); (try clear hb); (try clear hb2); (try clear hk); (try clear hi); have hnb31 := NB139_138.out; have hnc31 := NB138_139.out; have hcz32_0 : w30.cell? ⟨gb139, 0, none⟩ = some (.bool false) := (kc BK139.out 0).trans rfl; have hcz32_1 : w30.cell? ⟨gb139, 1, none⟩ = some (.int .i64 0) := (kc BK139.out 1).trans rfl; have hcz32_2 : w30.cell? ⟨gb139, 2, none⟩ = some (.string (⟨#[]⟩ : ByteArray)) := (kc BK139.out 2).trans rfl; have hfz32_0 := kf BK139.out 0; have hfz32_1 := kf BK139.out 1; have hfz32_2 := kf BK139.out 2))
  refine bodyPost_ret (results_cell_row rfl _ _ gb139 24 #[.bool t143, .int .i64 t144, .string t145] (0, 0) _ rfl (kp BK139.out) Tryz.underlying24 rfl (by kernel_rfl)) rfl ?_
  exact ⟨xe, xb⟩
def value_Text.f (a0 : ByteArray) : Option (Bool × Int × ByteArray) := if 0 ≤ (mn (a0.size : Int) 1000) then (if (mn (a0.size : Int) 1000) ≤ (a0.size : Int) then (some (true, 0, a0.extract 0 ((mn (a0.size : Int) 1000) : Int).toNat)) else (none)) else (none)
set_option maxHeartbeats 8000000 in
set_option maxRecDepth 100000 in
theorem value_Text.calls (a0 : ByteArray) (r1 : Bool) (r2 : Int) (r3 : ByteArray) (w : World) (hT : Tabs w) (h : value_Text.f a0 = some (r1, r2, r3)) :
  Calls Tryz.prog 52 #[.string a0] w fun e w' => e = .returned (.agg #[.bool r1, .int .i64 r2, .string r3]) ∧ Below w.heap.size w w' := by
 have hu24 := Tryz.underlying24
 have HB := xy (Below.refl w.heap.size w)
 unfold value_Text.f at h
 have H := h
 clear h
 obtain ⟨ji2, hji2⟩ : ∃ j_ : Int, (mn (a0.size : Int) 1000) = j_ := ⟨_, rfl⟩
 replace H : (if 0 ≤ (ji2) then (if (ji2) ≤ (a0.size : Int) then (some (true, 0, a0.extract 0 ((ji2) : Int).toNat)) else (none)) else (none)) = some (r1, r2, r3) := by first | (rw [hji2] at H; exact H) | (simp only [hji2] at H ⊢; exact H)
 (try (have hji2h : ji2 ≤ 1000 := by (rw [← hji2]; unfold mn; (repeat' split) <;> omega)))
 (try (have hji2g : ji2 ≤ 64 := by omega))
 (try (have hji2l : 0 ≤ ji2 := by (rw [← hji2]; unfold mn; (repeat' split) <;> omega)))
 (try (have hji2m : 0 ≤ ji2 := by omega))
 have hji2_ : (if 1000 < (a0.size : Int) then 1000 else (a0.size : Int)) = ji2 := hji2
 by_cases c3 : 0 ≤ (ji2)
 ·rw [if_pos c3] at H
  have c3b0 := eq_true c3
  have c3b1 : decide (0 ≤ (ji2)) = true := decide_eq_true c3
  clear c3
  by_cases c4 : (ji2) ≤ (a0.size : Int)
  ·rw [if_pos c4] at H
   have c4b0 := eq_true c4
   have c4b1 : decide ((ji2) ≤ (a0.size : Int)) = true := decide_eq_true c4
   clear c4
   simp only [Option.some.injEq, Prod.mk.injEq] at H
   obtain ⟨rfl, rfl, rfl⟩ := H
   go_enter Tryz.func52, Tryz.ntmps52
   go_wp2_with (first | ((with_reducible refine gate_dst (N := 2) rfl ?_); refine xq (N := 2) (cs := #[.bool false, .int .i64 0, .string (⟨#[]⟩ : ByteArray)]) (t := 24) ?_; intro gb146 hg w5 hbox hb; have BK146 := xy (hbox); have GW146 := xs w hg; have GE146 := xs w hg; replace HB := xy (below_step xb hb); clear hb hbox hg; have hcz6_0 : w5.cell? ⟨gb146, 0, none⟩ = some (.bool false) := (kc BK146.out 0).trans rfl; have hcz6_1 : w5.cell? ⟨gb146, 1, none⟩ = some (.int .i64 0) := (kc BK146.out 1).trans rfl; have hcz6_2 : w5.cell? ⟨gb146, 2, none⟩ = some (.string (⟨#[]⟩ : ByteArray)) := (kc BK146.out 2).trans rfl; have hfz6_0 := kf BK146.out 0; have hfz6_1 := kf BK146.out 1; have hfz6_2 := kf BK146.out 2))
   refine bodyPost_ret (results_cell_row rfl _ _ gb146 24 #[.bool true, .int .i64 0, .string (a0.extract 0 ((ji2) : Int).toNat)] (0, 0) _ rfl (kp BK146.out) Tryz.underlying24 rfl (by kernel_rfl)) rfl ?_
   exact ⟨by first | rfl | (simp [errW_none, errW_some] <;> rfl) | (simp only [← hji2]; first | rfl | (simp [errW_none, errW_some] <;> rfl)) | (simp [*, errW_none, errW_some] <;> rfl), xb⟩
  ·rw [if_neg c4] at H
   exact absurd H (by simp)
 ·rw [if_neg c3] at H
  exact absurd H (by simp)
def value_val_join.f (a0_0 : Bool) (a0_1 : Int) (a0_2 : ByteArray) (a1_0 : Bool) (a1_1 : Int) (a1_2 : ByteArray) (a2_0 : Bool) (a2_1 : Int) (a2_2 : ByteArray) : Option (Bool × Int × ByteArray) := if a0_2.size + a1_2.size ≤ 9223372036854775807 then ((value_Text.f (a0_2 ++ a1_2)).bind fun bt151 => (some (bt151.1, bt151.2.1, bt151.2.2))) else (none)
set_option maxHeartbeats 8000000 in
set_option maxRecDepth 100000 in
theorem value_val_join.calls (a0_0 : Bool) (a0_1 : Int) (a0_2 : ByteArray) (a1_0 : Bool) (a1_1 : Int) (a1_2 : ByteArray) (a2_0 : Bool) (a2_1 : Int) (a2_2 : ByteArray) (r1 : Bool) (r2 : Int) (r3 : ByteArray) (w : World) (hT : Tabs w) (h : value_val_join.f a0_0 a0_1 a0_2 a1_0 a1_1 a1_2 a2_0 a2_1 a2_2 = some (r1, r2, r3)) :
  Calls Tryz.prog 79 #[.agg #[.bool a0_0, .int .i64 a0_1, .string a0_2], .agg #[.bool a1_0, .int .i64 a1_1, .string a1_2], .agg #[.bool a2_0, .int .i64 a2_1, .string a2_2]] w fun e w' => e = .returned (.agg #[.bool r1, .int .i64 r2, .string r3]) ∧ Below w.heap.size w w' := by
 have hu103 := Tryz.underlying103
 have hu24 := Tryz.underlying24
 have HB := xy (Below.refl w.heap.size w)
 unfold value_val_join.f at h
 have H := h
 clear h
 by_cases c4 : a0_2.size + a1_2.size ≤ 9223372036854775807
 ·rw [if_pos c4] at H
  have c4b0 := eq_true c4
  have c4b1 : decide (a0_2.size + a1_2.size ≤ 9223372036854775807) = true := decide_eq_true c4
  try have c4b2 : (9223372036854775807 < a0_2.size + a1_2.size) = False := eq_false (Nat.not_lt.2 c4)
  replace H := xj H
  obtain ⟨⟨t151, t152, t153⟩, A50, H⟩ := H
  try dsimp only at H
  have A5 := xy A50
  clear A50
  simp only [Option.some.injEq, Prod.mk.injEq] at H
  obtain ⟨rfl, rfl, rfl⟩ := H
  go_enter Tryz.func79, Tryz.ntmps79
  go_wp2_with (first | ((with_reducible refine gate_dst (N := 3) rfl ?_); refine xq (N := 3) (cs := #[.bool a0_0, .int .i64 a0_1, .string a0_2]) (t := 103) ?_; intro gb147 hg w6 hbox hb; have BK147 := xy (hbox); have GW147 := xs w hg; have GE147 := xs w hg; replace HB := xy (below_step xb hb); clear hb hbox hg) | ((with_reducible refine gate_dst (N := 4) rfl ?_); refine xq (N := 4) (cs := #[.bool a1_0, .int .i64 a1_1, .string a1_2]) (t := 103) ?_; intro gb148 hg w7 hbox hb; have BK148 := xy (hbox); have GW148 := xs w hg; have GE148 := xs w hg; replace HB := xy (below_step xb hb); have NB147_148 := xn hg BK147.out; have NB148_147 := xp hg BK147.out; replace BK147 := xd BK147.out hb; clear hb hbox hg) | ((with_reducible refine gate_dst (N := 5) rfl ?_); refine xq (N := 5) (cs := #[.bool a2_0, .int .i64 a2_1, .string a2_2]) (t := 103) ?_; intro gb149 hg w8 hbox hb; have BK149 := xy (hbox); have GW149 := xs w hg; have GE149 := xs w hg; replace HB := xy (below_step xb hb); have NB147_149 := xn hg BK147.out; have NB149_147 := xp hg BK147.out; replace BK147 := xd BK147.out hb; have NB148_149 := xn hg BK148.out; have NB149_148 := xp hg BK148.out; replace BK148 := xd BK148.out hb; clear hb hbox hg) | ((with_reducible refine gate_dst (N := 6) rfl ?_); refine xq (N := 6) (cs := #[.bool false, .int .i64 0, .string (⟨#[]⟩ : ByteArray)]) (t := 24) ?_; intro gb150 hg w9 hbox hb; have BK150 := xy (hbox); have GW150 := xs w hg; have GE150 := xs w hg; replace HB := xy (below_step xb hb); have NB147_150 := xn hg BK147.out; have NB150_147 := xp hg BK147.out; replace BK147 := xd BK147.out hb; have NB148_150 := xn hg BK148.out; have NB150_148 := xp hg BK148.out; replace BK148 := xd BK148.out hb; have NB149_150 := xn hg BK149.out; have NB150_149 := xp hg BK149.out; replace BK149 := xd BK149.out hb; clear hb hbox hg; have hnb10 := NB147_148.out; have hnc10 := NB148_147.out; have hnb11 := NB147_149.out; have hnc11 := NB149_147.out; have hnb12 := NB147_150.out; have hnc12 := NB150_147.out; have hcz13_0 : w9.cell? ⟨gb147, 0, none⟩ = some (.bool a0_0) := (kc BK147.out 0).trans rfl; have hcz13_1 : w9.cell? ⟨gb147, 1, none⟩ = some (.int .i64 a0_1) := (kc BK147.out 1).trans rfl; have hcz13_2 : w9.cell? ⟨gb147, 2, none⟩ = some (.string a0_2) := (kc BK147.out 2).trans rfl; have hfz13_0 := kf BK147.out 0; have hfz13_1 := kf BK147.out 1; have hfz13_2 := kf BK147.out 2; have hnb14 := NB148_149.out; have hnc14 := NB149_148.out; have hnb15 := NB148_150.out; have hnc15 := NB150_148.out; have hcz16_0 : w9.cell? ⟨gb148, 0, none⟩ = some (.bool a1_0) := (kc BK148.out 0).trans rfl; have hcz16_1 : w9.cell? ⟨gb148, 1, none⟩ = some (.int .i64 a1_1) := (kc BK148.out 1).trans rfl; have hcz16_2 : w9.cell? ⟨gb148, 2, none⟩ = some (.string a1_2) := (kc BK148.out 2).trans rfl; have hfz16_0 := kf BK148.out 0; have hfz16_1 := kf BK148.out 1; have hfz16_2 := kf BK148.out 2) | ((with_reducible refine gate_callee (f := 52) rfl ?_); refine goesL_ (some 12) rfl rfl Tryz.func52 (by kernel_rfl) rfl #[.string (a0_2 ++ a1_2)] rfl xr ?_; (with_reducible refine (value_Text.calls (a0_2 ++ a1_2) t151 t152 t153 _ (Tabs.below hT xf) A5.out).mono ?_); rintro e w17 ⟨rfl, hb⟩; refine ⟨_, rfl, ?_⟩; replace BK147 := xd BK147.out hb; replace BK148 := xd BK148.out hb; replace BK149 := xd BK149.out hb; replace BK150 := xd BK150.out hb; replace HB := xy (below_step xb hb); (try clear hb); (try clear hb2); (try clear hk); (try clear hi); have hnb18 := NB150_149.out; have hnc18 := NB149_150.out; have hcz19_0 : w17.cell? ⟨gb150, 0, none⟩ = some (.bool false) := (kc BK150.out 0).trans rfl; have hcz19_1 : w17.cell? ⟨gb150, 1, none⟩ = some (.int .i64 0) := (kc BK150.out 1).trans rfl; have hcz19_2 : w17.cell? ⟨gb150, 2, none⟩ = some (.string (⟨#[]⟩ : ByteArray)) := (kc BK150.out 2).trans rfl; have hfz19_0 := kf BK150.out 0; have hfz19_1 := kf BK150.out 1; have hfz19_2 := kf BK150.out 2))
  refine bodyPost_ret (results_cell_row rfl _ _ gb150 24 #[.bool t151, .int .i64 t152, .string t153] (0, 0) _ rfl (kp BK150.out) Tryz.underlying24 rfl (by kernel_rfl)) rfl ?_
  exact ⟨xe, xb⟩
 ·rw [if_neg c4] at H
  exact absurd H (by simp)
def value_val_long.f (a0_0 : Bool) (a0_1 : Int) (a0_2 : ByteArray) (a1_0 : Bool) (a1_1 : Int) (a1_2 : ByteArray) (a2_0 : Bool) (a2_1 : Int) (a2_2 : ByteArray) : Option (Bool × Int × ByteArray) := (value_Num.f (a0_2.size : Int)).bind fun bt158 => (some (bt158.1, bt158.2.1, bt158.2.2))
set_option maxHeartbeats 8000000 in
set_option maxRecDepth 100000 in
theorem value_val_long.calls (a0_0 : Bool) (a0_1 : Int) (a0_2 : ByteArray) (a1_0 : Bool) (a1_1 : Int) (a1_2 : ByteArray) (a2_0 : Bool) (a2_1 : Int) (a2_2 : ByteArray) (r1 : Bool) (r2 : Int) (r3 : ByteArray) (w : World) (hT : Tabs w) (h : value_val_long.f a0_0 a0_1 a0_2 a1_0 a1_1 a1_2 a2_0 a2_1 a2_2 = some (r1, r2, r3)) :
  Calls Tryz.prog 80 #[.agg #[.bool a0_0, .int .i64 a0_1, .string a0_2], .agg #[.bool a1_0, .int .i64 a1_1, .string a1_2], .agg #[.bool a2_0, .int .i64 a2_1, .string a2_2]] w fun e w' => e = .returned (.agg #[.bool r1, .int .i64 r2, .string r3]) ∧ Below w.heap.size w w' := by
 have hu103 := Tryz.underlying103
 have hu24 := Tryz.underlying24
 have HB := xy (Below.refl w.heap.size w)
 unfold value_val_long.f at h
 have H := h
 clear h
 replace H := xj H
 obtain ⟨⟨t158, t159, t160⟩, A40, H⟩ := H
 try dsimp only at H
 have A4 := xy A40
 clear A40
 simp only [Option.some.injEq, Prod.mk.injEq] at H
 obtain ⟨rfl, rfl, rfl⟩ := H
 go_enter Tryz.func80, Tryz.ntmps80
 go_wp2_with (first | ((with_reducible refine gate_dst (N := 3) rfl ?_); refine xq (N := 3) (cs := #[.bool a0_0, .int .i64 a0_1, .string a0_2]) (t := 103) ?_; intro gb154 hg w5 hbox hb; have BK154 := xy (hbox); have GW154 := xs w hg; have GE154 := xs w hg; replace HB := xy (below_step xb hb); clear hb hbox hg) | ((with_reducible refine gate_dst (N := 4) rfl ?_); refine xq (N := 4) (cs := #[.bool a1_0, .int .i64 a1_1, .string a1_2]) (t := 103) ?_; intro gb155 hg w6 hbox hb; have BK155 := xy (hbox); have GW155 := xs w hg; have GE155 := xs w hg; replace HB := xy (below_step xb hb); have NB154_155 := xn hg BK154.out; have NB155_154 := xp hg BK154.out; replace BK154 := xd BK154.out hb; clear hb hbox hg) | ((with_reducible refine gate_dst (N := 5) rfl ?_); refine xq (N := 5) (cs := #[.bool a2_0, .int .i64 a2_1, .string a2_2]) (t := 103) ?_; intro gb156 hg w7 hbox hb; have BK156 := xy (hbox); have GW156 := xs w hg; have GE156 := xs w hg; replace HB := xy (below_step xb hb); have NB154_156 := xn hg BK154.out; have NB156_154 := xp hg BK154.out; replace BK154 := xd BK154.out hb; have NB155_156 := xn hg BK155.out; have NB156_155 := xp hg BK155.out; replace BK155 := xd BK155.out hb; clear hb hbox hg) | ((with_reducible refine gate_dst (N := 6) rfl ?_); refine xq (N := 6) (cs := #[.bool false, .int .i64 0, .string (⟨#[]⟩ : ByteArray)]) (t := 24) ?_; intro gb157 hg w8 hbox hb; have BK157 := xy (hbox); have GW157 := xs w hg; have GE157 := xs w hg; replace HB := xy (below_step xb hb); have NB154_157 := xn hg BK154.out; have NB157_154 := xp hg BK154.out; replace BK154 := xd BK154.out hb; have NB155_157 := xn hg BK155.out; have NB157_155 := xp hg BK155.out; replace BK155 := xd BK155.out hb; have NB156_157 := xn hg BK156.out; have NB157_156 := xp hg BK156.out; replace BK156 := xd BK156.out hb; clear hb hbox hg; have hnb9 := NB154_155.out; have hnc9 := NB155_154.out; have hnb10 := NB154_156.out; have hnc10 := NB156_154.out; have hnb11 := NB154_157.out; have hnc11 := NB157_154.out; have hcz12_0 : w8.cell? ⟨gb154, 0, none⟩ = some (.bool a0_0) := (kc BK154.out 0).trans rfl; have hcz12_1 : w8.cell? ⟨gb154, 1, none⟩ = some (.int .i64 a0_1) := (kc BK154.out 1).trans rfl; have hcz12_2 : w8.cell? ⟨gb154, 2, none⟩ = some (.string a0_2) := (kc BK154.out 2).trans rfl; have hfz12_0 := kf BK154.out 0; have hfz12_1 := kf BK154.out 1; have hfz12_2 := kf BK154.out 2) | ((with_reducible refine gate_callee (f := 93) rfl ?_); refine goesL_ (some 10) rfl rfl Tryz.func93 (by kernel_rfl) rfl #[.int .i64 (a0_2.size : Int)] rfl xr ?_; (with_reducible refine (value_Num.calls (a0_2.size : Int) t158 t159 t160 _ (Tabs.below hT xf) A4.out).mono ?_); rintro e w13 ⟨rfl, hb⟩; refine ⟨_, rfl, ?_⟩; replace BK154 := xd BK154.out hb; replace BK155 := xd BK155.out hb; replace BK156 := xd BK156.out hb; replace BK157 := xd BK157.out hb; replace HB := xy (below_step xb hb); (try clear hb); (try clear hb2); (try clear hk); (try clear hi); have hnb14 := NB157_155.out; have hnc14 := NB155_157.out; have hnb15 := NB157_156.out; have hnc15 := NB156_157.out; have hcz16_0 : w13.cell? ⟨gb157, 0, none⟩ = some (.bool false) := (kc BK157.out 0).trans rfl; have hcz16_1 : w13.cell? ⟨gb157, 1, none⟩ = some (.int .i64 0) := (kc BK157.out 1).trans rfl; have hcz16_2 : w13.cell? ⟨gb157, 2, none⟩ = some (.string (⟨#[]⟩ : ByteArray)) := (kc BK157.out 2).trans rfl; have hfz16_0 := kf BK157.out 0; have hfz16_1 := kf BK157.out 1; have hfz16_2 := kf BK157.out 2))
 refine bodyPost_ret (results_cell_row rfl _ _ gb157 24 #[.bool t158, .int .i64 t159, .string t160] (0, 0) _ rfl (kp BK157.out) Tryz.underlying24 rfl (by kernel_rfl)) rfl ?_
 exact ⟨xe, xb⟩
def value_val_slice.f (a0_0 : Bool) (a0_1 : Int) (a0_2 : ByteArray) (a1_0 : Bool) (a1_1 : Int) (a1_2 : ByteArray) (a2_0 : Bool) (a2_1 : Int) (a2_2 : ByteArray) : Option (Bool × Int × ByteArray) := if 0 ≤ (mn (mx a1_1 0) (a0_2.size : Int)) then (if (mn (mx a1_1 0) (a0_2.size : Int)) ≤ (a0_2.size : Int) then (if 0 ≤ (mn (mx a2_1 0) ((a0_2.extract ((mn (mx a1_1 0) (a0_2.size : Int)) : Int).toNat a0_2.size).size : Int)) then (if (mn (mx a2_1 0) ((a0_2.extract ((mn (mx a1_1 0) (a0_2.size : Int)) : Int).toNat a0_2.size).size : Int)) ≤ ((a0_2.extract ((mn (mx a1_1 0) (a0_2.size : Int)) : Int).toNat a0_2.size).size : Int) then ((value_Text.f ((a0_2.extract ((mn (mx a1_1 0) (a0_2.size : Int)) : Int).toNat a0_2.size).extract 0 ((mn (mx a2_1 0) ((a0_2.extract ((mn (mx a1_1 0) (a0_2.size : Int)) : Int).toNat a0_2.size).size : Int)) : Int).toNat)).bind fun bt165 => (some (bt165.1, bt165.2.1, bt165.2.2))) else (none)) else (none)) else (none)) else (none)
set_option maxHeartbeats 8000000 in
set_option maxRecDepth 100000 in
theorem value_val_slice.calls (a0_0 : Bool) (a0_1 : Int) (a0_2 : ByteArray) (a1_0 : Bool) (a1_1 : Int) (a1_2 : ByteArray) (a2_0 : Bool) (a2_1 : Int) (a2_2 : ByteArray) (r1 : Bool) (r2 : Int) (r3 : ByteArray) (w : World) (hT : Tabs w) (h : value_val_slice.f a0_0 a0_1 a0_2 a1_0 a1_1 a1_2 a2_0 a2_1 a2_2 = some (r1, r2, r3)) :
  Calls Tryz.prog 81 #[.agg #[.bool a0_0, .int .i64 a0_1, .string a0_2], .agg #[.bool a1_0, .int .i64 a1_1, .string a1_2], .agg #[.bool a2_0, .int .i64 a2_1, .string a2_2]] w fun e w' => e = .returned (.agg #[.bool r1, .int .i64 r2, .string r3]) ∧ Below w.heap.size w w' := by
 have hu103 := Tryz.underlying103
 have hu24 := Tryz.underlying24
 have HB := xy (Below.refl w.heap.size w)
 unfold value_val_slice.f at h
 have H := h
 clear h
 obtain ⟨ji4, hji4⟩ : ∃ j_ : Int, (mx a1_1 0) = j_ := ⟨_, rfl⟩
 replace H : (if 0 ≤ (mn (ji4) (a0_2.size : Int)) then (if (mn (ji4) (a0_2.size : Int)) ≤ (a0_2.size : Int) then (if 0 ≤ (mn (mx a2_1 0) ((a0_2.extract ((mn (ji4) (a0_2.size : Int)) : Int).toNat a0_2.size).size : Int)) then (if (mn (mx a2_1 0) ((a0_2.extract ((mn (ji4) (a0_2.size : Int)) : Int).toNat a0_2.size).size : Int)) ≤ ((a0_2.extract ((mn (ji4) (a0_2.size : Int)) : Int).toNat a0_2.size).size : Int) then ((value_Text.f ((a0_2.extract ((mn (ji4) (a0_2.size : Int)) : Int).toNat a0_2.size).extract 0 ((mn (mx a2_1 0) ((a0_2.extract ((mn (ji4) (a0_2.size : Int)) : Int).toNat a0_2.size).size : Int)) : Int).toNat)).bind fun bt165 => (some (bt165.1, bt165.2.1, bt165.2.2))) else (none)) else (none)) else (none)) else (none)) = some (r1, r2, r3) := by first | (rw [hji4] at H; exact H) | (simp only [hji4] at H ⊢; exact H)
 (try (have hji4l : 0 ≤ ji4 := by (rw [← hji4]; unfold mx; (repeat' split) <;> omega)))
 (try (have hji4m : 0 ≤ ji4 := by omega))
 have hji4_ : (if a1_1 < 0 then 0 else a1_1) = ji4 := hji4
 obtain ⟨ji5, hji5⟩ : ∃ j_ : Int, (mn (ji4) (a0_2.size : Int)) = j_ := ⟨_, rfl⟩
 replace H : (if 0 ≤ (ji5) then (if (ji5) ≤ (a0_2.size : Int) then (if 0 ≤ (mn (mx a2_1 0) ((a0_2.extract ((ji5) : Int).toNat a0_2.size).size : Int)) then (if (mn (mx a2_1 0) ((a0_2.extract ((ji5) : Int).toNat a0_2.size).size : Int)) ≤ ((a0_2.extract ((ji5) : Int).toNat a0_2.size).size : Int) then ((value_Text.f ((a0_2.extract ((ji5) : Int).toNat a0_2.size).extract 0 ((mn (mx a2_1 0) ((a0_2.extract ((ji5) : Int).toNat a0_2.size).size : Int)) : Int).toNat)).bind fun bt165 => (some (bt165.1, bt165.2.1, bt165.2.2))) else (none)) else (none)) else (none)) else (none)) = some (r1, r2, r3) := by first | (rw [hji5] at H; exact H) | (simp only [hji5] at H ⊢; exact H)
 have hji5_ : (if (a0_2.size : Int) < (ji4) then (a0_2.size : Int) else (ji4)) = ji5 := hji5
 by_cases c6 : 0 ≤ (ji5)
 ·rw [if_pos c6] at H
  have c6b0 := eq_true c6
  have c6b1 : decide (0 ≤ (ji5)) = true := decide_eq_true c6
  clear c6
  by_cases c7 : (ji5) ≤ (a0_2.size : Int)
  ·rw [if_pos c7] at H
   have c7b0 := eq_true c7
   have c7b1 : decide ((ji5) ≤ (a0_2.size : Int)) = true := decide_eq_true c7
   clear c7
   obtain ⟨ji8, hji8⟩ : ∃ j_ : Int, (mx a2_1 0) = j_ := ⟨_, rfl⟩
   replace H : (if 0 ≤ (mn (ji8) ((a0_2.extract ((ji5) : Int).toNat a0_2.size).size : Int)) then (if (mn (ji8) ((a0_2.extract ((ji5) : Int).toNat a0_2.size).size : Int)) ≤ ((a0_2.extract ((ji5) : Int).toNat a0_2.size).size : Int) then ((value_Text.f ((a0_2.extract ((ji5) : Int).toNat a0_2.size).extract 0 ((mn (ji8) ((a0_2.extract ((ji5) : Int).toNat a0_2.size).size : Int)) : Int).toNat)).bind fun bt165 => (some (bt165.1, bt165.2.1, bt165.2.2))) else (none)) else (none)) = some (r1, r2, r3) := by first | (rw [hji8] at H; exact H) | (simp only [hji8] at H ⊢; exact H)
   (try (have hji8l : 0 ≤ ji8 := by (rw [← hji8]; unfold mx; (repeat' split) <;> omega)))
   (try (have hji8m : 0 ≤ ji8 := by omega))
   have hji8_ : (if a2_1 < 0 then 0 else a2_1) = ji8 := hji8
   obtain ⟨ji9, hji9⟩ : ∃ j_ : Int, (mn (ji8) ((a0_2.extract ((ji5) : Int).toNat a0_2.size).size : Int)) = j_ := ⟨_, rfl⟩
   replace H : (if 0 ≤ (ji9) then (if (ji9) ≤ ((a0_2.extract ((ji5) : Int).toNat a0_2.size).size : Int) then ((value_Text.f ((a0_2.extract ((ji5) : Int).toNat a0_2.size).extract 0 ((ji9) : Int).toNat)).bind fun bt165 => (some (bt165.1, bt165.2.1, bt165.2.2))) else (none)) else (none)) = some (r1, r2, r3) := by first | (rw [hji9] at H; exact H) | (simp only [hji9] at H ⊢; exact H)
   have hji9_ : (if ((a0_2.extract ((ji5) : Int).toNat a0_2.size).size : Int) < (ji8) then ((a0_2.extract ((ji5) : Int).toNat a0_2.size).size : Int) else (ji8)) = ji9 := hji9
   (try (have hji9_s := hji9_; simp only [ByteArray.size_extract, Nat.min_self] at hji9_s))
   by_cases c10 : 0 ≤ (ji9)
   ·rw [if_pos c10] at H
    have c10b0 := eq_true c10
    have c10b1 : decide (0 ≤ (ji9)) = true := decide_eq_true c10
    clear c10
    by_cases c11 : (ji9) ≤ ((a0_2.extract ((ji5) : Int).toNat a0_2.size).size : Int)
    ·rw [if_pos c11] at H
     have c11b0 := eq_true c11
     have c11b1 : decide ((ji9) ≤ ((a0_2.extract ((ji5) : Int).toNat a0_2.size).size : Int)) = true := decide_eq_true c11
     (try (have c11b1s := c11b1; simp only [ByteArray.size_extract, Nat.min_self] at c11b1s))
     clear c11
     replace H := xj H
     obtain ⟨⟨t165, t166, t167⟩, A120, H⟩ := H
     try dsimp only at H
     have A12 := xy A120
     clear A120
     simp only [Option.some.injEq, Prod.mk.injEq] at H
     obtain ⟨rfl, rfl, rfl⟩ := H
     go_enter Tryz.func81, Tryz.ntmps81
     go_wp2_with (first | ((with_reducible refine gate_dst (N := 3) rfl ?_); refine xq (N := 3) (cs := #[.bool a0_0, .int .i64 a0_1, .string a0_2]) (t := 103) ?_; intro gb161 hg w13 hbox hb; have BK161 := xy (hbox); have GW161 := xs w hg; have GE161 := xs w hg; replace HB := xy (below_step xb hb); clear hb hbox hg) | ((with_reducible refine gate_dst (N := 4) rfl ?_); refine xq (N := 4) (cs := #[.bool a1_0, .int .i64 a1_1, .string a1_2]) (t := 103) ?_; intro gb162 hg w14 hbox hb; have BK162 := xy (hbox); have GW162 := xs w hg; have GE162 := xs w hg; replace HB := xy (below_step xb hb); have NB161_162 := xn hg BK161.out; have NB162_161 := xp hg BK161.out; replace BK161 := xd BK161.out hb; clear hb hbox hg) | ((with_reducible refine gate_dst (N := 5) rfl ?_); refine xq (N := 5) (cs := #[.bool a2_0, .int .i64 a2_1, .string a2_2]) (t := 103) ?_; intro gb163 hg w15 hbox hb; have BK163 := xy (hbox); have GW163 := xs w hg; have GE163 := xs w hg; replace HB := xy (below_step xb hb); have NB161_163 := xn hg BK161.out; have NB163_161 := xp hg BK161.out; replace BK161 := xd BK161.out hb; have NB162_163 := xn hg BK162.out; have NB163_162 := xp hg BK162.out; replace BK162 := xd BK162.out hb; clear hb hbox hg) | ((with_reducible refine gate_dst (N := 6) rfl ?_); refine xq (N := 6) (cs := #[.bool false, .int .i64 0, .string (⟨#[]⟩ : ByteArray)]) (t := 24) ?_; intro gb164 hg w16 hbox hb; have BK164 := xy (hbox); have GW164 := xs w hg; have GE164 := xs w hg; replace HB := xy (below_step xb hb); have NB161_164 := xn hg BK161.out; have NB164_161 := xp hg BK161.out; replace BK161 := xd BK161.out hb; have NB162_164 := xn hg BK162.out; have NB164_162 := xp hg BK162.out; replace BK162 := xd BK162.out hb; have NB163_164 := xn hg BK163.out; have NB164_163 := xp hg BK163.out; replace BK163 := xd BK163.out hb; clear hb hbox hg; have hnb17 := NB161_162.out; have hnc17 := NB162_161.out; have hnb18 := NB161_163.out; have hnc18 := NB163_161.out; have hnb19 := NB161_164.out; have hnc19 := NB164_161.out; have hcz20_0 : w16.cell? ⟨gb161, 0, none⟩ = some (.bool a0_0) := (kc BK161.out 0).trans rfl; have hcz20_1 : w16.cell? ⟨gb161, 1, none⟩ = some (.int .i64 a0_1) := (kc BK161.out 1).trans rfl; have hcz20_2 : w16.cell? ⟨gb161, 2, none⟩ = some (.string a0_2) := (kc BK161.out 2).trans rfl; have hfz20_0 := kf BK161.out 0; have hfz20_1 := kf BK161.out 1; have hfz20_2 := kf BK161.out 2; have hnb21 := NB162_163.out; have hnc21 := NB163_162.out; have hnb22 := NB162_164.out; have hnc22 := NB164_162.out; have hcz23_0 : w16.cell? ⟨gb162, 0, none⟩ = some (.bool a1_0) := (kc BK162.out 0).trans rfl; have hcz23_1 : w16.cell? ⟨gb162, 1, none⟩ = some (.int .i64 a1_1) := (kc BK162.out 1).trans rfl; have hcz23_2 : w16.cell? ⟨gb162, 2, none⟩ = some (.string a1_2) := (kc BK162.out 2).trans rfl; have hfz23_0 := kf BK162.out 0; have hfz23_1 := kf BK162.out 1; have hfz23_2 := kf BK162.out 2; have hnb24 := NB163_164.out; have hnc24 := NB164_163.out; have hcz25_0 : w16.cell? ⟨gb163, 0, none⟩ = some (.bool a2_0) := (kc BK163.out 0).trans rfl; have hcz25_1 : w16.cell? ⟨gb163, 1, none⟩ = some (.int .i64 a2_1) := (kc BK163.out 1).trans rfl; have hcz25_2 : w16.cell? ⟨gb163, 2, none⟩ = some (.string a2_2) := (kc BK163.out 2).trans rfl; have hfz25_0 := kf BK163.out 0; have hfz25_1 := kf BK163.out 1; have hfz25_2 := kf BK163.out 2) | ((with_reducible refine gate_callee (f := 52) rfl ?_); refine goesL_ (some 26) rfl rfl Tryz.func52 (by kernel_rfl) rfl #[.string ((a0_2.extract ((ji5) : Int).toNat a0_2.size).extract 0 ((ji9) : Int).toNat)] rfl (by (try simp only [List.map_toArray, List.map_cons, List.map_nil]); first | done | (simp only [hji5, hji9]; rfl) | rfl | (simp only [List.length_drop, List.length_take]; rfl)) ?_; (with_reducible refine (value_Text.calls ((a0_2.extract ((ji5) : Int).toNat a0_2.size).extract 0 ((ji9) : Int).toNat) t165 t166 t167 _ (Tabs.below hT xf) A12.out).mono ?_); rintro e w26 ⟨rfl, hb⟩; refine ⟨_, rfl, ?_⟩; replace BK161 := xd BK161.out hb; replace BK162 := xd BK162.out hb; replace BK163 := xd BK163.out hb; replace BK164 := xd BK164.out hb; replace HB := xy (below_step xb hb); (try clear hb); (try clear hb2); (try clear hk); (try clear hi); have hcz27_0 : w26.cell? ⟨gb164, 0, none⟩ = some (.bool false) := (kc BK164.out 0).trans rfl; have hcz27_1 : w26.cell? ⟨gb164, 1, none⟩ = some (.int .i64 0) := (kc BK164.out 1).trans rfl; have hcz27_2 : w26.cell? ⟨gb164, 2, none⟩ = some (.string (⟨#[]⟩ : ByteArray)) := (kc BK164.out 2).trans rfl; have hfz27_0 := kf BK164.out 0; have hfz27_1 := kf BK164.out 1; have hfz27_2 := kf BK164.out 2))
     refine bodyPost_ret (results_cell_row rfl _ _ gb164 24 #[.bool t165, .int .i64 t166, .string t167] (0, 0) _ rfl (kp BK164.out) Tryz.underlying24 rfl (by kernel_rfl)) rfl ?_
     exact ⟨by first | rfl | (simp [errW_none, errW_some] <;> rfl) | (simp only [← hji4, ← hji5, ← hji8, ← hji9]; first | rfl | (simp [errW_none, errW_some] <;> rfl)) | (simp [*, errW_none, errW_some] <;> rfl), xb⟩
    ·rw [if_neg c11] at H
     exact absurd H (by simp)
   ·rw [if_neg c10] at H
    exact absurd H (by simp)
  ·rw [if_neg c7] at H
   exact absurd H (by simp)
 ·rw [if_neg c6] at H
  exact absurd H (by simp)
def value_turn.f (a0 : ByteArray) (a1 : Int) : Option (Bool × Int × ByteArray) := if 0 ≤ a1 ∧ a1 ≤ 200 ∧ a0.size ≤ 140737488355328 then value_Text.f (strOfNums (XTurn.turnL a1 (bytesOf a0))) else none
theorem value_turn.calls (a0 : ByteArray) (a1 : Int) (r1 : Bool) (r2 : Int) (r3 : ByteArray) (w : World) (hT : Tabs w) (h : value_turn.f a0 a1 = some (r1, r2, r3)) :
  Calls Tryz.prog 94 #[.string a0, .int .u8 a1] w fun e w' => e = .returned (.agg #[.bool r1, .int .i64 r2, .string r3]) ∧ Below w.heap.size w w' := by
 unfold value_turn.f at h
 by_cases hq : 0 ≤ a1 ∧ a1 ≤ 200 ∧ a0.size ≤ 140737488355328
 ·rw [if_pos hq] at h
  exact XTurn.calls (T := Tabs) (fun w w' h hb => h.below hb) a0 a1 r1 r2 r3 ⟨hq.1, hq.2.1⟩ hq.2.2 (fun w hT => value_Text.calls _ _ _ _ w hT h) w hT
 ·rw [if_neg hq] at h
  cases h
end Go.Proofs.YtebofnoljebakaaGreatDoor.PX
