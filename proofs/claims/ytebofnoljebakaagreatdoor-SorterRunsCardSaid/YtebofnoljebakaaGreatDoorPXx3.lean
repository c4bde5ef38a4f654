/- Walked functions, by this session's program over the kit's print. -/
import Derived.Test.YtebofnoljebakaaGreatDoorXA
import Derived.Test.YtebofnoljebakaaGreatDoorPXx0
namespace Go.Proofs.YtebofnoljebakaaGreatDoor.PX
open Go.RowKit Go.Proofs.YtebofnoljebakaaGreatDoorW.PrintWords Go.Proofs.YtebofnoljebakaaGreatDoorW.PrintLast Go.Proofs.YtebofnoljebakaaGreatDoorW.PrintMore
attribute [local go_sem] xm_gtr max2_int min2_int max_two min_two max_three min_three max_four min_four
set_option linter.unusedVariables false
set_option linter.unusedSimpArgs false
/- Walked functions, by this session's program over the kit's print. -/
def value_isVal.f (a0_0 : Bool) (a0_1 : Int) (a0_2 : ByteArray) : Option (Bool) := if a0_0 = true then (if a0_1 = 0 then (some (decide ((a0_2.size : Int) ≤ 1000))) else (some false)) else (some (a0_2.toList == ([] : List UInt8)))
set_option maxHeartbeats 8000000 in
set_option maxRecDepth 100000 in
theorem value_isVal.calls (a0_0 : Bool) (a0_1 : Int) (a0_2 : ByteArray) (r : Bool) (w : World) (hT : Tabs w) (h : value_isVal.f a0_0 a0_1 a0_2 = some r) :
  Calls Tryz.prog 60 #[.agg #[.bool a0_0, .int .i64 a0_1, .string a0_2]] w fun e w' => e = .returned (.bool r) ∧ Below w.heap.size w w' := by
 have hu24 := Tryz.underlying24
 have HB := xy (Below.refl w.heap.size w)
 unfold value_isVal.f at h
 have H := h
 clear h
 by_cases c2 : a0_0 = true
 ·subst c2
  rw [if_pos rfl] at H
  by_cases c3 : a0_1 = 0
  ·rw [if_pos c3] at H
   have c3b0 : (a0_1 == 0) = true := beq_iff_eq.mpr c3
   have c3b1 : (a0_1 != 0) = false := bne_eq_false_iff_eq.mpr c3
   clear c3
   obtain rfl := Option.some.inj H
   go_enter Tryz.func60, Tryz.ntmps60
   go_wp2_with (((with_reducible refine gate_dst (N := 1) rfl ?_); (try (refine gate_guard (by rfl) ?_; dsimp only)); refine xq (N := 1) (cs := #[.bool true, .int .i64 a0_1, .string a0_2]) (t := 24) ?_; intro gb111 hg w4 hbox hb; have BK111 := xy (hbox); have GW111 := xs w hg; have GE111 := xs w hg; replace HB := xy (below_step xb hb); clear hb hbox hg; have hcz5_0 : w4.cell? ⟨gb111, 0, none⟩ = some (.bool true) := (kc BK111.out 0).trans rfl; have hcz5_1 : w4.cell? ⟨gb111, 1, none⟩ = some (.int .i64 a0_1) := (kc BK111.out 1).trans rfl; have hcz5_2 : w4.cell? ⟨gb111, 2, none⟩ = some (.string a0_2) := (kc BK111.out 2).trans rfl; have hfz5_0 := kf BK111.out 0; have hfz5_1 := kf BK111.out 1; have hfz5_2 := kf BK111.out 2))
   go_ret
   exact ⟨xe, xb⟩
  ·rw [if_neg c3] at H
   have c3b0 : (a0_1 == 0) = false := beq_eq_false_iff_ne.mpr c3
   have c3b1 : (a0_1 != 0) = true := bne_iff_ne.mpr c3
   obtain rfl := Option.some.inj H
   go_enter Tryz.func60, Tryz.ntmps60
   go_wp2_with (((with_reducible refine gate_dst (N := 1) rfl ?_); (try (refine gate_guard (by rfl) ?_; dsimp only)); refine xq (N := 1) (cs := #[.bool true, .int .i64 a0_1, .string a0_2]) (t := 24) ?_; intro gb111 hg w6 hbox hb; have BK111 := xy (hbox); have GW111 := xs w hg; have GE111 := xs w hg; replace HB := xy (below_step xb hb); clear hb hbox hg; have hcz7_0 : w6.cell? ⟨gb111, 0, none⟩ = some (.bool true) := (kc BK111.out 0).trans rfl; have hcz7_1 : w6.cell? ⟨gb111, 1, none⟩ = some (.int .i64 a0_1) := (kc BK111.out 1).trans rfl; have hcz7_2 : w6.cell? ⟨gb111, 2, none⟩ = some (.string a0_2) := (kc BK111.out 2).trans rfl; have hfz7_0 := kf BK111.out 0; have hfz7_1 := kf BK111.out 1; have hfz7_2 := kf BK111.out 2))
   go_ret
   exact ⟨xe, xb⟩
 ·replace c2 := Bool.eq_false_iff.mpr c2
  subst c2
  rw [if_neg (show ¬ (false = true) by decide)] at H
  obtain rfl := Option.some.inj H
  go_enter Tryz.func60, Tryz.ntmps60
  go_wp2_with (((with_reducible refine gate_dst (N := 1) rfl ?_); (try (refine gate_guard (by rfl) ?_; dsimp only)); refine xq (N := 1) (cs := #[.bool false, .int .i64 a0_1, .string a0_2]) (t := 24) ?_; intro gb111 hg w8 hbox hb; have BK111 := xy (hbox); have GW111 := xs w hg; have GE111 := xs w hg; replace HB := xy (below_step xb hb); clear hb hbox hg; have hcz9_0 : w8.cell? ⟨gb111, 0, none⟩ = some (.bool false) := (kc BK111.out 0).trans rfl; have hcz9_1 : w8.cell? ⟨gb111, 1, none⟩ = some (.int .i64 a0_1) := (kc BK111.out 1).trans rfl; have hcz9_2 : w8.cell? ⟨gb111, 2, none⟩ = some (.string a0_2) := (kc BK111.out 2).trans rfl; have hfz9_0 := kf BK111.out 0; have hfz9_1 := kf BK111.out 1; have hfz9_2 := kf BK111.out 2))
  go_ret
  exact ⟨xe, xb⟩
def value_Result.f (a0 : Int) (l1 : List Bool) : Option (Bool × Int) := some (XOps.resultF a0 l1)
theorem value_Result.calls (a0 : Int) (A1 : Option Addr) (c1 : Nat) (l1 : List Bool) (r1 : Bool) (r2 : Int) (w : World) (hT : Tabs w) (hr1 : Kd.C Kd.bool w A1 l1.length l1) (hc1 : l1.length ≤ c1) (h : value_Result.f a0 l1 = some (r1, r2)) :
  Calls Tryz.prog 61 #[.int .i64 a0, .slice A1 l1.length c1] w fun e w' => e = .returned (.tuple #[.bool r1, .int .i64 r2]) ∧ Below w.heap.size w w' := by
 have e : XOps.resultF a0 l1 = (r1, r2) := Option.some.inj h
 have := XOps.result_calls a0 A1 c1 l1 w hr1
 rw [e] at this
 exact this
def value_Num.f (a0 : Int) : Option (Bool × Int × ByteArray) := some (false, a0, (⟨#[]⟩ : ByteArray))
set_option maxHeartbeats 8000000 in
set_option maxRecDepth 100000 in
theorem value_Num.calls (a0 : Int) (r1 : Bool) (r2 : Int) (r3 : ByteArray) (w : World) (hT : Tabs w) (h : value_Num.f a0 = some (r1, r2, r3)) :
  Calls Tryz.prog 93 #[.int .i64 a0] w fun e w' => e = .returned (.agg #[.bool r1, .int .i64 r2, .string r3]) ∧ Below w.heap.size w w' := by
 have hu24 := Tryz.underlying24
 have HB := xy (Below.refl w.heap.size w)
 unfold value_Num.f at h
 have H := h
 clear h
 simp only [Option.some.injEq, Prod.mk.injEq] at H
 obtain ⟨rfl, rfl, rfl⟩ := H
 go_enter Tryz.func93, Tryz.ntmps93
 go_wp2_with (((with_reducible refine gate_dst (N := 2) rfl ?_); refine xq (N := 2) (cs := #[.bool false, .int .i64 0, .string (⟨#[]⟩ : ByteArray)]) (t := 24) ?_; intro gb112 hg w2 hbox hb; have BK112 := xy (hbox); have GW112 := xs w hg; have GE112 := xs w hg; replace HB := xy (below_step xb hb); clear hb hbox hg; have hcz3_0 : w2.cell? ⟨gb112, 0, none⟩ = some (.bool false) := (kc BK112.out 0).trans rfl; have hcz3_1 : w2.cell? ⟨gb112, 1, none⟩ = some (.int .i64 0) := (kc BK112.out 1).trans rfl; have hcz3_2 : w2.cell? ⟨gb112, 2, none⟩ = some (.string (⟨#[]⟩ : ByteArray)) := (kc BK112.out 2).trans rfl; have hfz3_0 := kf BK112.out 0; have hfz3_1 := kf BK112.out 1; have hfz3_2 := kf BK112.out 2))
 refine bodyPost_ret (results_cell_row rfl _ _ gb112 24 #[.bool false, .int .i64 a0, .string (⟨#[]⟩ : ByteArray)] (0, 0) _ rfl (kp BK112.out) Tryz.underlying24 rfl (by kernel_rfl)) rfl ?_
 exact ⟨xe, xb⟩
def value_val_add.f (a0_0 : Bool) (a0_1 : Int) (a0_2 : ByteArray) (a1_0 : Bool) (a1_1 : Int) (a1_2 : ByteArray) (a2_0 : Bool) (a2_1 : Int) (a2_2 : ByteArray) : Option (Bool × Int × ByteArray) := (value_Num.f (wrap64 (a0_1 + a1_1))).bind fun bt117 => (some (bt117.1, bt117.2.1, bt117.2.2))
set_option maxHeartbeats 8000000 in
set_option maxRecDepth 100000 in
theorem value_val_add.calls (a0_0 : Bool) (a0_1 : Int) (a0_2 : ByteArray) (a1_0 : Bool) (a1_1 : Int) (a1_2 : ByteArray) (a2_0 : Bool) (a2_1 : Int) (a2_2 : ByteArray) (r1 : Bool) (r2 : Int) (r3 : ByteArray) (w : World) (hT : Tabs w) (h : value_val_add.f a0_0 a0_1 a0_2 a1_0 a1_1 a1_2 a2_0 a2_1 a2_2 = some (r1, r2, r3)) :
  Calls Tryz.prog 74 #[.agg #[.bool a0_0, .int .i64 a0_1, .string a0_2], .agg #[.bool a1_0, .int .i64 a1_1, .string a1_2], .agg #[.bool a2_0, .int .i64 a2_1, .string a2_2]] w fun e w' => e = .returned (.agg #[.bool r1, .int .i64 r2, .string r3]) ∧ Below w.heap.size w w' := by
 have hu103 := Tryz.underlying103
 have hu24 := Tryz.underlying24
 have HB := xy (Below.refl w.heap.size w)
 unfold value_val_add.f at h
 have H := h
 clear h
 replace H := xj H
 obtain ⟨⟨t117, t118, t119⟩, A40, H⟩ := H
 try dsimp only at H
 have A4 := xy A40
 clear A40
 simp only [Option.some.injEq, Prod.mk.injEq] at H
 obtain ⟨rfl, rfl, rfl⟩ := H
 go_enter Tryz.func74, Tryz.ntmps74
 go_wp2_with (first | ((with_reducible refine gate_dst (N := 3) rfl ?_); refine xq (N := 3) (cs := #[.bool a0_0, .int .i64 a0_1, .string a0_2]) (t := 103) ?_; intro gb113 hg w5 hbox hb; have BK113 := xy (hbox); have GW113 := xs w hg; have GE113 := xs w hg; replace HB := xy (below_step xb hb); clear hb hbox hg) | ((with_reducible refine gate_dst (N := 4) rfl ?_); refine xq (N := 4) (cs := #[.bool a1_0, .int .i64 a1_1, .string a1_2]) (t := 103) ?_; intro gb114 hg w6 hbox hb; have BK114 := xy (hbox); have GW114 := xs w hg; have GE114 := xs w hg; replace HB := xy (below_step xb hb); have NB113_114 := xn hg BK113.out; have NB114_113 := xp hg BK113.out; replace BK113 := xd BK113.out hb; clear hb hbox hg) | ((with_reducible refine gate_dst (N := 5) rfl ?_); refine xq (N := 5) (cs := #[.bool a2_0, .int .i64 a2_1, .string a2_2]) (t := 103) ?_; intro gb115 hg w7 hbox hb; have BK115 := xy (hbox); have GW115 := xs w hg; have GE115 := xs w hg; replace HB := xy (below_step xb hb); have NB113_115 := xn hg BK113.out; have NB115_113 := xp hg BK113.out; replace BK113 := xd BK113.out hb; have NB114_115 := xn hg BK114.out; have NB115_114 := xp hg BK114.out; replace BK114 := xd BK114.out hb; clear hb hbox hg) | ((with_reducible refine gate_dst (N := 6) rfl ?_); refine xq (N := 6) (cs := #[.bool false, .int .i64 0, .string (⟨#[]⟩ : ByteArray)]) (t := 24) ?_; intro gb116 hg w8 hbox hb; have BK116 := xy (hbox); have GW116 := xs w hg; have GE116 := xs w hg; replace HB := xy (below_step xb hb); have NB113_116 := xn hg BK113.out; have NB116_113 := xp hg BK113.out; replace BK113 := xd BK113.out hb; have NB114_116 := xn hg BK114.out; have NB116_114 := xp hg BK114.out; replace BK114 := xd BK114.out hb; have NB115_116 := xn hg BK115.out; have NB116_115 := xp hg BK115.out; replace BK115 := xd BK115.out hb; clear hb hbox hg; have hnb9 := NB113_114.out; have hnc9 := NB114_113.out; have hnb10 := NB113_115.out; have hnc10 := NB115_113.out; have hnb11 := NB113_116.out; have hnc11 := NB116_113.out; have hcz12_0 : w8.cell? ⟨gb113, 0, none⟩ = some (.bool a0_0) := (kc BK113.out 0).trans rfl; have hcz12_1 : w8.cell? ⟨gb113, 1, none⟩ = some (.int .i64 a0_1) := (kc BK113.out 1).trans rfl; have hcz12_2 : w8.cell? ⟨gb113, 2, none⟩ = some (.string a0_2) := (kc BK113.out 2).trans rfl; have hfz12_0 := kf BK113.out 0; have hfz12_1 := kf BK113.out 1; have hfz12_2 := kf BK113.out 2; have hnb13 := NB114_115.out; have hnc13 := NB115_114.out; have hnb14 := NB114_116.out; have hnc14 := NB116_114.out; have hcz15_0 : w8.cell? ⟨gb114, 0, none⟩ = some (.bool a1_0) := (kc BK114.out 0).trans rfl; have hcz15_1 : w8.cell? ⟨gb114, 1, none⟩ = some (.int .i64 a1_1) := (kc BK114.out 1).trans rfl; have hcz15_2 : w8.cell? ⟨gb114, 2, none⟩ = some (.string a1_2) := (kc BK114.out 2).trans rfl; have hfz15_0 := kf BK114.out 0; have hfz15_1 := kf BK114.out 1; have hfz15_2 := kf BK114.out 2) | ((with_reducible refine gate_callee (f := 93) rfl ?_); refine goesL_ (some 12) rfl rfl Tryz.func93 (by kernel_rfl) rfl #[.int .i64 (wrap64 (a0_1 + a1_1))] rfl xr ?_; (with_reducible refine (value_Num.calls (wrap64 (a0_1 + a1_1)) t117 t118 t119 _ (Tabs.below hT xf) A4.out).mono ?_); rintro e w16 ⟨rfl, hb⟩; refine ⟨_, rfl, ?_⟩; replace BK113 := xd BK113.out hb; replace BK114 := xd BK114.out hb; replace BK115 := xd BK115.out hb; replace BK116 := xd BK116.out hb; replace HB := xy (below_step xb hb); (try clear hb); (try clear hb2); (try clear hk); (try clear hi); have hnb17 := NB116_115.out; have hnc17 := NB115_116.out; have hcz18_0 : w16.cell? ⟨gb116, 0, none⟩ = some (.bool false) := (kc BK116.out 0).trans rfl; have hcz18_1 : w16.cell? ⟨gb116, 1, none⟩ = some (.int .i64 0) := (kc BK116.out 1).trans rfl; have hcz18_2 : w16.cell? ⟨gb116, 2, none⟩ = some (.string (⟨#[]⟩ : ByteArray)) := (kc BK116.out 2).trans rfl; have hfz18_0 := kf BK116.out 0; have hfz18_1 := kf BK116.out 1; have hfz18_2 := kf BK116.out 2))
 refine bodyPost_ret (results_cell_row rfl _ _ gb116 24 #[.bool t117, .int .i64 t118, .string t119] (0, 0) _ rfl (kp BK116.out) Tryz.underlying24 rfl (by kernel_rfl)) rfl ?_
 exact ⟨xe, xb⟩
def value_val_sub.f (a0_0 : Bool) (a0_1 : Int) (a0_2 : ByteArray) (a1_0 : Bool) (a1_1 : Int) (a1_2 : ByteArray) (a2_0 : Bool) (a2_1 : Int) (a2_2 : ByteArray) : Option (Bool × Int × ByteArray) := (value_Num.f (wrap64 (a0_1 - a1_1))).bind fun bt124 => (some (bt124.1, bt124.2.1, bt124.2.2))
set_option maxHeartbeats 8000000 in
set_option maxRecDepth 100000 in
theorem value_val_sub.calls (a0_0 : Bool) (a0_1 : Int) (a0_2 : ByteArray) (a1_0 : Bool) (a1_1 : Int) (a1_2 : ByteArray) (a2_0 : Bool) (a2_1 : Int) (a2_2 : ByteArray) (r1 : Bool) (r2 : Int) (r3 : ByteArray) (w : World) (hT : Tabs w) (h : value_val_sub.f a0_0 a0_1 a0_2 a1_0 a1_1 a1_2 a2_0 a2_1 a2_2 = some (r1, r2, r3)) :
  Calls Tryz.prog 75 #[.agg #[.bool a0_0, .int .i64 a0_1, .string a0_2], .agg #[.bool a1_0, .int .i64 a1_1, .string a1_2], .agg #[.bool a2_0, .int .i64 a2_1, .string a2_2]] w fun e w' => e = .returned (.agg #[.bool r1, .int .i64 r2, .string r3]) ∧ Below w.heap.size w w' := by
 have hu103 := Tryz.underlying103
 have hu24 := Tryz.underlying24
 have HB := xy (Below.refl w.heap.size w)
 unfold value_val_sub.f at h
 have H := h
 clear h
 replace H := xj H
 obtain ⟨⟨t124, t125, t126⟩, A40, H⟩ := H
 try dsimp only at H
 have A4 := xy A40
 clear A40
 simp only [Option.some.injEq, Prod.mk.injEq] at H
 obtain ⟨rfl, rfl, rfl⟩ := H
 go_enter Tryz.func75, Tryz.ntmps75
 go_wp2_with (first | ((with_reducible refine gate_dst (N := 3) rfl ?_); refine xq (N := 3) (cs := #[.bool a0_0, .int .i64 a0_1, .string a0_2]) (t := 103) ?_; intro gb120 hg w5 hbox hb; have BK120 := xy (hbox); have GW120 := xs w hg; have GE120 := xs w hg; replace HB := xy (below_step xb hb); clear hb hbox hg) | ((with_reducible refine gate_dst (N := 4) rfl ?_); refine xq (N := 4) (cs := #[.bool a1_0, .int .i64 a1_1, .string a1_2]) (t := 103) ?_; intro gb121 hg w6 hbox hb; have BK121 := xy (hbox); have GW121 := xs w hg; have GE121 := xs w hg; replace HB := xy (below_step xb hb); have NB120_121 := xn hg BK120.out; have NB121_120 := xp hg BK120.out; replace BK120 := xd BK120.out hb; clear hb hbox hg) | ((with_reducible refine gate_dst (N := 5) rfl ?_); refine xq (N := 5) (cs := #[.bool a2_0, .int .i64 a2_1, .string a2_2]) (t := 103) ?_; intro gb122 hg w7 hbox hb; have BK122 := xy (hbox); have GW122 := xs w hg; have GE122 := xs w hg; replace HB := xy (below_step xb hb); have NB120_122 := xn hg BK120.out; have NB122_120 := xp hg BK120.out; replace BK120 := xd BK120.out hb; have NB121_122 := xn hg BK121.out; have NB122_121 := xp hg BK121.out; replace BK121 := xd BK121.out hb; clear hb hbox hg) | ((with_reducible refine gate_dst (N := 6) rfl ?_); refine xq (N := 6) (cs := #[.bool false, .int .i64 0, .string (⟨#[]⟩ : ByteArray)]) (t := 24) ?_; intro gb123 hg w8 hbox hb; have BK123 := xy (hbox); have GW123 := xs w hg; have GE123 := xs w hg; replace HB := xy (below_step xb hb); have NB120_123 := xn hg BK120.out; have NB123_120 := xp hg BK120.out; replace BK120 := xd BK120.out hb; have NB121_123 := xn hg BK121.out; have NB123_121 := xp hg BK121.out; replace BK121 := xd BK121.out hb; have NB122_123 := xn hg BK122.out; have NB123_122 := xp hg BK122.out; replace BK122 := xd BK122.out hb; clear hb hbox hg; have hnb9 := NB120_121.out; have hnc9 := NB121_120.out; have hnb10 := NB120_122.out; have hnc10 := NB122_120.out; have hnb11 := NB120_123.out; have hnc11 := NB123_120.out; have hcz12_0 : w8.cell? ⟨gb120, 0, none⟩ = some (.bool a0_0) := (kc BK120.out 0).trans rfl; have hcz12_1 : w8.cell? ⟨gb120, 1, none⟩ = some (.int .i64 a0_1) := (kc BK120.out 1).trans rfl; have hcz12_2 : w8.cell? ⟨gb120, 2, none⟩ = some (.string a0_2) := (kc BK120.out 2).trans rfl; have hfz12_0 := kf BK120.out 0; have hfz12_1 := kf BK120.out 1; have hfz12_2 := kf BK120.out 2; have hnb13 := NB121_122.out; have hnc13 := NB122_121.out; have hnb14 := NB121_123.out; have hnc14 := NB123_121.out; have hcz15_0 : w8.cell? ⟨gb121, 0, none⟩ = some (.bool a1_0) := (kc BK121.out 0).trans rfl; have hcz15_1 : w8.cell? ⟨gb121, 1, none⟩ = some (.int .i64 a1_1) := (kc BK121.out 1).trans rfl; have hcz15_2 : w8.cell? ⟨gb121, 2, none⟩ = some (.string a1_2) := (kc BK121.out 2).trans rfl; have hfz15_0 := kf BK121.out 0; have hfz15_1 := kf BK121.out 1; have hfz15_2 := kf BK121.out 2) | ((with_reducible refine gate_callee (f := 93) rfl ?_); refine goesL_ (some 12) rfl rfl Tryz.func93 (by kernel_rfl) rfl #[.int .i64 (wrap64 (a0_1 - a1_1))] rfl xr ?_; (with_reducible refine (value_Num.calls (wrap64 (a0_1 - a1_1)) t124 t125 t126 _ (Tabs.below hT xf) A4.out).mono ?_); rintro e w16 ⟨rfl, hb⟩; refine ⟨_, rfl, ?_⟩; replace BK120 := xd BK120.out hb; replace BK121 := xd BK121.out hb; replace BK122 := xd BK122.out hb; replace BK123 := xd BK123.out hb; replace HB := xy (below_step xb hb); (try clear hb); (try clear hb2); (try clear hk); (try clear hi); have hnb17 := NB123_122.out; have hnc17 := NB122_123.out; have hcz18_0 : w16.cell? ⟨gb123, 0, none⟩ = some (.bool false) := (kc BK123.out 0).trans rfl; have hcz18_1 : w16.cell? ⟨gb123, 1, none⟩ = some (.int .i64 0) := (kc BK123.out 1).trans rfl; have hcz18_2 : w16.cell? ⟨gb123, 2, none⟩ = some (.string (⟨#[]⟩ : ByteArray)) := (kc BK123.out 2).trans rfl; have hfz18_0 := kf BK123.out 0; have hfz18_1 := kf BK123.out 1; have hfz18_2 := kf BK123.out 2))
 refine bodyPost_ret (results_cell_row rfl _ _ gb123 24 #[.bool t124, .int .i64 t125, .string t126] (0, 0) _ rfl (kp BK123.out) Tryz.underlying24 rfl (by kernel_rfl)) rfl ?_
 exact ⟨xe, xb⟩
def value_val_mul.f (a0_0 : Bool) (a0_1 : Int) (a0_2 : ByteArray) (a1_0 : Bool) (a1_1 : Int) (a1_2 : ByteArray) (a2_0 : Bool) (a2_1 : Int) (a2_2 : ByteArray) : Option (Bool × Int × ByteArray) := (value_Num.f (wrap64 (a0_1 * a1_1))).bind fun bt131 => (some (bt131.1, bt131.2.1, bt131.2.2))
set_option maxHeartbeats 8000000 in
set_option maxRecDepth 100000 in
theorem value_val_mul.calls (a0_0 : Bool) (a0_1 : Int) (a0_2 : ByteArray) (a1_0 : Bool) (a1_1 : Int) (a1_2 : ByteArray) (a2_0 : Bool) (a2_1 : Int) (a2_2 : ByteArray) (r1 : Bool) (r2 : Int) (r3 : ByteArray) (w : World) (hT : Tabs w) (h : value_val_mul.f a0_0 a0_1 a0_2 a1_0 a1_1 a1_2 a2_0 a2_1 a2_2 = some (r1, r2, r3)) :
  Calls Tryz.prog 76 #[.agg #[.bool a0_0, .int .i64 a0_1, .string a0_2], .agg #[.bool a1_0, .int .i64 a1_1, .string a1_2], .agg #[.bool a2_0, .int .i64 a2_1, .string a2_2]] w fun e w' => e = .returned (.agg #[.bool r1, .int .i64 r2, .string r3]) ∧ Below w.heap.size w w' := by
 have hu103 := Tryz.underlying103
 have hu24 := Tryz.underlying24
 have HB := xy (Below.refl w.heap.size w)
 unfold value_val_mul.f at h
 have H := h
 clear h
 replace H := xj H
 obtain ⟨⟨t131, t132, t133⟩, A40, H⟩ := H
 try dsimp only at H
 have A4 := xy A40
 clear A40
 simp only [Option.some.injEq, Prod.mk.injEq] at H
 obtain ⟨rfl, rfl, rfl⟩ := H
 go_enter Tryz.func76, Tryz.ntmps76
 go_wp2_with (first | ((with_reducible refine gate_dst (N := 3) rfl ?_); refine xq (N := 3) (cs := #[.bool a0_0, .int .i64 a0_1, .string a0_2]) (t := 103) ?_; intro gb127 hg w5 hbox hb; have BK127 := xy (hbox); have GW127 := xs w hg; have GE127 := xs w hg; replace HB := xy (below_step xb hb); clear hb hbox hg) | ((with_reducible refine gate_dst (N := 4) rfl ?_); refine xq (N := 4) (cs := #[.bool a1_0, .int .i64 a1_1, .string a1_2]) (t := 103) ?_; intro gb128 hg w6 hbox hb; have BK128 := xy (hbox); have GW128 := xs w hg; have GE128 := xs w hg; replace HB := xy (below_step xb hb); have NB127_128 := xn hg BK127.out; have NB128_127 := xp hg BK127.out; replace BK127 := xd BK127.out hb; clear hb hbox hg) | ((with_reducible refine gate_dst (N := 5) rfl ?_); refine xq (N := 5) (cs := #[.bool a2_0, .int .i64 a2_1, .string a2_2]) (t := 103) ?_; intro gb129 hg w7 hbox hb; have BK129 := xy (hbox); have GW129 := xs w hg; have GE129 := xs w hg; replace HB := xy (below_step xb hb); have NB127_129 := xn hg BK127.out; have NB129_127 := xp hg BK127.out; replace BK127 := xd BK127.out hb; have NB128_129 := xn hg BK128.out; have NB129_128 := xp hg BK128.out; replace BK128 := xd BK128.out hb; clear hb hbox hg) | ((with_reducible refine gate_dst (N := 6) rfl ?_); refine xq (N := 6) (cs := #[.bool false, .int .i64 0, .string (⟨#[]⟩ : ByteArray)]) (t := 24) ?_; intro gb130 hg w8 hbox hb; have BK130 := xy (hbox); have GW130 := xs w hg; have GE130 := xs w hg; replace HB := xy (below_step xb hb); have NB127_130 := xn hg BK127.out; have NB130_127 := xp hg BK127.out; replace BK127 := xd BK127.out hb; have NB128_130 := xn hg BK128.out; have NB130_128 := xp hg BK128.out; replace BK128 := xd BK128.out hb; have NB129_130 := xn hg BK129.out; have NB130_129 := xp hg BK129.out; replace BK129 := xd BK129.out hb; clear hb hbox hg; have hnb9 := NB127_128.out; have hnc9 := NB128_127.out; have hnb10 := NB127_129.out; have hnc10 := NB129_127.out; have hnb11 := NB127_130.out; have hnc11 := NB130_127.out; have hcz12_0 : w8.cell? ⟨gb127, 0, none⟩ = some (.bool a0_0) := (kc BK127.out 0).trans rfl; have hcz12_1 : w8.cell? ⟨gb127, 1, none⟩ = some (.int .i64 a0_1) := (kc BK127.out 1).trans rfl; have hcz12_2 : w8.cell? ⟨gb127, 2, none⟩ = some (.string a0_2) := (kc BK127.out 2).trans rfl; have hfz12_0 := kf BK127.out 0; have hfz12_1 := kf BK127.out 1; have hfz12_2 := kf BK127.out 2; have hnb13 := NB128_129.out; have hnc13 := NB129_128.out; have hnb14 := NB128_130.out; have hnc14 := NB130_128.out; have hcz15_0 : w8.cell? ⟨gb128, 0, none⟩ = some (.bool a1_0) := (kc BK128.out 0).trans rfl; have hcz15_1 : w8.cell? ⟨gb128, 1, none⟩ = some (.int .i64 a1_1) := (kc BK128.out 1).trans rfl; have hcz15_2 : w8.cell? ⟨gb128, 2, none⟩ = some (.string a1_2) := (kc BK128.out 2).trans rfl; have hfz15_0 := kf BK128.out 0; have hfz15_1 := kf BK128.out 1; have hfz15_2 := kf BK128.out 2) | ((with_reducible refine gate_callee (f := 93) rfl ?_); refine goesL_ (some 12) rfl rfl Tryz.func93 (by kernel_rfl) rfl #[.int .i64 (wrap64 (a0_1 * a1_1))] rfl xr ?_; (with_reducible refine (value_Num.calls (wrap64 (a0_1 * a1_1)) t131 t132 t133 _ (Tabs.below hT xf) A4.out).mono ?_); rintro e w16 ⟨rfl, hb⟩; refine ⟨_, rfl, ?_⟩; replace BK127 := xd BK127.out hb; replace BK128 := xd BK128.out hb; replace BK129 := xd BK129.out hb; replace BK130 := xd BK130.out hb; replace HB := xy (below_step xb hb); (try clear hb); (try clear hb2); (try clear hk); (try clear hi); have hnb17 := NB130_129.out; have hnc17 := NB129_130.out; have hcz18_0 : w16.cell? ⟨gb130, 0, none⟩ = some (.bool false) := (kc BK130.out 0).trans rfl; have hcz18_1 : w16.cell? ⟨gb130, 1, none⟩ = some (.int .i64 0) := (kc BK130.out 1).trans rfl; have hcz18_2 : w16.cell? ⟨gb130, 2, none⟩ = some (.string (⟨#[]⟩ : ByteArray)) := (kc BK130.out 2).trans rfl; have hfz18_0 := kf BK130.out 0; have hfz18_1 := kf BK130.out 1; have hfz18_2 := kf BK130.out 2))
 refine bodyPost_ret (results_cell_row rfl _ _ gb130 24 #[.bool t131, .int .i64 t132, .string t133] (0, 0) _ rfl (kp BK130.out) Tryz.underlying24 rfl (by kernel_rfl)) rfl ?_
 exact ⟨xe, xb⟩
def value_val_div.f (a0_0 : Bool) (a0_1 : Int) (a0_2 : ByteArray) (a1_0 : Bool) (a1_1 : Int) (a1_2 : ByteArray) (a2_0 : Bool) (a2_1 : Int) (a2_2 : ByteArray) : Option (Bool × Int × ByteArray) := if a1_1 = 0 then ((value_Num.f 0).bind fun bt138 => (some (bt138.1, bt138.2.1, bt138.2.2))) else ((value_Num.f (wrap64 (Int.tdiv a0_1 a1_1))).bind fun bt141 => (some (bt141.1, bt141.2.1, bt141.2.2)))
set_option maxHeartbeats 8000000 in
set_option maxRecDepth 100000 in
theorem value_val_div.calls (a0_0 : Bool) (a0_1 : Int) (a0_2 : ByteArray) (a1_0 : Bool) (a1_1 : Int) (a1_2 : ByteArray) (a2_0 : Bool) (a2_1 : Int) (a2_2 : ByteArray) (r1 : Bool) (r2 : Int) (r3 : ByteArray) (w : World) (hT : Tabs w) (h : value_val_div.f a0_0 a0_1 a0_2 a1_0 a1_1 a1_2 a2_0 a2_1 a2_2 = some (r1, r2, r3)) :
  Calls Tryz.prog 77 #[.agg #[.bool a0_0, .int .i64 a0_1, .string a0_2], .agg #[.bool a1_0, .int .i64 a1_1, .string a1_2], .agg #[.bool a2_0, .int .i64 a2_1, .string a2_2]] w fun e w' => e = .returned (.agg #[.bool r1, .int .i64 r2, .string r3]) ∧ Below w.heap.size w w' := by
 have hu103 := Tryz.underlying103
 have hu24 := Tryz.underlying24
 have HB := xy (Below.refl w.heap.size w)
 unfold value_val_div.f at h
 have H := h
 clear h
 by_cases c4 : a1_1 = 0
 ·rw [if_pos c4] at H
  have c4b0 : (a1_1 == 0) = true := beq_iff_eq.mpr c4
  have c4b1 : (a1_1 != 0) = false := bne_eq_false_iff_eq.mpr c4
  clear c4
  replace H := xj H
  obtain ⟨⟨t138, t139, t140⟩, A50, H⟩ := H
  try dsimp only at H
  have A5 := xy A50
  clear A50
  simp only [Option.some.injEq, Prod.mk.injEq] at H
  obtain ⟨rfl, rfl, rfl⟩ := H
  go_enter Tryz.func77, Tryz.ntmps77
  go_wp2_with (first | ((with_reducible refine gate_dst (N := 3) rfl ?_); refine xq (N := 3) (cs := #[.bool a0_0, .int .i64 a0_1, .string a0_2]) (t := 103) ?_; intro gb134 hg w6 hbox hb; have BK134 := xy (hbox); have GW134 := xs w hg; have GE134 := xs w hg; replace HB := xy (below_step xb hb); clear hb hbox hg) | ((with_reducible refine gate_dst (N := 4) rfl ?_); refine xq (N := 4) (cs := #[.bool a1_0, .int .i64 a1_1, .string a1_2]) (t := 103) ?_; intro gb135 hg w7 hbox hb; have BK135 := xy (hbox); have GW135 := xs w hg; have GE135 := xs w hg; replace HB := xy (below_step xb hb); have NB134_135 := xn hg BK134.out; have NB135_134 := xp hg BK134.out; replace BK134 := xd BK134.out hb; clear hb hbox hg) | ((with_reducible refine gate_dst (N := 5) rfl ?_); refine xq (N := 5) (cs := #[.bool a2_0, .int .i64 a2_1, .string a2_2]) (t := 103) ?_; intro gb136 hg w8 hbox hb; have BK136 := xy (hbox); have GW136 := xs w hg; have GE136 := xs w hg; replace HB := xy (below_step xb hb); have NB134_136 := xn hg BK134.out; have NB136_134 := xp hg BK134.out; replace BK134 := xd BK134.out hb; have NB135_136 := xn hg BK135.out; have NB136_135 := xp hg BK135.out; replace BK135 := xd BK135.out hb; clear hb hbox hg) | ((with_reducible refine gate_dst (N := 6) rfl ?_); refine xq (N := 6) (cs := #[.bool false, .int .i64 0, .string (⟨#[]⟩ : ByteArray)]) (t := 24) ?_; intro gb137 hg w9 hbox hb; have BK137 := xy (hbox); have GW137 := xs w hg; have GE137 := xs w hg; replace HB := xy (below_step xb hb); have NB134_137 := xn hg BK134.out; have NB137_134 := xp hg BK134.out; replace BK134 := xd BK134.out hb; have NB135_137 := xn hg BK135.out; have NB137_135 := xp hg BK135.out; replace BK135 := xd BK135.out hb; have NB136_137 := xn hg BK136.out; have NB137_136 := xp hg BK136.out; replace BK136 := xd BK136.out hb; clear hb hbox hg; have hnb10 := NB135_134.out; have hnc10 := NB134_135.out; have hnb11 := NB135_136.out; have hnc11 := NB136_135.out; have hnb12 := NB135_137.out; have hnc12 := NB137_135.out; have hcz13_0 : w9.cell? ⟨gb135, 0, none⟩ = some (.bool a1_0) := (kc BK135.out 0).trans rfl; have hcz13_1 : w9.cell? ⟨gb135, 1, none⟩ = some (.int .i64 a1_1) := (kc BK135.out 1).trans rfl; have hcz13_2 : w9.cell? ⟨gb135, 2, none⟩ = some (.string a1_2) := (kc BK135.out 2).trans rfl; have hfz13_0 := kf BK135.out 0; have hfz13_1 := kf BK135.out 1; have hfz13_2 := kf BK135.out 2) | ((with_reducible refine gate_callee (f := 93) rfl ?_); refine goesL_ (some 10) rfl rfl Tryz.func93 (by kernel_rfl) rfl #[.int .i64 0] rfl xr ?_; (with_reducible refine (value_Num.calls 0 t138 t139 t140 _ (Tabs.below hT xf) A5.out).mono ?_); rintro e w14 ⟨rfl, hb⟩; refine ⟨_, rfl, ?_⟩; replace BK134 := xd BK134.out hb; replace BK135 := xd BK135.out hb; replace BK136 := xd BK136.out hb; replace BK137 := xd BK137.out hb; replace HB := xy (below_step xb hb); (try clear hb); (try clear hb2); (try clear hk); (try clear hi); have hnb15 := NB137_134.out; have hnc15 := NB134_137.out; have hnb16 := NB137_136.out; have hnc16 := NB136_137.out; have hcz17_0 : w14.cell? ⟨gb137, 0, none⟩ = some (.bool false) := (kc BK137.out 0).trans rfl; have hcz17_1 : w14.cell? ⟨gb137, 1, none⟩ = some (.int .i64 0) := (kc BK137.out 1).trans rfl; have hcz17_2 : w14.cell? ⟨gb137, 2, none⟩ = some (.string (⟨#[]⟩ : ByteArray)) := (kc BK137.out 2).trans rfl; have hfz17_0 := kf BK137.out 0; have hfz17_1 := kf BK137.out 1; have hfz17_2 := kf BK137.out 2))
  refine bodyPost_ret (results_cell_row rfl _ _ gb137 24 #[.bool t138, .int .i64 t139, .string t140] (0, 0) _ rfl (kp BK137.out) Tryz.underlying24 rfl (by kernel_rfl)) rfl ?_
  exact ⟨xe, xb⟩
 ·rw [if_neg c4] at H
  have c4b0 : (a1_1 == 0) = false := beq_eq_false_iff_ne.mpr c4
  have c4b1 : (a1_1 != 0) = true := bne_iff_ne.mpr c4
  replace H := xj H
  obtain ⟨⟨t141, t142, t143⟩, A180, H⟩ := H
  try dsimp only at H
  have A18 := xy A180
  clear A180
  simp only [Option.some.injEq, Prod.mk.injEq] at H
  obtain ⟨rfl, rfl, rfl⟩ := H
  go_enter Tryz.func77, Tryz.ntmps77
  go_wp2_with (first | ((with_reducible refine gate_dst (N := 3) rfl ?_); refine xq (N := 3) (cs := #[.bool a0_0, .int .i64 a0_1, .string a0_2]) (t := 103) ?_; intro gb134 hg w19 hbox hb; have BK134 := xy (hbox); have GW134 := xs w hg; have GE134 := xs w hg; replace HB := xy (below_step xb hb); clear hb hbox hg) | ((with_reducible refine gate_dst (N := 4) rfl ?_); refine xq (N := 4) (cs := #[.bool a1_0, .int .i64 a1_1, .string a1_2]) (t := 103) ?_; intro gb135 hg w20 hbox hb; have BK135 := xy (hbox); have GW135 := xs w hg; have GE135 := xs w hg; replace HB := xy (below_step xb hb); have NB134_135 := xn hg BK134.out; have NB135_134 := xp hg BK134.out; replace BK134 := xd BK134.out hb; clear hb hbox hg) | ((with_reducible refine gate_dst (N := 5) rfl ?_); refine xq (N := 5) (cs := #[.bool a2_0, .int .i64 a2_1, .string a2_2]) (t := 103) ?_; intro gb136 hg w21 hbox hb; have BK136 := xy (hbox); have GW136 := xs w hg; have GE136 := xs w hg; replace HB := xy (below_step xb hb); have NB134_136 := xn hg BK134.out; have NB136_134 := xp hg BK134.out; replace BK134 := xd BK134.out hb; have NB135_136 := xn hg BK135.out; have NB136_135 := xp hg BK135.out; replace BK135 := xd BK135.out hb; clear hb hbox hg) | ((with_reducible refine gate_dst (N := 6) rfl ?_); refine xq (N := 6) (cs := #[.bool false, .int .i64 0, .string (⟨#[]⟩ : ByteArray)]) (t := 24) ?_; intro gb137 hg w22 hbox hb; have BK137 := xy (hbox); have GW137 := xs w hg; have GE137 := xs w hg; replace HB := xy (below_step xb hb); have NB134_137 := xn hg BK134.out; have NB137_134 := xp hg BK134.out; replace BK134 := xd BK134.out hb; have NB135_137 := xn hg BK135.out; have NB137_135 := xp hg BK135.out; replace BK135 := xd BK135.out hb; have NB136_137 := xn hg BK136.out; have NB137_136 := xp hg BK136.out; replace BK136 := xd BK136.out hb; clear hb hbox hg; have hnb23 := NB135_134.out; have hnc23 := NB134_135.out; have hnb24 := NB135_136.out; have hnc24 := NB136_135.out; have hnb25 := NB135_137.out; have hnc25 := NB137_135.out; have hcz26_0 : w22.cell? ⟨gb135, 0, none⟩ = some (.bool a1_0) := (kc BK135.out 0).trans rfl; have hcz26_1 : w22.cell? ⟨gb135, 1, none⟩ = some (.int .i64 a1_1) := (kc BK135.out 1).trans rfl; have hcz26_2 : w22.cell? ⟨gb135, 2, none⟩ = some (.string a1_2) := (kc BK135.out 2).trans rfl; have hfz26_0 := kf BK135.out 0; have hfz26_1 := kf BK135.out 1; have hfz26_2 := kf BK135.out 2; have hnb27 := NB134_136.out; have hnc27 := NB136_134.out; have hnb28 := NB134_137.out; have hnc28 := NB137_134.out; have hcz29_0 : w22.cell? ⟨gb134, 0, none⟩ = some (.bool a0_0) := (kc BK134.out 0).trans rfl; have hcz29_1 : w22.cell? ⟨gb134, 1, none⟩ = some (.int .i64 a0_1) := (kc BK134.out 1).trans rfl; have hcz29_2 : w22.cell? ⟨gb134, 2, none⟩ = some (.string a0_2) := (kc BK134.out 2).trans rfl; have hfz29_0 := kf BK134.out 0; have hfz29_1 := kf BK134.out 1; have hfz29_2 := kf BK134.out 2) | ((with_reducible refine gate_callee (f := 93) rfl ?_); refine goesL_ (some 16) rfl rfl Tryz.func93 (by kernel_rfl) rfl #[.int .i64 (wrap64 (Int.tdiv a0_1 a1_1))] rfl xr ?_; (with_reducible refine (value_Num.calls (wrap64 (Int.tdiv a0_1 a1_1)) t141 t142 t143 _ (Tabs.below hT xf) A18.out).mono ?_); rintro e w30 ⟨rfl, hb⟩; refine ⟨_, rfl, ?_⟩; replace BK134 := xd BK134.out hb; replace BK135 := xd BK135.out hb; replace BK136 := xd BK136.out hb; replace BK137 := xd BK137.out hb; replace HB := xy (below_step xb hb); (try clear hb); (try clear hb2); (try clear hk); (try clear hi); have hnb31 := NB137_136.out; have hnc31 := NB136_137.out; have hcz32_0 : w30.cell? ⟨gb137, 0, none⟩ = some (.bool false) := (kc BK137.out 0).trans rfl; have hcz32_1 : w30.cell? ⟨gb137, 1, none⟩ = some (.int .i64 0) := (kc BK137.out 1).trans rfl; have hcz32_2 : w30.cell? ⟨gb137, 2, none⟩ = some (.string (⟨#[]⟩ : ByteArray)) := (kc BK137.out 2).trans rfl; have hfz32_0 := kf BK137.out 0; have hfz32_1 := kf BK137.out 1; have hfz32_2 := kf BK137.out 2))
  refine bodyPost_ret (results_cell_row rfl _ _ gb137 24 #[.bool t141, .int .i64 t142, .string t143] (0, 0) _ rfl (kp BK137.out) Tryz.underlying24 rfl (by kernel_rfl)) rfl ?_
  exact ⟨xe, xb⟩
def value_val_mod.f (a0_0 : Bool) (a0_1 : Int) (a0_2 : ByteArray) (a1_0 : Bool) (a1_1 : Int) (a1_2 : ByteArray) (a2_0 : Bool) (a2_1 : Int) (a2_2 : ByteArray) : Option (Bool × Int × ByteArray) := if a1_1 = 0 then ((value_Num.f 0).bind fun bt148 => (some (bt148.1, bt148.2.1, bt148.2.2))) else ((value_Num.f (Int.tmod a0_1 a1_1)).bind fun bt151 => (some (bt151.1, bt151.2.1, bt151.2.2)))
set_option maxHeartbeats 8000000 in
set_option maxRecDepth 100000 in
theorem value_val_mod.calls (a0_0 : Bool) (a0_1 : Int) (a0_2 : ByteArray) (a1_0 : Bool) (a1_1 : Int) (a1_2 : ByteArray) (a2_0 : Bool) (a2_1 : Int) (a2_2 : ByteArray) (r1 : Bool) (r2 : Int) (r3 : ByteArray) (w : World) (hT : Tabs w) (h : value_val_mod.f a0_0 a0_1 a0_2 a1_0 a1_1 a1_2 a2_0 a2_1 a2_2 = some (r1, r2, r3)) :
  Calls Tryz.prog 78 #[.agg #[.bool a0_0, .int .i64 a0_1, .string a0_2], .agg #[.bool a1_0, .int .i64 a1_1, .string a1_2], .agg #[.bool a2_0, .int .i64 a2_1, .string a2_2]] w fun e w' => e = .returned (.agg #[.bool r1, .int .i64 r2, .string r3]) ∧ Below w.heap.size w w' := by
 have hu103 := Tryz.underlying103
 have hu24 := Tryz.underlying24
 have HB := xy (Below.refl w.heap.size w)
 unfold value_val_mod.f at h
 have H := h
 clear h
 by_cases c4 : a1_1 = 0
 ·rw [if_pos c4] at H
  have c4b0 : (a1_1 == 0) = true := beq_iff_eq.mpr c4
  have c4b1 : (a1_1 != 0) = false := bne_eq_false_iff_eq.mpr c4
  clear c4
  replace H := xj H
  obtain ⟨⟨t148, t149, t150⟩, A50, H⟩ := H
  try dsimp only at H
  have A5 := xy A50
  clear A50
  simp only [Option.some.injEq, Prod.mk.injEq] at H
  obtain ⟨rfl, rfl, rfl⟩ := H
  go_enter Tryz.func78, Tryz.ntmps78
  go_wp2_with (first | ((with_reducible refine gate_dst (N := 3) rfl ?_); refine xq (N := 3) (cs := #[.bool a0_0, .int .i64 a0_1, .string a0_2]) (t := 103) ?_; intro gb144 hg w6 hbox hb; have BK144 := xy (hbox); have GW144 := xs w hg; have GE144 := xs w hg; replace HB := xy (below_step xb hb); clear hb hbox hg) | ((with_reducible refine gate_dst (N := 4) rfl ?_); refine xq (N := 4) (cs := #[.bool a1_0, .int .i64 a1_1, .string a1_2]) (t := 103) ?_; intro gb145 hg w7 hbox hb; have BK145 := xy (hbox); have GW145 := xs w hg; have GE145 := xs w hg; replace HB := xy (below_step xb hb); have NB144_145 := xn hg BK144.out; have NB145_144 := xp hg BK144.out; replace BK144 := xd BK144.out hb; clear hb hbox hg) | ((with_reducible refine gate_dst (N := 5) rfl ?_); refine xq (N := 5) (cs := #[.bool a2_0, .int .i64 a2_1, .string a2_2]) (t := 103) ?_; intro gb146 hg w8 hbox hb; have BK146 := xy (hbox); have GW146 := xs w hg; have GE146 := xs w hg; replace HB := xy (below_step xb hb); have NB144_146 := xn hg BK144.out; have NB146_144 := xp hg BK144.out; replace BK144 := xd BK144.out hb; have NB145_146 := xn hg BK145.out; have NB146_145 := xp hg BK145.out; replace BK145 := xd BK145.out hb; clear hb hbox hg) | ((with_reducible refine gate_dst (N := 6) rfl ?_); refine xq (N := 6) (cs := #[.bool false, .int .i64 0, .string (⟨#[]⟩ : ByteArray)]) (t := 24) ?_; intro gb147 hg w9 hbox hb; have BK147 := xy (hbox); have GW147 := xs w hg; have GE147 := xs w hg; replace HB := xy (below_step xb hb); have NB144_147 := xn hg BK144.out; have NB147_144 := xp hg BK144.out; replace BK144 := xd BK144.out hb; have NB145_147 := xn hg BK145.out; have NB147_145 := xp hg BK145.out; replace BK145 := xd BK145.out hb; have NB146_147 := xn hg BK146.out; have NB147_146 := xp hg BK146.out; replace BK146 := xd BK146.out hb; clear hb hbox hg; have hnb10 := NB145_144.out; have hnc10 := NB144_145.out; have hnb11 := NB145_146.out; have hnc11 := NB146_145.out; have hnb12 := NB145_147.out; have hnc12 := NB147_145.out; have hcz13_0 : w9.cell? ⟨gb145, 0, none⟩ = some (.bool a1_0) := (kc BK145.out 0).trans rfl; have hcz13_1 : w9.cell? ⟨gb145, 1, none⟩ = some (.int .i64 a1_1) := (kc BK145.out 1).trans rfl; have hcz13_2 : w9.cell? ⟨gb145, 2, none⟩ = some (.string a1_2) := (kc BK145.out 2).trans rfl; have hfz13_0 := kf BK145.out 0; have hfz13_1 := kf BK145.out 1; have hfz13_2 := kf BK145.out 2) | ((with_reducible refine gate_callee (f := 93) rfl ?_); refine goesL_ (some 10) rfl rfl Tryz.func93 (by kernel_rfl) rfl #[.int .i64 0] rfl xr ?_; (with_reducible refine (value_Num.calls 0 t148 t149 t150 _ (Tabs.below hT xf) A5.out).mono ?_); rintro e w14 ⟨rfl, hb⟩; refine ⟨_, rfl, ?_⟩; replace BK144 := xd BK144.out hb; replace BK145 := xd BK145.out hb; replace BK146 := xd BK146.out hb; replace BK147 := xd BK147.out hb; replace HB := xy (below_step xb hb); (try clear hb); (try clear hb2); (try clear hk); (try clear hi); have hnb15 := NB147_144.out; have hnc15 := NB144_147.out; have hnb16 := NB147_146.out; have hnc16 := NB146_147.out; have hcz17_0 : w14.cell? ⟨gb147, 0, none⟩ = some (.bool false) := (kc BK147.out 0).trans rfl; have hcz17_1 : w14.cell? ⟨gb147, 1, none⟩ = some (.int .i64 0) := (kc BK147.out 1).trans rfl; have hcz17_2 : w14.cell? ⟨gb147, 2, none⟩ = some (.string (⟨#[]⟩ : ByteArray)) := (kc BK147.out 2).trans rfl; have hfz17_0 := kf BK147.out 0; have hfz17_1 := kf BK147.out 1; have hfz17_2 := kf BK147.out 2))
  refine bodyPost_ret (results_cell_row rfl _ _ gb147 24 #[.bool t148, .int .i64 t149, .string t150] (0, 0) _ rfl (kp BK147.out) Tryz.underlying24 rfl (by kernel_rfl)) rfl ?_
  exact ⟨xe, xb⟩
 ·rw [if_neg c4] at H
  have c4b0 : (a1_1 == 0) = false := beq_eq_false_iff_ne.mpr c4
  have c4b1 : (a1_1 != 0) = true := bne_iff_ne.mpr c4
  replace H := xj H
  obtain ⟨⟨t151, t152, t153⟩, A180, H⟩ := H
  try dsimp only at H
  have A18 := xy A180
  clear A180
  simp only [Option.some.injEq, Prod.mk.injEq] at H
  obtain ⟨rfl, rfl, rfl⟩ := H
  go_enter Tryz.func78, Tryz.ntmps78
  go_wp2_with (first | ((with_reducible refine gate_dst (N := 3) rfl ?_); refine xq (N := 3) (cs := #[.bool a0_0, .int .i64 a0_1, .string a0_2]) (t := 103) ?_; intro gb144 hg w19 hbox hb; have BK144 := xy (hbox); have GW144 := xs w hg; have GE144 := xs w hg; replace HB := xy (below_step xb hb); clear hb hbox hg) | ((with_reducible refine gate_dst (N := 4) rfl ?_); refine xq (N := 4) (cs := #[.bool a1_0, .int .i64 a1_1, .string a1_2]) (t := 103) ?_; intro gb145 hg w20 hbox hb; have BK145 := xy (hbox); have GW145 := xs w hg; have GE145 := xs w hg; replace HB := xy (below_step xb hb); have NB144_145 := xn hg BK144.out; have NB145_144 := xp hg BK144.out; replace BK144 := xd BK144.out hb; clear hb hbox hg) | ((with_reducible refine gate_dst (N := 5) rfl ?_); refine xq (N := 5) (cs := #[.bool a2_0, .int .i64 a2_1, .string a2_2]) (t := 103) ?_; intro gb146 hg w21 hbox hb; have BK146 := xy (hbox); have GW146 := xs w hg; have GE146 := xs w hg; replace HB := xy (below_step xb hb); have NB144_146 := xn hg BK144.out; have NB146_144 := xp hg BK144.out; replace BK144 := xd BK144.out hb; have NB145_146 := xn hg BK145.out; have NB146_145 := xp hg BK145.out; replace BK145 := xd BK145.out hb; clear hb hbox hg) | ((with_reducible refine gate_dst (N := 6) rfl ?_); refine xq (N := 6) (cs := #[.bool false, .int .i64 0, .string (⟨#[]⟩ : ByteArray)]) (t := 24) ?_; intro gb147 hg w22 hbox hb; have BK147 := xy (hbox); have GW147 := xs w hg; have GE147 := xs w hg; replace HB := xy (below_step xb hb); have NB144_147 := xn hg BK144.out; have NB147_144 := xp hg BK144.out; replace BK144 := xd BK144.out hb; have NB145_147 := xn hg BK145.out; have NB147_145 := xp hg BK145.out; replace BK145 := xd BK145.out hb; have NB146_147 := xn hg BK146.out; have NB147_146 := xp hg BK146.out; replace BK146 := xd BK146.out hb; clear hb hbox hg; have hnb23 := NB145_144.out; have hnc23 := NB144_145.out; have hnb24 := NB145_146.out; have hnc24 := NB146_145.out; have hnb25 := NB145_147.out; have hnc25 := NB147_145.out; have hcz26_0 : w22.cell? ⟨gb145, 0, none⟩ = some (.bool a1_0) := (kc BK145.out 0).trans rfl; have hcz26_1 : w22.cell? ⟨gb145, 1, none⟩ = some (.int .i64 a1_1) := (kc BK145.out 1).trans rfl; have hcz26_2 : w22.cell? ⟨gb145, 2, none⟩ = some (.string a1_2) := (kc BK145.out 2).trans rfl; have hfz26_0 := kf BK145.out 0; have hfz26_1 := kf BK145.out 1; have hfz26_2 := kf BK145.out 2; have hnb27 := NB144_146.out; have hnc27 := NB146_144.out; have hnb28 := NB144_147.out; have hnc28 := NB147_144.out; have hcz29_0 : w22.cell? ⟨gb144, 0, none⟩ = some (.bool a0_0) := (kc BK144.out 0).trans rfl; have hcz29_1 : w22.cell? ⟨gb144, 1, none⟩ = some (.int .i64 a0_1) := (kc BK144.out 1).trans rfl; have hcz29_2 : w22.cell? ⟨gb144, 2, none⟩ = some (.string a0_2) := (kc BK144.out 2).trans rfl; have hfz29_0 := kf BK144.out 0; have hfz29_1 := kf BK144.out 1; have hfz29_2 := kf BK144.out 2) | ((with_reducible refine gate_callee (f := 93) rfl ?_); refine goesL_ (some 16) rfl rfl Tryz.func93 (by kernel_rfl) rfl #[.int .i64 (Int.tmod a0_1 a1_1)] rfl xr ?_; (with_reducible refine (value_Num.calls (Int.tmod a0_1 a1_1) t151 t152 t153 _ (Tabs.below hT xf) A18.out).mono ?_); rintro e w30 ⟨rfl, hb⟩; refine ⟨_, rfl, ?_⟩; replace BK144 := xd BK144.out hb; replace BK145 := xd BK145.out hb; replace BK146 := xd BK146.out hb; replace BK147 := xd BK147.out hb; replace HB := xy (below_step xb hb); (try clear hb); (try clear hb2); (try clear hk); (try clear hi); have hnb31 := NB147_146.out; have hnc31 := NB146_147.out; have hcz32_0 : w30.cell? ⟨gb147, 0, none⟩ = some (.bool false) := (kc BK147.out 0).trans rfl; have hcz32_1 : w30.cell? ⟨gb147, 1, none⟩ = some (.int .i64 0) := (kc BK147.out 1).trans rfl; have hcz32_2 : w30.cell? ⟨gb147, 2, none⟩ = some (.string (⟨#[]⟩ : ByteArray)) := (kc BK147.out 2).trans rfl; have hfz32_0 := kf BK147.out 0; have hfz32_1 := kf BK147.out 1; have hfz32_2 := kf BK147.out 2))
  refine bodyPost_ret (results_cell_row rfl _ _ gb147 24 #[.bool t151, .int .i64 t152, .string t153] (0, 0) _ rfl (kp BK147.out) Tryz.underlying24 rfl (by kernel_rfl)) rfl ?_
  exact ⟨xe, xb⟩
def value_Text.f (a0 : ByteArray) : Option (Bool × Int × ByteArray) := if 0 ≤ (mn (a0.size : Int) 1000) then (if (mn (a0.size : Int) 1000) ≤ (a0.size : Int) then (some (true, 0, a0.extract 0 ((mn (a0.size : Int) 1000) : Int).toNat)) else (none)) else (none)
set_option maxHeartbeats 8000000 in
set_option maxRecDepth 100000 in
theorem value_Text.calls (a0 : ByteArray) (r1 : Bool) (r2 : Int) (r3 : ByteArray) (w : World) (hT : Tabs w) (h : value_Text.f a0 = some (r1, r2, r3)) :
  Calls Tryz.prog 52 #[.string a0] w fun e w' => e = .returned (.agg #[.bool r1, .int .i64 r2, .string r3]) ∧ Below w.heap.size w w' := by
 have hu24 := Tryz.underlying24
 have HB := xy (Below.refl w.heap.size w)
 unfold value_Text.f at h
 have H := h
 clear h
 obtain ⟨ji2, hji2⟩ : ∃ j_ : Int, (mn (a0.size : Int) 1000) = j_ := ⟨_, rfl⟩
 replace H : (if 0 ≤ (ji2) then (if (ji2) ≤ (a0.size : Int) then (some (true, 0, a0.extract 0 ((ji2) : Int).toNat)) else (none)) else (none)) = some (r1, r2, r3) := by first | (rw [hji2] at H; exact H) | (simp only [hji2] at H ⊢; exact H)
 (try (have hji2h : ji2 ≤ 1000 := by (rw [← hji2]; unfold mn; (repeat' split) <;> omega)))
 (try (have hji2g : ji2 ≤ 64 := by omega))
 (try (have hji2l : 0 ≤ ji2 := by (rw [← hji2]; unfold mn; (repeat' split) <;> omega)))
 (try (have hji2m : 0 ≤ ji2 := by omega))
 have hji2_ : (if 1000 < (a0.size : Int) then 1000 else (a0.size : Int)) = ji2 := hji2
 by_cases c3 : 0 ≤ (ji2)
 ·rw [if_pos c3] at H
  have c3b0 := eq_true c3
  have c3b1 : decide (0 ≤ (ji2)) = true := decide_eq_true c3
  clear c3
  by_cases c4 : (ji2) ≤ (a0.size : Int)
  ·rw [if_pos c4] at H
   have c4b0 := eq_true c4
   have c4b1 : decide ((ji2) ≤ (a0.size : Int)) = true := decide_eq_true c4
   clear c4
   simp only [Option.some.injEq, Prod.mk.injEq] at H
   obtain ⟨rfl, rfl, rfl⟩ := H
   go_enter Tryz.func52, Tryz.ntmps52
   go_wp2_with (((with_reducible refine gate_dst (N := 2) rfl ?_); refine xq (N := 2) (cs := #[.bool false, .int .i64 0, .string (⟨#[]⟩ : ByteArray)]) (t := 24) ?_; intro gb154 hg w5 hbox hb; have BK154 := xy (hbox); have GW154 := xs w hg; have GE154 := xs w hg; replace HB := xy (below_step xb hb); clear hb hbox hg; have hcz6_0 : w5.cell? ⟨gb154, 0, none⟩ = some (.bool false) := (kc BK154.out 0).trans rfl; have hcz6_1 : w5.cell? ⟨gb154, 1, none⟩ = some (.int .i64 0) := (kc BK154.out 1).trans rfl; have hcz6_2 : w5.cell? ⟨gb154, 2, none⟩ = some (.string (⟨#[]⟩ : ByteArray)) := (kc BK154.out 2).trans rfl; have hfz6_0 := kf BK154.out 0; have hfz6_1 := kf BK154.out 1; have hfz6_2 := kf BK154.out 2))
   refine bodyPost_ret (results_cell_row rfl _ _ gb154 24 #[.bool true, .int .i64 0, .string (a0.extract 0 ((ji2) : Int).toNat)] (0, 0) _ rfl (kp BK154.out) Tryz.underlying24 rfl (by kernel_rfl)) rfl ?_
   exact ⟨by first | rfl | (simp [errW_none, errW_some] <;> rfl) | (simp only [← hji2]; first | rfl | (simp [errW_none, errW_some] <;> rfl)) | (simp [*, errW_none, errW_some] <;> rfl), xb⟩
  ·rw [if_neg c4] at H
   exact absurd H (by simp)
 ·rw [if_neg c3] at H
  exact absurd H (by simp)
def value_val_join.f (a0_0 : Bool) (a0_1 : Int) (a0_2 : ByteArray) (a1_0 : Bool) (a1_1 : Int) (a1_2 : ByteArray) (a2_0 : Bool) (a2_1 : Int) (a2_2 : ByteArray) : Option (Bool × Int × ByteArray) := if a0_2.size + a1_2.size ≤ 9223372036854775807 then ((value_Text.f (a0_2 ++ a1_2)).bind fun bt159 => (some (bt159.1, bt159.2.1, bt159.2.2))) else (none)
set_option maxHeartbeats 8000000 in
set_option maxRecDepth 100000 in
theorem value_val_join.calls (a0_0 : Bool) (a0_1 : Int) (a0_2 : ByteArray) (a1_0 : Bool) (a1_1 : Int) (a1_2 : ByteArray) (a2_0 : Bool) (a2_1 : Int) (a2_2 : ByteArray) (r1 : Bool) (r2 : Int) (r3 : ByteArray) (w : World) (hT : Tabs w) (h : value_val_join.f a0_0 a0_1 a0_2 a1_0 a1_1 a1_2 a2_0 a2_1 a2_2 = some (r1, r2, r3)) :
  Calls Tryz.prog 79 #[.agg #[.bool a0_0, .int .i64 a0_1, .string a0_2], .agg #[.bool a1_0, .int .i64 a1_1, .string a1_2], .agg #[.bool a2_0, .int .i64 a2_1, .string a2_2]] w fun e w' => e = .returned (.agg #[.bool r1, .int .i64 r2, .string r3]) ∧ Below w.heap.size w w' := by
 have hu103 := Tryz.underlying103
 have hu24 := Tryz.underlying24
 have HB := xy (Below.refl w.heap.size w)
 unfold value_val_join.f at h
 have H := h
 clear h
 by_cases c4 : a0_2.size + a1_2.size ≤ 9223372036854775807
 ·rw [if_pos c4] at H
  have c4b0 := eq_true c4
  have c4b1 : decide (a0_2.size + a1_2.size ≤ 9223372036854775807) = true := decide_eq_true c4
  try have c4b2 : (9223372036854775807 < a0_2.size + a1_2.size) = False := eq_false (Nat.not_lt.2 c4)
  replace H := xj H
  obtain ⟨⟨t159, t160, t161⟩, A50, H⟩ := H
  try dsimp only at H
  have A5 := xy A50
  clear A50
  simp only [Option.some.injEq, Prod.mk.injEq] at H
  obtain ⟨rfl, rfl, rfl⟩ := H
  go_enter Tryz.func79, Tryz.ntmps79
  go_wp2_with (first | ((with_reducible refine gate_dst (N := 3) rfl ?_); refine xq (N := 3) (cs := #[.bool a0_0, .int .i64 a0_1, .string a0_2]) (t := 103) ?_; intro gb155 hg w6 hbox hb; have BK155 := xy (hbox); have GW155 := xs w hg; have GE155 := xs w hg; replace HB := xy (below_step xb hb); clear hb hbox hg) | ((with_reducible refine gate_dst (N := 4) rfl ?_); refine xq (N := 4) (cs := #[.bool a1_0, .int .i64 a1_1, .string a1_2]) (t := 103) ?_; intro gb156 hg w7 hbox hb; have BK156 := xy (hbox); have GW156 := xs w hg; have GE156 := xs w hg; replace HB := xy (below_step xb hb); have NB155_156 := xn hg BK155.out; have NB156_155 := xp hg BK155.out; replace BK155 := xd BK155.out hb; clear hb hbox hg) | ((with_reducible refine gate_dst (N := 5) rfl ?_); refine xq (N := 5) (cs := #[.bool a2_0, .int .i64 a2_1, .string a2_2]) (t := 103) ?_; intro gb157 hg w8 hbox hb; have BK157 := xy (hbox); have GW157 := xs w hg; have GE157 := xs w hg; replace HB := xy (below_step xb hb); have NB155_157 := xn hg BK155.out; have NB157_155 := xp hg BK155.out; replace BK155 := xd BK155.out hb; have NB156_157 := xn hg BK156.out; have NB157_156 := xp hg BK156.out; replace BK156 := xd BK156.out hb; clear hb hbox hg) | ((with_reducible refine gate_dst (N := 6) rfl ?_); refine xq (N := 6) (cs := #[.bool false, .int .i64 0, .string (⟨#[]⟩ : ByteArray)]) (t := 24) ?_; intro gb158 hg w9 hbox hb; have BK158 := xy (hbox); have GW158 := xs w hg; have GE158 := xs w hg; replace HB := xy (below_step xb hb); have NB155_158 := xn hg BK155.out; have NB158_155 := xp hg BK155.out; replace BK155 := xd BK155.out hb; have NB156_158 := xn hg BK156.out; have NB158_156 := xp hg BK156.out; replace BK156 := xd BK156.out hb; have NB157_158 := xn hg BK157.out; have NB158_157 := xp hg BK157.out; replace BK157 := xd BK157.out hb; clear hb hbox hg; have hnb10 := NB155_156.out; have hnc10 := NB156_155.out; have hnb11 := NB155_157.out; have hnc11 := NB157_155.out; have hnb12 := NB155_158.out; have hnc12 := NB158_155.out; have hcz13_0 : w9.cell? ⟨gb155, 0, none⟩ = some (.bool a0_0) := (kc BK155.out 0).trans rfl; have hcz13_1 : w9.cell? ⟨gb155, 1, none⟩ = some (.int .i64 a0_1) := (kc BK155.out 1).trans rfl; have hcz13_2 : w9.cell? ⟨gb155, 2, none⟩ = some (.string a0_2) := (kc BK155.out 2).trans rfl; have hfz13_0 := kf BK155.out 0; have hfz13_1 := kf BK155.out 1; have hfz13_2 := kf BK155.out 2; have hnb14 := NB156_157.out; have hnc14 := NB157_156.out; have hnb15 := NB156_158.out; have hnc15 := NB158_156.out; have hcz16_0 : w9.cell? ⟨gb156, 0, none⟩ = some (.bool a1_0) := (kc BK156.out 0).trans rfl; have hcz16_1 : w9.cell? ⟨gb156, 1, none⟩ = some (.int .i64 a1_1) := (kc BK156.out 1).trans rfl; have hcz16_2 : w9.cell? ⟨gb156, 2, none⟩ = some (.string a1_2) := (kc BK156.out 2).trans rfl; have hfz16_0 := kf BK156.out 0; have hfz16_1 := kf BK156.out 1; have hfz16_2 := kf BK156.out 2) | ((with_reducible refine gate_callee (f := 52) rfl ?_); refine goesL_ (some 12) rfl rfl Tryz.func52 (by kernel_rfl) rfl #[.string (a0_2 ++ a1_2)] rfl xr ?_; (with_reducible refine (value_Text.calls (a0_2 ++ a1_2) t159 t160 t161 _ (Tabs.below hT xf) A5.out).mono ?_); rintro e w17 ⟨rfl, hb⟩; refine ⟨_, rfl, ?_⟩; replace BK155 := xd BK155.out hb; replace BK156 := xd BK156.out hb; replace BK157 := xd BK157.out hb; replace BK158 := xd BK158.out hb; replace HB := xy (below_step xb hb); (try clear hb); (try clear hb2); (try clear hk); (try clear hi); have hnb18 := NB158_157.out; have hnc18 := NB157_158.out; have hcz19_0 : w17.cell? ⟨gb158, 0, none⟩ = some (.bool false) := (kc BK158.out 0).trans rfl; have hcz19_1 : w17.cell? ⟨gb158, 1, none⟩ = some (.int .i64 0) := (kc BK158.out 1).trans rfl; have hcz19_2 : w17.cell? ⟨gb158, 2, none⟩ = some (.string (⟨#[]⟩ : ByteArray)) := (kc BK158.out 2).trans rfl; have hfz19_0 := kf BK158.out 0; have hfz19_1 := kf BK158.out 1; have hfz19_2 := kf BK158.out 2))
  refine bodyPost_ret (results_cell_row rfl _ _ gb158 24 #[.bool t159, .int .i64 t160, .string t161] (0, 0) _ rfl (kp BK158.out) Tryz.underlying24 rfl (by kernel_rfl)) rfl ?_
  exact ⟨xe, xb⟩
 ·rw [if_neg c4] at H
  exact absurd H (by simp)
def value_val_long.f (a0_0 : Bool) (a0_1 : Int) (a0_2 : ByteArray) (a1_0 : Bool) (a1_1 : Int) (a1_2 : ByteArray) (a2_0 : Bool) (a2_1 : Int) (a2_2 : ByteArray) : Option (Bool × Int × ByteArray) := (value_Num.f (a0_2.size : Int)).bind fun bt166 => (some (bt166.1, bt166.2.1, bt166.2.2))
set_option maxHeartbeats 8000000 in
set_option maxRecDepth 100000 in
theorem value_val_long.calls (a0_0 : Bool) (a0_1 : Int) (a0_2 : ByteArray) (a1_0 : Bool) (a1_1 : Int) (a1_2 : ByteArray) (a2_0 : Bool) (a2_1 : Int) (a2_2 : ByteArray) (r1 : Bool) (r2 : Int) (r3 : ByteArray) (w : World) (hT : Tabs w) (h : value_val_long.f a0_0 a0_1 a0_2 a1_0 a1_1 a1_2 a2_0 a2_1 a2_2 = some (r1, r2, r3)) :
  Calls Tryz.prog 80 #[.agg #[.bool a0_0, .int .i64 a0_1, .string a0_2], .agg #[.bool a1_0, .int .i64 a1_1, .string a1_2], .agg #[.bool a2_0, .int .i64 a2_1, .string a2_2]] w fun e w' => e = .returned (.agg #[.bool r1, .int .i64 r2, .string r3]) ∧ Below w.heap.size w w' := by
 have hu103 := Tryz.underlying103
 have hu24 := Tryz.underlying24
 have HB := xy (Below.refl w.heap.size w)
 unfold value_val_long.f at h
 have H := h
 clear h
 replace H := xj H
 obtain ⟨⟨t166, t167, t168⟩, A40, H⟩ := H
 try dsimp only at H
 have A4 := xy A40
 clear A40
 simp only [Option.some.injEq, Prod.mk.injEq] at H
 obtain ⟨rfl, rfl, rfl⟩ := H
 go_enter Tryz.func80, Tryz.ntmps80
 go_wp2_with (first | ((with_reducible refine gate_dst (N := 3) rfl ?_); refine xq (N := 3) (cs := #[.bool a0_0, .int .i64 a0_1, .string a0_2]) (t := 103) ?_; intro gb162 hg w5 hbox hb; have BK162 := xy (hbox); have GW162 := xs w hg; have GE162 := xs w hg; replace HB := xy (below_step xb hb); clear hb hbox hg) | ((with_reducible refine gate_dst (N := 4) rfl ?_); refine xq (N := 4) (cs := #[.bool a1_0, .int .i64 a1_1, .string a1_2]) (t := 103) ?_; intro gb163 hg w6 hbox hb; have BK163 := xy (hbox); have GW163 := xs w hg; have GE163 := xs w hg; replace HB := xy (below_step xb hb); have NB162_163 := xn hg BK162.out; have NB163_162 := xp hg BK162.out; replace BK162 := xd BK162.out hb; clear hb hbox hg) | ((with_reducible refine gate_dst (N := 5) rfl ?_); refine xq (N := 5) (cs := #[.bool a2_0, .int .i64 a2_1, .string a2_2]) (t := 103) ?_; intro gb164 hg w7 hbox hb; have BK164 := xy (hbox); have GW164 := xs w hg; have GE164 := xs w hg; replace HB := xy (below_step xb hb); have NB162_164 := xn hg BK162.out; have NB164_162 := xp hg BK162.out; replace BK162 := xd BK162.out hb; have NB163_164 := xn hg BK163.out; have NB164_163 := xp hg BK163.out; replace BK163 := xd BK163.out hb; clear hb hbox hg) | ((with_reducible refine gate_dst (N := 6) rfl ?_); refine xq (N := 6) (cs := #[.bool false, .int .i64 0, .string (⟨#[]⟩ : ByteArray)]) (t := 24) ?_; intro gb165 hg w8 hbox hb; have BK165 := xy (hbox); have GW165 := xs w hg; have GE165 := xs w hg; replace HB := xy (below_step xb hb); have NB162_165 := xn hg BK162.out; have NB165_162 := xp hg BK162.out; replace BK162 := xd BK162.out hb; have NB163_165 := xn hg BK163.out; have NB165_163 := xp hg BK163.out; replace BK163 := xd BK163.out hb; have NB164_165 := xn hg BK164.out; have NB165_164 := xp hg BK164.out; replace BK164 := xd BK164.out hb; clear hb hbox hg; have hnb9 := NB162_163.out; have hnc9 := NB163_162.out; have hnb10 := NB162_164.out; have hnc10 := NB164_162.out; have hnb11 := NB162_165.out; have hnc11 := NB165_162.out; have hcz12_0 : w8.cell? ⟨gb162, 0, none⟩ = some (.bool a0_0) := (kc BK162.out 0).trans rfl; have hcz12_1 : w8.cell? ⟨gb162, 1, none⟩ = some (.int .i64 a0_1) := (kc BK162.out 1).trans rfl; have hcz12_2 : w8.cell? ⟨gb162, 2, none⟩ = some (.string a0_2) := (kc BK162.out 2).trans rfl; have hfz12_0 := kf BK162.out 0; have hfz12_1 := kf BK162.out 1; have hfz12_2 := kf BK162.out 2) | ((with_reducible refine gate_callee (f := 93) rfl ?_); refine goesL_ (some 10) rfl rfl Tryz.func93 (by kernel_rfl) rfl #[.int .i64 (a0_2.size : Int)] rfl xr ?_; (with_reducible refine (value_Num.calls (a0_2.size : Int) t166 t167 t168 _ (Tabs.below hT xf) A4.out).mono ?_); rintro e w13 ⟨rfl, hb⟩; refine ⟨_, rfl, ?_⟩; replace BK162 := xd BK162.out hb; replace BK163 := xd BK163.out hb; replace BK164 := xd BK164.out hb; replace BK165 := xd BK165.out hb; replace HB := xy (below_step xb hb); (try clear hb); (try clear hb2); (try clear hk); (try clear hi); have hnb14 := NB165_163.out; have hnc14 := NB163_165.out; have hnb15 := NB165_164.out; have hnc15 := NB164_165.out; have hcz16_0 : w13.cell? ⟨gb165, 0, none⟩ = some (.bool false) := (kc BK165.out 0).trans rfl; have hcz16_1 : w13.cell? ⟨gb165, 1, none⟩ = some (.int .i64 0) := (kc BK165.out 1).trans rfl; have hcz16_2 : w13.cell? ⟨gb165, 2, none⟩ = some (.string (⟨#[]⟩ : ByteArray)) := (kc BK165.out 2).trans rfl; have hfz16_0 := kf BK165.out 0; have hfz16_1 := kf BK165.out 1; have hfz16_2 := kf BK165.out 2))
 refine bodyPost_ret (results_cell_row rfl _ _ gb165 24 #[.bool t166, .int .i64 t167, .string t168] (0, 0) _ rfl (kp BK165.out) Tryz.underlying24 rfl (by kernel_rfl)) rfl ?_
 exact ⟨xe, xb⟩
def value_val_slice.f (a0_0 : Bool) (a0_1 : Int) (a0_2 : ByteArray) (a1_0 : Bool) (a1_1 : Int) (a1_2 : ByteArray) (a2_0 : Bool) (a2_1 : Int) (a2_2 : ByteArray) : Option (Bool × Int × ByteArray) := if 0 ≤ (mn (mx a1_1 0) (a0_2.size : Int)) then (if (mn (mx a1_1 0) (a0_2.size : Int)) ≤ (a0_2.size : Int) then (if 0 ≤ (mn (mx a2_1 0) ((a0_2.extract ((mn (mx a1_1 0) (a0_2.size : Int)) : Int).toNat a0_2.size).size : Int)) then (if (mn (mx a2_1 0) ((a0_2.extract ((mn (mx a1_1 0) (a0_2.size : Int)) : Int).toNat a0_2.size).size : Int)) ≤ ((a0_2.extract ((mn (mx a1_1 0) (a0_2.size : Int)) : Int).toNat a0_2.size).size : Int) then ((value_Text.f ((a0_2.extract ((mn (mx a1_1 0) (a0_2.size : Int)) : Int).toNat a0_2.size).extract 0 ((mn (mx a2_1 0) ((a0_2.extract ((mn (mx a1_1 0) (a0_2.size : Int)) : Int).toNat a0_2.size).size : Int)) : Int).toNat)).bind fun bt173 => (some (bt173.1, bt173.2.1, bt173.2.2))) else (none)) else (none)) else (none)) else (none)
set_option maxHeartbeats 8000000 in
set_option maxRecDepth 100000 in
theorem value_val_slice.calls (a0_0 : Bool) (a0_1 : Int) (a0_2 : ByteArray) (a1_0 : Bool) (a1_1 : Int) (a1_2 : ByteArray) (a2_0 : Bool) (a2_1 : Int) (a2_2 : ByteArray) (r1 : Bool) (r2 : Int) (r3 : ByteArray) (w : World) (hT : Tabs w) (h : value_val_slice.f a0_0 a0_1 a0_2 a1_0 a1_1 a1_2 a2_0 a2_1 a2_2 = some (r1, r2, r3)) :
  Calls Tryz.prog 81 #[.agg #[.bool a0_0, .int .i64 a0_1, .string a0_2], .agg #[.bool a1_0, .int .i64 a1_1, .string a1_2], .agg #[.bool a2_0, .int .i64 a2_1, .string a2_2]] w fun e w' => e = .returned (.agg #[.bool r1, .int .i64 r2, .string r3]) ∧ Below w.heap.size w w' := by
 have hu103 := Tryz.underlying103
 have hu24 := Tryz.underlying24
 have HB := xy (Below.refl w.heap.size w)
 unfold value_val_slice.f at h
 have H := h
 clear h
 obtain ⟨ji4, hji4⟩ : ∃ j_ : Int, (mx a1_1 0) = j_ := ⟨_, rfl⟩
 replace H : (if 0 ≤ (mn (ji4) (a0_2.size : Int)) then (if (mn (ji4) (a0_2.size : Int)) ≤ (a0_2.size : Int) then (if 0 ≤ (mn (mx a2_1 0) ((a0_2.extract ((mn (ji4) (a0_2.size : Int)) : Int).toNat a0_2.size).size : Int)) then (if (mn (mx a2_1 0) ((a0_2.extract ((mn (ji4) (a0_2.size : Int)) : Int).toNat a0_2.size).size : Int)) ≤ ((a0_2.extract ((mn (ji4) (a0_2.size : Int)) : Int).toNat a0_2.size).size : Int) then ((value_Text.f ((a0_2.extract ((mn (ji4) (a0_2.size : Int)) : Int).toNat a0_2.size).extract 0 ((mn (mx a2_1 0) ((a0_2.extract ((mn (ji4) (a0_2.size : Int)) : Int).toNat a0_2.size).size : Int)) : Int).toNat)).bind fun bt173 => (some (bt173.1, bt173.2.1, bt173.2.2))) else (none)) else (none)) else (none)) else (none)) = some (r1, r2, r3) := by first | (rw [hji4] at H; exact H) | (simp only [hji4] at H ⊢; exact H)
 (try (have hji4l : 0 ≤ ji4 := by (rw [← hji4]; unfold mx; (repeat' split) <;> omega)))
 (try (have hji4m : 0 ≤ ji4 := by omega))
 have hji4_ : (if a1_1 < 0 then 0 else a1_1) = ji4 := hji4
 obtain ⟨ji5, hji5⟩ : ∃ j_ : Int, (mn (ji4) (a0_2.size : Int)) = j_ := ⟨_, rfl⟩
 replace H : (if 0 ≤ (ji5) then (if (ji5) ≤ (a0_2.size : Int) then (if 0 ≤ (mn (mx a2_1 0) ((a0_2.extract ((ji5) : Int).toNat a0_2.size).size : Int)) then (if (mn (mx a2_1 0) ((a0_2.extract ((ji5) : Int).toNat a0_2.size).size : Int)) ≤ ((a0_2.extract ((ji5) : Int).toNat a0_2.size).size : Int) then ((value_Text.f ((a0_2.extract ((ji5) : Int).toNat a0_2.size).extract 0 ((mn (mx a2_1 0) ((a0_2.extract ((ji5) : Int).toNat a0_2.size).size : Int)) : Int).toNat)).bind fun bt173 => (some (bt173.1, bt173.2.1, bt173.2.2))) else (none)) else (none)) else (none)) else (none)) = some (r1, r2, r3) := by first | (rw [hji5] at H; exact H) | (simp only [hji5] at H ⊢; exact H)
 have hji5_ : (if (a0_2.size : Int) < (ji4) then (a0_2.size : Int) else (ji4)) = ji5 := hji5
 by_cases c6 : 0 ≤ (ji5)
 ·rw [if_pos c6] at H
  have c6b0 := eq_true c6
  have c6b1 : decide (0 ≤ (ji5)) = true := decide_eq_true c6
  clear c6
  by_cases c7 : (ji5) ≤ (a0_2.size : Int)
  ·rw [if_pos c7] at H
   have c7b0 := eq_true c7
   have c7b1 : decide ((ji5) ≤ (a0_2.size : Int)) = true := decide_eq_true c7
   clear c7
   obtain ⟨ji8, hji8⟩ : ∃ j_ : Int, (mx a2_1 0) = j_ := ⟨_, rfl⟩
   replace H : (if 0 ≤ (mn (ji8) ((a0_2.extract ((ji5) : Int).toNat a0_2.size).size : Int)) then (if (mn (ji8) ((a0_2.extract ((ji5) : Int).toNat a0_2.size).size : Int)) ≤ ((a0_2.extract ((ji5) : Int).toNat a0_2.size).size : Int) then ((value_Text.f ((a0_2.extract ((ji5) : Int).toNat a0_2.size).extract 0 ((mn (ji8) ((a0_2.extract ((ji5) : Int).toNat a0_2.size).size : Int)) : Int).toNat)).bind fun bt173 => (some (bt173.1, bt173.2.1, bt173.2.2))) else (none)) else (none)) = some (r1, r2, r3) := by first | (rw [hji8] at H; exact H) | (simp only [hji8] at H ⊢; exact H)
   (try (have hji8l : 0 ≤ ji8 := by (rw [← hji8]; unfold mx; (repeat' split) <;> omega)))
   (try (have hji8m : 0 ≤ ji8 := by omega))
   have hji8_ : (if a2_1 < 0 then 0 else a2_1) = ji8 := hji8
   obtain ⟨ji9, hji9⟩ : ∃ j_ : Int, (mn (ji8) ((a0_2.extract ((ji5) : Int).toNat a0_2.size).size : Int)) = j_ := ⟨_, rfl⟩
   replace H : (if 0 ≤ (ji9) then (if (ji9) ≤ ((a0_2.extract ((ji5) : Int).toNat a0_2.size).size : Int) then ((value_Text.f ((a0_2.extract ((ji5) : Int).toNat a0_2.size).extract 0 ((ji9) : Int).toNat)).bind fun bt173 => (some (bt173.1, bt173.2.1, bt173.2.2))) else (none)) else (none)) = some (r1, r2, r3) := by first | (rw [hji9] at H; exact H) | (simp only [hji9] at H ⊢; exact H)
   have hji9_ : (if ((a0_2.extract ((ji5) : Int).toNat a0_2.size).size : Int) < (ji8) then ((a0_2.extract ((ji5) : Int).toNat a0_2.size).size : Int) else (ji8)) = ji9 := hji9
   (try (have hji9_s := hji9_; simp only [ByteArray.size_extract, Nat.min_self] at hji9_s))
   by_cases c10 : 0 ≤ (ji9)
   ·rw [if_pos c10] at H
    have c10b0 := eq_true c10
    have c10b1 : decide (0 ≤ (ji9)) = true := decide_eq_true c10
    clear c10
    by_cases c11 : (ji9) ≤ ((a0_2.extract ((ji5) : Int).toNat a0_2.size).size : Int)
    ·rw [if_pos c11] at H
     have c11b0 := eq_true c11
     have c11b1 : decide ((ji9) ≤ ((a0_2.extract ((ji5) : Int).toNat a0_2.size).size : Int)) = true := decide_eq_true c11
     (try (have c11b1s := c11b1; simp only [ByteArray.size_extract, Nat.min_self] at c11b1s))
     clear c11
     replace H := xj H
     obtain ⟨⟨t173, t174, t175⟩, A120, H⟩ := H
     try dsimp only at H
     have A12 := xy A120
     clear A120
     simp only [Option.some.injEq, Prod.mk.injEq] at H
     obtain ⟨rfl, rfl, rfl⟩ := H
     go_enter Tryz.func81, Tryz.ntmps81
     go_wp2_with (first | ((with_reducible refine gate_dst (N := 3) rfl ?_); refine xq (N := 3) (cs := #[.bool a0_0, .int .i64 a0_1, .string a0_2]) (t := 103) ?_; intro gb169 hg w13 hbox hb; have BK169 := xy (hbox); have GW169 := xs w hg; have GE169 := xs w hg; replace HB := xy (below_step xb hb); clear hb hbox hg) | ((with_reducible refine gate_dst (N := 4) rfl ?_); refine xq (N := 4) (cs := #[.bool a1_0, .int .i64 a1_1, .string a1_2]) (t := 103) ?_; intro gb170 hg w14 hbox hb; have BK170 := xy (hbox); have GW170 := xs w hg; have GE170 := xs w hg; replace HB := xy (below_step xb hb); have NB169_170 := xn hg BK169.out; have NB170_169 := xp hg BK169.out; replace BK169 := xd BK169.out hb; clear hb hbox hg) | ((with_reducible refine gate_dst (N := 5) rfl ?_); refine xq (N := 5) (cs := #[.bool a2_0, .int .i64 a2_1, .string a2_2]) (t := 103) ?_; intro gb171 hg w15 hbox hb; have BK171 := xy (hbox); have GW171 := xs w hg; have GE171 := xs w hg; replace HB := xy (below_step xb hb); have NB169_171 := xn hg BK169.out; have NB171_169 := xp hg BK169.out; replace BK169 := xd BK169.out hb; have NB170_171 := xn hg BK170.out; have NB171_170 := xp hg BK170.out; replace BK170 := xd BK170.out hb; clear hb hbox hg) | ((with_reducible refine gate_dst (N := 6) rfl ?_); refine xq (N := 6) (cs := #[.bool false, .int .i64 0, .string (⟨#[]⟩ : ByteArray)]) (t := 24) ?_; intro gb172 hg w16 hbox hb; have BK172 := xy (hbox); have GW172 := xs w hg; have GE172 := xs w hg; replace HB := xy (below_step xb hb); have NB169_172 := xn hg BK169.out; have NB172_169 := xp hg BK169.out; replace BK169 := xd BK169.out hb; have NB170_172 := xn hg BK170.out; have NB172_170 := xp hg BK170.out; replace BK170 := xd BK170.out hb; have NB171_172 := xn hg BK171.out; have NB172_171 := xp hg BK171.out; replace BK171 := xd BK171.out hb; clear hb hbox hg; have hnb17 := NB169_170.out; have hnc17 := NB170_169.out; have hnb18 := NB169_171.out; have hnc18 := NB171_169.out; have hnb19 := NB169_172.out; have hnc19 := NB172_169.out; have hcz20_0 : w16.cell? ⟨gb169, 0, none⟩ = some (.bool a0_0) := (kc BK169.out 0).trans rfl; have hcz20_1 : w16.cell? ⟨gb169, 1, none⟩ = some (.int .i64 a0_1) := (kc BK169.out 1).trans rfl; have hcz20_2 : w16.cell? ⟨gb169, 2, none⟩ = some (.string a0_2) := (kc BK169.out 2).trans rfl; have hfz20_0 := kf BK169.out 0; have hfz20_1 := kf BK169.out 1; have hfz20_2 := kf BK169.out 2; have hnb21 := NB170_171.out; have hnc21 := NB171_170.out; have hnb22 := NB170_172.out; have hnc22 := NB172_170.out; have hcz23_0 : w16.cell? ⟨gb170, 0, none⟩ = some (.bool a1_0) := (kc BK170.out 0).trans rfl; have hcz23_1 : w16.cell? ⟨gb170, 1, none⟩ = some (.int .i64 a1_1) := (kc BK170.out 1).trans rfl; have hcz23_2 : w16.cell? ⟨gb170, 2, none⟩ = some (.string a1_2) := (kc BK170.out 2).trans rfl; have hfz23_0 := kf BK170.out 0; have hfz23_1 := kf BK170.out 1; have hfz23_2 := kf BK170.out 2; have hnb24 := NB171_172.out; have hnc24 := NB172_171.out; have hcz25_0 : w16.cell? ⟨gb171, 0, none⟩ = some (.bool a2_0) := (kc BK171.out 0).trans rfl; have hcz25_1 : w16.cell? ⟨gb171, 1, none⟩ = some (.int .i64 a2_1) := (kc BK171.out 1).trans rfl; have hcz25_2 : w16.cell? ⟨gb171, 2, none⟩ = some (.string a2_2) := (kc BK171.out 2).trans rfl; have hfz25_0 := kf BK171.out 0; have hfz25_1 := kf BK171.out 1; have hfz25_2 := kf BK171.out 2) | ((with_reducible refine gate_callee (f := 52) rfl ?_); refine goesL_ (some 26) rfl rfl Tryz.func52 (by kernel_rfl) rfl #[.string ((a0_2.extract ((ji5) : Int).toNat a0_2.size).extract 0 ((ji9) : Int).toNat)] rfl (by (try simp only [List.map_toArray, List.map_cons, List.map_nil]); first | done | (simp only [hji5, hji9]; rfl) | rfl | (simp only [List.length_drop, List.length_take]; rfl)) ?_; (with_reducible refine (value_Text.calls ((a0_2.extract ((ji5) : Int).toNat a0_2.size).extract 0 ((ji9) : Int).toNat) t173 t174 t175 _ (Tabs.below hT xf) A12.out).mono ?_); rintro e w26 ⟨rfl, hb⟩; refine ⟨_, rfl, ?_⟩; replace BK169 := xd BK169.out hb; replace BK170 := xd BK170.out hb; replace BK171 := xd BK171.out hb; replace BK172 := xd BK172.out hb; replace HB := xy (below_step xb hb); (try clear hb); (try clear hb2); (try clear hk); (try clear hi); have hcz27_0 : w26.cell? ⟨gb172, 0, none⟩ = some (.bool false) := (kc BK172.out 0).trans rfl; have hcz27_1 : w26.cell? ⟨gb172, 1, none⟩ = some (.int .i64 0) := (kc BK172.out 1).trans rfl; have hcz27_2 : w26.cell? ⟨gb172, 2, none⟩ = some (.string (⟨#[]⟩ : ByteArray)) := (kc BK172.out 2).trans rfl; have hfz27_0 := kf BK172.out 0; have hfz27_1 := kf BK172.out 1; have hfz27_2 := kf BK172.out 2))
     refine bodyPost_ret (results_cell_row rfl _ _ gb172 24 #[.bool t173, .int .i64 t174, .string t175] (0, 0) _ rfl (kp BK172.out) Tryz.underlying24 rfl (by kernel_rfl)) rfl ?_
     exact ⟨by first | rfl | (simp [errW_none, errW_some] <;> rfl) | (simp only [← hji4, ← hji5, ← hji8, ← hji9]; first | rfl | (simp [errW_none, errW_some] <;> rfl)) | (simp [*, errW_none, errW_some] <;> rfl), xb⟩
    ·rw [if_neg c11] at H
     exact absurd H (by simp)
   ·rw [if_neg c10] at H
    exact absurd H (by simp)
  ·rw [if_neg c7] at H
   exact absurd H (by simp)
 ·rw [if_neg c6] at H
  exact absurd H (by simp)
def value_turn.f (a0 : ByteArray) (a1 : Int) : Option (Bool × Int × ByteArray) := if 0 ≤ a1 ∧ a1 ≤ 200 ∧ a0.size ≤ 140737488355328 then value_Text.f (strOfNums (XTurn.turnL a1 (bytesOf a0))) else none
theorem value_turn.calls (a0 : ByteArray) (a1 : Int) (r1 : Bool) (r2 : Int) (r3 : ByteArray) (w : World) (hT : Tabs w) (h : value_turn.f a0 a1 = some (r1, r2, r3)) :
  Calls Tryz.prog 94 #[.string a0, .int .u8 a1] w fun e w' => e = .returned (.agg #[.bool r1, .int .i64 r2, .string r3]) ∧ Below w.heap.size w w' := by
 unfold value_turn.f at h
 by_cases hq : 0 ≤ a1 ∧ a1 ≤ 200 ∧ a0.size ≤ 140737488355328
 ·rw [if_pos hq] at h
  exact XTurn.calls (T := Tabs) (fun w w' h hb => h.below hb) a0 a1 r1 r2 r3 ⟨hq.1, hq.2.1⟩ hq.2.2 (fun w hT => value_Text.calls _ _ _ _ w hT h) w hT
 ·rw [if_neg hq] at h
  cases h
def value_val_upper.f (a0_0 : Bool) (a0_1 : Int) (a0_2 : ByteArray) (a1_0 : Bool) (a1_1 : Int) (a1_2 : ByteArray) (a2_0 : Bool) (a2_1 : Int) (a2_2 : ByteArray) : Option (Bool × Int × ByteArray) := (value_turn.f a0_2 97).bind fun bt180 => (some (bt180.1, bt180.2.1, bt180.2.2))
set_option maxHeartbeats 8000000 in
set_option maxRecDepth 100000 in
theorem value_val_upper.calls (a0_0 : Bool) (a0_1 : Int) (a0_2 : ByteArray) (a1_0 : Bool) (a1_1 : Int) (a1_2 : ByteArray) (a2_0 : Bool) (a2_1 : Int) (a2_2 : ByteArray) (r1 : Bool) (r2 : Int) (r3 : ByteArray) (w : World) (hT : Tabs w) (h : value_val_upper.f a0_0 a0_1 a0_2 a1_0 a1_1 a1_2 a2_0 a2_1 a2_2 = some (r1, r2, r3)) :
  Calls Tryz.prog 82 #[.agg #[.bool a0_0, .int .i64 a0_1, .string a0_2], .agg #[.bool a1_0, .int .i64 a1_1, .string a1_2], .agg #[.bool a2_0, .int .i64 a2_1, .string a2_2]] w fun e w' => e = .returned (.agg #[.bool r1, .int .i64 r2, .string r3]) ∧ Below w.heap.size w w' := by
 have hu103 := Tryz.underlying103
 have hu24 := Tryz.underlying24
 have HB := xy (Below.refl w.heap.size w)
 unfold value_val_upper.f at h
 have H := h
 clear h
 replace H := xj H
 obtain ⟨⟨t180, t181, t182⟩, A40, H⟩ := H
 try dsimp only at H
 have A4 := xy A40
 clear A40
 simp only [Option.some.injEq, Prod.mk.injEq] at H
 obtain ⟨rfl, rfl, rfl⟩ := H
 go_enter Tryz.func82, Tryz.ntmps82
 go_wp2_with (first | ((with_reducible refine gate_dst (N := 3) rfl ?_); refine xq (N := 3) (cs := #[.bool a0_0, .int .i64 a0_1, .string a0_2]) (t := 103) ?_; intro gb176 hg w5 hbox hb; have BK176 := xy (hbox); have GW176 := xs w hg; have GE176 := xs w hg; replace HB := xy (below_step xb hb); clear hb hbox hg) | ((with_reducible refine gate_dst (N := 4) rfl ?_); refine xq (N := 4) (cs := #[.bool a1_0, .int .i64 a1_1, .string a1_2]) (t := 103) ?_; intro gb177 hg w6 hbox hb; have BK177 := xy (hbox); have GW177 := xs w hg; have GE177 := xs w hg; replace HB := xy (below_step xb hb); have NB176_177 := xn hg BK176.out; have NB177_176 := xp hg BK176.out; replace BK176 := xd BK176.out hb; clear hb hbox hg) | ((with_reducible refine gate_dst (N := 5) rfl ?_); refine xq (N := 5) (cs := #[.bool a2_0, .int .i64 a2_1, .string a2_2]) (t := 103) ?_; intro gb178 hg w7 hbox hb; have BK178 := xy (hbox); have GW178 := xs w hg; have GE178 := xs w hg; replace HB := xy (below_step xb hb); have NB176_178 := xn hg BK176.out; have NB178_176 := xp hg BK176.out; replace BK176 := xd BK176.out hb; have NB177_178 := xn hg BK177.out; have NB178_177 := xp hg BK177.out; replace BK177 := xd BK177.out hb; clear hb hbox hg) | ((with_reducible refine gate_dst (N := 6) rfl ?_); refine xq (N := 6) (cs := #[.bool false, .int .i64 0, .string (⟨#[]⟩ : ByteArray)]) (t := 24) ?_; intro gb179 hg w8 hbox hb; have BK179 := xy (hbox); have GW179 := xs w hg; have GE179 := xs w hg; replace HB := xy (below_step xb hb); have NB176_179 := xn hg BK176.out; have NB179_176 := xp hg BK176.out; replace BK176 := xd BK176.out hb; have NB177_179 := xn hg BK177.out; have NB179_177 := xp hg BK177.out; replace BK177 := xd BK177.out hb; have NB178_179 := xn hg BK178.out; have NB179_178 := xp hg BK178.out; replace BK178 := xd BK178.out hb; clear hb hbox hg; have hnb9 := NB176_177.out; have hnc9 := NB177_176.out; have hnb10 := NB176_178.out; have hnc10 := NB178_176.out; have hnb11 := NB176_179.out; have hnc11 := NB179_176.out; have hcz12_0 : w8.cell? ⟨gb176, 0, none⟩ = some (.bool a0_0) := (kc BK176.out 0).trans rfl; have hcz12_1 : w8.cell? ⟨gb176, 1, none⟩ = some (.int .i64 a0_1) := (kc BK176.out 1).trans rfl; have hcz12_2 : w8.cell? ⟨gb176, 2, none⟩ = some (.string a0_2) := (kc BK176.out 2).trans rfl; have hfz12_0 := kf BK176.out 0; have hfz12_1 := kf BK176.out 1; have hfz12_2 := kf BK176.out 2) | ((with_reducible refine gate_callee (f := 94) rfl ?_); refine goesL_ (some 9) rfl rfl Tryz.func94 (by kernel_rfl) rfl #[.string a0_2, .int .u8 97] rfl xr ?_; (with_reducible refine (value_turn.calls a0_2 97 t180 t181 t182 _ (Tabs.below hT xf) A4.out).mono ?_); rintro e w13 ⟨rfl, hb⟩; refine ⟨_, rfl, ?_⟩; replace BK176 := xd BK176.out hb; replace BK177 := xd BK177.out hb; replace BK178 := xd BK178.out hb; replace BK179 := xd BK179.out hb; replace HB := xy (below_step xb hb); (try clear hb); (try clear hb2); (try clear hk); (try clear hi); have hnb14 := NB179_177.out; have hnc14 := NB177_179.out; have hnb15 := NB179_178.out; have hnc15 := NB178_179.out; have hcz16_0 : w13.cell? ⟨gb179, 0, none⟩ = some (.bool false) := (kc BK179.out 0).trans rfl; have hcz16_1 : w13.cell? ⟨gb179, 1, none⟩ = some (.int .i64 0) := (kc BK179.out 1).trans rfl; have hcz16_2 : w13.cell? ⟨gb179, 2, none⟩ = some (.string (⟨#[]⟩ : ByteArray)) := (kc BK179.out 2).trans rfl; have hfz16_0 := kf BK179.out 0; have hfz16_1 := kf BK179.out 1; have hfz16_2 := kf BK179.out 2))
 refine bodyPost_ret (results_cell_row rfl _ _ gb179 24 #[.bool t180, .int .i64 t181, .string t182] (0, 0) _ rfl (kp BK179.out) Tryz.underlying24 rfl (by kernel_rfl)) rfl ?_
 exact ⟨xe, xb⟩
def value_val_lower.f (a0_0 : Bool) (a0_1 : Int) (a0_2 : ByteArray) (a1_0 : Bool) (a1_1 : Int) (a1_2 : ByteArray) (a2_0 : Bool) (a2_1 : Int) (a2_2 : ByteArray) : Option (Bool × Int × ByteArray) := (value_turn.f a0_2 65).bind fun bt187 => (some (bt187.1, bt187.2.1, bt187.2.2))
set_option maxHeartbeats 8000000 in
set_option maxRecDepth 100000 in
theorem value_val_lower.calls (a0_0 : Bool) (a0_1 : Int) (a0_2 : ByteArray) (a1_0 : Bool) (a1_1 : Int) (a1_2 : ByteArray) (a2_0 : Bool) (a2_1 : Int) (a2_2 : ByteArray) (r1 : Bool) (r2 : Int) (r3 : ByteArray) (w : World) (hT : Tabs w) (h : value_val_lower.f a0_0 a0_1 a0_2 a1_0 a1_1 a1_2 a2_0 a2_1 a2_2 = some (r1, r2, r3)) :
  Calls Tryz.prog 83 #[.agg #[.bool a0_0, .int .i64 a0_1, .string a0_2], .agg #[.bool a1_0, .int .i64 a1_1, .string a1_2], .agg #[.bool a2_0, .int .i64 a2_1, .string a2_2]] w fun e w' => e = .returned (.agg #[.bool r1, .int .i64 r2, .string r3]) ∧ Below w.heap.size w w' := by
 have hu103 := Tryz.underlying103
 have hu24 := Tryz.underlying24
 have HB := xy (Below.refl w.heap.size w)
 unfold value_val_lower.f at h
 have H := h
 clear h
 replace H := xj H
 obtain ⟨⟨t187, t188, t189⟩, A40, H⟩ := H
 try dsimp only at H
 have A4 := xy A40
 clear A40
 simp only [Option.some.injEq, Prod.mk.injEq] at H
 obtain ⟨rfl, rfl, rfl⟩ := H
 go_enter Tryz.func83, Tryz.ntmps83
 go_wp2_with (first | ((with_reducible refine gate_dst (N := 3) rfl ?_); refine xq (N := 3) (cs := #[.bool a0_0, .int .i64 a0_1, .string a0_2]) (t := 103) ?_; intro gb183 hg w5 hbox hb; have BK183 := xy (hbox); have GW183 := xs w hg; have GE183 := xs w hg; replace HB := xy (below_step xb hb); clear hb hbox hg) | ((with_reducible refine gate_dst (N := 4) rfl ?_); refine xq (N := 4) (cs := #[.bool a1_0, .int .i64 a1_1, .string a1_2]) (t := 103) ?_; intro gb184 hg w6 hbox hb; have BK184 := xy (hbox); have GW184 := xs w hg; have GE184 := xs w hg; replace HB := xy (below_step xb hb); have NB183_184 := xn hg BK183.out; have NB184_183 := xp hg BK183.out; replace BK183 := xd BK183.out hb; clear hb hbox hg) | ((with_reducible refine gate_dst (N := 5) rfl ?_); refine xq (N := 5) (cs := #[.bool a2_0, .int .i64 a2_1, .string a2_2]) (t := 103) ?_; intro gb185 hg w7 hbox hb; have BK185 := xy (hbox); have GW185 := xs w hg; have GE185 := xs w hg; replace HB := xy (below_step xb hb); have NB183_185 := xn hg BK183.out; have NB185_183 := xp hg BK183.out; replace BK183 := xd BK183.out hb; have NB184_185 := xn hg BK184.out; have NB185_184 := xp hg BK184.out; replace BK184 := xd BK184.out hb; clear hb hbox hg) | ((with_reducible refine gate_dst (N := 6) rfl ?_); refine xq (N := 6) (cs := #[.bool false, .int .i64 0, .string (⟨#[]⟩ : ByteArray)]) (t := 24) ?_; intro gb186 hg w8 hbox hb; have BK186 := xy (hbox); have GW186 := xs w hg; have GE186 := xs w hg; replace HB := xy (below_step xb hb); have NB183_186 := xn hg BK183.out; have NB186_183 := xp hg BK183.out; replace BK183 := xd BK183.out hb; have NB184_186 := xn hg BK184.out; have NB186_184 := xp hg BK184.out; replace BK184 := xd BK184.out hb; have NB185_186 := xn hg BK185.out; have NB186_185 := xp hg BK185.out; replace BK185 := xd BK185.out hb; clear hb hbox hg; have hnb9 := NB183_184.out; have hnc9 := NB184_183.out; have hnb10 := NB183_185.out; have hnc10 := NB185_183.out; have hnb11 := NB183_186.out; have hnc11 := NB186_183.out; have hcz12_0 : w8.cell? ⟨gb183, 0, none⟩ = some (.bool a0_0) := (kc BK183.out 0).trans rfl; have hcz12_1 : w8.cell? ⟨gb183, 1, none⟩ = some (.int .i64 a0_1) := (kc BK183.out 1).trans rfl; have hcz12_2 : w8.cell? ⟨gb183, 2, none⟩ = some (.string a0_2) := (kc BK183.out 2).trans rfl; have hfz12_0 := kf BK183.out 0; have hfz12_1 := kf BK183.out 1; have hfz12_2 := kf BK183.out 2) | ((with_reducible refine gate_callee (f := 94) rfl ?_); refine goesL_ (some 9) rfl rfl Tryz.func94 (by kernel_rfl) rfl #[.string a0_2, .int .u8 65] rfl xr ?_; (with_reducible refine (value_turn.calls a0_2 65 t187 t188 t189 _ (Tabs.below hT xf) A4.out).mono ?_); rintro e w13 ⟨rfl, hb⟩; refine ⟨_, rfl, ?_⟩; replace BK183 := xd BK183.out hb; replace BK184 := xd BK184.out hb; replace BK185 := xd BK185.out hb; replace BK186 := xd BK186.out hb; replace HB := xy (below_step xb hb); (try clear hb); (try clear hb2); (try clear hk); (try clear hi); have hnb14 := NB186_184.out; have hnc14 := NB184_186.out; have hnb15 := NB186_185.out; have hnc15 := NB185_186.out; have hcz16_0 : w13.cell? ⟨gb186, 0, none⟩ = some (.bool false) := (kc BK186.out 0).trans rfl; have hcz16_1 : w13.cell? ⟨gb186, 1, none⟩ = some (.int .i64 0) := (kc BK186.out 1).trans rfl; have hcz16_2 : w13.cell? ⟨gb186, 2, none⟩ = some (.string (⟨#[]⟩ : ByteArray)) := (kc BK186.out 2).trans rfl; have hfz16_0 := kf BK186.out 0; have hfz16_1 := kf BK186.out 1; have hfz16_2 := kf BK186.out 2))
 refine bodyPost_ret (results_cell_row rfl _ _ gb186 24 #[.bool t187, .int .i64 t188, .string t189] (0, 0) _ rfl (kp BK186.out) Tryz.underlying24 rfl (by kernel_rfl)) rfl ?_
 exact ⟨xe, xb⟩
def value_yes.f (a0 : Bool) : Option (Bool × Int × ByteArray) := if a0 = true then ((value_Num.f 1).bind fun bt191 => (some (bt191.1, bt191.2.1, bt191.2.2))) else ((value_Num.f 0).bind fun bt194 => (some (bt194.1, bt194.2.1, bt194.2.2)))
set_option maxHeartbeats 8000000 in
set_option maxRecDepth 100000 in
theorem value_yes.calls (a0 : Bool) (r1 : Bool) (r2 : Int) (r3 : ByteArray) (w : World) (hT : Tabs w) (h : value_yes.f a0 = some (r1, r2, r3)) :
  Calls Tryz.prog 95 #[.bool a0] w fun e w' => e = .returned (.agg #[.bool r1, .int .i64 r2, .string r3]) ∧ Below w.heap.size w w' := by
 have hu24 := Tryz.underlying24
 have HB := xy (Below.refl w.heap.size w)
 unfold value_yes.f at h
 have H := h
 clear h
 by_cases c2 : a0 = true
 ·subst c2
  rw [if_pos rfl] at H
  replace H := xj H
  obtain ⟨⟨t191, t192, t193⟩, A30, H⟩ := H
  try dsimp only at H
  have A3 := xy A30
  clear A30
  simp only [Option.some.injEq, Prod.mk.injEq] at H
  obtain ⟨rfl, rfl, rfl⟩ := H
  go_enter Tryz.func95, Tryz.ntmps95
  go_wp2_with (first | ((with_reducible refine gate_dst (N := 2) rfl ?_); refine xq (N := 2) (cs := #[.bool false, .int .i64 0, .string (⟨#[]⟩ : ByteArray)]) (t := 24) ?_; intro gb190 hg w4 hbox hb; have BK190 := xy (hbox); have GW190 := xs w hg; have GE190 := xs w hg; replace HB := xy (below_step xb hb); clear hb hbox hg) | ((with_reducible refine gate_callee (f := 93) rfl ?_); refine goesL_ (some 4) rfl rfl Tryz.func93 (by kernel_rfl) rfl #[.int .i64 1] rfl xr ?_; (with_reducible refine (value_Num.calls 1 t191 t192 t193 _ (Tabs.below hT xf) A3.out).mono ?_); rintro e w5 ⟨rfl, hb⟩; refine ⟨_, rfl, ?_⟩; replace BK190 := xd BK190.out hb; replace HB := xy (below_step xb hb); (try clear hb); (try clear hb2); (try clear hk); (try clear hi); have hcz6_0 : w5.cell? ⟨gb190, 0, none⟩ = some (.bool false) := (kc BK190.out 0).trans rfl; have hcz6_1 : w5.cell? ⟨gb190, 1, none⟩ = some (.int .i64 0) := (kc BK190.out 1).trans rfl; have hcz6_2 : w5.cell? ⟨gb190, 2, none⟩ = some (.string (⟨#[]⟩ : ByteArray)) := (kc BK190.out 2).trans rfl; have hfz6_0 := kf BK190.out 0; have hfz6_1 := kf BK190.out 1; have hfz6_2 := kf BK190.out 2))
  refine bodyPost_ret (results_cell_row rfl _ _ gb190 24 #[.bool t191, .int .i64 t192, .string t193] (0, 0) _ rfl (kp BK190.out) Tryz.underlying24 rfl (by kernel_rfl)) rfl ?_
  exact ⟨xe, xb⟩
 ·replace c2 := Bool.eq_false_iff.mpr c2
  subst c2
  rw [if_neg (show ¬ (false = true) by decide)] at H
  replace H := xj H
  obtain ⟨⟨t194, t195, t196⟩, A70, H⟩ := H
  try dsimp only at H
  have A7 := xy A70
  clear A70
  simp only [Option.some.injEq, Prod.mk.injEq] at H
  obtain ⟨rfl, rfl, rfl⟩ := H
  go_enter Tryz.func95, Tryz.ntmps95
  go_wp2_with (first | ((with_reducible refine gate_dst (N := 2) rfl ?_); refine xq (N := 2) (cs := #[.bool false, .int .i64 0, .string (⟨#[]⟩ : ByteArray)]) (t := 24) ?_; intro gb190 hg w8 hbox hb; have BK190 := xy (hbox); have GW190 := xs w hg; have GE190 := xs w hg; replace HB := xy (below_step xb hb); clear hb hbox hg) | ((with_reducible refine gate_callee (f := 93) rfl ?_); refine goesL_ (some 5) rfl rfl Tryz.func93 (by kernel_rfl) rfl #[.int .i64 0] rfl xr ?_; (with_reducible refine (value_Num.calls 0 t194 t195 t196 _ (Tabs.below hT xf) A7.out).mono ?_); rintro e w9 ⟨rfl, hb⟩; refine ⟨_, rfl, ?_⟩; replace BK190 := xd BK190.out hb; replace HB := xy (below_step xb hb); (try clear hb); (try clear hb2); (try clear hk); (try clear hi); have hcz10_0 : w9.cell? ⟨gb190, 0, none⟩ = some (.bool false) := (kc BK190.out 0).trans rfl; have hcz10_1 : w9.cell? ⟨gb190, 1, none⟩ = some (.int .i64 0) := (kc BK190.out 1).trans rfl; have hcz10_2 : w9.cell? ⟨gb190, 2, none⟩ = some (.string (⟨#[]⟩ : ByteArray)) := (kc BK190.out 2).trans rfl; have hfz10_0 := kf BK190.out 0; have hfz10_1 := kf BK190.out 1; have hfz10_2 := kf BK190.out 2))
  refine bodyPost_ret (results_cell_row rfl _ _ gb190 24 #[.bool t194, .int .i64 t195, .string t196] (0, 0) _ rfl (kp BK190.out) Tryz.underlying24 rfl (by kernel_rfl)) rfl ?_
  exact ⟨xe, xb⟩
end Go.Proofs.YtebofnoljebakaaGreatDoor.PX
