/- Walked functions, by this session's program over the kit's print. -/
import Derived.Test.YtialoecplmnjfaaGreatDoorPXx0
import Derived.Test.YtialoecplmnjfaaGreatDoorPXx15
namespace Go.Proofs.YtialoecplmnjfaaGreatDoor.PX
open Go.RowKit Go.Proofs.YtialoecplmnjfaaGreatDoorW.PrintWords Go.Proofs.YtialoecplmnjfaaGreatDoorW.PrintLast Go.Proofs.YtialoecplmnjfaaGreatDoorW.PrintMore
attribute [local go_sem] xm_gtr max2_int min2_int max_two min_two max_three min_three max_four min_four
set_option linter.unusedVariables false
set_option linter.unusedSimpArgs false
section
/- Walked functions, by this session's program over the kit's print. -/
attribute [local go_sem high] eqA58
def w18_plain.f (a0_0 : Bool) (l0_1 : List (S50)) (l0_2 : List (S50)) (l0_3 : List (S50)) (a0_4 : Int) (l0_5 : List (S50)) (a0_6 : Bool) (a0_7 : Int) (a0_8 : ByteArray) (a0_9 : Bool) (a0_10 : Int) (a0_11 : Bool) (a0_12 : Bool) (a0_13 : Int) : Option (Bool × (List (S50)) × (List (S50)) × (List (S50)) × Int × (List (S50)) × Bool × Int × ByteArray × Bool × Int × Bool × Bool × Int) := some (a0_0, l0_1, l0_2, l0_3, a0_4, l0_5, a0_6, a0_7, a0_8, a0_9, a0_10, a0_11, a0_12, a0_13)
set_option maxHeartbeats 8000000 in
set_option maxRecDepth 100000 in
theorem w18_plain.calls (a0_0 : Bool) (P0_1_ : Nat → Prop) (A0_1 : Option Addr) (c0_1 : Nat) (l0_1 : List (S50)) (P0_2_ : Nat → Prop) (A0_2 : Option Addr) (c0_2 : Nat) (l0_2 : List (S50)) (P0_3_ : Nat → Prop) (A0_3 : Option Addr) (c0_3 : Nat) (l0_3 : List (S50)) (a0_4 : Int) (P0_5_ : Nat → Prop) (A0_5 : Option Addr) (c0_5 : Nat) (l0_5 : List (S50)) (a0_6 : Bool) (a0_7 : Int) (a0_8 : ByteArray) (a0_9 : Bool) (a0_10 : Int) (a0_11 : Bool) (a0_12 : Bool) (a0_13 : Int) (r1 : Bool) (r2 : List (S50)) (r3 : List (S50)) (r4 : List (S50)) (r5 : Int) (r6 : List (S50)) (r7 : Bool) (r8 : Int) (r9 : ByteArray) (r10 : Bool) (r11 : Int) (r12 : Bool) (r13 : Bool) (r14 : Int) (w : World) (hT : Tabs w) (hs0_1 : Kd.V k50 50 w w.heap.size (fun k_ => P0_1_ k_) (.slice A0_1 l0_1.length c0_1) l0_1) (hs0_2 : Kd.V k50 50 w w.heap.size (fun k_ => P0_2_ k_) (.slice A0_2 l0_2.length c0_2) l0_2) (hs0_3 : Kd.V k50 50 w w.heap.size (fun k_ => P0_3_ k_) (.slice A0_3 l0_3.length c0_3) l0_3) (hs0_5 : Kd.V k50 50 w w.heap.size (fun k_ => P0_5_ k_) (.slice A0_5 l0_5.length c0_5) l0_5) (h : w18_plain.f a0_0 l0_1 l0_2 l0_3 a0_4 l0_5 a0_6 a0_7 a0_8 a0_9 a0_10 a0_11 a0_12 a0_13 = some (r1, r2, r3, r4, r5, r6, r7, r8, r9, r10, r11, r12, r13, r14)) :
  Calls Tryz.prog 10 #[.agg #[.bool a0_0, .slice A0_1 l0_1.length c0_1, .slice A0_2 l0_2.length c0_2, .slice A0_3 l0_3.length c0_3, .int .i64 a0_4, .slice A0_5 l0_5.length c0_5, .bool a0_6, .int .i64 a0_7, .string a0_8, .bool a0_9, .int .i64 a0_10, .bool a0_11, .bool a0_12, .int .i64 a0_13]] w fun e w' => ∃ v1_ v2_ v3_ v5_ : Value, e = .returned (.agg #[.bool r1, v1_, v2_, v3_, .int .i64 r5, v5_, .bool r7, .int .i64 r8, .string r9, .bool r10, .int .i64 r11, .bool r12, .bool r13, .int .i64 r14]) ∧ Kd.V k50 50 w' w.heap.size (fun k_ => ((P0_1_ k_ ∨ P0_2_ k_ ∨ P0_3_ k_ ∨ P0_5_ k_) ∨ w.heap.size ≤ k_)) v1_ r2 ∧ Kd.V k50 50 w' w.heap.size (fun k_ => ((P0_1_ k_ ∨ P0_2_ k_ ∨ P0_3_ k_ ∨ P0_5_ k_) ∨ w.heap.size ≤ k_)) v2_ r3 ∧ Kd.V k50 50 w' w.heap.size (fun k_ => ((P0_1_ k_ ∨ P0_2_ k_ ∨ P0_3_ k_ ∨ P0_5_ k_) ∨ w.heap.size ≤ k_)) v3_ r4 ∧ Kd.V k50 50 w' w.heap.size (fun k_ => ((P0_1_ k_ ∨ P0_2_ k_ ∨ P0_3_ k_ ∨ P0_5_ k_) ∨ w.heap.size ≤ k_)) v5_ r6 ∧ Below w.heap.size w w' := by
 have hu26 := Tryz.underlying26
 have hu35 := Tryz.underlying35
 have hu24 := Tryz.underlying24
 have HO0_1 := xy (show Kd.V k50 50 w w.heap.size (fun k_ => ((P0_1_ k_ ∨ P0_2_ k_ ∨ P0_3_ k_ ∨ P0_5_ k_) ∨ w.heap.size ≤ k_)) (.slice A0_1 l0_1.length c0_1) l0_1 from Kd.V_mono hs0_1 (fun k_ hk => .inl (.inl hk)))
 have HO0_2 := xy (show Kd.V k50 50 w w.heap.size (fun k_ => ((P0_1_ k_ ∨ P0_2_ k_ ∨ P0_3_ k_ ∨ P0_5_ k_) ∨ w.heap.size ≤ k_)) (.slice A0_2 l0_2.length c0_2) l0_2 from Kd.V_mono hs0_2 (fun k_ hk => .inl (.inr (.inl hk))))
 have HO0_3 := xy (show Kd.V k50 50 w w.heap.size (fun k_ => ((P0_1_ k_ ∨ P0_2_ k_ ∨ P0_3_ k_ ∨ P0_5_ k_) ∨ w.heap.size ≤ k_)) (.slice A0_3 l0_3.length c0_3) l0_3 from Kd.V_mono hs0_3 (fun k_ hk => .inl (.inr (.inr (.inl hk)))))
 have HO0_5 := xy (show Kd.V k50 50 w w.heap.size (fun k_ => ((P0_1_ k_ ∨ P0_2_ k_ ∨ P0_3_ k_ ∨ P0_5_ k_) ∨ w.heap.size ≤ k_)) (.slice A0_5 l0_5.length c0_5) l0_5 from Kd.V_mono hs0_5 (fun k_ hk => .inl (.inr (.inr (.inr hk)))))
 have HB := xy (Below.refl w.heap.size w)
 unfold w18_plain.f at h
 have H := h
 clear h
 simp only [Option.some.injEq, Prod.mk.injEq] at H
 obtain ⟨rfl, rfl, rfl, rfl, rfl, rfl, rfl, rfl, rfl, rfl, rfl, rfl, rfl, rfl⟩ := H
 go_enter Tryz.func10, Tryz.ntmps10
 go_wp2_with (first | ((with_reducible refine gate_dst (N := 1) rfl ?_); refine xq (N := 1) (cs := #[.bool a0_0, .slice A0_1 l0_1.length c0_1, .slice A0_2 l0_2.length c0_2, .slice A0_3 l0_3.length c0_3, .int .i64 a0_4, .slice A0_5 l0_5.length c0_5, .bool a0_6, .int .i64 a0_7, .string a0_8, .bool a0_9, .int .i64 a0_10, .bool a0_11, .bool a0_12, .int .i64 a0_13]) (t := 26) ?_; intro gb294 hg w2 hbox hb; replace HO0_1 := xy (Kd.V_below (Kd.V_elderB (by (with_reducible repeat (first | apply Kd.V_alloc | apply Kd.V_drewN | apply Kd.V_drew)); exact HO0_1.out) gb294 (Nat.le_of_eq hg.symm)) hb); replace HO0_2 := xy (Kd.V_below (Kd.V_elderB (by (with_reducible repeat (first | apply Kd.V_alloc | apply Kd.V_drewN | apply Kd.V_drew)); exact HO0_2.out) gb294 (Nat.le_of_eq hg.symm)) hb); replace HO0_3 := xy (Kd.V_below (Kd.V_elderB (by (with_reducible repeat (first | apply Kd.V_alloc | apply Kd.V_drewN | apply Kd.V_drew)); exact HO0_3.out) gb294 (Nat.le_of_eq hg.symm)) hb); replace HO0_5 := xy (Kd.V_below (Kd.V_elderB (by (with_reducible repeat (first | apply Kd.V_alloc | apply Kd.V_drewN | apply Kd.V_drew)); exact HO0_5.out) gb294 (Nat.le_of_eq hg.symm)) hb); have BK294 := xy (hbox); have GW294 := xs w hg; have GE294 := xs w hg; replace HB := xy (below_step xb hb); clear hb hbox hg) | ((with_reducible refine gate_dst (N := 2) rfl ?_); refine xq (N := 2) (cs := #[.bool false, .slice none 0 0, .slice none 0 0, .slice none 0 0, .int .i64 0, .slice none 0 0, .bool false, .int .i64 0, .string (⟨#[]⟩ : ByteArray), .bool false, .int .i64 0, .bool false, .bool false, .int .i64 0]) (t := 35) ?_; intro gb295 hg w3 hbox hb; replace HO0_1 := xy (Kd.V_below (Kd.V_elderB (by (with_reducible repeat (first | apply Kd.V_alloc | apply Kd.V_drewN | apply Kd.V_drew)); exact HO0_1.out) gb295 (Nat.le_of_eq hg.symm)) hb); replace HO0_2 := xy (Kd.V_below (Kd.V_elderB (by (with_reducible repeat (first | apply Kd.V_alloc | apply Kd.V_drewN | apply Kd.V_drew)); exact HO0_2.out) gb295 (Nat.le_of_eq hg.symm)) hb); replace HO0_3 := xy (Kd.V_below (Kd.V_elderB (by (with_reducible repeat (first | apply Kd.V_alloc | apply Kd.V_drewN | apply Kd.V_drew)); exact HO0_3.out) gb295 (Nat.le_of_eq hg.symm)) hb); replace HO0_5 := xy (Kd.V_below (Kd.V_elderB (by (with_reducible repeat (first | apply Kd.V_alloc | apply Kd.V_drewN | apply Kd.V_drew)); exact HO0_5.out) gb295 (Nat.le_of_eq hg.symm)) hb); have BK295 := xy (hbox); have GW295 := xs w hg; have GE295 := xs w hg; replace HB := xy (below_step xb hb); have NB294_295 := xn hg BK294.out; have NB295_294 := xp hg BK294.out; replace BK294 := xd BK294.out hb; clear hb hbox hg; have hnb4 := NB294_295.out; have hnc4 := NB295_294.out; have hcz5_0 : w3.cell? ⟨gb294, 0, none⟩ = some (.bool a0_0) := (kc BK294.out 0).trans rfl; have hcz5_1 : w3.cell? ⟨gb294, 1, none⟩ = some (.slice A0_1 l0_1.length c0_1) := (kc BK294.out 1).trans rfl; have hcz5_2 : w3.cell? ⟨gb294, 2, none⟩ = some (.slice A0_2 l0_2.length c0_2) := (kc BK294.out 2).trans rfl; have hcz5_3 : w3.cell? ⟨gb294, 3, none⟩ = some (.slice A0_3 l0_3.length c0_3) := (kc BK294.out 3).trans rfl; have hcz5_4 : w3.cell? ⟨gb294, 4, none⟩ = some (.int .i64 a0_4) := (kc BK294.out 4).trans rfl; have hcz5_5 : w3.cell? ⟨gb294, 5, none⟩ = some (.slice A0_5 l0_5.length c0_5) := (kc BK294.out 5).trans rfl; have hcz5_6 : w3.cell? ⟨gb294, 6, none⟩ = some (.bool a0_6) := (kc BK294.out 6).trans rfl; have hcz5_7 : w3.cell? ⟨gb294, 7, none⟩ = some (.int .i64 a0_7) := (kc BK294.out 7).trans rfl; have hcz5_8 : w3.cell? ⟨gb294, 8, none⟩ = some (.string a0_8) := (kc BK294.out 8).trans rfl; have hcz5_9 : w3.cell? ⟨gb294, 9, none⟩ = some (.bool a0_9) := (kc BK294.out 9).trans rfl; have hcz5_10 : w3.cell? ⟨gb294, 10, none⟩ = some (.int .i64 a0_10) := (kc BK294.out 10).trans rfl; have hcz5_11 : w3.cell? ⟨gb294, 11, none⟩ = some (.bool a0_11) := (kc BK294.out 11).trans rfl; have hcz5_12 : w3.cell? ⟨gb294, 12, none⟩ = some (.bool a0_12) := (kc BK294.out 12).trans rfl; have hcz5_13 : w3.cell? ⟨gb294, 13, none⟩ = some (.int .i64 a0_13) := (kc BK294.out 13).trans rfl; have hfz5_0 := kf BK294.out 0; have hfz5_1 := kf BK294.out 1; have hfz5_2 := kf BK294.out 2; have hfz5_3 := kf BK294.out 3; have hfz5_4 := kf BK294.out 4; have hfz5_5 := kf BK294.out 5; have hfz5_6 := kf BK294.out 6; have hfz5_7 := kf BK294.out 7; have hfz5_8 := kf BK294.out 8; have hfz5_9 := kf BK294.out 9; have hfz5_10 := kf BK294.out 10; have hfz5_11 := kf BK294.out 11; have hfz5_12 := kf BK294.out 12; have hfz5_13 := kf BK294.out 13; have hcz6_0 : w3.cell? ⟨gb295, 0, none⟩ = some (.bool false) := (kc BK295.out 0).trans rfl; have hcz6_1 : w3.cell? ⟨gb295, 1, none⟩ = some (.slice none 0 0) := (kc BK295.out 1).trans rfl; have hcz6_2 : w3.cell? ⟨gb295, 2, none⟩ = some (.slice none 0 0) := (kc BK295.out 2).trans rfl; have hcz6_3 : w3.cell? ⟨gb295, 3, none⟩ = some (.slice none 0 0) := (kc BK295.out 3).trans rfl; have hcz6_4 : w3.cell? ⟨gb295, 4, none⟩ = some (.int .i64 0) := (kc BK295.out 4).trans rfl; have hcz6_5 : w3.cell? ⟨gb295, 5, none⟩ = some (.slice none 0 0) := (kc BK295.out 5).trans rfl; have hcz6_6 : w3.cell? ⟨gb295, 6, none⟩ = some (.bool false) := (kc BK295.out 6).trans rfl; have hcz6_7 : w3.cell? ⟨gb295, 7, none⟩ = some (.int .i64 0) := (kc BK295.out 7).trans rfl; have hcz6_8 : w3.cell? ⟨gb295, 8, none⟩ = some (.string (⟨#[]⟩ : ByteArray)) := (kc BK295.out 8).trans rfl; have hcz6_9 : w3.cell? ⟨gb295, 9, none⟩ = some (.bool false) := (kc BK295.out 9).trans rfl; have hcz6_10 : w3.cell? ⟨gb295, 10, none⟩ = some (.int .i64 0) := (kc BK295.out 10).trans rfl; have hcz6_11 : w3.cell? ⟨gb295, 11, none⟩ = some (.bool false) := (kc BK295.out 11).trans rfl; have hcz6_12 : w3.cell? ⟨gb295, 12, none⟩ = some (.bool false) := (kc BK295.out 12).trans rfl; have hcz6_13 : w3.cell? ⟨gb295, 13, none⟩ = some (.int .i64 0) := (kc BK295.out 13).trans rfl; have hfz6_0 := kf BK295.out 0; have hfz6_1 := kf BK295.out 1; have hfz6_2 := kf BK295.out 2; have hfz6_3 := kf BK295.out 3; have hfz6_4 := kf BK295.out 4; have hfz6_5 := kf BK295.out 5; have hfz6_6 := kf BK295.out 6; have hfz6_7 := kf BK295.out 7; have hfz6_8 := kf BK295.out 8; have hfz6_9 := kf BK295.out 9; have hfz6_10 := kf BK295.out 10; have hfz6_11 := kf BK295.out 11; have hfz6_12 := kf BK295.out 12; have hfz6_13 := kf BK295.out 13))
 refine bodyPost_ret (results_cell_row rfl _ _ gb295 35 #[.bool a0_0, .slice A0_1 l0_1.length c0_1, .slice A0_2 l0_2.length c0_2, .slice A0_3 l0_3.length c0_3, .int .i64 a0_4, .slice A0_5 l0_5.length c0_5, .bool a0_6, .int .i64 a0_7, .string a0_8, .bool a0_9, .int .i64 a0_10, .bool a0_11, .bool a0_12, .int .i64 a0_13] (0, 0) _ rfl (by (with_reducible repeat (first | refine blk_drewN ?_ _ | refine blk_drew ?_ | refine blk_alloc ?_ _)); refine blk_put (cs := #[.bool a0_0, .slice A0_1 l0_1.length c0_1, .slice A0_2 l0_2.length c0_2, .slice A0_3 l0_3.length c0_3, .int .i64 a0_4, .slice A0_5 l0_5.length c0_5, .bool a0_6, .int .i64 a0_7, .string a0_8, .bool a0_9, .int .i64 a0_10, .bool a0_11, .bool a0_12, .int .i64 0]) ?_ 13 _ rfl; (with_reducible repeat (first | refine blk_drewN ?_ _ | refine blk_drew ?_ | refine blk_alloc ?_ _)); refine blk_put (cs := #[.bool a0_0, .slice A0_1 l0_1.length c0_1, .slice A0_2 l0_2.length c0_2, .slice A0_3 l0_3.length c0_3, .int .i64 a0_4, .slice A0_5 l0_5.length c0_5, .bool a0_6, .int .i64 a0_7, .string a0_8, .bool a0_9, .int .i64 a0_10, .bool a0_11, .bool false, .int .i64 0]) ?_ 12 _ rfl; (with_reducible repeat (first | refine blk_drewN ?_ _ | refine blk_drew ?_ | refine blk_alloc ?_ _)); refine blk_put (cs := #[.bool a0_0, .slice A0_1 l0_1.length c0_1, .slice A0_2 l0_2.length c0_2, .slice A0_3 l0_3.length c0_3, .int .i64 a0_4, .slice A0_5 l0_5.length c0_5, .bool a0_6, .int .i64 a0_7, .string a0_8, .bool a0_9, .int .i64 a0_10, .bool false, .bool false, .int .i64 0]) ?_ 11 _ rfl; (with_reducible repeat (first | refine blk_drewN ?_ _ | refine blk_drew ?_ | refine blk_alloc ?_ _)); refine blk_put (cs := #[.bool a0_0, .slice A0_1 l0_1.length c0_1, .slice A0_2 l0_2.length c0_2, .slice A0_3 l0_3.length c0_3, .int .i64 a0_4, .slice A0_5 l0_5.length c0_5, .bool a0_6, .int .i64 a0_7, .string a0_8, .bool a0_9, .int .i64 0, .bool false, .bool false, .int .i64 0]) ?_ 10 _ rfl; (with_reducible repeat (first | refine blk_drewN ?_ _ | refine blk_drew ?_ | refine blk_alloc ?_ _)); refine blk_put (cs := #[.bool a0_0, .slice A0_1 l0_1.length c0_1, .slice A0_2 l0_2.length c0_2, .slice A0_3 l0_3.length c0_3, .int .i64 a0_4, .slice A0_5 l0_5.length c0_5, .bool a0_6, .int .i64 a0_7, .string a0_8, .bool false, .int .i64 0, .bool false, .bool false, .int .i64 0]) ?_ 9 _ rfl; (with_reducible repeat (first | refine blk_drewN ?_ _ | refine blk_drew ?_ | refine blk_alloc ?_ _)); refine blk_put (cs := #[.bool a0_0, .slice A0_1 l0_1.length c0_1, .slice A0_2 l0_2.length c0_2, .slice A0_3 l0_3.length c0_3, .int .i64 a0_4, .slice A0_5 l0_5.length c0_5, .bool a0_6, .int .i64 a0_7, .string (⟨#[]⟩ : ByteArray), .bool false, .int .i64 0, .bool false, .bool false, .int .i64 0]) ?_ 8 _ rfl; (with_reducible repeat (first | refine blk_drewN ?_ _ | refine blk_drew ?_ | refine blk_alloc ?_ _)); refine blk_put (cs := #[.bool a0_0, .slice A0_1 l0_1.length c0_1, .slice A0_2 l0_2.length c0_2, .slice A0_3 l0_3.length c0_3, .int .i64 a0_4, .slice A0_5 l0_5.length c0_5, .bool a0_6, .int .i64 0, .string (⟨#[]⟩ : ByteArray), .bool false, .int .i64 0, .bool false, .bool false, .int .i64 0]) ?_ 7 _ rfl; (with_reducible repeat (first | refine blk_drewN ?_ _ | refine blk_drew ?_ | refine blk_alloc ?_ _)); refine blk_put (cs := #[.bool a0_0, .slice A0_1 l0_1.length c0_1, .slice A0_2 l0_2.length c0_2, .slice A0_3 l0_3.length c0_3, .int .i64 a0_4, .slice A0_5 l0_5.length c0_5, .bool false, .int .i64 0, .string (⟨#[]⟩ : ByteArray), .bool false, .int .i64 0, .bool false, .bool false, .int .i64 0]) ?_ 6 _ rfl; (with_reducible repeat (first | refine blk_drewN ?_ _ | refine blk_drew ?_ | refine blk_alloc ?_ _)); refine blk_put (cs := #[.bool a0_0, .slice A0_1 l0_1.length c0_1, .slice A0_2 l0_2.length c0_2, .slice A0_3 l0_3.length c0_3, .int .i64 a0_4, .slice none 0 0, .bool false, .int .i64 0, .string (⟨#[]⟩ : ByteArray), .bool false, .int .i64 0, .bool false, .bool false, .int .i64 0]) ?_ 5 _ rfl; (with_reducible repeat (first | refine blk_drewN ?_ _ | refine blk_drew ?_ | refine blk_alloc ?_ _)); refine blk_put (cs := #[.bool a0_0, .slice A0_1 l0_1.length c0_1, .slice A0_2 l0_2.length c0_2, .slice A0_3 l0_3.length c0_3, .int .i64 0, .slice none 0 0, .bool false, .int .i64 0, .string (⟨#[]⟩ : ByteArray), .bool false, .int .i64 0, .bool false, .bool false, .int .i64 0]) ?_ 4 _ rfl; (with_reducible repeat (first | refine blk_drewN ?_ _ | refine blk_drew ?_ | refine blk_alloc ?_ _)); refine blk_put (cs := #[.bool a0_0, .slice A0_1 l0_1.length c0_1, .slice A0_2 l0_2.length c0_2, .slice none 0 0, .int .i64 0, .slice none 0 0, .bool false, .int .i64 0, .string (⟨#[]⟩ : ByteArray), .bool false, .int .i64 0, .bool false, .bool false, .int .i64 0]) ?_ 3 _ rfl; (with_reducible repeat (first | refine blk_drewN ?_ _ | refine blk_drew ?_ | refine blk_alloc ?_ _)); refine blk_put (cs := #[.bool a0_0, .slice A0_1 l0_1.length c0_1, .slice none 0 0, .slice none 0 0, .int .i64 0, .slice none 0 0, .bool false, .int .i64 0, .string (⟨#[]⟩ : ByteArray), .bool false, .int .i64 0, .bool false, .bool false, .int .i64 0]) ?_ 2 _ rfl; (with_reducible repeat (first | refine blk_drewN ?_ _ | refine blk_drew ?_ | refine blk_alloc ?_ _)); refine blk_put (cs := #[.bool a0_0, .slice none 0 0, .slice none 0 0, .slice none 0 0, .int .i64 0, .slice none 0 0, .bool false, .int .i64 0, .string (⟨#[]⟩ : ByteArray), .bool false, .int .i64 0, .bool false, .bool false, .int .i64 0]) ?_ 1 _ rfl; (with_reducible repeat (first | refine blk_drewN ?_ _ | refine blk_drew ?_ | refine blk_alloc ?_ _)); refine blk_put (cs := #[.bool false, .slice none 0 0, .slice none 0 0, .slice none 0 0, .int .i64 0, .slice none 0 0, .bool false, .int .i64 0, .string (⟨#[]⟩ : ByteArray), .bool false, .int .i64 0, .bool false, .bool false, .int .i64 0]) ?_ 0 _ rfl; (with_reducible repeat (first | refine blk_drewN ?_ _ | refine blk_drew ?_ | refine blk_alloc ?_ _)); exact BK295.out) Tryz.underlying35 rfl (by kernel_rfl)) rfl ?_
 exact ⟨_, _, _, _, by first | rfl | (simp [errW_none, errW_some] <;> rfl) | (simp [*, errW_none, errW_some] <;> rfl), by (with_reducible repeat (first | apply Kd.V_alloc | apply Kd.V_drewN | apply Kd.V_drew)); exact Kd.V_mono (Kd.V_far (p := ⟨gb295, 13, none⟩) (Kd.V_far (p := ⟨gb295, 12, none⟩) (Kd.V_far (p := ⟨gb295, 11, none⟩) (Kd.V_far (p := ⟨gb295, 10, none⟩) (Kd.V_far (p := ⟨gb295, 9, none⟩) (Kd.V_far (p := ⟨gb295, 8, none⟩) (Kd.V_far (p := ⟨gb295, 7, none⟩) (Kd.V_far (p := ⟨gb295, 6, none⟩) (Kd.V_far (p := ⟨gb295, 5, none⟩) (Kd.V_far (p := ⟨gb295, 4, none⟩) (Kd.V_far (p := ⟨gb295, 3, none⟩) (Kd.V_far (p := ⟨gb295, 2, none⟩) (Kd.V_far (p := ⟨gb295, 1, none⟩) (Kd.V_far (p := ⟨gb295, 0, none⟩) (Kd.V_mono HO0_1.out (fun k_ hk => (⟨hk, hk.2⟩ : _ ∧ k_ ≠ gb295))) (fun _ hk => hk.2) (.bool a0_0)) (fun _ hk => hk.2) (.slice A0_1 l0_1.length c0_1)) (fun _ hk => hk.2) (.slice A0_2 l0_2.length c0_2)) (fun _ hk => hk.2) (.slice A0_3 l0_3.length c0_3)) (fun _ hk => hk.2) (.int .i64 a0_4)) (fun _ hk => hk.2) (.slice A0_5 l0_5.length c0_5)) (fun _ hk => hk.2) (.bool a0_6)) (fun _ hk => hk.2) (.int .i64 a0_7)) (fun _ hk => hk.2) (.string a0_8)) (fun _ hk => hk.2) (.bool a0_9)) (fun _ hk => hk.2) (.int .i64 a0_10)) (fun _ hk => hk.2) (.bool a0_11)) (fun _ hk => hk.2) (.bool a0_12)) (fun _ hk => hk.2) (.int .i64 a0_13)) (fun _ hk => hk.1.1.1), by (with_reducible repeat (first | apply Kd.V_alloc | apply Kd.V_drewN | apply Kd.V_drew)); exact Kd.V_mono (Kd.V_far (p := ⟨gb295, 13, none⟩) (Kd.V_far (p := ⟨gb295, 12, none⟩) (Kd.V_far (p := ⟨gb295, 11, none⟩) (Kd.V_far (p := ⟨gb295, 10, none⟩) (Kd.V_far (p := ⟨gb295, 9, none⟩) (Kd.V_far (p := ⟨gb295, 8, none⟩) (Kd.V_far (p := ⟨gb295, 7, none⟩) (Kd.V_far (p := ⟨gb295, 6, none⟩) (Kd.V_far (p := ⟨gb295, 5, none⟩) (Kd.V_far (p := ⟨gb295, 4, none⟩) (Kd.V_far (p := ⟨gb295, 3, none⟩) (Kd.V_far (p := ⟨gb295, 2, none⟩) (Kd.V_far (p := ⟨gb295, 1, none⟩) (Kd.V_far (p := ⟨gb295, 0, none⟩) (Kd.V_mono HO0_2.out (fun k_ hk => (⟨hk, hk.2⟩ : _ ∧ k_ ≠ gb295))) (fun _ hk => hk.2) (.bool a0_0)) (fun _ hk => hk.2) (.slice A0_1 l0_1.length c0_1)) (fun _ hk => hk.2) (.slice A0_2 l0_2.length c0_2)) (fun _ hk => hk.2) (.slice A0_3 l0_3.length c0_3)) (fun _ hk => hk.2) (.int .i64 a0_4)) (fun _ hk => hk.2) (.slice A0_5 l0_5.length c0_5)) (fun _ hk => hk.2) (.bool a0_6)) (fun _ hk => hk.2) (.int .i64 a0_7)) (fun _ hk => hk.2) (.string a0_8)) (fun _ hk => hk.2) (.bool a0_9)) (fun _ hk => hk.2) (.int .i64 a0_10)) (fun _ hk => hk.2) (.bool a0_11)) (fun _ hk => hk.2) (.bool a0_12)) (fun _ hk => hk.2) (.int .i64 a0_13)) (fun _ hk => hk.1.1.1), by (with_reducible repeat (first | apply Kd.V_alloc | apply Kd.V_drewN | apply Kd.V_drew)); exact Kd.V_mono (Kd.V_far (p := ⟨gb295, 13, none⟩) (Kd.V_far (p := ⟨gb295, 12, none⟩) (Kd.V_far (p := ⟨gb295, 11, none⟩) (Kd.V_far (p := ⟨gb295, 10, none⟩) (Kd.V_far (p := ⟨gb295, 9, none⟩) (Kd.V_far (p := ⟨gb295, 8, none⟩) (Kd.V_far (p := ⟨gb295, 7, none⟩) (Kd.V_far (p := ⟨gb295, 6, none⟩) (Kd.V_far (p := ⟨gb295, 5, none⟩) (Kd.V_far (p := ⟨gb295, 4, none⟩) (Kd.V_far (p := ⟨gb295, 3, none⟩) (Kd.V_far (p := ⟨gb295, 2, none⟩) (Kd.V_far (p := ⟨gb295, 1, none⟩) (Kd.V_far (p := ⟨gb295, 0, none⟩) (Kd.V_mono HO0_3.out (fun k_ hk => (⟨hk, hk.2⟩ : _ ∧ k_ ≠ gb295))) (fun _ hk => hk.2) (.bool a0_0)) (fun _ hk => hk.2) (.slice A0_1 l0_1.length c0_1)) (fun _ hk => hk.2) (.slice A0_2 l0_2.length c0_2)) (fun _ hk => hk.2) (.slice A0_3 l0_3.length c0_3)) (fun _ hk => hk.2) (.int .i64 a0_4)) (fun _ hk => hk.2) (.slice A0_5 l0_5.length c0_5)) (fun _ hk => hk.2) (.bool a0_6)) (fun _ hk => hk.2) (.int .i64 a0_7)) (fun _ hk => hk.2) (.string a0_8)) (fun _ hk => hk.2) (.bool a0_9)) (fun _ hk => hk.2) (.int .i64 a0_10)) (fun _ hk => hk.2) (.bool a0_11)) (fun _ hk => hk.2) (.bool a0_12)) (fun _ hk => hk.2) (.int .i64 a0_13)) (fun _ hk => hk.1.1.1), by (with_reducible repeat (first | apply Kd.V_alloc | apply Kd.V_drewN | apply Kd.V_drew)); exact Kd.V_mono (Kd.V_far (p := ⟨gb295, 13, none⟩) (Kd.V_far (p := ⟨gb295, 12, none⟩) (Kd.V_far (p := ⟨gb295, 11, none⟩) (Kd.V_far (p := ⟨gb295, 10, none⟩) (Kd.V_far (p := ⟨gb295, 9, none⟩) (Kd.V_far (p := ⟨gb295, 8, none⟩) (Kd.V_far (p := ⟨gb295, 7, none⟩) (Kd.V_far (p := ⟨gb295, 6, none⟩) (Kd.V_far (p := ⟨gb295, 5, none⟩) (Kd.V_far (p := ⟨gb295, 4, none⟩) (Kd.V_far (p := ⟨gb295, 3, none⟩) (Kd.V_far (p := ⟨gb295, 2, none⟩) (Kd.V_far (p := ⟨gb295, 1, none⟩) (Kd.V_far (p := ⟨gb295, 0, none⟩) (Kd.V_mono HO0_5.out (fun k_ hk => (⟨hk, hk.2⟩ : _ ∧ k_ ≠ gb295))) (fun _ hk => hk.2) (.bool a0_0)) (fun _ hk => hk.2) (.slice A0_1 l0_1.length c0_1)) (fun _ hk => hk.2) (.slice A0_2 l0_2.length c0_2)) (fun _ hk => hk.2) (.slice A0_3 l0_3.length c0_3)) (fun _ hk => hk.2) (.int .i64 a0_4)) (fun _ hk => hk.2) (.slice A0_5 l0_5.length c0_5)) (fun _ hk => hk.2) (.bool a0_6)) (fun _ hk => hk.2) (.int .i64 a0_7)) (fun _ hk => hk.2) (.string a0_8)) (fun _ hk => hk.2) (.bool a0_9)) (fun _ hk => hk.2) (.int .i64 a0_10)) (fun _ hk => hk.2) (.bool a0_11)) (fun _ hk => hk.2) (.bool a0_12)) (fun _ hk => hk.2) (.int .i64 a0_13)) (fun _ hk => hk.1.1.1), xb⟩
def w18_items.l0 : Nat → List (S55) → List (S58) → Int → Option ((List (S58)))
 | 0, _, _, _ => none
 | k + 1, x0, x3, x4 => if x4 < (x0.length : Int) then (if 0 ≤ x4 then (if x3.length < 2932031007402 then (w18_items.l0 k x0 (x3 ++ [(⟨(rd_T55 x0 x4).f0, (⟨(rd_T55 x0 x4).f1.f0, (rd_T55 x0 x4).f1.f1, (rd_T55 x0 x4).f1.f2⟩ : S24)⟩ : S58)]) (wrap64 (x4 + 1))) else (none)) else (none)) else (some x3)
def w18_items.f (k : Nat) (l0 : List (S55)) : Option ((List (S58))) := w18_items.l0 k l0 (([] : List (S58))) 0
theorem w18_items.mono_l : ∀ k, (∀ y0 y1 y2, LeO (w18_items.l0 k y0 y1 y2) (w18_items.l0 (k + 1) y0 y1 y2))
 | 0 => fun _ _ _ r h => by simp [w18_items.l0] at h
 | k + 1 => by
  have ih0 := w18_items.mono_l k
  ·intro y0 y1 y2
   unfold w18_items.l0
   repeat' (with_reducible first | exact ih0 _ _ _ | exact LeO.refl _ | exact LeO.none _ | refine LeO.ite ?_ ?_ | refine LeO.bind ?_ (fun _ => ?_))
theorem w18_items.mono : ∀ a0 k, LeO (w18_items.f k a0) (w18_items.f (k + 1) a0) := by
 intro a0 k
 have ih0 := w18_items.mono_l k
 unfold w18_items.f
 repeat' (with_reducible first | exact ih0 _ _ _ | exact LeO.refl _ | exact LeO.none _ | refine LeO.ite ?_ ?_ | refine LeO.bind ?_ (fun _ => ?_))
def w18_items.T5 : Bool × List (List Nat × List Nat) := (true, [([], []), ([], []), ([], []), ([1, 2], [1, 2]), ([3], [3]), ([4], [4]), ([], []), ([], []), ([6, 7], [6, 7]), ([8], [8]), ([9], [9]), ([5, 10], [5, 10]), ([11], [11]), ([0, 12], [0, 12]), ([13, 13, 0, 1, 2, 3, 4, 5, 6, 7, 8, 9, 10, 11, 12, 13], [0, 13])])
def w18_items.B5 : List Nat := [0, 0, 0, 6, 14, 30, 0, 0, 192, 448, 960, 2046, 4094, 8191, 16383]
theorem w18_items.tab5 : rtab .any (opsOf Tryz.f11 5) = w18_items.T5 := by kernel_rfl
theorem w18_items.bits5 : waitsOk w18_items.T5.2 w18_items.B5 = true := by kernel_rfl
set_option maxHeartbeats 8000000 in
set_option maxRecDepth 100000 in
theorem w18_items.calls (k : Nat) (A0 : Option Addr) (c0 : Nat) (l0 : List (S55)) (r : List (S58)) (w : World) (hT : Tabs w) (hr0 : Kd.C k55 w A0 l0.length l0) (hc0 : l0.length ≤ c0) (h : w18_items.f k l0 = some r) :
  Calls Tryz.prog 11 #[.slice A0 l0.length c0] w fun e w' => ∃ v0_ : Value, e = .returned (v0_) ∧ Kd.R k58 58 w' w.heap.size (fun _ => True) v0_ r ∧ Below w.heap.size w w' := by
 have hu24 := Tryz.underlying24
 have hu58 := Tryz.underlying58
 have HR0 := xy hr0
 have HC0 := xy hc0
 clear hr0 hc0
 have HB := xy (Below.refl w.heap.size w)
 unfold w18_items.f at h
 have H := h
 clear h
 obtain ⟨y296, hy296⟩ : ∃ y_ : List (S58), y_ = (([] : List (S58))) := ⟨_, rfl⟩
 replace H : (w18_items.l0 k l0 y296 0) = some r := by first | (rw [hy296]; with_reducible exact H) | (have H2_ := (Option.bind_some _ _).symm.trans H; rw [hy296]; with_reducible exact H2_) | (have H2_ := (Option.bind_some _ _).symm.trans H; with_reducible exact H2_) | with_reducible exact H | (rw [hy296]; exact H) | exact H
 have Ny296 := xy hy296
 clear hy296
 have H' := xy H
 clear H
 go_enter Tryz.func11, Tryz.ntmps11
 go_wp2_with (first | ((with_reducible refine gate_dst (N := 5) rfl ?_); refine Kd.R_lit k58 _ 58 ?hg (N := 5) ?hd (xs := ([] : List (S58))) (inner := []) (ok := fun _ => True) (okp := fun _ => True) ?hr ?hp (fun _ hk => hk) trivial (Below.refl _ _) (Nat.le_refl _) (by simp) ?_; (case hd => rfl); (case hg => rfl); (case hr => exact xh); (case hp => exact (Reps.none _ _)); intro v297 w2 ho3 hb hg_ hnew_; clear hg_ hnew_; (first | rw [← Ny296.out] at ho3 | (simp only [Int.reduceToNat] at ho3; rw [← Ny296.out] at ho3)); have HO298 := xy (Kd.R_lower ho3 (below_size xb)); replace HB := xy (below_step xb hb); clear hb ho3))
 go_loopg [3, 4] k (fun kq v3 v4 w' => ∃ (x3_1 : List (S58)) (x4_1 : Int), v4 = .int .i64 x4_1 ∧ Aside0 (w18_items.l0 kq l0 x3_1 x4_1 = some r) ∧ Aside0 (kq ≤ k) ∧ Aside0 (Kd.R k58 58 w' w.heap.size (fun _ => True) v3 x3_1) ∧ Aside0 (Below w.heap.size w w'))
 case atStart => exact ⟨(y296), (0), xg, H', ⟨Nat.le_refl _⟩, ⟨by (with_reducible repeat (first | apply Kd.R_alloc | apply Kd.R_drewN | apply Kd.R_drew)); exact HO298.out⟩, ⟨xb⟩⟩
 case round =>
  clear H'
  try clear c1
  try clear p2
  obtain ⟨x3_1, x4_1, rfl, HA, HK1, HO_3, HB⟩ := hrel
  cases gk with
  | zero => exact absurd HA.out (by simp [w18_items.l0])
  | succ k1 =>
   have H := HA.out
   clear HA
   simp only [w18_items.l0] at H
   by_cases c4 : x4_1 < (l0.length : Int)
   ·rw [if_pos c4] at H
    have c4b0 : decide (x4_1 < (l0.length : Int)) = true := decide_eq_true c4
    clear c4
    by_cases c5 : 0 ≤ x4_1
    ·rw [if_pos c5] at H
     have c5b0 : decide (0 ≤ x4_1) = true := decide_eq_true c5
     clear c5
     by_cases c6 : x3_1.length < 2932031007402
     ·rw [if_pos c6] at H
      have LMc6 := xy c6
      clear c6
      obtain ⟨y301, hy301⟩ : ∃ y_ : List (S58), y_ = (x3_1 ++ [(⟨(rd_T55 l0 x4_1).f0, (⟨(rd_T55 l0 x4_1).f1.f0, (rd_T55 l0 x4_1).f1.f1, (rd_T55 l0 x4_1).f1.f2⟩ : S24)⟩ : S58)]) := ⟨_, rfl⟩
      replace H : (w18_items.l0 k1 l0 y301 (wrap64 (x4_1 + 1))) = some r := by first | (rw [hy301]; with_reducible exact H) | (have H2_ := (Option.bind_some _ _).symm.trans H; rw [hy301]; with_reducible exact H2_) | (have H2_ := (Option.bind_some _ _).symm.trans H; with_reducible exact H2_) | with_reducible exact H | (rw [hy301]; exact H) | exact H
      have Ny301 := xy hy301
      clear hy301
      have H' := xy H
      clear H
      try go_wp2
      replace HO_3 := xy (Kd.R_drew HO_3.out)
      replace HB := xy (below_drew1 HB.out)
      have p299 : 0 ≤ (x4_1 : Int) := xi
      have q299 : x4_1 < (l0.length : Int) := xi
      obtain ⟨ad299, e299, hx299_0, hx299_1, hx299_2, hx299_3⟩ := at_T55 HR0.out x4_1 p299 q299
      have hw299_3 := hx299_3
      have hw299_2 := hx299_2
      have hw299_1 := hx299_1
      have hw299_0 := hx299_0
      cases e299
      replace hx299_0 := (HB.out.cell (World.block_lt_of_cell? w _ hx299_0)).trans hx299_0
      replace hx299_1 := (HB.out.cell (World.block_lt_of_cell? w _ hx299_1)).trans hx299_1
      replace hx299_2 := (HB.out.cell (World.block_lt_of_cell? w _ hx299_2)).trans hx299_2
      replace hx299_3 := (HB.out.cell (World.block_lt_of_cell? w _ hx299_3)).trans hx299_3
      replace p299 := eq_true p299
      replace q299 := eq_true q299
      have p300 : 0 ≤ (x4_1 : Int) := xi
      have q300 : x4_1 < (l0.length : Int) := xi
      obtain ⟨ad300, e300, hx300_0, hx300_1, hx300_2, hx300_3⟩ := at_T55 HR0.out x4_1 p300 q300
      have hw300_3 := hx300_3
      have hw300_2 := hx300_2
      have hw300_1 := hx300_1
      have hw300_0 := hx300_0
      obtain rfl : ad299 = ad300 := (by injection e300)
      replace hx300_0 := (HB.out.cell (World.block_lt_of_cell? w _ hx300_0)).trans hx300_0
      replace hx300_1 := (HB.out.cell (World.block_lt_of_cell? w _ hx300_1)).trans hx300_1
      replace hx300_2 := (HB.out.cell (World.block_lt_of_cell? w _ hx300_2)).trans hx300_2
      replace hx300_3 := (HB.out.cell (World.block_lt_of_cell? w _ hx300_3)).trans hx300_3
      replace p300 := eq_true p300
      replace q300 := eq_true q300
      refine start_ (n := 15) (S := fun w' => w'.cell? (ad299.add ((x4_1).toNat * 4)) = some (.string ((rd_T55 l0 x4_1).f0)) ∧ w'.cell? ⟨(ad299.add ((x4_1).toNat * 4)).block, (ad299.add ((x4_1).toNat * 4)).off + 1, none⟩ = some (.bool ((rd_T55 l0 x4_1).f1.f0)) ∧ w'.cell? ⟨(ad299.add ((x4_1).toNat * 4)).block, (ad299.add ((x4_1).toNat * 4)).off + 2, none⟩ = some (.int .i64 ((rd_T55 l0 x4_1).f1.f1)) ∧ w'.cell? ⟨(ad299.add ((x4_1).toNat * 4)).block, (ad299.add ((x4_1).toNat * 4)).off + 3, none⟩ = some (.string ((rd_T55 l0 x4_1).f1.f2)) ∧ w'.cell? (ad299.add ((x4_1).toNat * 4)) = some (.string ((rd_T55 l0 x4_1).f0)) ∧ w'.cell? ⟨(ad299.add ((x4_1).toNat * 4)).block, (ad299.add ((x4_1).toNat * 4)).off + 1, none⟩ = some (.bool ((rd_T55 l0 x4_1).f1.f0)) ∧ w'.cell? ⟨(ad299.add ((x4_1).toNat * 4)).block, (ad299.add ((x4_1).toNat * 4)).off + 2, none⟩ = some (.int .i64 ((rd_T55 l0 x4_1).f1.f1)) ∧ w'.cell? ⟨(ad299.add ((x4_1).toNat * 4)).block, (ad299.add ((x4_1).toNat * 4)).off + 3, none⟩ = some (.string ((rd_T55 l0 x4_1).f1.f2))) (ds := []) #[false, false, false, false, false, false, false, false, false, false, false, false, false, false, false] (by kernel_rfl) rfl rfl ⟨((HB.out.cell (World.block_lt_of_cell? w _ hw299_0)).trans hw299_0), ((HB.out.cell (World.block_lt_of_cell? w _ hw299_1)).trans hw299_1), ((HB.out.cell (World.block_lt_of_cell? w _ hw299_2)).trans hw299_2), ((HB.out.cell (World.block_lt_of_cell? w _ hw299_3)).trans hw299_3), ((HB.out.cell (World.block_lt_of_cell? w _ hw300_0)).trans hw300_0), ((HB.out.cell (World.block_lt_of_cell? w _ hw300_1)).trans hw300_1), ((HB.out.cell (World.block_lt_of_cell? w _ hw300_2)).trans hw300_2), ((HB.out.cell (World.block_lt_of_cell? w _ hw300_3)).trans hw300_3)⟩ (fun hHeld => ?_); refine with_tabW w18_items.tab5 w18_items.bits5 (fun HT_ HW_ => ?_)
      generalize wr.drew = w7 at HO_3 HB hx299_0 hx299_1 hx299_2 hx299_3 hx300_0 hx300_1 hx300_2 hx300_3 hHeld ⊢
      refine yz 0 (some 12) (bs 15 1) HT_.out (h := ?_)
      refine yz 1 (some 13) (bs 15 3) HT_.out (h := ?_)
      refine yz 2 (some 14) (bs 15 7) HT_.out (h := ?_)
      refine yz 3 (some 15) (bs 15 15) HT_.out (h := ?_)
      refine yz 4 (some 16) (bs 15 31) HT_.out (h := ?_)
      refine yz 6 (some 18) (bs 15 95) HT_.out (h := ?_)
      refine yz 7 (some 19) (bs 15 223) HT_.out (h := ?_)
      refine yz 8 (some 20) (bs 15 479) HT_.out (h := ?_)
      refine yz 9 (some 21) (bs 15 991) HT_.out (h := ?_)
      refine yt 5 (some 17) (bs 15 1023) HT_.out HW_.out hHeld (h := ?_)
      refine yt 10 (some 22) (bs 15 2047) HT_.out HW_.out hHeld (h := ?_)
      refine yz 11 (some 23) (bs 15 4095) HT_.out (h := ?_)
      refine one_ (i := 12) (N := some 24) #[true, true, true, true, true, true, true, true, true, true, true, true, true, false, false] rfl rfl (one_of HT_.out (by kernel_rfl)) (by decide) (fun K hK => ?_)
      refine value_ (w1 := ?_) (v := ?_) (by rfl) rfl ?_ ?_
      rotate_left 2
      ·go_simp
       constructor
       ·rfl
       ·rfl
      refine hK.out _ _ ⟨(World.cell?_alloc_lt _ _ _ (World.block_lt_of_cell? _ _ (((HB.out.cell (World.block_lt_of_cell? w _ hw299_0)).trans hw299_0)))).trans (((HB.out.cell (World.block_lt_of_cell? w _ hw299_0)).trans hw299_0)), (World.cell?_alloc_lt _ _ _ (World.block_lt_of_cell? _ _ (((HB.out.cell (World.block_lt_of_cell? w _ hw299_1)).trans hw299_1)))).trans (((HB.out.cell (World.block_lt_of_cell? w _ hw299_1)).trans hw299_1)), (World.cell?_alloc_lt _ _ _ (World.block_lt_of_cell? _ _ (((HB.out.cell (World.block_lt_of_cell? w _ hw299_2)).trans hw299_2)))).trans (((HB.out.cell (World.block_lt_of_cell? w _ hw299_2)).trans hw299_2)), (World.cell?_alloc_lt _ _ _ (World.block_lt_of_cell? _ _ (((HB.out.cell (World.block_lt_of_cell? w _ hw299_3)).trans hw299_3)))).trans (((HB.out.cell (World.block_lt_of_cell? w _ hw299_3)).trans hw299_3)), (World.cell?_alloc_lt _ _ _ (World.block_lt_of_cell? _ _ (((HB.out.cell (World.block_lt_of_cell? w _ hw300_0)).trans hw300_0)))).trans (((HB.out.cell (World.block_lt_of_cell? w _ hw300_0)).trans hw300_0)), (World.cell?_alloc_lt _ _ _ (World.block_lt_of_cell? _ _ (((HB.out.cell (World.block_lt_of_cell? w _ hw300_1)).trans hw300_1)))).trans (((HB.out.cell (World.block_lt_of_cell? w _ hw300_1)).trans hw300_1)), (World.cell?_alloc_lt _ _ _ (World.block_lt_of_cell? _ _ (((HB.out.cell (World.block_lt_of_cell? w _ hw300_2)).trans hw300_2)))).trans (((HB.out.cell (World.block_lt_of_cell? w _ hw300_2)).trans hw300_2)), (World.cell?_alloc_lt _ _ _ (World.block_lt_of_cell? _ _ (((HB.out.cell (World.block_lt_of_cell? w _ hw300_3)).trans hw300_3)))).trans (((HB.out.cell (World.block_lt_of_cell? w _ hw300_3)).trans hw300_3))⟩ (fun hHeld => ?_)
      clear hK K
      refine norm_ (a' := ?_) ?_ ?_
      rotate_left
      ·show Act.put _ (some 24) _ = _
       simp only [Act.put, List.setIfInBounds_toArray, List.set_cons_zero, List.set_cons_succ, i64_w, i32_w]
       rfl
      refine one_ (i := 13) (N := some 25) #[true, true, true, true, true, true, true, true, true, true, true, true, true, true, false] rfl rfl (one_of HT_.out (by kernel_rfl)) (by decide) (fun K hK => ?_)
      refine Kd.R_append_step k58 (w0 := w) w.heap.size (by rfl) (.tmp 12) (.tmp 24) 37 58 (.agg #[(.string ⟨#[]⟩), (.bool false), (.int .i64 0), (.string ⟨#[]⟩)]) 48 rfl Tryz.underlying37 info58 rfl (by decide) (by omega) u3 x3_1 (⟨(rd_T55 l0 x4_1).f0, (⟨(rd_T55 l0 x4_1).f1.f0, (rd_T55 l0 x4_1).f1.f1, (rd_T55 l0 x4_1).f1.f2⟩ : S24)⟩ : S58) [.string ((rd_T55 l0 x4_1).f0), .bool ((rd_T55 l0 x4_1).f1.f0), .int .i64 ((rd_T55 l0 x4_1).f1.f1), .string ((rd_T55 l0 x4_1).f1.f2)] (fun _ => True) (fun _ => False) rfl rfl ?aP (fun _ hk => hk.elim) ?aF ?aO ?aB ?aS ?aL ?_
      (case aP => exact k58_mkM _ _ _ (⟨(rd_T55 l0 x4_1).f0, (⟨(rd_T55 l0 x4_1).f1.f0, (rd_T55 l0 x4_1).f1.f1, (rd_T55 l0 x4_1).f1.f2⟩ : S24)⟩ : S58))
      (case aB => exact xb)
      (case aF => exact (fun _ _ => trivial))
      (case aO => exact (xo HO_3.out))
      (case aS => exact (below_size xb))
      (case aL => have := LMc6.out; omega)
      intro v302 w8 ho hb hg hat
      rw [← Ny301.out] at ho
      replace HB := xy (hb)
      have HO303 := xy (ho)
      clear HO_3
      clear ho hb hg hat
      refine hK.out _ _ ⟨((HB.out.cell (World.block_lt_of_cell? w _ hw299_0)).trans hw299_0), ((HB.out.cell (World.block_lt_of_cell? w _ hw299_1)).trans hw299_1), ((HB.out.cell (World.block_lt_of_cell? w _ hw299_2)).trans hw299_2), ((HB.out.cell (World.block_lt_of_cell? w _ hw299_3)).trans hw299_3), ((HB.out.cell (World.block_lt_of_cell? w _ hw300_0)).trans hw300_0), ((HB.out.cell (World.block_lt_of_cell? w _ hw300_1)).trans hw300_1), ((HB.out.cell (World.block_lt_of_cell? w _ hw300_2)).trans hw300_2), ((HB.out.cell (World.block_lt_of_cell? w _ hw300_3)).trans hw300_3)⟩ (fun hHeld => ?_)
      clear hK K
      refine norm_ (a' := ?_) ?_ ?_
      rotate_left
      ·show Act.put _ (some 25) _ = _
       simp only [Act.put, List.setIfInBounds_toArray, List.set_cons_zero, List.set_cons_succ, i64_w, i32_w]
       rfl
      refine yz 14 (some 3) (bs 15 32767) HT_.out (h := ?_)
      refine done_ (done_of HT_.out (by kernel_rfl)) ?_
      try go_wp2
      go_roundg k1
      case measure => have := HK1.out; omega
      case rel => exact ⟨(y301), (wrap64 (x4_1 + 1)), xg, H', ⟨by have := HK1.out; omega⟩, ⟨by (with_reducible repeat (first | apply Kd.R_alloc | apply Kd.R_drewN | apply Kd.R_drew)); exact HO303.out⟩, ⟨xb⟩⟩
     ·rw [if_neg c6] at H
      exact absurd H (by simp)
    ·rw [if_neg c5] at H
     exact absurd H (by simp)
   ·rw [if_neg c4] at H
    have c4b0 : decide (x4_1 < (l0.length : Int)) = false := decide_eq_false c4
    clear c4
    obtain rfl := Option.some.inj H
    go_wp2
    go_ret
    exact ⟨_, by first | rfl | (simp [errW_none, errW_some] <;> rfl) | (simp [*, errW_none, errW_some] <;> rfl), by (with_reducible repeat (first | apply Kd.R_alloc | apply Kd.R_drewN | apply Kd.R_drew)); exact HO_3.out, xb⟩
def r18_Same.l0 : Nat → List (S58) → List (S58) → Int → Option (Bool)
 | 0, _, _, _ => none
 | k + 1, x0, x1, x5 => if x5 < (x0.length : Int) then (if 0 ≤ x5 then (if x5 < (x1.length : Int) then (if (!((((rd_T58 x0 x5).f0).toList) == (((rd_T58 x1 x5).f0).toList)) || ((!(((rd_T58 x0 x5).f1.f0) == ((rd_T58 x1 x5).f1.f0)) || (!(((rd_T58 x0 x5).f1.f1) == ((rd_T58 x1 x5).f1.f1)) || (!((((rd_T58 x0 x5).f1.f2).toList) == (((rd_T58 x1 x5).f1.f2).toList))))))) = true then (some false) else (r18_Same.l0 k x0 x1 (wrap64 (x5 + 1)))) else (none)) else (none)) else (some true)
def r18_Same.f (k : Nat) (l0 : List (S58)) (l1 : List (S58)) : Option (Bool) := if (l0.length : Int) = (l1.length : Int) then (r18_Same.l0 k l0 l1 0) else (some false)
theorem r18_Same.mono_l : ∀ k, (∀ y0 y1 y2, LeO (r18_Same.l0 k y0 y1 y2) (r18_Same.l0 (k + 1) y0 y1 y2))
 | 0 => fun _ _ _ r h => by simp [r18_Same.l0] at h
 | k + 1 => by
  have ih0 := r18_Same.mono_l k
  ·intro y0 y1 y2
   unfold r18_Same.l0
   repeat' (with_reducible first | exact ih0 _ _ _ | exact LeO.refl _ | exact LeO.none _ | refine LeO.ite ?_ ?_ | refine LeO.bind ?_ (fun _ => ?_))
theorem r18_Same.mono : ∀ a0 a1 k, LeO (r18_Same.f k a0 a1) (r18_Same.f (k + 1) a0 a1) := by
 intro a0 a1 k
 have ih0 := r18_Same.mono_l k
 unfold r18_Same.f
 repeat' (with_reducible first | exact ih0 _ _ _ | exact LeO.refl _ | exact LeO.none _ | refine LeO.ite ?_ ?_ | refine LeO.bind ?_ (fun _ => ?_))
set_option maxHeartbeats 8000000 in
set_option maxRecDepth 100000 in
theorem r18_Same.calls (k : Nat) (A0 : Option Addr) (c0 : Nat) (l0 : List (S58)) (A1 : Option Addr) (c1 : Nat) (l1 : List (S58)) (r : Bool) (w : World) (hT : Tabs w) (hr0 : Kd.C k58 w A0 l0.length l0) (hc0 : l0.length ≤ c0) (hr1 : Kd.C k58 w A1 l1.length l1) (hc1 : l1.length ≤ c1) (h : r18_Same.f k l0 l1 = some r) :
  Calls Tryz.prog 12 #[.slice A0 l0.length c0, .slice A1 l1.length c1] w fun e w' => e = .returned (.bool r) ∧ Drawn0 w w' := by
 have hu58 := Tryz.underlying58
 have HR0 := xy hr0
 have HC0 := xy hc0
 clear hr0 hc0
 have HR1 := xy hr1
 have HC1 := xy hc1
 clear hr1 hc1
 unfold r18_Same.f at h
 have H := h
 clear h
 by_cases c3 : (l0.length : Int) = (l1.length : Int)
 ·rw [if_pos c3] at H
  have c3b0 : ((l0.length : Int) == (l1.length : Int)) = true := beq_iff_eq.mpr c3
  have c3b1 : ((l0.length : Int) != (l1.length : Int)) = false := bne_eq_false_iff_eq.mpr c3
  have c3b2 : (l0.length == l1.length) = true := by first | simpa using c3 | (simp at c3 ⊢; omega)
  clear c3
  have H' := xy H
  clear H
  go_enter Tryz.func12, Tryz.ntmps12
  go_wp2
  repeat (go_quiet (fail); try go_wp2)
  go_loopg [5] k (fun kq v5 w' => ∃ (x5_1 : Int), v5 = .int .i64 x5_1 ∧ Aside0 (r18_Same.l0 kq l0 l1 x5_1 = some r) ∧ Aside0 (kq ≤ k) ∧ Drawn0 w w')
  case atStart => exact ⟨(0), xg, H', ⟨Nat.le_refl _⟩, by repeat (first | exact Drawn0.refl _ | apply Drawn0.step)⟩
  case round =>
   clear H'
   try clear c1
   try clear p2
   try clear c3
   try clear c3b0
   try clear c3b1
   try clear c3b2
   obtain ⟨x5_1, rfl, HA, HK1, ⟨m1, rfl⟩⟩ := hrel
   cases gk with
   | zero => exact absurd HA.out (by simp [r18_Same.l0])
   | succ k1 =>
    have H := HA.out
    clear HA
    simp only [r18_Same.l0] at H
    by_cases c4 : x5_1 < (l0.length : Int)
    ·rw [if_pos c4] at H
     have c4b0 : decide (x5_1 < (l0.length : Int)) = true := decide_eq_true c4
     clear c4
     by_cases c5 : 0 ≤ x5_1
     ·rw [if_pos c5] at H
      have c5b0 : decide (0 ≤ x5_1) = true := decide_eq_true c5
      clear c5
      by_cases c6 : x5_1 < (l1.length : Int)
      ·rw [if_pos c6] at H
       have c6b0 : decide (x5_1 < (l1.length : Int)) = true := decide_eq_true c6
       clear c6
       by_cases c7 : (!((((rd_T58 l0 x5_1).f0).toList) == (((rd_T58 l1 x5_1).f0).toList)) || ((!(((rd_T58 l0 x5_1).f1.f0) == ((rd_T58 l1 x5_1).f1.f0)) || (!(((rd_T58 l0 x5_1).f1.f1) == ((rd_T58 l1 x5_1).f1.f1)) || (!((((rd_T58 l0 x5_1).f1.f2).toList) == (((rd_T58 l1 x5_1).f1.f2).toList))))))) = true
       ·rw [if_pos c7] at H
        have c7b0 : (!((((rd_T58 l0 x5_1).f0).toList) == (((rd_T58 l1 x5_1).f0).toList)) || ((!(((rd_T58 l0 x5_1).f1.f0) == ((rd_T58 l1 x5_1).f1.f0)) || (!(((rd_T58 l0 x5_1).f1.f1) == ((rd_T58 l1 x5_1).f1.f1)) || (!((((rd_T58 l0 x5_1).f1.f2).toList) == (((rd_T58 l1 x5_1).f1.f2).toList))))))) = true := c7
        clear c7
        obtain rfl := Option.some.inj H
        have p304 : 0 ≤ (x5_1 : Int) := xi
        have q304 : x5_1 < (l0.length : Int) := xi
        obtain ⟨ad304, e304, hx304_0, hx304_1, hx304_2, hx304_3⟩ := at_T58 HR0.out x5_1 p304 q304
        cases e304
        replace p304 := eq_true p304
        replace q304 := eq_true q304
        have p305 : 0 ≤ (x5_1 : Int) := xi
        have q305 : x5_1 < (l1.length : Int) := xi
        obtain ⟨ad305, e305, hx305_0, hx305_1, hx305_2, hx305_3⟩ := at_T58 HR1.out x5_1 p305 q305
        cases e305
        replace p305 := eq_true p305
        replace q305 := eq_true q305
        go_wp2
        repeat (go_quiet (fail); try go_wp2)
        go_ret
        exact ⟨xg, xz⟩
       ·rw [if_neg c7] at H
        have c7b0 : (!((((rd_T58 l0 x5_1).f0).toList) == (((rd_T58 l1 x5_1).f0).toList)) || ((!(((rd_T58 l0 x5_1).f1.f0) == ((rd_T58 l1 x5_1).f1.f0)) || (!(((rd_T58 l0 x5_1).f1.f1) == ((rd_T58 l1 x5_1).f1.f1)) || (!((((rd_T58 l0 x5_1).f1.f2).toList) == (((rd_T58 l1 x5_1).f1.f2).toList))))))) = false := by simpa using c7
        clear c7
        have H' := xy H
        clear H
        have p304 : 0 ≤ (x5_1 : Int) := xi
        have q304 : x5_1 < (l0.length : Int) := xi
        obtain ⟨ad304, e304, hx304_0, hx304_1, hx304_2, hx304_3⟩ := at_T58 HR0.out x5_1 p304 q304
        cases e304
        replace p304 := eq_true p304
        replace q304 := eq_true q304
        have p305 : 0 ≤ (x5_1 : Int) := xi
        have q305 : x5_1 < (l1.length : Int) := xi
        obtain ⟨ad305, e305, hx305_0, hx305_1, hx305_2, hx305_3⟩ := at_T58 HR1.out x5_1 p305 q305
        cases e305
        replace p305 := eq_true p305
        replace q305 := eq_true q305
        go_wp2
        repeat (go_quiet (fail); try go_wp2)
        go_roundg k1
        case measure => have := HK1.out; omega
        case rel => exact ⟨(wrap64 (x5_1 + 1)), xg, H', ⟨by have := HK1.out; omega⟩, by repeat (first | exact Drawn0.refl _ | apply Drawn0.step)⟩
      ·rw [if_neg c6] at H
       exact absurd H (by simp)
     ·rw [if_neg c5] at H
      exact absurd H (by simp)
    ·rw [if_neg c4] at H
     have c4b0 : decide (x5_1 < (l0.length : Int)) = false := decide_eq_false c4
     clear c4
     obtain rfl := Option.some.inj H
     go_wp2
     repeat (go_quiet (fail); try go_wp2)
     go_ret
     exact ⟨xg, xz⟩
 ·rw [if_neg c3] at H
  have c3b0 : ((l0.length : Int) == (l1.length : Int)) = false := beq_eq_false_iff_ne.mpr c3
  have c3b1 : ((l0.length : Int) != (l1.length : Int)) = true := bne_iff_ne.mpr c3
  have c3b2 : (l0.length == l1.length) = false := by first | simpa using c3 | (simp at c3 ⊢; omega)
  obtain rfl := Option.some.inj H
  go_enter Tryz.func12, Tryz.ntmps12
  go_wp2
  repeat (go_quiet (fail); try go_wp2)
  go_ret
  exact ⟨xg, xz⟩
end
end Go.Proofs.YtialoecplmnjfaaGreatDoor.PX
