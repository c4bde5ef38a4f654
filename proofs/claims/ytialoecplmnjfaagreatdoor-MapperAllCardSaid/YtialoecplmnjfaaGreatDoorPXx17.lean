/- Walked functions, by this session's program over the kit's print. -/
import Derived.Test.YtialoecplmnjfaaGreatDoorPXx0
import Derived.Test.YtialoecplmnjfaaGreatDoorPXx3
import Derived.Test.YtialoecplmnjfaaGreatDoorPXx10
import Derived.Test.YtialoecplmnjfaaGreatDoorPXx15
namespace Go.Proofs.YtialoecplmnjfaaGreatDoor.PX
open Go.RowKit Go.Proofs.YtialoecplmnjfaaGreatDoorW.PrintWords Go.Proofs.YtialoecplmnjfaaGreatDoorW.PrintLast Go.Proofs.YtialoecplmnjfaaGreatDoorW.PrintMore
attribute [local go_sem] xm_gtr max2_int min2_int max_two min_two max_three min_three max_four min_four
set_option linter.unusedVariables false
set_option linter.unusedSimpArgs false
/- Walked functions, by this session's program over the kit's print. -/
mutual
def mapper_Map.l0 : Nat → List (S55) → List (List ByteArray) → Int → Int → Bool → List (S50) → List (S50) → List (S50) → Int → List (S50) → Bool → Int → ByteArray → Bool → Int → Bool → Bool → Int → Option ((List (S55)) × Int)
 | 0, _, _, _, _, _, _, _, _, _, _, _, _, _, _, _, _, _, _ => none
 | k + 1, x7, x20, x21, x22, x412000, x412001, x412002, x412003, x412004, x412005, x412006, x412007, x412008, x412009, x412010, x412011, x412012, x412013 => if x22 < x21 then (if 0 ≤ x22 then (if x22 < (x20.length : Int) then ((mapper_See.f k x412000 x412001 x412002 x412003 x412004 x412005 x412006 x412007 x412008 x412009 x412010 x412011 x412012 x412013 (rd_L7 x20 x22)).bind fun t414 => (mapper_Map.l1 k x7 x20 x21 x22 t414 (t414.length : Int) 0 x412000 x412001 x412002 x412003 x412004 x412005 x412006 x412007 x412008 x412009 x412010 x412011 x412012 x412013)) else (none)) else (none)) else (some (x7, 0))
def mapper_Map.l1 : Nat → List (S55) → List (List ByteArray) → Int → Int → List (List ByteArray) → Int → Int → Bool → List (S50) → List (S50) → List (S50) → Int → List (S50) → Bool → Int → ByteArray → Bool → Int → Bool → Bool → Int → Option ((List (S55)) × Int)
 | 0, _, _, _, _, _, _, _, _, _, _, _, _, _, _, _, _, _, _, _, _, _ => none
 | k + 1, x7, x20, x21, x22, x28, x29, x30, x412000, x412001, x412002, x412003, x412004, x412005, x412006, x412007, x412008, x412009, x412010, x412011, x412012, x412013 => if x30 < x29 then (if 0 ≤ x30 then (if x30 < (x28.length : Int) then ((mapper_one.f k x412000 x412001 x412002 x412003 x412004 x412005 x412006 x412007 x412008 x412009 x412010 x412011 x412012 x412013 (rd_L7 x28 x30)).bind fun bt418 => (if bt418.2.2.2.2.2 = 0 then (if bt418.2.2.2.2.1 = true then (if x7.length < 2932031007402 then (mapper_Map.l1 k (x7 ++ [(⟨bt418.1, (⟨bt418.2.1, bt418.2.2.1, bt418.2.2.2.1⟩ : S24)⟩ : S55)]) x20 x21 x22 x28 x29 (wrap64 (x30 + 1)) x412000 x412001 x412002 x412003 x412004 x412005 x412006 x412007 x412008 x412009 x412010 x412011 x412012 x412013) else (none)) else (mapper_Map.l1 k x7 x20 x21 x22 x28 x29 (wrap64 (x30 + 1)) x412000 x412001 x412002 x412003 x412004 x412005 x412006 x412007 x412008 x412009 x412010 x412011 x412012 x412013)) else (some (([] : List (S55)), bt418.2.2.2.2.2)))) else (none)) else (none)) else (mapper_Map.l0 k x7 x20 x21 (wrap64 (x22 + 1)) x412000 x412001 x412002 x412003 x412004 x412005 x412006 x412007 x412008 x412009 x412010 x412011 x412012 x412013)
end
def mapper_Map.f (k : Nat) (a0_0 : Bool) (l0_1 : List (S50)) (l0_2 : List (S50)) (l0_3 : List (S50)) (a0_4 : Int) (l0_5 : List (S50)) (a0_6 : Bool) (a0_7 : Int) (a0_8 : ByteArray) (a0_9 : Bool) (a0_10 : Int) (a0_11 : Bool) (a0_12 : Bool) (a0_13 : Int) (l1 : List (List ByteArray)) : Option ((List (S55)) × Int) := (job_Check.f k a0_0 l0_1 l0_2 l0_3 a0_4 l0_5 a0_6 a0_7 a0_8 a0_9 a0_10 a0_11 a0_12 a0_13).bind fun t412 => (if t412 = 0 then (mapper_Map.l0 k ([] : List (S55)) l1 (l1.length : Int) 0 a0_0 l0_1 l0_2 l0_3 a0_4 l0_5 a0_6 a0_7 a0_8 a0_9 a0_10 a0_11 a0_12 a0_13) else (some (([] : List (S55)), t412)))
theorem mapper_Map.mono_l : ∀ k, (∀ y0 y1 y2 y3 y4 y5 y6 y7 y8 y9 y10 y11 y12 y13 y14 y15 y16 y17, LeO (mapper_Map.l0 k y0 y1 y2 y3 y4 y5 y6 y7 y8 y9 y10 y11 y12 y13 y14 y15 y16 y17) (mapper_Map.l0 (k + 1) y0 y1 y2 y3 y4 y5 y6 y7 y8 y9 y10 y11 y12 y13 y14 y15 y16 y17)) ∧ (∀ y0 y1 y2 y3 y4 y5 y6 y7 y8 y9 y10 y11 y12 y13 y14 y15 y16 y17 y18 y19 y20, LeO (mapper_Map.l1 k y0 y1 y2 y3 y4 y5 y6 y7 y8 y9 y10 y11 y12 y13 y14 y15 y16 y17 y18 y19 y20) (mapper_Map.l1 (k + 1) y0 y1 y2 y3 y4 y5 y6 y7 y8 y9 y10 y11 y12 y13 y14 y15 y16 y17 y18 y19 y20))
 | 0 => ⟨fun _ _ _ _ _ _ _ _ _ _ _ _ _ _ _ _ _ _ r h => by simp [mapper_Map.l0] at h, fun _ _ _ _ _ _ _ _ _ _ _ _ _ _ _ _ _ _ _ _ _ r h => by simp [mapper_Map.l1] at h⟩
 | k + 1 => by
  obtain ⟨ih0, ih1⟩ := mapper_Map.mono_l k
  refine ⟨?_, ?_⟩
  ·intro y0 y1 y2 y3 y4 y5 y6 y7 y8 y9 y10 y11 y12 y13 y14 y15 y16 y17
   unfold mapper_Map.l0
   repeat' (with_reducible first | exact ih0 _ _ _ _ _ _ _ _ _ _ _ _ _ _ _ _ _ _ | exact ih1 _ _ _ _ _ _ _ _ _ _ _ _ _ _ _ _ _ _ _ _ _ | exact job_Check.mono _ _ _ _ _ _ _ _ _ _ _ _ _ _ _ | exact mapper_See.mono _ _ _ _ _ _ _ _ _ _ _ _ _ _ _ _ | exact mapper_one.mono _ _ _ _ _ _ _ _ _ _ _ _ _ _ _ _ | exact LeO.refl _ | exact LeO.none _ | refine LeO.ite ?_ ?_ | refine LeO.bind ?_ (fun _ => ?_))
  ·intro y0 y1 y2 y3 y4 y5 y6 y7 y8 y9 y10 y11 y12 y13 y14 y15 y16 y17 y18 y19 y20
   unfold mapper_Map.l1
   repeat' (with_reducible first | exact ih0 _ _ _ _ _ _ _ _ _ _ _ _ _ _ _ _ _ _ | exact ih1 _ _ _ _ _ _ _ _ _ _ _ _ _ _ _ _ _ _ _ _ _ | exact job_Check.mono _ _ _ _ _ _ _ _ _ _ _ _ _ _ _ | exact mapper_See.mono _ _ _ _ _ _ _ _ _ _ _ _ _ _ _ _ | exact mapper_one.mono _ _ _ _ _ _ _ _ _ _ _ _ _ _ _ _ | exact LeO.refl _ | exact LeO.none _ | refine LeO.ite ?_ ?_ | refine LeO.bind ?_ (fun _ => ?_))
theorem mapper_Map.mono : ∀ a0 a1 a2 a3 a4 a5 a6 a7 a8 a9 a10 a11 a12 a13 a14 k, LeO (mapper_Map.f k a0 a1 a2 a3 a4 a5 a6 a7 a8 a9 a10 a11 a12 a13 a14) (mapper_Map.f (k + 1) a0 a1 a2 a3 a4 a5 a6 a7 a8 a9 a10 a11 a12 a13 a14) := by
 intro a0 a1 a2 a3 a4 a5 a6 a7 a8 a9 a10 a11 a12 a13 a14 k
 obtain ⟨ih0, ih1⟩ := mapper_Map.mono_l k
 unfold mapper_Map.f
 repeat' (with_reducible first | exact ih0 _ _ _ _ _ _ _ _ _ _ _ _ _ _ _ _ _ _ | exact ih1 _ _ _ _ _ _ _ _ _ _ _ _ _ _ _ _ _ _ _ _ _ | exact job_Check.mono _ _ _ _ _ _ _ _ _ _ _ _ _ _ _ | exact mapper_See.mono _ _ _ _ _ _ _ _ _ _ _ _ _ _ _ _ | exact mapper_one.mono _ _ _ _ _ _ _ _ _ _ _ _ _ _ _ _ | exact LeO.refl _ | exact LeO.none _ | refine LeO.ite ?_ ?_ | refine LeO.bind ?_ (fun _ => ?_))
set_option maxHeartbeats 8000000 in
set_option maxRecDepth 100000 in
theorem mapper_Map.calls (k : Nat) (a0_0 : Bool) (A0_1 : Option Addr) (c0_1 : Nat) (l0_1 : List (S50)) (A0_2 : Option Addr) (c0_2 : Nat) (l0_2 : List (S50)) (A0_3 : Option Addr) (c0_3 : Nat) (l0_3 : List (S50)) (a0_4 : Int) (A0_5 : Option Addr) (c0_5 : Nat) (l0_5 : List (S50)) (a0_6 : Bool) (a0_7 : Int) (a0_8 : ByteArray) (a0_9 : Bool) (a0_10 : Int) (a0_11 : Bool) (a0_12 : Bool) (a0_13 : Int) (A1 : Option Addr) (c1 : Nat) (l1 : List (List ByteArray)) (r1 : List (S55)) (r2 : Int) (w : World) (hT : Tabs w) (hr0_1 : Kd.C k50 w A0_1 l0_1.length l0_1) (hc0_1 : l0_1.length ≤ c0_1) (hr0_2 : Kd.C k50 w A0_2 l0_2.length l0_2) (hc0_2 : l0_2.length ≤ c0_2) (hr0_3 : Kd.C k50 w A0_3 l0_3.length l0_3) (hc0_3 : l0_3.length ≤ c0_3) (hr0_5 : Kd.C k50 w A0_5 l0_5.length l0_5) (hc0_5 : l0_5.length ≤ c0_5) (hr1 : Kd.C (Kd.slice 9 Kd.string) w A1 l1.length l1) (hc1 : l1.length ≤ c1) (h : mapper_Map.f k a0_0 l0_1 l0_2 l0_3 a0_4 l0_5 a0_6 a0_7 a0_8 a0_9 a0_10 a0_11 a0_12 a0_13 l1 = some (r1, r2)) :
  Calls Tryz.prog 15 #[.agg #[.bool a0_0, .slice A0_1 l0_1.length c0_1, .slice A0_2 l0_2.length c0_2, .slice A0_3 l0_3.length c0_3, .int .i64 a0_4, .slice A0_5 l0_5.length c0_5, .bool a0_6, .int .i64 a0_7, .string a0_8, .bool a0_9, .int .i64 a0_10, .bool a0_11, .bool a0_12, .int .i64 a0_13], .slice A1 l1.length c1] w fun e w' => ∃ v0_ : Value, e = .returned (.tuple #[v0_, .int .i64 r2]) ∧ Kd.R k55 55 w' w.heap.size (fun _ => True) v0_ r1 ∧ Below w.heap.size w w' := by
 have hu26 := Tryz.underlying26
 have hu55 := Tryz.underlying55
 have HR0_1 := xy hr0_1
 have HC0_1 := xy hc0_1
 clear hr0_1 hc0_1
 have HR0_2 := xy hr0_2
 have HC0_2 := xy hc0_2
 clear hr0_2 hc0_2
 have HR0_3 := xy hr0_3
 have HC0_3 := xy hc0_3
 clear hr0_3 hc0_3
 have HR0_5 := xy hr0_5
 have HC0_5 := xy hc0_5
 clear hr0_5 hc0_5
 have HR1 := xy hr1
 have HC1 := xy hc1
 clear hr1 hc1
 have HB := xy (Below.refl w.heap.size w)
 unfold mapper_Map.f at h
 have H := h
 clear h
 replace H := xj H
 obtain ⟨t412, A30, H⟩ := H
 try dsimp only at H
 have A3 := xy A30
 clear A30
 by_cases c4 : t412 = 0
 ·rw [if_pos c4] at H
  have c4b0 : (t412 == 0) = true := beq_iff_eq.mpr c4
  have c4b1 : (t412 != 0) = false := bne_eq_false_iff_eq.mpr c4
  clear c4
  have H' := xy H
  clear H
  go_enter Tryz.func15, Tryz.ntmps15
  go_wp2_with (first | ((with_reducible refine gate_dst (N := 2) rfl ?_); refine xq (N := 2) (cs := #[.bool a0_0, .slice A0_1 l0_1.length c0_1, .slice A0_2 l0_2.length c0_2, .slice A0_3 l0_3.length c0_3, .int .i64 a0_4, .slice A0_5 l0_5.length c0_5, .bool a0_6, .int .i64 a0_7, .string a0_8, .bool a0_9, .int .i64 a0_10, .bool a0_11, .bool a0_12, .int .i64 a0_13]) (t := 26) ?_; intro gb411 hg w5 hbox hb; have BK411 := xy (hbox); have GW411 := xs w hg; have GE411 := xs w hg; replace HB := xy (below_step xb hb); clear hb hbox hg; obtain ⟨hcz6_0, hcz6_1, hcz6_2, hcz6_3, hcz6_4, hcz6_5, hcz6_6, hcz6_7, hcz6_8, hcz6_9, hcz6_10, hcz6_11, hcz6_12, hcz6_13⟩ := kt14 BK411.out; obtain ⟨hfz6_0, hfz6_1, hfz6_2, hfz6_3, hfz6_4, hfz6_5, hfz6_6, hfz6_7, hfz6_8, hfz6_9, hfz6_10, hfz6_11, hfz6_12, hfz6_13⟩ := kz14 BK411.out) | ((with_reducible refine gate_callee (f := 23) rfl ?_); refine goesL_ (some 16) rfl rfl Tryz.func23 (by kernel_rfl) rfl #[.agg #[.bool a0_0, .slice A0_1 l0_1.length c0_1, .slice A0_2 l0_2.length c0_2, .slice A0_3 l0_3.length c0_3, .int .i64 a0_4, .slice A0_5 l0_5.length c0_5, .bool a0_6, .int .i64 a0_7, .string a0_8, .bool a0_9, .int .i64 a0_10, .bool a0_11, .bool a0_12, .int .i64 a0_13]] rfl xr ?_; (with_reducible refine (job_Check.calls k a0_0 _ _ l0_1 _ _ l0_2 _ _ l0_3 a0_4 _ _ l0_5 a0_6 a0_7 a0_8 a0_9 a0_10 a0_11 a0_12 a0_13 t412 _ (Tabs.below hT xf) ?side1 ?side2 ?side3 ?side4 ?side5 ?side6 ?side7 ?side8 A3.out).mono ?_); (case side1 => exact Kd.C_below HR0_1.out xb); (case side2 => exact HC0_1.out); (case side3 => exact Kd.C_below HR0_2.out xb); (case side4 => exact HC0_2.out); (case side5 => exact Kd.C_below HR0_3.out xb); (case side6 => exact HC0_3.out); (case side7 => exact Kd.C_below HR0_5.out xb); (case side8 => exact HC0_5.out); rintro e w7 ⟨rfl, hb⟩; refine ⟨_, rfl, ?_⟩; replace BK411 := xd BK411.out hb; replace HB := xy (below_step xb hb); (try clear hb); (try clear hb2); (try clear hk); (try clear hi)))
  go_loopg [7, 22] k (fun kq v7 v22 w' => ∃ (x7_1 : List (S55)) (x22_1 : Int), v22 = .int .i64 x22_1 ∧ Aside0 (mapper_Map.l0 kq x7_1 l1 (l1.length : Int) x22_1 a0_0 l0_1 l0_2 l0_3 a0_4 l0_5 a0_6 a0_7 a0_8 a0_9 a0_10 a0_11 a0_12 a0_13 = some (r1, r2)) ∧ Aside0 (kq ≤ k) ∧ Aside0 (Kd.R k55 55 w' w.heap.size (fun _ => True) v7 x7_1) ∧ Aside0 (w'.heap[gb411]? = some (.cells #[.bool a0_0, (.slice A0_1 l0_1.length c0_1), (.slice A0_2 l0_2.length c0_2), (.slice A0_3 l0_3.length c0_3), .int .i64 a0_4, (.slice A0_5 l0_5.length c0_5), .bool a0_6, .int .i64 a0_7, .string a0_8, .bool a0_9, .int .i64 a0_10, .bool a0_11, .bool a0_12, .int .i64 a0_13] 26 (0, 0))) ∧ Aside0 (Below w.heap.size w w'))
  case atStart => exact ⟨(([] : List (S55))), (0), xg, H', ⟨Nat.le_refl _⟩, ⟨by first | exact Kd.R_nil _ _ _ _ _ | exact Kd.N_nil _ _ _ _ _ | exact Kd.V_nil _ _ _ _ _ | exact Kd.Q_nil _ _ _ _ _ | exact Kd.S_nil _ _ _ _ _⟩, ⟨by (with_reducible repeat (first | refine blk_drewN ?_ _ | refine blk_drew ?_ | refine blk_alloc ?_ _)); exact BK411.out⟩, ⟨xb⟩⟩
  case round =>
   clear H'
   try clear c1
   try clear c2
   try clear p2
   try clear c4
   try clear c4b0
   try clear c4b1
   try clear hcz6_0 hcz6_1 hcz6_10 hcz6_11 hcz6_12 hcz6_13 hcz6_2 hcz6_3 hcz6_4 hcz6_5 hcz6_6 hcz6_7 hcz6_8 hcz6_9
   try clear hfz6_0 hfz6_1 hfz6_10 hfz6_11 hfz6_12 hfz6_13 hfz6_2 hfz6_3 hfz6_4 hfz6_5 hfz6_6 hfz6_7 hfz6_8 hfz6_9
   obtain ⟨x7_1, x22_1, rfl, HA, HK1, HO_7, BK411, HB⟩ := hrel
   cases gk with
   | zero => exact absurd HA.out (by simp [mapper_Map.l0])
   | succ k1 =>
    have H := HA.out
    clear HA
    simp only [mapper_Map.l0] at H
    by_cases c8 : x22_1 < (l1.length : Int)
    ·rw [if_pos c8] at H
     have c8b0 : decide (x22_1 < (l1.length : Int)) = true := decide_eq_true c8
     clear c8
     by_cases c9 : 0 ≤ x22_1
     ·rw [if_pos c9] at H
      have c9b0 : decide (0 ≤ x22_1) = true := decide_eq_true c9
      clear c9
      by_cases c10 : x22_1 < (l1.length : Int)
      ·rw [if_pos c10] at H
       have c10b0 : decide (x22_1 < (l1.length : Int)) = true := decide_eq_true c10
       clear c10
       replace H := xj H
       obtain ⟨t414, A110, H⟩ := H
       try dsimp only at H
       have A11 := xy A110
       clear A110
       have H' := xy H
       clear H
       have p413 : 0 ≤ (x22_1 : Int) := xi
       have q413 : x22_1 < (l1.length : Int) := xi
       obtain ⟨ad413, A413_0, c413_0, e413, hx413_0, hl413_0, hi413_0⟩ := at_L7 HR1.out x22_1 p413 q413
       cases e413
       replace hx413_0 := (HB.out.cell (World.block_lt_of_cell? w _ hx413_0)).trans hx413_0
       have HR413_0 := xy hi413_0
       have HC413_0 := xy hl413_0
       clear hi413_0 hl413_0
       replace p413 := eq_true p413
       replace q413 := eq_true q413
       obtain ⟨hcz12_0, hcz12_1, hcz12_2, hcz12_3, hcz12_4, hcz12_5, hcz12_6, hcz12_7, hcz12_8, hcz12_9, hcz12_10, hcz12_11, hcz12_12, hcz12_13⟩ := kt14 BK411.out
       obtain ⟨hfz12_0, hfz12_1, hfz12_2, hfz12_3, hfz12_4, hfz12_5, hfz12_6, hfz12_7, hfz12_8, hfz12_9, hfz12_10, hfz12_11, hfz12_12, hfz12_13⟩ := kz14 BK411.out
       go_wp2_with (first | ((with_reducible refine gate_callee (f := 14) rfl ?_); refine goesL_ (some 28) rfl rfl Tryz.func14 (by kernel_rfl) rfl #[.agg #[.bool a0_0, .slice A0_1 l0_1.length c0_1, .slice A0_2 l0_2.length c0_2, .slice A0_3 l0_3.length c0_3, .int .i64 a0_4, .slice A0_5 l0_5.length c0_5, .bool a0_6, .int .i64 a0_7, .string a0_8, .bool a0_9, .int .i64 a0_10, .bool a0_11, .bool a0_12, .int .i64 a0_13], .slice A413_0 (rd_L7 l1 x22_1).length c413_0] rfl xr ?_; (with_reducible refine (mapper_See.calls k1 a0_0 _ _ l0_1 _ _ l0_2 _ _ l0_3 a0_4 _ _ l0_5 a0_6 a0_7 a0_8 a0_9 a0_10 a0_11 a0_12 a0_13 _ _ (rd_L7 l1 x22_1) t414 _ (Tabs.below hT xf) ?side1 ?side2 ?side3 ?side4 ?side5 ?side6 ?side7 ?side8 ?side9 ?side10 A11.out).mono ?_); (case side1 => exact Kd.C_below HR0_1.out xb); (case side2 => exact HC0_1.out); (case side3 => exact Kd.C_below HR0_2.out xb); (case side4 => exact HC0_2.out); (case side5 => exact Kd.C_below HR0_3.out xb); (case side6 => exact HC0_3.out); (case side7 => exact Kd.C_below HR0_5.out xb); (case side8 => exact HC0_5.out); (case side9 => exact Kd.C_below HR413_0.out xb); (case side10 => exact HC413_0.out); rintro e w13 ⟨v415, rfl, ho0, hb⟩; refine ⟨_, rfl, ?_⟩; have HO416 := xy (Kd.N_lower (Kd.N_mono (ok' := fun k_ => some k_ ≠ (u7 : Value).ownBlock ∧ k_ ≠ gb411) ho0 (fun k_ hk_ => ⟨(Kd.fresh' (Kd.R_lt (xo HO_7.out)) k_ hk_), (Kd.freshB (g := gb411) (o := .cells #[.bool a0_0, .slice A0_1 l0_1.length c0_1, .slice A0_2 l0_2.length c0_2, .slice A0_3 l0_3.length c0_3, .int .i64 a0_4, .slice A0_5 l0_5.length c0_5, .bool a0_6, .int .i64 a0_7, .string a0_8, .bool a0_9, .int .i64 a0_10, .bool a0_11, .bool a0_12, .int .i64 a0_13] 26 (0, 0)) (xk BK411.out) k_ hk_)⟩)) (below_size xb)); replace HO_7 := xy (Kd.R_below (xo HO_7.out) hb); replace BK411 := xd BK411.out hb; replace HB := xy (below_step xb hb); (try clear hb); (try clear hb2); (try clear hk); (try clear hi); (try clear ho0); obtain ⟨Ao14, co14, eo14⟩ := Kd.N_slice HO416.out; subst eo14))
       go_loopg [7, 30] k1 (fun kq v7 v30 w' => ∃ (x7_2 : List (S55)) (x30_2 : Int), v30 = .int .i64 x30_2 ∧ Aside0 (mapper_Map.l1 kq x7_2 l1 (l1.length : Int) x22_1 t414 (t414.length : Int) x30_2 a0_0 l0_1 l0_2 l0_3 a0_4 l0_5 a0_6 a0_7 a0_8 a0_9 a0_10 a0_11 a0_12 a0_13 = some (r1, r2)) ∧ Aside0 (kq ≤ k1) ∧ Aside0 (Kd.R k55 55 w' w.heap.size (fun _ => True) v7 x7_2) ∧ Aside0 (Kd.N (Kd.slice 9 Kd.string) 45 w' w.heap.size (fun k_ => some k_ ≠ (v7 : Value).ownBlock ∧ k_ ≠ gb411) (.slice Ao14 t414.length co14) t414) ∧ Aside0 (w'.heap[gb411]? = some (.cells #[.bool a0_0, (.slice A0_1 l0_1.length c0_1), (.slice A0_2 l0_2.length c0_2), (.slice A0_3 l0_3.length c0_3), .int .i64 a0_4, (.slice A0_5 l0_5.length c0_5), .bool a0_6, .int .i64 a0_7, .string a0_8, .bool a0_9, .int .i64 a0_10, .bool a0_11, .bool a0_12, .int .i64 a0_13] 26 (0, 0))) ∧ Aside0 (Below w.heap.size w w'))
       case atStart => exact ⟨(x7_1), (0), xg, H', ⟨Nat.le_refl _⟩, ⟨by (with_reducible repeat (first | apply Kd.R_alloc | apply Kd.R_drewN | apply Kd.R_drew)); exact HO_7.out⟩, ⟨by (with_reducible repeat (first | apply Kd.N_alloc | apply Kd.N_drewN | apply Kd.N_drew)); exact HO416.out⟩, ⟨by (with_reducible repeat (first | refine blk_drewN ?_ _ | refine blk_drew ?_ | refine blk_alloc ?_ _)); exact BK411.out⟩, ⟨xb⟩⟩
       case round =>
        clear H'
        try clear c1
        try clear c2
        try clear p2
        try clear c4
        try clear c4b0
        try clear c4b1
        try clear p4
        try clear q4
        try clear hx4
        try clear c8
        try clear c8b0
        try clear c9
        try clear c9b0
        try clear c10
        try clear c10b0
        try clear c14
        try clear hcz12_0 hcz12_1 hcz12_10 hcz12_11 hcz12_12 hcz12_13 hcz12_2 hcz12_3 hcz12_4 hcz12_5 hcz12_6 hcz12_7 hcz12_8 hcz12_9
        try clear hcz6_0 hcz6_1 hcz6_10 hcz6_11 hcz6_12 hcz6_13 hcz6_2 hcz6_3 hcz6_4 hcz6_5 hcz6_6 hcz6_7 hcz6_8 hcz6_9
        try clear hfz12_0 hfz12_1 hfz12_10 hfz12_11 hfz12_12 hfz12_13 hfz12_2 hfz12_3 hfz12_4 hfz12_5 hfz12_6 hfz12_7 hfz12_8 hfz12_9
        try clear hfz6_0 hfz6_1 hfz6_10 hfz6_11 hfz6_12 hfz6_13 hfz6_2 hfz6_3 hfz6_4 hfz6_5 hfz6_6 hfz6_7 hfz6_8 hfz6_9
        try clear hx413_0
        try clear p2
        try clear p413
        try clear q413
        obtain ⟨x7_2, x30_2, rfl, HA, HK2, HO_7, HO_28, BK411, HB⟩ := hrel
        cases gk with
        | zero => exact absurd HA.out (by simp [mapper_Map.l1])
        | succ k2 =>
         have H := HA.out
         clear HA
         simp only [mapper_Map.l1] at H
         by_cases c15 : x30_2 < (t414.length : Int)
         ·rw [if_pos c15] at H
          have c15b0 : decide (x30_2 < (t414.length : Int)) = true := decide_eq_true c15
          clear c15
          by_cases c16 : 0 ≤ x30_2
          ·rw [if_pos c16] at H
           have c16b0 : decide (0 ≤ x30_2) = true := decide_eq_true c16
           clear c16
           by_cases c17 : x30_2 < (t414.length : Int)
           ·rw [if_pos c17] at H
            have c17b0 : decide (x30_2 < (t414.length : Int)) = true := decide_eq_true c17
            clear c17
            replace H := xj H
            obtain ⟨⟨t418, t419, t420, t421, t422, t423⟩, A180, H⟩ := H
            try dsimp only at H
            have A18 := xy A180
            clear A180
            by_cases c19 : t423 = 0
            ·rw [if_pos c19] at H
             have c19b0 : (t423 == 0) = true := beq_iff_eq.mpr c19
             have c19b1 : (t423 != 0) = false := bne_eq_false_iff_eq.mpr c19
             clear c19
             by_cases c20 : t422 = true
             ·subst c20
              rw [if_pos rfl] at H
              by_cases c21 : x7_2.length < 2932031007402
              ·rw [if_pos c21] at H
               have LMc21 := xy c21
               clear c21
               obtain ⟨y425, hy425⟩ : ∃ y_ : List (S55), y_ = (x7_2 ++ [(⟨t418, (⟨t419, t420, t421⟩ : S24)⟩ : S55)]) := ⟨_, rfl⟩
               replace H : (mapper_Map.l1 k2 y425 l1 (l1.length : Int) x22_1 t414 (t414.length : Int) (wrap64 (x30_2 + 1)) a0_0 l0_1 l0_2 l0_3 a0_4 l0_5 a0_6 a0_7 a0_8 a0_9 a0_10 a0_11 a0_12 a0_13) = some (r1, r2) := by first | (rw [hy425]; with_reducible exact H) | (have H2_ := (Option.bind_some _ _).symm.trans H; rw [hy425]; with_reducible exact H2_) | (have H2_ := (Option.bind_some _ _).symm.trans H; with_reducible exact H2_) | with_reducible exact H | (rw [hy425]; exact H) | exact H
               have Ny425 := xy hy425
               clear hy425
               have H' := xy H
               clear H
               have p417 : 0 ≤ (x30_2 : Int) := xi
               have q417 : x30_2 < (t414.length : Int) := xi
               obtain ⟨ad417, A417_0, c417_0, e417, hx417_0, hl417_0, hi417_0⟩ := at_L7 (Kd.N_reads' HO_28.out).2.2 x30_2 p417 q417
               cases e417
               obtain ⟨ce417, hce417, hMe417, hcc417⟩ := Kd.N_get HO_28.out [] x30_2 p417 (by first | exact q417 | exact xi | (have e_ := (Kd.N_reads' HO_28.out).1; omega))
               obtain ⟨ua417_0, uc417_0, rfl, ul417_0, ge417_0⟩ := Kd.FK_slice_open hMe417
               have hv417_0 := hcc417 0 _ rfl
               rw [Nat.add_zero, show ((Kd.slice 9 Kd.string)).sz = 1 from rfl, Nat.mul_one] at hv417_0
               replace hv417_0 := Option.some.inj (hv417_0.symm.trans hx417_0)
               injection hv417_0 with hva_ hvn_ hvc_
               rw [hva_] at ge417_0
               rw [hvc_] at ul417_0
               have HL417_0 := xy (show Kd.V Kd.string 9 _ w.heap.size _ _ (rd_L7 t414 x30_2) from Kd.V_mk ul417_0 ge417_0)
               clear hva_ hvn_ hvc_ ge417_0 ul417_0
               clear hcc417 hce417
               have HR417_0 := xy hi417_0
               have HC417_0 := xy hl417_0
               clear hi417_0 hl417_0
               replace p417 := eq_true p417
               replace q417 := eq_true q417
               obtain ⟨hcz22_0, hcz22_1, hcz22_2, hcz22_3, hcz22_4, hcz22_5, hcz22_6, hcz22_7, hcz22_8, hcz22_9, hcz22_10, hcz22_11, hcz22_12, hcz22_13⟩ := kt14 BK411.out
               obtain ⟨hfz22_0, hfz22_1, hfz22_2, hfz22_3, hfz22_4, hfz22_5, hfz22_6, hfz22_7, hfz22_8, hfz22_9, hfz22_10, hfz22_11, hfz22_12, hfz22_13⟩ := kz14 BK411.out
               go_wp2_with (first | ((with_reducible refine gate_callee (f := 24) rfl ?_); refine goesL_ (some 37) rfl rfl Tryz.func24 (by kernel_rfl) rfl #[.agg #[.bool a0_0, .slice A0_1 l0_1.length c0_1, .slice A0_2 l0_2.length c0_2, .slice A0_3 l0_3.length c0_3, .int .i64 a0_4, .slice A0_5 l0_5.length c0_5, .bool a0_6, .int .i64 a0_7, .string a0_8, .bool a0_9, .int .i64 a0_10, .bool a0_11, .bool a0_12, .int .i64 a0_13], .slice A417_0 (rd_L7 t414 x30_2).length c417_0] rfl xr ?_; (with_reducible refine (mapper_one.calls k2 a0_0 _ _ l0_1 _ _ l0_2 _ _ l0_3 a0_4 _ _ l0_5 a0_6 a0_7 a0_8 a0_9 a0_10 a0_11 a0_12 a0_13 _ _ (rd_L7 t414 x30_2) t418 t419 t420 t421 true t423 _ (Tabs.below hT xf) ?side1 ?side2 ?side3 ?side4 ?side5 ?side6 ?side7 ?side8 ?side9 ?side10 A18.out).mono ?_); (case side1 => exact Kd.C_below HR0_1.out xb); (case side2 => exact HC0_1.out); (case side3 => exact Kd.C_below HR0_2.out xb); (case side4 => exact HC0_2.out); (case side5 => exact Kd.C_below HR0_3.out xb); (case side6 => exact HC0_3.out); (case side7 => exact Kd.C_below HR0_5.out xb); (case side8 => exact HC0_5.out); (case side9 => repeat (first | exact (by repeat (first | (with_reducible exact HR417_0.out) | (with_reducible refine Kd.C_alloc ?_ _) | (with_reducible refine Kd.C_drewN ?_ _) | (with_reducible refine Kd.C_drew ?_) | exact HR417_0.out)) | (with_reducible refine Kd.C_alloc ?_ _) | (with_reducible refine Kd.C_drewN ?_ _) | (with_reducible refine Kd.C_drew ?_))); (case side10 => exact HC417_0.out); rintro e w23 ⟨rfl, hb⟩; refine ⟨_, rfl, ?_⟩; replace HO_7 := xy (Kd.R_below (xo HO_7.out) hb); replace HO_28 := xy (Kd.N_below (by (with_reducible repeat (first | apply Kd.N_alloc | apply Kd.N_drewN | apply Kd.N_drew)); exact HO_28.out) hb); replace HL417_0 := xy (Kd.V_below (by (with_reducible repeat (first | apply Kd.V_alloc | apply Kd.V_drewN | apply Kd.V_drew)); exact HL417_0.out) hb); replace BK411 := xd BK411.out hb; replace HR417_0 := xy (Kd.C_below (by repeat (first | (with_reducible exact HR417_0.out) | (with_reducible refine Kd.C_alloc ?_ _) | (with_reducible refine Kd.C_drewN ?_ _) | (with_reducible refine Kd.C_drew ?_) | exact HR417_0.out)) hb); replace HB := xy (below_step xb hb); (try clear hb); (try clear hb2); (try clear hk); (try clear hi)) | ((with_reducible refine gate_dst (N := 12) rfl ?_); refine xq (N := 12) (cs := #[.string (⟨#[]⟩ : ByteArray), .bool false, .int .i64 0, .string (⟨#[]⟩ : ByteArray)]) (t := 55) ?_; intro gb424 hg w24 hbox hb; replace HO_7 := xy (Kd.R_below (Kd.R_elderB (xo HO_7.out) gb424 (Nat.le_of_eq hg.symm)) hb); replace HO_28 := xy (Kd.N_below (Kd.N_elderB (by (with_reducible repeat (first | apply Kd.N_alloc | apply Kd.N_drewN | apply Kd.N_drew)); exact HO_28.out) gb424 (Nat.le_of_eq hg.symm)) hb); replace HL417_0 := xy (Kd.V_below (Kd.V_elderB (by (with_reducible repeat (first | apply Kd.V_alloc | apply Kd.V_drewN | apply Kd.V_drew)); exact HL417_0.out) gb424 (Nat.le_of_eq hg.symm)) hb); replace HR417_0 := xy (Kd.C_below (by repeat (first | (with_reducible exact HR417_0.out) | (with_reducible refine Kd.C_alloc ?_ _) | (with_reducible refine Kd.C_drewN ?_ _) | (with_reducible refine Kd.C_drew ?_) | exact HR417_0.out)) hb); have BK424 := xy (hbox); have GW424 := xs w hg; have GE424 := xs w hg; replace HB := xy (below_step xb hb); have NB411_424 := xn hg BK411.out; have NB424_411 := xp hg BK411.out; replace BK411 := xd BK411.out hb; clear hb hbox hg; have hnb25 := NB424_411.out; have hnc25 := NB411_424.out; obtain ⟨hcz26_0, hcz26_1, hcz26_2, hcz26_3⟩ := kt4 BK424.out; obtain ⟨hfz26_0, hfz26_1, hfz26_2, hfz26_3⟩ := kz4 BK424.out) | ((with_reducible refine gate_builtin (b := .append) (xs := #[.tmp 45, .tmp 47]) rfl ?_); at_builtin; refine Kd.R_append k55 (w0 := w) w.heap.size rfl (.tmp 45) (.tmp 47) 27 55 (.agg #[(.string ⟨#[]⟩), (.bool false), (.int .i64 0), (.string ⟨#[]⟩)]) 48 rfl Tryz.underlying27 info55 rfl (by decide) (by omega) u7 x7_2 (⟨t418, (⟨t419, t420, t421⟩ : S24)⟩ : S55) [.string t418, .bool t419, .int .i64 t420, .string t421] (fun k_ => k_ ≠ gb424) (fun _ => False) rfl (by first | (go_simp; done) | (go_simp; rfl)) ?aP (fun _ hk => hk.elim) ?aF ?aO ?aB ?aS ?aL ?_; (case aP => exact k55_mkM _ _ _ (⟨t418, (⟨t419, t420, t421⟩ : S24)⟩ : S55)); (case aB => exact xb); (case aF => exact (fun k_ hk => Kd.freshB (g := gb424) (o := .cells #[.string t418, .bool t419, .int .i64 t420, .string t421] 55 (0, 0)) (by (with_reducible repeat (first | refine blk_drewN ?_ _ | refine blk_drew ?_ | refine blk_alloc ?_ _)); apply kq4; (with_reducible repeat (first | refine blk_drewN ?_ _ | refine blk_drew ?_ | refine blk_alloc ?_ _)); exact BK424.out) k_ hk)); (case aO => exact (by (with_reducible repeat (first | apply Kd.R_alloc | apply Kd.R_drewN | apply Kd.R_drew)); exact Kd.R_mono (Kd.R_far (p := ⟨gb424, 3, none⟩) (Kd.R_far (p := ⟨gb424, 2, none⟩) (Kd.R_far (p := ⟨gb424, 1, none⟩) (Kd.R_far (p := ⟨gb424, 0, none⟩) (Kd.R_mono HO_7.out (fun k_ hk => (⟨hk, hk.2⟩ : _ ∧ k_ ≠ gb424))) (fun _ hk => hk.2) (.string t418)) (fun _ hk => hk.2) (.bool t419)) (fun _ hk => hk.2) (.int .i64 t420)) (fun _ hk => hk.2) (.string t421)) (fun _ hk => hk.1.2))); (case aS => exact (below_size xb)); (case aL => have := LMc21.out; omega); intro v426 w27 ho hb hg hat; rw [← Ny425.out] at ho; replace HO_28 := xy (Kd.N_afterv (ok := (fun k_ => k_ ≠ gb411 ∧ k_ ≠ gb424)) (by (with_reducible repeat (first | apply Kd.N_alloc | apply Kd.N_drewN | apply Kd.N_drew)); exact Kd.N_mono (Kd.N_far (p := ⟨gb424, 3, none⟩) (Kd.N_far (p := ⟨gb424, 2, none⟩) (Kd.N_far (p := ⟨gb424, 1, none⟩) (Kd.N_far (p := ⟨gb424, 0, none⟩) (Kd.N_mono HO_28.out (fun k_ hk => (⟨hk, hk.2⟩ : _ ∧ k_ ≠ gb424))) (fun _ hk => hk.2) (.string t418)) (fun _ hk => hk.2) (.bool t419)) (fun _ hk => hk.2) (.int .i64 t420)) (fun _ hk => hk.2) (.string t421)) (fun _ hk => ⟨⟨hk.1.1.2, hk.1.2⟩, hk.1.1.1⟩)) hg hat); replace BK411 := xy (blk_grown (g := gb411) (o := .cells #[.bool a0_0, .slice A0_1 l0_1.length c0_1, .slice A0_2 l0_2.length c0_2, .slice A0_3 l0_3.length c0_3, .int .i64 a0_4, .slice A0_5 l0_5.length c0_5, .bool a0_6, .int .i64 a0_7, .string a0_8, .bool a0_9, .int .i64 a0_10, .bool a0_11, .bool a0_12, .int .i64 a0_13] 26 (0, 0)) (by repeat (first | (with_reducible first | exact BK411.out | refine blk_drewN ?_ _ | refine blk_drew ?_ | refine blk_alloc ?_ _) | refine blk_far ?_ NB411_424.out _ | exact BK411.out)) hg (Kd.R_ne HO_7.out BK411.out (by decide))); replace HL417_0 := xy (Kd.V_afterv (ok := (fun k_ => some k_ ≠ (.slice (some ad417) t414.length co14 : Value).ownBlock ∧ k_ ≠ gb411 ∧ k_ ≠ gb424)) (by (with_reducible repeat (first | apply Kd.V_alloc | apply Kd.V_drewN | apply Kd.V_drew)); exact Kd.V_mono (Kd.V_far (p := ⟨gb424, 3, none⟩) (Kd.V_far (p := ⟨gb424, 2, none⟩) (Kd.V_far (p := ⟨gb424, 1, none⟩) (Kd.V_far (p := ⟨gb424, 0, none⟩) (Kd.V_mono HL417_0.out (fun k_ hk => (⟨hk, hk.2⟩ : _ ∧ k_ ≠ gb424))) (fun _ hk => hk.2) (.string t418)) (fun _ hk => hk.2) (.bool t419)) (fun _ hk => hk.2) (.int .i64 t420)) (fun _ hk => hk.2) (.string t421)) (fun _ hk => ⟨⟨hk.1.1.2, ⟨hk.1.1.1.2, hk.1.2⟩⟩, hk.1.1.1.1⟩)) hg hat); replace BK424 := xy (blk_grown (g := gb424) (o := .cells #[.string t418, .bool t419, .int .i64 t420, .string t421] 55 (0, 0)) (by (with_reducible repeat (first | refine blk_drewN ?_ _ | refine blk_drew ?_ | refine blk_alloc ?_ _)); apply kq4; (with_reducible repeat (first | refine blk_drewN ?_ _ | refine blk_drew ?_ | refine blk_alloc ?_ _)); exact BK424.out) hg (Kd.R_away HO_7.out (fun _ hk => hk.2))); replace HB := xy (hb); have HO427 := xy (ho); clear HO_7; clear ho hb hg hat))
               go_roundg k2
               case measure => have := HK1.out; have := HK2.out; omega
               case rel => exact ⟨(y425), (wrap64 (x30_2 + 1)), xg, H', ⟨by have := HK1.out; have := HK2.out; omega⟩, ⟨by (with_reducible repeat (first | apply Kd.R_alloc | apply Kd.R_drewN | apply Kd.R_drew)); exact Kd.R_mono HO427.out (fun _ hk => trivial)⟩, ⟨by (with_reducible repeat (first | apply Kd.N_alloc | apply Kd.N_drewN | apply Kd.N_drew)); exact Kd.N_mono HO_28.out (fun _ hk => ⟨hk.2, hk.1.1⟩)⟩, ⟨by (with_reducible repeat (first | refine blk_drewN ?_ _ | refine blk_drew ?_ | refine blk_alloc ?_ _)); exact BK411.out⟩, ⟨xb⟩⟩
              ·rw [if_neg c21] at H
               exact absurd H (by simp)
             ·replace c20 := Bool.eq_false_iff.mpr c20
              subst c20
              rw [if_neg (show ¬ (false = true) by decide)] at H
              have H' := xy H
              clear H
              have p417 : 0 ≤ (x30_2 : Int) := xi
              have q417 : x30_2 < (t414.length : Int) := xi
              obtain ⟨ad417, A417_0, c417_0, e417, hx417_0, hl417_0, hi417_0⟩ := at_L7 (Kd.N_reads' HO_28.out).2.2 x30_2 p417 q417
              cases e417
              obtain ⟨ce417, hce417, hMe417, hcc417⟩ := Kd.N_get HO_28.out [] x30_2 p417 (by first | exact q417 | exact xi | (have e_ := (Kd.N_reads' HO_28.out).1; omega))
              obtain ⟨ua417_0, uc417_0, rfl, ul417_0, ge417_0⟩ := Kd.FK_slice_open hMe417
              have hv417_0 := hcc417 0 _ rfl
              rw [Nat.add_zero, show ((Kd.slice 9 Kd.string)).sz = 1 from rfl, Nat.mul_one] at hv417_0
              replace hv417_0 := Option.some.inj (hv417_0.symm.trans hx417_0)
              injection hv417_0 with hva_ hvn_ hvc_
              rw [hva_] at ge417_0
              rw [hvc_] at ul417_0
              have HL417_0 := xy (show Kd.V Kd.string 9 _ w.heap.size _ _ (rd_L7 t414 x30_2) from Kd.V_mk ul417_0 ge417_0)
              clear hva_ hvn_ hvc_ ge417_0 ul417_0
              clear hcc417 hce417
              have HR417_0 := xy hi417_0
              have HC417_0 := xy hl417_0
              clear hi417_0 hl417_0
              replace p417 := eq_true p417
              replace q417 := eq_true q417
              obtain ⟨hcz28_0, hcz28_1, hcz28_2, hcz28_3, hcz28_4, hcz28_5, hcz28_6, hcz28_7, hcz28_8, hcz28_9, hcz28_10, hcz28_11, hcz28_12, hcz28_13⟩ := kt14 BK411.out
              obtain ⟨hfz28_0, hfz28_1, hfz28_2, hfz28_3, hfz28_4, hfz28_5, hfz28_6, hfz28_7, hfz28_8, hfz28_9, hfz28_10, hfz28_11, hfz28_12, hfz28_13⟩ := kz14 BK411.out
              go_wp2_with (first | ((with_reducible refine gate_callee (f := 24) rfl ?_); refine goesL_ (some 37) rfl rfl Tryz.func24 (by kernel_rfl) rfl #[.agg #[.bool a0_0, .slice A0_1 l0_1.length c0_1, .slice A0_2 l0_2.length c0_2, .slice A0_3 l0_3.length c0_3, .int .i64 a0_4, .slice A0_5 l0_5.length c0_5, .bool a0_6, .int .i64 a0_7, .string a0_8, .bool a0_9, .int .i64 a0_10, .bool a0_11, .bool a0_12, .int .i64 a0_13], .slice A417_0 (rd_L7 t414 x30_2).length c417_0] rfl xr ?_; (with_reducible refine (mapper_one.calls k2 a0_0 _ _ l0_1 _ _ l0_2 _ _ l0_3 a0_4 _ _ l0_5 a0_6 a0_7 a0_8 a0_9 a0_10 a0_11 a0_12 a0_13 _ _ (rd_L7 t414 x30_2) t418 t419 t420 t421 false t423 _ (Tabs.below hT xf) ?side1 ?side2 ?side3 ?side4 ?side5 ?side6 ?side7 ?side8 ?side9 ?side10 A18.out).mono ?_); (case side1 => exact Kd.C_below HR0_1.out xb); (case side2 => exact HC0_1.out); (case side3 => exact Kd.C_below HR0_2.out xb); (case side4 => exact HC0_2.out); (case side5 => exact Kd.C_below HR0_3.out xb); (case side6 => exact HC0_3.out); (case side7 => exact Kd.C_below HR0_5.out xb); (case side8 => exact HC0_5.out); (case side9 => repeat (first | exact (by repeat (first | (with_reducible exact HR417_0.out) | (with_reducible refine Kd.C_alloc ?_ _) | (with_reducible refine Kd.C_drewN ?_ _) | (with_reducible refine Kd.C_drew ?_) | exact HR417_0.out)) | (with_reducible refine Kd.C_alloc ?_ _) | (with_reducible refine Kd.C_drewN ?_ _) | (with_reducible refine Kd.C_drew ?_))); (case side10 => exact HC417_0.out); rintro e w29 ⟨rfl, hb⟩; refine ⟨_, rfl, ?_⟩; replace HO_7 := xy (Kd.R_below (xo HO_7.out) hb); replace HO_28 := xy (Kd.N_below (by (with_reducible repeat (first | apply Kd.N_alloc | apply Kd.N_drewN | apply Kd.N_drew)); exact HO_28.out) hb); replace HL417_0 := xy (Kd.V_below (by (with_reducible repeat (first | apply Kd.V_alloc | apply Kd.V_drewN | apply Kd.V_drew)); exact HL417_0.out) hb); replace BK411 := xd BK411.out hb; replace HR417_0 := xy (Kd.C_below (by repeat (first | (with_reducible exact HR417_0.out) | (with_reducible refine Kd.C_alloc ?_ _) | (with_reducible refine Kd.C_drewN ?_ _) | (with_reducible refine Kd.C_drew ?_) | exact HR417_0.out)) hb); replace HB := xy (below_step xb hb); (try clear hb); (try clear hb2); (try clear hk); (try clear hi)) | ((with_reducible refine gate_dst (N := 12) rfl ?_); refine xq (N := 12) (cs := #[.string (⟨#[]⟩ : ByteArray), .bool false, .int .i64 0, .string (⟨#[]⟩ : ByteArray)]) (t := 55) ?_; intro gb424 hg w30 hbox hb; replace HO_7 := xy (Kd.R_below (Kd.R_elderB (xo HO_7.out) gb424 (Nat.le_of_eq hg.symm)) hb); replace HO_28 := xy (Kd.N_below (Kd.N_elderB (by (with_reducible repeat (first | apply Kd.N_alloc | apply Kd.N_drewN | apply Kd.N_drew)); exact HO_28.out) gb424 (Nat.le_of_eq hg.symm)) hb); replace HL417_0 := xy (Kd.V_below (Kd.V_elderB (by (with_reducible repeat (first | apply Kd.V_alloc | apply Kd.V_drewN | apply Kd.V_drew)); exact HL417_0.out) gb424 (Nat.le_of_eq hg.symm)) hb); replace HR417_0 := xy (Kd.C_below (by repeat (first | (with_reducible exact HR417_0.out) | (with_reducible refine Kd.C_alloc ?_ _) | (with_reducible refine Kd.C_drewN ?_ _) | (with_reducible refine Kd.C_drew ?_) | exact HR417_0.out)) hb); have BK424 := xy (hbox); have GW424 := xs w hg; have GE424 := xs w hg; replace HB := xy (below_step xb hb); have NB411_424 := xn hg BK411.out; have NB424_411 := xp hg BK411.out; replace BK411 := xd BK411.out hb; clear hb hbox hg; have hnb31 := NB424_411.out; have hnc31 := NB411_424.out; obtain ⟨hcz32_0, hcz32_1, hcz32_2, hcz32_3⟩ := kt4 BK424.out; obtain ⟨hfz32_0, hfz32_1, hfz32_2, hfz32_3⟩ := kz4 BK424.out))
              go_roundg k2
              case measure => have := HK1.out; have := HK2.out; omega
              case rel => exact ⟨(x7_2), (wrap64 (x30_2 + 1)), xg, H', ⟨by have := HK1.out; have := HK2.out; omega⟩, ⟨by (with_reducible repeat (first | apply Kd.R_alloc | apply Kd.R_drewN | apply Kd.R_drew)); exact Kd.R_mono (Kd.R_far (p := ⟨gb424, 3, none⟩) (Kd.R_far (p := ⟨gb424, 2, none⟩) (Kd.R_far (p := ⟨gb424, 1, none⟩) (Kd.R_far (p := ⟨gb424, 0, none⟩) (Kd.R_mono HO_7.out (fun k_ hk => (⟨hk, hk.2⟩ : _ ∧ k_ ≠ gb424))) (fun _ hk => hk.2) (.string t418)) (fun _ hk => hk.2) (.bool t419)) (fun _ hk => hk.2) (.int .i64 t420)) (fun _ hk => hk.2) (.string t421)) (fun _ hk => trivial)⟩, ⟨by (with_reducible repeat (first | apply Kd.N_alloc | apply Kd.N_drewN | apply Kd.N_drew)); exact Kd.N_mono (Kd.N_far (p := ⟨gb424, 3, none⟩) (Kd.N_far (p := ⟨gb424, 2, none⟩) (Kd.N_far (p := ⟨gb424, 1, none⟩) (Kd.N_far (p := ⟨gb424, 0, none⟩) (Kd.N_mono HO_28.out (fun k_ hk => (⟨hk, hk.2⟩ : _ ∧ k_ ≠ gb424))) (fun _ hk => hk.2) (.string t418)) (fun _ hk => hk.2) (.bool t419)) (fun _ hk => hk.2) (.int .i64 t420)) (fun _ hk => hk.2) (.string t421)) (fun _ hk => ⟨hk.1.1.1, hk.1.1.2⟩)⟩, ⟨by repeat (first | (with_reducible first | exact BK411.out | refine blk_drewN ?_ _ | refine blk_drew ?_ | refine blk_alloc ?_ _) | refine blk_far ?_ NB411_424.out _ | exact BK411.out)⟩, ⟨xb⟩⟩
            ·rw [if_neg c19] at H
             have c19b0 : (t423 == 0) = false := beq_eq_false_iff_ne.mpr c19
             have c19b1 : (t423 != 0) = true := bne_iff_ne.mpr c19
             simp only [Option.some.injEq, Prod.mk.injEq] at H
             obtain ⟨rfl, rfl⟩ := H
             have p417 : 0 ≤ (x30_2 : Int) := xi
             have q417 : x30_2 < (t414.length : Int) := xi
             obtain ⟨ad417, A417_0, c417_0, e417, hx417_0, hl417_0, hi417_0⟩ := at_L7 (Kd.N_reads' HO_28.out).2.2 x30_2 p417 q417
             cases e417
             obtain ⟨ce417, hce417, hMe417, hcc417⟩ := Kd.N_get HO_28.out [] x30_2 p417 (by first | exact q417 | exact xi | (have e_ := (Kd.N_reads' HO_28.out).1; omega))
             obtain ⟨ua417_0, uc417_0, rfl, ul417_0, ge417_0⟩ := Kd.FK_slice_open hMe417
             have hv417_0 := hcc417 0 _ rfl
             rw [Nat.add_zero, show ((Kd.slice 9 Kd.string)).sz = 1 from rfl, Nat.mul_one] at hv417_0
             replace hv417_0 := Option.some.inj (hv417_0.symm.trans hx417_0)
             injection hv417_0 with hva_ hvn_ hvc_
             rw [hva_] at ge417_0
             rw [hvc_] at ul417_0
             have HL417_0 := xy (show Kd.V Kd.string 9 _ w.heap.size _ _ (rd_L7 t414 x30_2) from Kd.V_mk ul417_0 ge417_0)
             clear hva_ hvn_ hvc_ ge417_0 ul417_0
             clear hcc417 hce417
             have HR417_0 := xy hi417_0
             have HC417_0 := xy hl417_0
             clear hi417_0 hl417_0
             replace p417 := eq_true p417
             replace q417 := eq_true q417
             obtain ⟨hcz33_0, hcz33_1, hcz33_2, hcz33_3, hcz33_4, hcz33_5, hcz33_6, hcz33_7, hcz33_8, hcz33_9, hcz33_10, hcz33_11, hcz33_12, hcz33_13⟩ := kt14 BK411.out
             obtain ⟨hfz33_0, hfz33_1, hfz33_2, hfz33_3, hfz33_4, hfz33_5, hfz33_6, hfz33_7, hfz33_8, hfz33_9, hfz33_10, hfz33_11, hfz33_12, hfz33_13⟩ := kz14 BK411.out
             go_wp2_with (first | ((with_reducible refine gate_callee (f := 24) rfl ?_); refine goesL_ (some 37) rfl rfl Tryz.func24 (by kernel_rfl) rfl #[.agg #[.bool a0_0, .slice A0_1 l0_1.length c0_1, .slice A0_2 l0_2.length c0_2, .slice A0_3 l0_3.length c0_3, .int .i64 a0_4, .slice A0_5 l0_5.length c0_5, .bool a0_6, .int .i64 a0_7, .string a0_8, .bool a0_9, .int .i64 a0_10, .bool a0_11, .bool a0_12, .int .i64 a0_13], .slice A417_0 (rd_L7 t414 x30_2).length c417_0] rfl xr ?_; (with_reducible refine (mapper_one.calls k2 a0_0 _ _ l0_1 _ _ l0_2 _ _ l0_3 a0_4 _ _ l0_5 a0_6 a0_7 a0_8 a0_9 a0_10 a0_11 a0_12 a0_13 _ _ (rd_L7 t414 x30_2) t418 t419 t420 t421 t422 t423 _ (Tabs.below hT xf) ?side1 ?side2 ?side3 ?side4 ?side5 ?side6 ?side7 ?side8 ?side9 ?side10 A18.out).mono ?_); (case side1 => exact Kd.C_below HR0_1.out xb); (case side2 => exact HC0_1.out); (case side3 => exact Kd.C_below HR0_2.out xb); (case side4 => exact HC0_2.out); (case side5 => exact Kd.C_below HR0_3.out xb); (case side6 => exact HC0_3.out); (case side7 => exact Kd.C_below HR0_5.out xb); (case side8 => exact HC0_5.out); (case side9 => repeat (first | exact (by repeat (first | (with_reducible exact HR417_0.out) | (with_reducible refine Kd.C_alloc ?_ _) | (with_reducible refine Kd.C_drewN ?_ _) | (with_reducible refine Kd.C_drew ?_) | exact HR417_0.out)) | (with_reducible refine Kd.C_alloc ?_ _) | (with_reducible refine Kd.C_drewN ?_ _) | (with_reducible refine Kd.C_drew ?_))); (case side10 => exact HC417_0.out); rintro e w34 ⟨rfl, hb⟩; refine ⟨_, rfl, ?_⟩; replace HO_7 := xy (Kd.R_below (xo HO_7.out) hb); replace HO_28 := xy (Kd.N_below (by (with_reducible repeat (first | apply Kd.N_alloc | apply Kd.N_drewN | apply Kd.N_drew)); exact HO_28.out) hb); replace HL417_0 := xy (Kd.V_below (by (with_reducible repeat (first | apply Kd.V_alloc | apply Kd.V_drewN | apply Kd.V_drew)); exact HL417_0.out) hb); replace BK411 := xd BK411.out hb; replace HR417_0 := xy (Kd.C_below (by repeat (first | (with_reducible exact HR417_0.out) | (with_reducible refine Kd.C_alloc ?_ _) | (with_reducible refine Kd.C_drewN ?_ _) | (with_reducible refine Kd.C_drew ?_) | exact HR417_0.out)) hb); replace HB := xy (below_step xb hb); (try clear hb); (try clear hb2); (try clear hk); (try clear hi)) | ((with_reducible refine gate_dst (N := 12) rfl ?_); refine xq (N := 12) (cs := #[.string (⟨#[]⟩ : ByteArray), .bool false, .int .i64 0, .string (⟨#[]⟩ : ByteArray)]) (t := 55) ?_; intro gb424 hg w35 hbox hb; replace HO_7 := xy (Kd.R_below (Kd.R_elderB (xo HO_7.out) gb424 (Nat.le_of_eq hg.symm)) hb); replace HO_28 := xy (Kd.N_below (Kd.N_elderB (by (with_reducible repeat (first | apply Kd.N_alloc | apply Kd.N_drewN | apply Kd.N_drew)); exact HO_28.out) gb424 (Nat.le_of_eq hg.symm)) hb); replace HL417_0 := xy (Kd.V_below (Kd.V_elderB (by (with_reducible repeat (first | apply Kd.V_alloc | apply Kd.V_drewN | apply Kd.V_drew)); exact HL417_0.out) gb424 (Nat.le_of_eq hg.symm)) hb); replace HR417_0 := xy (Kd.C_below (by repeat (first | (with_reducible exact HR417_0.out) | (with_reducible refine Kd.C_alloc ?_ _) | (with_reducible refine Kd.C_drewN ?_ _) | (with_reducible refine Kd.C_drew ?_) | exact HR417_0.out)) hb); have BK424 := xy (hbox); have GW424 := xs w hg; have GE424 := xs w hg; replace HB := xy (below_step xb hb); have NB411_424 := xn hg BK411.out; have NB424_411 := xp hg BK411.out; replace BK411 := xd BK411.out hb; clear hb hbox hg; have hnb36 := NB424_411.out; have hnc36 := NB411_424.out; obtain ⟨hcz37_0, hcz37_1, hcz37_2, hcz37_3⟩ := kt4 BK424.out; obtain ⟨hfz37_0, hfz37_1, hfz37_2, hfz37_3⟩ := kz4 BK424.out))
             go_ret2
             exact ⟨_, by first | rfl | (simp [errW_none, errW_some] <;> rfl) | (simp [*, errW_none, errW_some] <;> rfl), by first | exact Kd.R_nil _ _ _ _ _ | exact Kd.N_nil _ _ _ _ _ | exact Kd.V_nil _ _ _ _ _ | exact Kd.Q_nil _ _ _ _ _ | exact Kd.S_nil _ _ _ _ _, xb⟩
           ·rw [if_neg c17] at H
            exact absurd H (by simp)
          ·rw [if_neg c16] at H
           exact absurd H (by simp)
         ·rw [if_neg c15] at H
          have c15b0 : decide (x30_2 < (t414.length : Int)) = false := decide_eq_false c15
          clear c15
          have H' := xy H
          clear H
          go_wp2
          go_roundg k2
          case measure => have := HK1.out; have := HK2.out; omega
          case rel => exact ⟨(x7_2), (wrap64 (x22_1 + 1)), xg, H', ⟨by have := HK1.out; have := HK2.out; omega⟩, ⟨by (with_reducible repeat (first | apply Kd.R_alloc | apply Kd.R_drewN | apply Kd.R_drew)); exact HO_7.out⟩, ⟨by (with_reducible repeat (first | refine blk_drewN ?_ _ | refine blk_drew ?_ | refine blk_alloc ?_ _)); exact BK411.out⟩, ⟨xb⟩⟩
      ·rw [if_neg c10] at H
       exact absurd H (by simp)
     ·rw [if_neg c9] at H
      exact absurd H (by simp)
    ·rw [if_neg c8] at H
     have c8b0 : decide (x22_1 < (l1.length : Int)) = false := decide_eq_false c8
     clear c8
     simp only [Option.some.injEq, Prod.mk.injEq] at H
     obtain ⟨rfl, rfl⟩ := H
     go_wp2
     go_ret2
     exact ⟨_, by first | rfl | (simp [errW_none, errW_some] <;> rfl) | (simp [*, errW_none, errW_some] <;> rfl), by (with_reducible repeat (first | apply Kd.R_alloc | apply Kd.R_drewN | apply Kd.R_drew)); exact HO_7.out, xb⟩
 ·rw [if_neg c4] at H
  have c4b0 : (t412 == 0) = false := beq_eq_false_iff_ne.mpr c4
  have c4b1 : (t412 != 0) = true := bne_iff_ne.mpr c4
  simp only [Option.some.injEq, Prod.mk.injEq] at H
  obtain ⟨rfl, rfl⟩ := H
  go_enter Tryz.func15, Tryz.ntmps15
  go_wp2_with (first | ((with_reducible refine gate_dst (N := 2) rfl ?_); refine xq (N := 2) (cs := #[.bool a0_0, .slice A0_1 l0_1.length c0_1, .slice A0_2 l0_2.length c0_2, .slice A0_3 l0_3.length c0_3, .int .i64 a0_4, .slice A0_5 l0_5.length c0_5, .bool a0_6, .int .i64 a0_7, .string a0_8, .bool a0_9, .int .i64 a0_10, .bool a0_11, .bool a0_12, .int .i64 a0_13]) (t := 26) ?_; intro gb411 hg w38 hbox hb; have BK411 := xy (hbox); have GW411 := xs w hg; have GE411 := xs w hg; replace HB := xy (below_step xb hb); clear hb hbox hg; obtain ⟨hcz39_0, hcz39_1, hcz39_2, hcz39_3, hcz39_4, hcz39_5, hcz39_6, hcz39_7, hcz39_8, hcz39_9, hcz39_10, hcz39_11, hcz39_12, hcz39_13⟩ := kt14 BK411.out; obtain ⟨hfz39_0, hfz39_1, hfz39_2, hfz39_3, hfz39_4, hfz39_5, hfz39_6, hfz39_7, hfz39_8, hfz39_9, hfz39_10, hfz39_11, hfz39_12, hfz39_13⟩ := kz14 BK411.out) | ((with_reducible refine gate_callee (f := 23) rfl ?_); refine goesL_ (some 16) rfl rfl Tryz.func23 (by kernel_rfl) rfl #[.agg #[.bool a0_0, .slice A0_1 l0_1.length c0_1, .slice A0_2 l0_2.length c0_2, .slice A0_3 l0_3.length c0_3, .int .i64 a0_4, .slice A0_5 l0_5.length c0_5, .bool a0_6, .int .i64 a0_7, .string a0_8, .bool a0_9, .int .i64 a0_10, .bool a0_11, .bool a0_12, .int .i64 a0_13]] rfl xr ?_; (with_reducible refine (job_Check.calls k a0_0 _ _ l0_1 _ _ l0_2 _ _ l0_3 a0_4 _ _ l0_5 a0_6 a0_7 a0_8 a0_9 a0_10 a0_11 a0_12 a0_13 t412 _ (Tabs.below hT xf) ?side1 ?side2 ?side3 ?side4 ?side5 ?side6 ?side7 ?side8 A3.out).mono ?_); (case side1 => exact Kd.C_below HR0_1.out xb); (case side2 => exact HC0_1.out); (case side3 => exact Kd.C_below HR0_2.out xb); (case side4 => exact HC0_2.out); (case side5 => exact Kd.C_below HR0_3.out xb); (case side6 => exact HC0_3.out); (case side7 => exact Kd.C_below HR0_5.out xb); (case side8 => exact HC0_5.out); rintro e w40 ⟨rfl, hb⟩; refine ⟨_, rfl, ?_⟩; replace BK411 := xd BK411.out hb; replace HB := xy (below_step xb hb); (try clear hb); (try clear hb2); (try clear hk); (try clear hi)))
  go_ret2
  exact ⟨_, by first | rfl | (simp [errW_none, errW_some] <;> rfl) | (simp [*, errW_none, errW_some] <;> rfl), by first | exact Kd.R_nil _ _ _ _ _ | exact Kd.N_nil _ _ _ _ _ | exact Kd.V_nil _ _ _ _ _ | exact Kd.Q_nil _ _ _ _ _ | exact Kd.S_nil _ _ _ _ _, xb⟩
/- Walked functions, by this session's program over the kit's print. -/
mutual
def mapper_Parts.j0 : Nat → List (S55) → Bool → Bool → List (S50) → List (S50) → List (S50) → Int → List (S50) → Bool → Int → ByteArray → Bool → Int → Bool → Bool → Int → Option ((List (List (S55))))
 | 0, _, _, _, _, _, _, _, _, _, _, _, _, _, _, _, _ => none
 | k + 1, x1, x16, x110000, x110001, x110002, x110003, x110004, x110005, x110006, x110007, x110008, x110009, x110010, x110011, x110012, x110013 => if x16 = true then (some ([] : List (List (S55)))) else (if 0 ≤ x110010 then (if (x110010 : Int).toNat ≤ 11728124029610 then (mapper_Parts.l0 k (List.replicate (x110010 : Int).toNat []) x1 (x1.length : Int) 0 x110000 x110001 x110002 x110003 x110004 x110005 x110006 x110007 x110008 x110009 x110010 x110011 x110012 x110013) else (none)) else (none))
def mapper_Parts.l0 : Nat → List (List (S55)) → List (S55) → Int → Int → Bool → List (S50) → List (S50) → List (S50) → Int → List (S50) → Bool → Int → ByteArray → Bool → Int → Bool → Bool → Int → Option ((List (List (S55))))
 | 0, _, _, _, _, _, _, _, _, _, _, _, _, _, _, _, _, _, _ => none
 | k + 1, x5, x20, x21, x22, x110000, x110001, x110002, x110003, x110004, x110005, x110006, x110007, x110008, x110009, x110010, x110011, x110012, x110013 => if x22 < x21 then (if 0 ≤ x22 then (if x22 < (x20.length : Int) then ((job_Part.f k x110000 x110001 x110002 x110003 x110004 x110005 x110006 x110007 x110008 x110009 x110010 x110011 x110012 x110013 ((rd_T55 x20 x22).f0)).bind fun t115 => (if 0 ≤ t115 then (if t115 < (x5.length : Int) then (if (rd_L6 x5 t115).length < 2932031007402 then (mapper_Parts.l0 k (x5.set (t115 : Int).toNat ((rd_L6 x5 t115) ++ [(⟨(rd_T55 x20 x22).f0, (⟨(rd_T55 x20 x22).f1.f0, (rd_T55 x20 x22).f1.f1, (rd_T55 x20 x22).f1.f2⟩ : S24)⟩ : S55)])) x20 x21 (wrap64 (x22 + 1)) x110000 x110001 x110002 x110003 x110004 x110005 x110006 x110007 x110008 x110009 x110010 x110011 x110012 x110013) else (none)) else (none)) else (none))) else (none)) else (none)) else (some x5)
end
def mapper_Parts.f (k : Nat) (a0_0 : Bool) (l0_1 : List (S50)) (l0_2 : List (S50)) (l0_3 : List (S50)) (a0_4 : Int) (l0_5 : List (S50)) (a0_6 : Bool) (a0_7 : Int) (a0_8 : ByteArray) (a0_9 : Bool) (a0_10 : Int) (a0_11 : Bool) (a0_12 : Bool) (a0_13 : Int) (l1 : List (S55)) : Option ((List (List (S55)))) := if a0_10 < 1 then (mapper_Parts.j0 k l1 true a0_0 l0_1 l0_2 l0_3 a0_4 l0_5 a0_6 a0_7 a0_8 a0_9 a0_10 a0_11 a0_12 a0_13) else (mapper_Parts.j0 k l1 (decide (a0_10 > 8)) a0_0 l0_1 l0_2 l0_3 a0_4 l0_5 a0_6 a0_7 a0_8 a0_9 a0_10 a0_11 a0_12 a0_13)
theorem mapper_Parts.mono_l : ∀ k, (∀ y0 y1 y2 y3 y4 y5 y6 y7 y8 y9 y10 y11 y12 y13 y14 y15, LeO (mapper_Parts.j0 k y0 y1 y2 y3 y4 y5 y6 y7 y8 y9 y10 y11 y12 y13 y14 y15) (mapper_Parts.j0 (k + 1) y0 y1 y2 y3 y4 y5 y6 y7 y8 y9 y10 y11 y12 y13 y14 y15)) ∧ (∀ y0 y1 y2 y3 y4 y5 y6 y7 y8 y9 y10 y11 y12 y13 y14 y15 y16 y17, LeO (mapper_Parts.l0 k y0 y1 y2 y3 y4 y5 y6 y7 y8 y9 y10 y11 y12 y13 y14 y15 y16 y17) (mapper_Parts.l0 (k + 1) y0 y1 y2 y3 y4 y5 y6 y7 y8 y9 y10 y11 y12 y13 y14 y15 y16 y17))
 | 0 => ⟨fun _ _ _ _ _ _ _ _ _ _ _ _ _ _ _ _ r h => by simp [mapper_Parts.j0] at h, fun _ _ _ _ _ _ _ _ _ _ _ _ _ _ _ _ _ _ r h => by simp [mapper_Parts.l0] at h⟩
 | k + 1 => by
  obtain ⟨ih0, ih1⟩ := mapper_Parts.mono_l k
  refine ⟨?_, ?_⟩
  ·intro y0 y1 y2 y3 y4 y5 y6 y7 y8 y9 y10 y11 y12 y13 y14 y15
   unfold mapper_Parts.j0
   repeat' (with_reducible first | exact ih0 _ _ _ _ _ _ _ _ _ _ _ _ _ _ _ _ | exact ih1 _ _ _ _ _ _ _ _ _ _ _ _ _ _ _ _ _ _ | exact job_Part.mono _ _ _ _ _ _ _ _ _ _ _ _ _ _ _ _ | exact LeO.refl _ | exact LeO.none _ | refine LeO.ite ?_ ?_ | refine LeO.bind ?_ (fun _ => ?_))
  ·intro y0 y1 y2 y3 y4 y5 y6 y7 y8 y9 y10 y11 y12 y13 y14 y15 y16 y17
   unfold mapper_Parts.l0
   repeat' (with_reducible first | exact ih0 _ _ _ _ _ _ _ _ _ _ _ _ _ _ _ _ | exact ih1 _ _ _ _ _ _ _ _ _ _ _ _ _ _ _ _ _ _ | exact job_Part.mono _ _ _ _ _ _ _ _ _ _ _ _ _ _ _ _ | exact LeO.refl _ | exact LeO.none _ | refine LeO.ite ?_ ?_ | refine LeO.bind ?_ (fun _ => ?_))
theorem mapper_Parts.mono : ∀ a0 a1 a2 a3 a4 a5 a6 a7 a8 a9 a10 a11 a12 a13 a14 k, LeO (mapper_Parts.f k a0 a1 a2 a3 a4 a5 a6 a7 a8 a9 a10 a11 a12 a13 a14) (mapper_Parts.f (k + 1) a0 a1 a2 a3 a4 a5 a6 a7 a8 a9 a10 a11 a12 a13 a14) := by
 intro a0 a1 a2 a3 a4 a5 a6 a7 a8 a9 a10 a11 a12 a13 a14 k
 obtain ⟨ih0, ih1⟩ := mapper_Parts.mono_l k
 unfold mapper_Parts.f
 repeat' (with_reducible first | exact ih0 _ _ _ _ _ _ _ _ _ _ _ _ _ _ _ _ | exact ih1 _ _ _ _ _ _ _ _ _ _ _ _ _ _ _ _ _ _ | exact job_Part.mono _ _ _ _ _ _ _ _ _ _ _ _ _ _ _ _ | exact LeO.refl _ | exact LeO.none _ | refine LeO.ite ?_ ?_ | refine LeO.bind ?_ (fun _ => ?_))
def mapper_Parts.T8 : Bool × List (List Nat × List Nat) := (true, [([], []), ([], []), ([], []), ([], []), ([2, 3], [2, 3]), ([4], [4]), ([], []), ([6], [6]), ([5, 7], [5, 7]), ([0, 1, 0, 1, 2, 3, 4, 5, 6, 7, 8], [0, 1]), ([9, 8, 8, 0, 1, 2, 3, 4, 5, 6, 7, 8], [8, 9])])
def mapper_Parts.B8 : List Nat := [0, 0, 0, 0, 12, 28, 0, 64, 252, 511, 1023]
theorem mapper_Parts.tab8 : rtab .any (opsOf Tryz.f8 8) = mapper_Parts.T8 := by kernel_rfl
theorem mapper_Parts.bits8 : waitsOk mapper_Parts.T8.2 mapper_Parts.B8 = true := by kernel_rfl
set_option maxHeartbeats 8000000 in
set_option maxRecDepth 100000 in
theorem mapper_Parts.calls (k : Nat) (a0_0 : Bool) (A0_1 : Option Addr) (c0_1 : Nat) (l0_1 : List (S50)) (A0_2 : Option Addr) (c0_2 : Nat) (l0_2 : List (S50)) (A0_3 : Option Addr) (c0_3 : Nat) (l0_3 : List (S50)) (a0_4 : Int) (A0_5 : Option Addr) (c0_5 : Nat) (l0_5 : List (S50)) (a0_6 : Bool) (a0_7 : Int) (a0_8 : ByteArray) (a0_9 : Bool) (a0_10 : Int) (a0_11 : Bool) (a0_12 : Bool) (a0_13 : Int) (A1 : Option Addr) (c1 : Nat) (l1 : List (S55)) (r : List (List (S55))) (w : World) (hT : Tabs w) (hr0_1 : Kd.C k50 w A0_1 l0_1.length l0_1) (hc0_1 : l0_1.length ≤ c0_1) (hr0_2 : Kd.C k50 w A0_2 l0_2.length l0_2) (hc0_2 : l0_2.length ≤ c0_2) (hr0_3 : Kd.C k50 w A0_3 l0_3.length l0_3) (hc0_3 : l0_3.length ≤ c0_3) (hr0_5 : Kd.C k50 w A0_5 l0_5.length l0_5) (hc0_5 : l0_5.length ≤ c0_5) (hr1 : Kd.C k55 w A1 l1.length l1) (hc1 : l1.length ≤ c1) (h : mapper_Parts.f k a0_0 l0_1 l0_2 l0_3 a0_4 l0_5 a0_6 a0_7 a0_8 a0_9 a0_10 a0_11 a0_12 a0_13 l1 = some r) :
  Calls Tryz.prog 8 #[.agg #[.bool a0_0, .slice A0_1 l0_1.length c0_1, .slice A0_2 l0_2.length c0_2, .slice A0_3 l0_3.length c0_3, .int .i64 a0_4, .slice A0_5 l0_5.length c0_5, .bool a0_6, .int .i64 a0_7, .string a0_8, .bool a0_9, .int .i64 a0_10, .bool a0_11, .bool a0_12, .int .i64 a0_13], .slice A1 l1.length c1] w fun e w' => ∃ v0_ : Value, e = .returned (v0_) ∧ Kd.S (Kd.slice 55 k55) 27 w' w.heap.size (fun _ => True) v0_ r ∧ Below w.heap.size w w' := by
 have hu26 := Tryz.underlying26
 have hu55 := Tryz.underlying55
 have HR0_1 := xy hr0_1
 have HC0_1 := xy hc0_1
 clear hr0_1 hc0_1
 have HR0_2 := xy hr0_2
 have HC0_2 := xy hc0_2
 clear hr0_2 hc0_2
 have HR0_3 := xy hr0_3
 have HC0_3 := xy hc0_3
 clear hr0_3 hc0_3
 have HR0_5 := xy hr0_5
 have HC0_5 := xy hc0_5
 clear hr0_5 hc0_5
 have HR1 := xy hr1
 have HC1 := xy hc1
 clear hr1 hc1
 have HB := xy (Below.refl w.heap.size w)
 unfold mapper_Parts.f at h
 have H := h
 clear h
 have HC3 := xy H
 clear H
 go_enter Tryz.func8, Tryz.ntmps8
 go_upto_region 1 with (first | ((with_reducible refine gate_dst (N := 2) rfl ?_); refine xq (N := 2) (cs := #[.bool a0_0, .slice A0_1 l0_1.length c0_1, .slice A0_2 l0_2.length c0_2, .slice A0_3 l0_3.length c0_3, .int .i64 a0_4, .slice A0_5 l0_5.length c0_5, .bool a0_6, .int .i64 a0_7, .string a0_8, .bool a0_9, .int .i64 a0_10, .bool a0_11, .bool a0_12, .int .i64 a0_13]) (t := 26) ?_; intro gb109 hg w4 hbox hb; have BK109 := xy (hbox); have GW109 := xs w hg; have GE109 := xs w hg; replace HB := xy (below_step xb hb); clear hb hbox hg))
 (try simp only [Act.put, List.setIfInBounds_toArray, List.set_cons_zero, List.set_cons_succ])
 go_cut [16] (fun v16 wc => ∃ (kq : Nat) (x16_2 : Bool), v16 = .bool x16_2 ∧ Aside0 (mapper_Parts.j0 kq l1 x16_2 a0_0 l0_1 l0_2 l0_3 a0_4 l0_5 a0_6 a0_7 a0_8 a0_9 a0_10 a0_11 a0_12 a0_13 = some r) ∧ Aside0 (kq ≤ k) ∧ Aside0 (wc.heap[gb109]? = some (.cells #[.bool a0_0, (.slice A0_1 l0_1.length c0_1), (.slice A0_2 l0_2.length c0_2), (.slice A0_3 l0_3.length c0_3), .int .i64 a0_4, (.slice A0_5 l0_5.length c0_5), .bool a0_6, .int .i64 a0_7, .string a0_8, .bool a0_9, .int .i64 a0_10, .bool a0_11, .bool a0_12, .int .i64 a0_13] 26 (0, 0))) ∧ Aside0 (Below w.heap.size w wc))
 case first =>
  have H := HC3.out
  clear HC3
  by_cases c5 : a0_10 < 1
  ·rw [if_pos c5] at H
   have c5b0 : decide (a0_10 < 1) = true := decide_eq_true c5
   clear c5
   (first | rw [c5b0] | (simp only [i64_w, i32_w]; rw [c5b0]) | skip)
   have H' := xy H
   clear H
   obtain ⟨hcz6_0, hcz6_1, hcz6_2, hcz6_3, hcz6_4, hcz6_5, hcz6_6, hcz6_7, hcz6_8, hcz6_9, hcz6_10, hcz6_11, hcz6_12, hcz6_13⟩ := kt14 BK109.out
   obtain ⟨hfz6_0, hfz6_1, hfz6_2, hfz6_3, hfz6_4, hfz6_5, hfz6_6, hfz6_7, hfz6_8, hfz6_9, hfz6_10, hfz6_11, hfz6_12, hfz6_13⟩ := kz14 BK109.out
   go_wp2
   go_meet
   case rel => exact ⟨_, (true), xg, H', ⟨by first | omega | exact Nat.le_refl _⟩, ⟨by (with_reducible repeat (first | refine blk_drewN ?_ _ | refine blk_drew ?_ | refine blk_alloc ?_ _)); exact BK109.out⟩, ⟨xb⟩⟩
  ·rw [if_neg c5] at H
   have c5b0 : decide (a0_10 < 1) = false := decide_eq_false c5
   clear c5
   (first | rw [c5b0] | (simp only [i64_w, i32_w]; rw [c5b0]) | skip)
   have H' := xy H
   clear H
   obtain ⟨hcz7_0, hcz7_1, hcz7_2, hcz7_3, hcz7_4, hcz7_5, hcz7_6, hcz7_7, hcz7_8, hcz7_9, hcz7_10, hcz7_11, hcz7_12, hcz7_13⟩ := kt14 BK109.out
   obtain ⟨hfz7_0, hfz7_1, hfz7_2, hfz7_3, hfz7_4, hfz7_5, hfz7_6, hfz7_7, hfz7_8, hfz7_9, hfz7_10, hfz7_11, hfz7_12, hfz7_13⟩ := kz14 BK109.out
   go_wp2
   go_meet
   case rel => exact ⟨_, (decide (a0_10 > 8)), xg, H', ⟨by first | omega | exact Nat.le_refl _⟩, ⟨by (with_reducible repeat (first | refine blk_drewN ?_ _ | refine blk_drew ?_ | refine blk_alloc ?_ _)); exact BK109.out⟩, ⟨xb⟩⟩
 case rest =>
  clear HC3
  try clear c1
  try clear p2
  try clear c5
  try clear c5b0
  try clear hcz6_0 hcz6_1 hcz6_10 hcz6_11 hcz6_12 hcz6_13 hcz6_2 hcz6_3 hcz6_4 hcz6_5 hcz6_6 hcz6_7 hcz6_8 hcz6_9
  try clear hcz7_0 hcz7_1 hcz7_10 hcz7_11 hcz7_12 hcz7_13 hcz7_2 hcz7_3 hcz7_4 hcz7_5 hcz7_6 hcz7_7 hcz7_8 hcz7_9
  try clear hfz6_0 hfz6_1 hfz6_10 hfz6_11 hfz6_12 hfz6_13 hfz6_2 hfz6_3 hfz6_4 hfz6_5 hfz6_6 hfz6_7 hfz6_8 hfz6_9
  try clear hfz7_0 hfz7_1 hfz7_10 hfz7_11 hfz7_12 hfz7_13 hfz7_2 hfz7_3 hfz7_4 hfz7_5 hfz7_6 hfz7_7 hfz7_8 hfz7_9
  obtain ⟨kq, x16_2, rfl, HA, HJ2, BK109, HB⟩ := hcut
  cases kq with
  | zero => exact absurd HA.out (by simp [mapper_Parts.j0])
  | succ kj2 =>
   have H := HA.out
   clear HA
   simp only [mapper_Parts.j0] at H
   by_cases c8 : x16_2 = true
   ·subst c8
    rw [if_pos rfl] at H
    obtain rfl := Option.some.inj H
    go_wp2
    go_ret
    exact ⟨_, by first | rfl | (simp [errW_none, errW_some] <;> rfl) | (simp [*, errW_none, errW_some] <;> rfl), by first | exact Kd.S_nil _ _ _ _ _ | exact Kd.N_nil _ _ _ _ _ | exact Kd.V_nil _ _ _ _ _ | exact Kd.Q_nil _ _ _ _ _ | exact Kd.R_nil _ _ _ _ _, xb⟩
   ·replace c8 := Bool.eq_false_iff.mpr c8
    subst c8
    rw [if_neg (show ¬ (false = true) by decide)] at H
    by_cases c9 : 0 ≤ a0_10
    ·rw [if_pos c9] at H
     have c9b0 := eq_true c9
     have c9b1 : decide (0 ≤ a0_10) = true := decide_eq_true c9
     clear c9
     by_cases c10 : (a0_10 : Int).toNat ≤ 11728124029610
     ·rw [if_pos c10] at H
      have c10b0 := eq_true c10
      have c10b1 : decide ((a0_10 : Int).toNat ≤ 11728124029610) = true := decide_eq_true c10
      clear c10
      obtain ⟨y110, hy110⟩ : ∃ y_ : List (List (S55)), y_ = (List.replicate (a0_10 : Int).toNat []) := ⟨_, rfl⟩
      replace H : (mapper_Parts.l0 kj2 y110 l1 (l1.length : Int) 0 a0_0 l0_1 l0_2 l0_3 a0_4 l0_5 a0_6 a0_7 a0_8 a0_9 a0_10 a0_11 a0_12 a0_13) = some r := by first | (rw [hy110]; with_reducible exact H) | (have H2_ := (Option.bind_some _ _).symm.trans H; rw [hy110]; with_reducible exact H2_) | (have H2_ := (Option.bind_some _ _).symm.trans H; with_reducible exact H2_) | with_reducible exact H | (rw [hy110]; exact H) | exact H
      have Ny110 := xy hy110
      clear hy110
      have H' := xy H
      clear H
      obtain ⟨hcz11_0, hcz11_1, hcz11_2, hcz11_3, hcz11_4, hcz11_5, hcz11_6, hcz11_7, hcz11_8, hcz11_9, hcz11_10, hcz11_11, hcz11_12, hcz11_13⟩ := kt14 BK109.out
      obtain ⟨hfz11_0, hfz11_1, hfz11_2, hfz11_3, hfz11_4, hfz11_5, hfz11_6, hfz11_7, hfz11_8, hfz11_9, hfz11_10, hfz11_11, hfz11_12, hfz11_13⟩ := kz14 BK109.out
      go_wp2_with (first | ((with_reducible refine gate_dst (N := 19) rfl ?_); refine Kd.S_make (Kd.slice 55 k55) _ 27 rfl (N := 19) rfl 31 _ _ rfl a0_10 rfl rfl Tryz.underlying31 (.slice none 0 0) 24 info27 rfl (by decide) (by omega) [] (ok := fun _ => True) (okp := fun _ => True) ⟨_, rfl, Kd.R_nil _ _ _ _ _⟩ (fun _ hk => hk) trivial xi (Nat.le_trans (Nat.mul_le_mul_right _ (xi : a0_10.toNat ≤ 11728124029610)) (by omega)) (Below.refl _ _) (Nat.le_refl _) ?_; intro v111 w12 ho13 hb hg_ hnew_; clear hg_ hnew_; (first | rw [← Ny110.out] at ho13 | (simp only [Int.reduceToNat] at ho13; rw [← Ny110.out] at ho13)); have HO112 := xy (Kd.S_lower ho13 (below_size xb)); replace BK109 := xd BK109.out hb; replace HB := xy (below_step xb hb); clear hb ho13))
      go_loopg [22] kj2 (fun kq v22 w' => ∃ (x5_2 : List (List (S55))) (x22_2 : Int), v22 = .int .i64 x22_2 ∧ Aside0 (mapper_Parts.l0 kq x5_2 l1 (l1.length : Int) x22_2 a0_0 l0_1 l0_2 l0_3 a0_4 l0_5 a0_6 a0_7 a0_8 a0_9 a0_10 a0_11 a0_12 a0_13 = some r) ∧ Aside0 (kq ≤ kj2) ∧ Aside0 (Kd.S (Kd.slice 55 k55) 27 w' w.heap.size (fun _ => True) v111 x5_2) ∧ Aside0 (w'.heap[gb109]? = some (.cells #[.bool a0_0, (.slice A0_1 l0_1.length c0_1), (.slice A0_2 l0_2.length c0_2), (.slice A0_3 l0_3.length c0_3), .int .i64 a0_4, (.slice A0_5 l0_5.length c0_5), .bool a0_6, .int .i64 a0_7, .string a0_8, .bool a0_9, .int .i64 a0_10, .bool a0_11, .bool a0_12, .int .i64 a0_13] 26 (0, 0))) ∧ Aside0 (Below w.heap.size w w'))
      case atStart => exact ⟨(y110), (0), xg, H', ⟨Nat.le_refl _⟩, ⟨by (with_reducible repeat (first | apply Kd.S_alloc | apply Kd.S_drewN | apply Kd.S_drew)); exact HO112.out⟩, ⟨by (with_reducible repeat (first | refine blk_drewN ?_ _ | refine blk_drew ?_ | refine blk_alloc ?_ _)); exact BK109.out⟩, ⟨xb⟩⟩
      case round =>
       clear H'
       try clear c1
       try clear p2
       try clear c5
       try clear c5b0
       try clear c8
       try clear c9
       try clear c9b0
       try clear c9b1
       try clear c10
       try clear c10b0
       try clear c10b1
       try clear hcz11_0 hcz11_1 hcz11_10 hcz11_11 hcz11_12 hcz11_13 hcz11_2 hcz11_3 hcz11_4 hcz11_5 hcz11_6 hcz11_7 hcz11_8 hcz11_9
       try clear hcz6_0 hcz6_1 hcz6_10 hcz6_11 hcz6_12 hcz6_13 hcz6_2 hcz6_3 hcz6_4 hcz6_5 hcz6_6 hcz6_7 hcz6_8 hcz6_9
       try clear hcz7_0 hcz7_1 hcz7_10 hcz7_11 hcz7_12 hcz7_13 hcz7_2 hcz7_3 hcz7_4 hcz7_5 hcz7_6 hcz7_7 hcz7_8 hcz7_9
       try clear hfz11_0 hfz11_1 hfz11_10 hfz11_11 hfz11_12 hfz11_13 hfz11_2 hfz11_3 hfz11_4 hfz11_5 hfz11_6 hfz11_7 hfz11_8 hfz11_9
       try clear hfz6_0 hfz6_1 hfz6_10 hfz6_11 hfz6_12 hfz6_13 hfz6_2 hfz6_3 hfz6_4 hfz6_5 hfz6_6 hfz6_7 hfz6_8 hfz6_9
       try clear hfz7_0 hfz7_1 hfz7_10 hfz7_11 hfz7_12 hfz7_13 hfz7_2 hfz7_3 hfz7_4 hfz7_5 hfz7_6 hfz7_7 hfz7_8 hfz7_9
       try clear p2
       obtain ⟨x5_2, x22_2, rfl, HA, HK2, HO_5, BK109, HB⟩ := hrel
       cases gk with
       | zero => exact absurd HA.out (by simp [mapper_Parts.l0])
       | succ k2 =>
        have H := HA.out
        clear HA
        simp only [mapper_Parts.l0] at H
        by_cases c14 : x22_2 < (l1.length : Int)
        ·rw [if_pos c14] at H
         have c14b0 : decide (x22_2 < (l1.length : Int)) = true := decide_eq_true c14
         clear c14
         by_cases c15 : 0 ≤ x22_2
         ·rw [if_pos c15] at H
          have c15b0 : decide (0 ≤ x22_2) = true := decide_eq_true c15
          clear c15
          by_cases c16 : x22_2 < (l1.length : Int)
          ·rw [if_pos c16] at H
           have c16b0 : decide (x22_2 < (l1.length : Int)) = true := decide_eq_true c16
           clear c16
           replace H := xj H
           obtain ⟨t115, A170, H⟩ := H
           try dsimp only at H
           have A17 := xy A170
           clear A170
           by_cases c18 : 0 ≤ t115
           ·rw [if_pos c18] at H
            have c18b0 : decide (0 ≤ t115) = true := decide_eq_true c18
            clear c18
            by_cases c19 : t115 < (x5_2.length : Int)
            ·rw [if_pos c19] at H
             have c19b0 : decide (t115 < (x5_2.length : Int)) = true := decide_eq_true c19
             clear c19
             by_cases c20 : (rd_L6 x5_2 t115).length < 2932031007402
             ·rw [if_pos c20] at H
              have LMc20 := xy c20
              clear c20
              obtain ⟨y117, hy117⟩ : ∃ y_ : List (S55), y_ = ((rd_L6 x5_2 t115) ++ [(⟨(rd_T55 l1 x22_2).f0, (⟨(rd_T55 l1 x22_2).f1.f0, (rd_T55 l1 x22_2).f1.f1, (rd_T55 l1 x22_2).f1.f2⟩ : S24)⟩ : S55)]) := ⟨_, rfl⟩
              replace H : (mapper_Parts.l0 k2 (x5_2.set (t115 : Int).toNat y117) l1 (l1.length : Int) (wrap64 (x22_2 + 1)) a0_0 l0_1 l0_2 l0_3 a0_4 l0_5 a0_6 a0_7 a0_8 a0_9 a0_10 a0_11 a0_12 a0_13) = some r := by first | (rw [hy117]; with_reducible exact H) | (have H2_ := (Option.bind_some _ _).symm.trans H; rw [hy117]; with_reducible exact H2_) | (have H2_ := (Option.bind_some _ _).symm.trans H; with_reducible exact H2_) | with_reducible exact H | (rw [hy117]; exact H) | exact H
              have Ny117 := xy hy117
              clear hy117
              obtain ⟨y120, hy120⟩ : ∃ y_ : List (List (S55)), y_ = (x5_2.set (t115 : Int).toNat y117) := ⟨_, rfl⟩
              replace H : (mapper_Parts.l0 k2 y120 l1 (l1.length : Int) (wrap64 (x22_2 + 1)) a0_0 l0_1 l0_2 l0_3 a0_4 l0_5 a0_6 a0_7 a0_8 a0_9 a0_10 a0_11 a0_12 a0_13) = some r := by first | (rw [hy120]; with_reducible exact H) | (have H2_ := (Option.bind_some _ _).symm.trans H; rw [hy120]; with_reducible exact H2_) | (have H2_ := (Option.bind_some _ _).symm.trans H; with_reducible exact H2_) | with_reducible exact H | (rw [hy120]; exact H) | exact H
              have Ny120 := xy hy120
              clear hy120
              have H' := xy H
              clear H
              have p113 : 0 ≤ (x22_2 : Int) := xi
              have q113 : x22_2 < (l1.length : Int) := xi
              obtain ⟨ad113, e113, hx113_0, hx113_1, hx113_2, hx113_3⟩ := at_T55 HR1.out x22_2 p113 q113
              cases e113
              replace hx113_0 := (HB.out.cell (World.block_lt_of_cell? w _ hx113_0)).trans hx113_0
              replace hx113_1 := (HB.out.cell (World.block_lt_of_cell? w _ hx113_1)).trans hx113_1
              replace hx113_2 := (HB.out.cell (World.block_lt_of_cell? w _ hx113_2)).trans hx113_2
              replace hx113_3 := (HB.out.cell (World.block_lt_of_cell? w _ hx113_3)).trans hx113_3
              replace p113 := eq_true p113
              replace q113 := eq_true q113
              try go_wp2_with (first | ((with_reducible refine gate_dst (N := 7) rfl ?_); refine xq (N := 7) (cs := #[.string (⟨#[]⟩ : ByteArray), .bool false, .int .i64 0, .string (⟨#[]⟩ : ByteArray)]) (t := 55) ?_; intro gb114 hg w22 hbox hb; replace HO_5 := xy (Kd.S_below (Kd.S_elderB (by (with_reducible repeat (first | apply Kd.S_alloc | apply Kd.S_drewN | apply Kd.S_drew)); exact HO_5.out) gb114 (Nat.le_of_eq hg.symm)) hb); have BK114 := xy (hbox); have GW114 := xs w hg; have GE114 := xs w hg; replace HB := xy (below_step xb hb); have NB109_114 := xn hg BK109.out; have NB114_109 := xp hg BK109.out; replace BK109 := xd BK109.out hb; clear hb hbox hg; have hnb23 := NB114_109.out; have hnc23 := NB109_114.out; obtain ⟨hcz24_0, hcz24_1, hcz24_2, hcz24_3⟩ := kt4 BK114.out; obtain ⟨hfz24_0, hfz24_1, hfz24_2, hfz24_3⟩ := kz4 BK114.out; obtain ⟨hcz25_0, hcz25_1, hcz25_2, hcz25_3, hcz25_4, hcz25_5, hcz25_6, hcz25_7, hcz25_8, hcz25_9, hcz25_10, hcz25_11, hcz25_12, hcz25_13⟩ := kt14 BK109.out; obtain ⟨hfz25_0, hfz25_1, hfz25_2, hfz25_3, hfz25_4, hfz25_5, hfz25_6, hfz25_7, hfz25_8, hfz25_9, hfz25_10, hfz25_11, hfz25_12, hfz25_13⟩ := kz14 BK109.out) | ((with_reducible refine gate_callee (f := 18) rfl ?_); refine goesL_ (some 29) rfl rfl Tryz.func18 (by kernel_rfl) rfl #[.agg #[.bool a0_0, .slice A0_1 l0_1.length c0_1, .slice A0_2 l0_2.length c0_2, .slice A0_3 l0_3.length c0_3, .int .i64 a0_4, .slice A0_5 l0_5.length c0_5, .bool a0_6, .int .i64 a0_7, .string a0_8, .bool a0_9, .int .i64 a0_10, .bool a0_11, .bool a0_12, .int .i64 a0_13], .string ((rd_T55 l1 x22_2).f0)] rfl xr ?_; (with_reducible refine (job_Part.calls k2 a0_0 _ _ l0_1 _ _ l0_2 _ _ l0_3 a0_4 _ _ l0_5 a0_6 a0_7 a0_8 a0_9 a0_10 a0_11 a0_12 a0_13 ((rd_T55 l1 x22_2).f0) t115 _ (Tabs.below hT xf) ?side1 ?side2 ?side3 ?side4 ?side5 ?side6 ?side7 ?side8 A17.out).mono ?_); (case side1 => exact Kd.C_below HR0_1.out xb); (case side2 => exact HC0_1.out); (case side3 => exact Kd.C_below HR0_2.out xb); (case side4 => exact HC0_2.out); (case side5 => exact Kd.C_below HR0_3.out xb); (case side6 => exact HC0_3.out); (case side7 => exact Kd.C_below HR0_5.out xb); (case side8 => exact HC0_5.out); rintro e w26 ⟨rfl, hb⟩; refine ⟨_, rfl, ?_⟩; replace HO_5 := xy (Kd.S_below (by (with_reducible repeat (first | apply Kd.S_alloc | apply Kd.S_drewN | apply Kd.S_drew)); exact (Kd.S_mono (Kd.S_far (p := ⟨gb114, 3, none⟩) (Kd.S_far (p := ⟨gb114, 2, none⟩) (Kd.S_far (p := ⟨gb114, 1, none⟩) (Kd.S_far (p := ⟨gb114, 0, none⟩) (Kd.S_mono HO_5.out (fun k_ hk => (⟨hk, hk.2⟩ : _ ∧ k_ ≠ gb114))) (fun _ hk => hk.2) (.string ((rd_T55 l1 x22_2).f0))) (fun _ hk => hk.2) (.bool ((rd_T55 l1 x22_2).f1.f0))) (fun _ hk => hk.2) (.int .i64 ((rd_T55 l1 x22_2).f1.f1))) (fun _ hk => hk.2) (.string ((rd_T55 l1 x22_2).f1.f2))) (fun _ h_ => h_.1))) hb); replace BK109 := xy (blk_below (g := gb109) (o := .cells #[.bool a0_0, .slice A0_1 l0_1.length c0_1, .slice A0_2 l0_2.length c0_2, .slice A0_3 l0_3.length c0_3, .int .i64 a0_4, .slice A0_5 l0_5.length c0_5, .bool a0_6, .int .i64 a0_7, .string a0_8, .bool a0_9, .int .i64 a0_10, .bool a0_11, .bool a0_12, .int .i64 a0_13] 26 (0, 0)) (by repeat (first | (with_reducible first | exact BK109.out | refine blk_drewN ?_ _ | refine blk_drew ?_ | refine blk_alloc ?_ _) | refine blk_far ?_ NB109_114.out _ | exact BK109.out)) hb); replace BK114 := xy (blk_below (g := gb114) (o := .cells #[.string ((rd_T55 l1 x22_2).f0), .bool ((rd_T55 l1 x22_2).f1.f0), .int .i64 ((rd_T55 l1 x22_2).f1.f1), .string ((rd_T55 l1 x22_2).f1.f2)] 55 (0, 0)) (by (with_reducible repeat (first | refine blk_drewN ?_ _ | refine blk_drew ?_ | refine blk_alloc ?_ _)); apply kq4; (with_reducible repeat (first | refine blk_drewN ?_ _ | refine blk_drew ?_ | refine blk_alloc ?_ _)); exact BK114.out) hb); replace HB := xy (below_step xb hb); (try clear hb); (try clear hb2); (try clear hk); (try clear hi)))
              replace HO_5 := xy (Kd.S_drew HO_5.out)
              replace BK109 := xy (blk_drew BK109.out)
              replace BK114 := xy (blk_drew BK114.out)
              replace HB := xy (below_drew1 HB.out)
              obtain ⟨Ao28, co28, eo28⟩ := Kd.S_slice HO_5.out
              (first | subst eo28 | (injection eo28 with f1_ f2_ f3_; have f4_ := f1_.symm; have f5_ := f3_.symm; clear f1_ f2_ f3_; subst f4_; subst f5_))
              have p116 : 0 ≤ (t115 : Int) := xi
              have q116 : t115 < (x5_2.length : Int) := xi
              obtain ⟨ad116, A116_0, c116_0, e116, hx116_0, hl116_0, hi116_0⟩ := at_L6 (Kd.S_reads' HO_5.out).2.2 t115 p116 q116
              cases e116
              obtain ⟨ce116, hce116, hMe116, hcc116⟩ := Kd.S_get HO_5.out [] t115 p116 (by first | exact q116 | exact xi | (have e_ := (Kd.S_reads' HO_5.out).1; omega))
              obtain ⟨ve116_0, rfl, ge116_0⟩ := hMe116
              have hv116_0 := hcc116 0 _ rfl
              rw [Nat.add_zero, show ((Kd.slice 55 k55)).sz = 1 from rfl, Nat.mul_one] at hv116_0
              replace hv116_0 := Option.some.inj (hv116_0.symm.trans hx116_0)
              rw [hv116_0] at ge116_0
              have HL116_0 := xy (show Kd.R k55 55 _ _ _ _ (rd_L6 x5_2 t115) from ge116_0)
              clear hv116_0 ge116_0
              have HX116_0 := xy hx116_0
              clear hcc116 hce116
              have HR116_0 := xy hi116_0
              have HC116_0 := xy hl116_0
              clear hi116_0 hl116_0
              replace p116 := eq_true p116
              replace q116 := eq_true q116
              have n_ := xy (Kd.S_mono (ok' := (fun k_ => k_ ≠ gb114)) HO_5.out (fun k_ hk => hk.2))
              clear HO_5
              have HO_5 := n_
              clear n_
              obtain ⟨go29, co29, eo29, gb29, gl29, cl29, HG29⟩ := Kd.S_form HO_5.out (by have h_ : (t115 : Int) < ((x5_2.length : Int) : Int) := xi; have h2_ : 0 ≤ (t115 : Int) := xi; omega)
              (first | cases eo29 | (injection eo29 with ea_ en_ ec_; (first | subst ea_ | (injection ea_ with ea_; subst ea_)); subst ec_; clear en_))
              have GB29 := xy gb29
              have GG29 := xy HG29
              clear gb29 gl29 HG29
              (first | simp only [add_plain] at hx116_0 | skip)
              obtain ⟨oki29, ce29, hcl29, hM29, hcc29, _, _, hH29⟩ := Kd.S_elem HO_5.out [] (t115 : Int) xi (by have h_ : (t115 : Int) < ((x5_2.length : Int) : Int) := xi; first | exact h_ | (have e_ := (Kd.S_reads' HO_5.out).1; omega) | simpa using h_)
              obtain ⟨ve29_0, rfl, ge29_0⟩ := hM29
              have hv29 := hcc29 0 _ rfl
              have hX29 := HX116_0.out
              (try simp only [add_plain] at hX29)
              (try simp only [Nat.add_zero] at hv29)
              (try rw [show ((Kd.slice 55 k55)).sz = 1 from rfl, Nat.mul_one] at hv29)
              replace hv29 := Option.some.inj (hv29.symm.trans hX29)
              subst hv29
              clear hX29 hcc29 hcl29
              have UU29 := xy (show Kd.R k55 55 _ w.heap.size oki29 (.slice A116_0 (rd_L6 x5_2 t115).length c116_0) (rd_L6 x5_2 t115) from ge29_0)
              have HH29 := xy hH29
              have HN29 := xy (Kd.S_reads' HO_5.out).1
              clear hH29 ge29_0
              refine start_ (n := 11) (S := fun w' => w'.cell? ⟨gb114, 0, none⟩ = some (.string ((rd_T55 l1 x22_2).f0)) ∧ w'.cell? ⟨gb114, 1, none⟩ = some (.bool ((rd_T55 l1 x22_2).f1.f0)) ∧ w'.cell? ⟨gb114, 2, none⟩ = some (.int .i64 ((rd_T55 l1 x22_2).f1.f1)) ∧ w'.cell? ⟨gb114, 3, none⟩ = some (.string ((rd_T55 l1 x22_2).f1.f2)) ∧ w'.cell? ⟨go29, (t115).toNat, none⟩ = some (.slice A116_0 (rd_L6 x5_2 t115).length c116_0)) (ds := [10]) #[false, false, false, false, false, false, false, false, false, false, false] (by kernel_rfl) rfl rfl ⟨(kc BK114.out 0).trans rfl, (kc BK114.out 1).trans rfl, (kc BK114.out 2).trans rfl, (kc BK114.out 3).trans rfl, hx116_0⟩ (fun hHeld => ?_); refine with_tabW mapper_Parts.tab8 mapper_Parts.bits8 (fun HT_ HW_ => ?_)
              generalize w26.drew = w27 at HO_5 BK109 BK114 HB GG29 HH29 HL116_0 HR116_0 HX116_0 UU29 hx116_0 hHeld ⊢
              refine yz 0 (some 30) (bs 11 1) HT_.out (h := ?_)
              refine yz 1 (some 31) (bs 11 3) HT_.out (h := ?_)
              refine yz 2 (some 32) (bs 11 7) HT_.out (h := ?_)
              refine yz 3 (some 33) (bs 11 15) HT_.out (h := ?_)
              refine yz 4 (some 34) (bs 11 31) HT_.out (h := ?_)
              refine yt 5 (some 35) (bs 11 63) HT_.out HW_.out hHeld (h := ?_)
              refine yt 6 (some 36) (bs 11 127) HT_.out HW_.out hHeld (h := ?_)
              refine one_ (i := 7) (N := some 37) #[true, true, true, true, true, true, true, true, false, false, false] rfl rfl (one_of HT_.out (by kernel_rfl)) (by decide) (fun K hK => ?_)
              refine value_ (w1 := ?_) (v := ?_) (by rfl) rfl ?_ ?_
              rotate_left 2
              ·go_simp
               constructor
               ·rfl
               ·rfl
              refine hK.out _ _ ⟨(blk_cell (blk_alloc BK114.out _) 0).trans rfl, (blk_cell (blk_alloc BK114.out _) 1).trans rfl, (blk_cell (blk_alloc BK114.out _) 2).trans rfl, (blk_cell (blk_alloc BK114.out _) 3).trans rfl, (World.cell?_alloc_lt _ _ _ (World.block_lt_of_cell? _ _ (hHeld.2.2.2.2))).trans (hHeld.2.2.2.2)⟩ (fun hHeld => ?_)
              clear hK K
              refine norm_ (a' := ?_) ?_ ?_
              rotate_left
              ·show Act.put _ (some 37) _ = _
               simp only [Act.put, List.setIfInBounds_toArray, List.set_cons_zero, List.set_cons_succ, i64_w, i32_w]
               rfl
              refine one_ (i := 8) (N := some 38) #[true, true, true, true, true, true, true, true, true, false, false] rfl rfl (one_of HT_.out (by kernel_rfl)) (by decide) (fun K hK => ?_)
              refine Kd.R_append_step k55 (w0 := w) w.heap.size (by rfl) (.tmp 35) (.tmp 37) 27 55 (.agg #[(.string ⟨#[]⟩), (.bool false), (.int .i64 0), (.string ⟨#[]⟩)]) 48 rfl Tryz.underlying27 info55 rfl (by decide) (by omega) (.slice A116_0 (rd_L6 x5_2 t115).length c116_0) (rd_L6 x5_2 t115) (⟨(rd_T55 l1 x22_2).f0, (⟨(rd_T55 l1 x22_2).f1.f0, (rd_T55 l1 x22_2).f1.f1, (rd_T55 l1 x22_2).f1.f2⟩ : S24)⟩ : S55) [.string ((rd_T55 l1 x22_2).f0), .bool ((rd_T55 l1 x22_2).f1.f0), .int .i64 ((rd_T55 l1 x22_2).f1.f1), .string ((rd_T55 l1 x22_2).f1.f2)] (fun k_ => oki29 k_ ∨ ((fun k_ => k_ ≠ gb114)) k_ ∧ w27.heap.size ≤ k_) (fun _ => False) rfl rfl ?aP (fun _ hk => hk.elim) ?aF ?aO ?aB ?aS ?aL ?_
              (case aP => exact k55_mkM _ _ _ (⟨(rd_T55 l1 x22_2).f0, (⟨(rd_T55 l1 x22_2).f1.f0, (rd_T55 l1 x22_2).f1.f1, (rd_T55 l1 x22_2).f1.f2⟩ : S24)⟩ : S55))
              (case aB => exact xb)
              (case aF => exact (fun k_ hk => .inr ⟨Kd.freshB (g := gb114) (o := .cells #[.string ((rd_T55 l1 x22_2).f0), .bool ((rd_T55 l1 x22_2).f1.f0), .int .i64 ((rd_T55 l1 x22_2).f1.f1), .string ((rd_T55 l1 x22_2).f1.f2)] 55 (0, 0)) (xk BK114.out) k_ hk, hk⟩))
              (case aO => exact (by (with_reducible repeat (first | apply Kd.R_alloc | apply Kd.R_drewN | apply Kd.R_drew)); exact Kd.R_mono UU29.out (fun _ hk => .inl hk)))
              (case aS => exact (below_size xb))
              (case aL => have := LMc20.out; omega)
              intro v118 w30 ho hb hg hat
              (first | have HS4_ := cell_grown hg (hHeld.2.2.2.2) (by first | (rw [add_block]; exact (fun e_ => ((HL116_0.out.1 _ e_.symm).2) rfl)) | (show some (Addr.add _ _).block ≠ _; rw [add_block]; exact (fun e_ => ((HL116_0.out.1 _ e_.symm).2) rfl)) | exact (fun e_ => ((HL116_0.out.1 _ e_.symm).2) rfl)) | have HS4_ := cell_grown hg (cell_unalloc (hHeld.2.2.2.2) (by first | (rw [add_block]; exact Kd.S_lt HO_5.out _ rfl) | (show (Addr.add _ _).block < _; rw [add_block]; exact Kd.S_lt HO_5.out _ rfl) | exact Kd.S_lt HO_5.out _ rfl)) (by first | (rw [add_block]; exact (fun e_ => ((HL116_0.out.1 _ e_.symm).2) rfl)) | (show some (Addr.add _ _).block ≠ _; rw [add_block]; exact (fun e_ => ((HL116_0.out.1 _ e_.symm).2) rfl)) | exact (fun e_ => ((HL116_0.out.1 _ e_.symm).2) rfl)))
              rw [← Ny117.out] at ho
              replace BK109 := xy (blk_grown (g := gb109) (o := .cells #[.bool a0_0, .slice A0_1 l0_1.length c0_1, .slice A0_2 l0_2.length c0_2, .slice A0_3 l0_3.length c0_3, .int .i64 a0_4, .slice A0_5 l0_5.length c0_5, .bool a0_6, .int .i64 a0_7, .string a0_8, .bool a0_9, .int .i64 a0_10, .bool a0_11, .bool a0_12, .int .i64 a0_13] 26 (0, 0)) (xk BK109.out) hg (Kd.R_ne HL116_0.out BK109.out (by decide)))
              replace BK114 := xy (blk_grown (g := gb114) (o := .cells #[.string ((rd_T55 l1 x22_2).f0), .bool ((rd_T55 l1 x22_2).f1.f0), .int .i64 ((rd_T55 l1 x22_2).f1.f1), .string ((rd_T55 l1 x22_2).f1.f2)] 55 (0, 0)) (xk BK114.out) hg (Kd.R_away HL116_0.out (fun _ hk => hk.1.2)))
              replace HB := xy (hb)
              replace HH29 := xy (Kd.H_grown (Kd.H_widen (by repeat (first | exact HH29.out | refine Kd.H_alloc ?_ _ | refine Kd.H_drewN ?_ _ | refine Kd.H_drew ?_))) hg (fun k_ e_ => .inl (UU29.out.1 k_ e_)))
              have HO119 := xy (ho)
              clear HO_5 UU29 HL116_0
              clear ho hb hg hat
              have p21 : 0 ≤ (t115 : Int) := xi
              have q21 : (t115 : Int) < ((x5_2.length : Int) : Int) := xi
              replace p21 := eq_true p21
              replace q21 := eq_true q21
              obtain ⟨Ao33, co33, eo33⟩ := Kd.R_slice HO119.out
              (first | subst eo33 | (injection eo33 with f1_ f2_ f3_; have f4_ := f1_.symm; have f5_ := f3_.symm; clear f1_ f2_ f3_; subst f4_; subst f5_))
              obtain ⟨_, _, hraw31, _, _, hcc31, _⟩ := Kd.H_raw HH29.out xi (by have h_ : (t115 : Int) < ((x5_2.length : Int) : Int) := xi; first | exact h_ | (have e_ := (HN29.out); omega) | simpa using h_)
              obtain ⟨_, hfr31⟩ := Kd.H_at HH29.out xi (by have h_ : (t115 : Int) < ((x5_2.length : Int) : Int) := xi; first | exact h_ | (have e_ := (HN29.out); omega) | simpa using h_)
              have hx31_0 := hcc31 0 _ rfl
              have hf31_0 := hfr31 0
              (try simp only [Nat.add_zero] at hx31_0 hf31_0)
              (try rw [show ((Kd.slice 55 k55)).sz = 1 from rfl, Nat.mul_one] at hx31_0)
              (try rw [show ((Kd.slice 55 k55)).sz = 1 from rfl, Nat.mul_one] at hf31_0)
              have HP31 := Kd.S_seg0 HH29.out xi (by have h_ : (t115 : Int) < ((x5_2.length : Int) : Int) := xi; first | exact h_ | (have e_ := (HN29.out); omega) | simpa using h_) (seg := [.slice Ao33 y117.length co33]) (j := 0) (show 1 ≤ 1 from by decide) (x' := y117) (Kd.M_row HO119.out) (fun _ hk => hk)
              (try simp only [show ((Kd.slice 55 k55)).sz = 1 from rfl, Nat.mul_one, Nat.add_zero] at HP31)
              clear hcc31 hfr31
              have HNB109_go29 := xy (show gb109 ≠ go29 from by have h_ := Kd.R_ne hraw31 BK109.out (by decide); intro e_; exact h_ (by rw [e_]; rfl))
              have HNB114_go29 := xy (show gb114 ≠ go29 from by have h_ := Kd.R_ne hraw31 BK114.out (by decide); intro e_; exact h_ (by rw [e_]; rfl))
              have HS31 := HP31.1
              rw [← Ny120.out] at HS31
              have HQ31 := xy HS31
              obtain ⟨_, hgg31⟩ := Kd.R_typed hraw31 go29 rfl
              have GG31_ := xy hgg31
              clear HP31 HS31 hgg31
              refine hK.out _ _ ⟨(kc BK114.out 0).trans rfl, (kc BK114.out 1).trans rfl, (kc BK114.out 2).trans rfl, (kc BK114.out 3).trans rfl, HS4_⟩ (fun hHeld => ?_)
              clear hK K
              refine norm_ (a' := ?_) ?_ ?_
              rotate_left
              ·show Act.put _ (some 38) _ = _
               simp only [Act.put, List.setIfInBounds_toArray, List.set_cons_zero, List.set_cons_succ, i64_w, i32_w]
               rfl
              refine yz 9 (some 39) (bs 11 1023) HT_.out (h := ?_)
              refine last_ (i := 10) (N := none) #[true, true, true, true, true, true, true, true, true, true, true] rfl rfl (one_of HT_.out (by kernel_rfl)) (by decide) (fun K hK => ?_)
              refine skip_ (w1 := ?_) (by rfl) rfl ?_ ?_
              rotate_left
              ·go_simp
               rfl
              refine hK.out _ _ ?_
              clear hK K
              refine done_ (done_of HT_.out (by kernel_rfl)) ?_
              try go_wp2
              go_roundg k2
              case measure => have := HJ2.out; have := HK2.out; omega
              case rel => exact ⟨(y120), (wrap64 (x22_2 + 1)), xg, H', ⟨by have := HJ2.out; have := HK2.out; omega⟩, ⟨by (with_reducible repeat (first | apply Kd.S_alloc | apply Kd.S_drewN | apply Kd.S_drew)); exact Kd.S_mono HQ31.out (fun _ hk => trivial)⟩, ⟨by repeat (first | (with_reducible first | exact BK109.out | refine blk_drewN ?_ _ | refine blk_drew ?_ | refine blk_alloc ?_ _) | refine blk_far ?_ HNB109_go29.out _ | exact BK109.out)⟩, ⟨by repeat (first | (with_reducible first | exact HB.out | apply below_alloc | apply pw_below_drewN | apply below_drew1 | refine below_set ?_ GB29.out | refine below_set ?_ GE109.out | refine below_set ?_ GE114.out) | exact HB.out)⟩⟩
             ·rw [if_neg c20] at H
              exact absurd H (by simp)
            ·rw [if_neg c19] at H
             exact absurd H (by simp)
           ·rw [if_neg c18] at H
            exact absurd H (by simp)
          ·rw [if_neg c16] at H
           exact absurd H (by simp)
         ·rw [if_neg c15] at H
          exact absurd H (by simp)
        ·rw [if_neg c14] at H
         have c14b0 : decide (x22_2 < (l1.length : Int)) = false := decide_eq_false c14
         clear c14
         obtain rfl := Option.some.inj H
         go_wp2
         go_ret
         exact ⟨_, by first | rfl | (simp [errW_none, errW_some] <;> rfl) | (simp [*, errW_none, errW_some] <;> rfl), by (with_reducible repeat (first | apply Kd.S_alloc | apply Kd.S_drewN | apply Kd.S_drew)); exact HO_5.out, xb⟩
     ·rw [if_neg c10] at H
      exact absurd H (by simp)
    ·rw [if_neg c9] at H
     exact absurd H (by simp)
end Go.Proofs.YtialoecplmnjfaaGreatDoor.PX
