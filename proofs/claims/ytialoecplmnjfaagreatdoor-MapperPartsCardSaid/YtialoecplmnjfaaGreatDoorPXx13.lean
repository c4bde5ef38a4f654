/- Walked functions, by this session's program over the kit's print. -/
import Derived.Test.YtialoecplmnjfaaGreatDoorPXx0
import Derived.Test.YtialoecplmnjfaaGreatDoorPXx5
import Derived.Test.YtialoecplmnjfaaGreatDoorPXx11
import Derived.Test.YtialoecplmnjfaaGreatDoorPXx12
namespace Go.Proofs.YtialoecplmnjfaaGreatDoor.PX
open Go.RowKit Go.Proofs.YtialoecplmnjfaaGreatDoorW.PrintWords Go.Proofs.YtialoecplmnjfaaGreatDoorW.PrintLast Go.Proofs.YtialoecplmnjfaaGreatDoorW.PrintMore
attribute [local go_sem] xm_gtr max2_int min2_int max_two min_two max_three min_three max_four min_four
set_option linter.unusedVariables false
set_option linter.unusedSimpArgs false
/- Walked functions, by this session's program over the kit's print. -/
mutual
def mapper_Map.l0 : Nat → List (S55) → List (List ByteArray) → Int → Int → Bool → List (S50) → List (S50) → List (S50) → Int → List (S50) → Bool → Int → ByteArray → Bool → Int → Bool → Bool → Int → Option ((List (S55)) × Int)
 | 0, _, _, _, _, _, _, _, _, _, _, _, _, _, _, _, _, _, _ => none
 | k + 1, x7, x20, x21, x22, x238000, x238001, x238002, x238003, x238004, x238005, x238006, x238007, x238008, x238009, x238010, x238011, x238012, x238013 => if x22 < x21 then (if 0 ≤ x22 then (if x22 < (x20.length : Int) then ((mapper_See.f k x238000 x238001 x238002 x238003 x238004 x238005 x238006 x238007 x238008 x238009 x238010 x238011 x238012 x238013 (rd_L7 x20 x22)).bind fun t240 => (mapper_Map.l1 k x7 x20 x21 x22 t240 (t240.length : Int) 0 x238000 x238001 x238002 x238003 x238004 x238005 x238006 x238007 x238008 x238009 x238010 x238011 x238012 x238013)) else (none)) else (none)) else (some (x7, 0))
def mapper_Map.l1 : Nat → List (S55) → List (List ByteArray) → Int → Int → List (List ByteArray) → Int → Int → Bool → List (S50) → List (S50) → List (S50) → Int → List (S50) → Bool → Int → ByteArray → Bool → Int → Bool → Bool → Int → Option ((List (S55)) × Int)
 | 0, _, _, _, _, _, _, _, _, _, _, _, _, _, _, _, _, _, _, _, _, _ => none
 | k + 1, x7, x20, x21, x22, x28, x29, x30, x238000, x238001, x238002, x238003, x238004, x238005, x238006, x238007, x238008, x238009, x238010, x238011, x238012, x238013 => if x30 < x29 then (if 0 ≤ x30 then (if x30 < (x28.length : Int) then ((mapper_one.f k x238000 x238001 x238002 x238003 x238004 x238005 x238006 x238007 x238008 x238009 x238010 x238011 x238012 x238013 (rd_L7 x28 x30)).bind fun bt244 => (if bt244.2.2.2.2.2 = 0 then (if bt244.2.2.2.2.1 = true then (if x7.length < 2932031007402 then (mapper_Map.l1 k (x7 ++ [(⟨bt244.1, (⟨bt244.2.1, bt244.2.2.1, bt244.2.2.2.1⟩ : S24)⟩ : S55)]) x20 x21 x22 x28 x29 (wrap64 (x30 + 1)) x238000 x238001 x238002 x238003 x238004 x238005 x238006 x238007 x238008 x238009 x238010 x238011 x238012 x238013) else (none)) else (mapper_Map.l1 k x7 x20 x21 x22 x28 x29 (wrap64 (x30 + 1)) x238000 x238001 x238002 x238003 x238004 x238005 x238006 x238007 x238008 x238009 x238010 x238011 x238012 x238013)) else (some (([] : List (S55)), bt244.2.2.2.2.2)))) else (none)) else (none)) else (mapper_Map.l0 k x7 x20 x21 (wrap64 (x22 + 1)) x238000 x238001 x238002 x238003 x238004 x238005 x238006 x238007 x238008 x238009 x238010 x238011 x238012 x238013)
end
def mapper_Map.f (k : Nat) (a0_0 : Bool) (l0_1 : List (S50)) (l0_2 : List (S50)) (l0_3 : List (S50)) (a0_4 : Int) (l0_5 : List (S50)) (a0_6 : Bool) (a0_7 : Int) (a0_8 : ByteArray) (a0_9 : Bool) (a0_10 : Int) (a0_11 : Bool) (a0_12 : Bool) (a0_13 : Int) (l1 : List (List ByteArray)) : Option ((List (S55)) × Int) := (job_Check.f k a0_0 l0_1 l0_2 l0_3 a0_4 l0_5 a0_6 a0_7 a0_8 a0_9 a0_10 a0_11 a0_12 a0_13).bind fun t238 => (if t238 = 0 then (mapper_Map.l0 k ([] : List (S55)) l1 (l1.length : Int) 0 a0_0 l0_1 l0_2 l0_3 a0_4 l0_5 a0_6 a0_7 a0_8 a0_9 a0_10 a0_11 a0_12 a0_13) else (some (([] : List (S55)), t238)))
theorem mapper_Map.mono_l : ∀ k, (∀ y0 y1 y2 y3 y4 y5 y6 y7 y8 y9 y10 y11 y12 y13 y14 y15 y16 y17, LeO (mapper_Map.l0 k y0 y1 y2 y3 y4 y5 y6 y7 y8 y9 y10 y11 y12 y13 y14 y15 y16 y17) (mapper_Map.l0 (k + 1) y0 y1 y2 y3 y4 y5 y6 y7 y8 y9 y10 y11 y12 y13 y14 y15 y16 y17)) ∧ (∀ y0 y1 y2 y3 y4 y5 y6 y7 y8 y9 y10 y11 y12 y13 y14 y15 y16 y17 y18 y19 y20, LeO (mapper_Map.l1 k y0 y1 y2 y3 y4 y5 y6 y7 y8 y9 y10 y11 y12 y13 y14 y15 y16 y17 y18 y19 y20) (mapper_Map.l1 (k + 1) y0 y1 y2 y3 y4 y5 y6 y7 y8 y9 y10 y11 y12 y13 y14 y15 y16 y17 y18 y19 y20))
 | 0 => ⟨fun _ _ _ _ _ _ _ _ _ _ _ _ _ _ _ _ _ _ r h => by simp [mapper_Map.l0] at h, fun _ _ _ _ _ _ _ _ _ _ _ _ _ _ _ _ _ _ _ _ _ r h => by simp [mapper_Map.l1] at h⟩
 | k + 1 => by
  obtain ⟨ih0, ih1⟩ := mapper_Map.mono_l k
  refine ⟨?_, ?_⟩
  ·intro y0 y1 y2 y3 y4 y5 y6 y7 y8 y9 y10 y11 y12 y13 y14 y15 y16 y17
   unfold mapper_Map.l0
   repeat' (with_reducible first | exact ih0 _ _ _ _ _ _ _ _ _ _ _ _ _ _ _ _ _ _ | exact ih1 _ _ _ _ _ _ _ _ _ _ _ _ _ _ _ _ _ _ _ _ _ | exact job_Check.mono _ _ _ _ _ _ _ _ _ _ _ _ _ _ _ | exact mapper_See.mono _ _ _ _ _ _ _ _ _ _ _ _ _ _ _ _ | exact mapper_one.mono _ _ _ _ _ _ _ _ _ _ _ _ _ _ _ _ | exact LeO.refl _ | exact LeO.none _ | refine LeO.ite ?_ ?_ | refine LeO.bind ?_ (fun _ => ?_))
  ·intro y0 y1 y2 y3 y4 y5 y6 y7 y8 y9 y10 y11 y12 y13 y14 y15 y16 y17 y18 y19 y20
   unfold mapper_Map.l1
   repeat' (with_reducible first | exact ih0 _ _ _ _ _ _ _ _ _ _ _ _ _ _ _ _ _ _ | exact ih1 _ _ _ _ _ _ _ _ _ _ _ _ _ _ _ _ _ _ _ _ _ | exact job_Check.mono _ _ _ _ _ _ _ _ _ _ _ _ _ _ _ | exact mapper_See.mono _ _ _ _ _ _ _ _ _ _ _ _ _ _ _ _ | exact mapper_one.mono _ _ _ _ _ _ _ _ _ _ _ _ _ _ _ _ | exact LeO.refl _ | exact LeO.none _ | refine LeO.ite ?_ ?_ | refine LeO.bind ?_ (fun _ => ?_))
theorem mapper_Map.mono : ∀ a0 a1 a2 a3 a4 a5 a6 a7 a8 a9 a10 a11 a12 a13 a14 k, LeO (mapper_Map.f k a0 a1 a2 a3 a4 a5 a6 a7 a8 a9 a10 a11 a12 a13 a14) (mapper_Map.f (k + 1) a0 a1 a2 a3 a4 a5 a6 a7 a8 a9 a10 a11 a12 a13 a14) := by
 intro a0 a1 a2 a3 a4 a5 a6 a7 a8 a9 a10 a11 a12 a13 a14 k
 obtain ⟨ih0, ih1⟩ := mapper_Map.mono_l k
 unfold mapper_Map.f
 repeat' (with_reducible first | exact ih0 _ _ _ _ _ _ _ _ _ _ _ _ _ _ _ _ _ _ | exact ih1 _ _ _ _ _ _ _ _ _ _ _ _ _ _ _ _ _ _ _ _ _ | exact job_Check.mono _ _ _ _ _ _ _ _ _ _ _ _ _ _ _ | exact mapper_See.mono _ _ _ _ _ _ _ _ _ _ _ _ _ _ _ _ | exact mapper_one.mono _ _ _ _ _ _ _ _ _ _ _ _ _ _ _ _ | exact LeO.refl _ | exact LeO.none _ | refine LeO.ite ?_ ?_ | refine LeO.bind ?_ (fun _ => ?_))
set_option maxHeartbeats 8000000 in
set_option maxRecDepth 100000 in
theorem mapper_Map.calls (k : Nat) (a0_0 : Bool) (A0_1 : Option Addr) (c0_1 : Nat) (l0_1 : List (S50)) (A0_2 : Option Addr) (c0_2 : Nat) (l0_2 : List (S50)) (A0_3 : Option Addr) (c0_3 : Nat) (l0_3 : List (S50)) (a0_4 : Int) (A0_5 : Option Addr) (c0_5 : Nat) (l0_5 : List (S50)) (a0_6 : Bool) (a0_7 : Int) (a0_8 : ByteArray) (a0_9 : Bool) (a0_10 : Int) (a0_11 : Bool) (a0_12 : Bool) (a0_13 : Int) (A1 : Option Addr) (c1 : Nat) (l1 : List (List ByteArray)) (r1 : List (S55)) (r2 : Int) (w : World) (hT : Tabs w) (hr0_1 : Kd.C k50 w A0_1 l0_1.length l0_1) (hc0_1 : l0_1.length ≤ c0_1) (hr0_2 : Kd.C k50 w A0_2 l0_2.length l0_2) (hc0_2 : l0_2.length ≤ c0_2) (hr0_3 : Kd.C k50 w A0_3 l0_3.length l0_3) (hc0_3 : l0_3.length ≤ c0_3) (hr0_5 : Kd.C k50 w A0_5 l0_5.length l0_5) (hc0_5 : l0_5.length ≤ c0_5) (hr1 : Kd.C (Kd.slice 9 Kd.string) w A1 l1.length l1) (hc1 : l1.length ≤ c1) (h : mapper_Map.f k a0_0 l0_1 l0_2 l0_3 a0_4 l0_5 a0_6 a0_7 a0_8 a0_9 a0_10 a0_11 a0_12 a0_13 l1 = some (r1, r2)) :
  Calls Tryz.prog 15 #[.agg #[.bool a0_0, .slice A0_1 l0_1.length c0_1, .slice A0_2 l0_2.length c0_2, .slice A0_3 l0_3.length c0_3, .int .i64 a0_4, .slice A0_5 l0_5.length c0_5, .bool a0_6, .int .i64 a0_7, .string a0_8, .bool a0_9, .int .i64 a0_10, .bool a0_11, .bool a0_12, .int .i64 a0_13], .slice A1 l1.length c1] w fun e w' => ∃ v0_ : Value, e = .returned (.tuple #[v0_, .int .i64 r2]) ∧ Kd.R k55 55 w' w.heap.size (fun _ => True) v0_ r1 ∧ Below w.heap.size w w' := by
 have hu26 := Tryz.underlying26
 have hu55 := Tryz.underlying55
 have HR0_1 := xy hr0_1
 have HC0_1 := xy hc0_1
 clear hr0_1 hc0_1
 have HR0_2 := xy hr0_2
 have HC0_2 := xy hc0_2
 clear hr0_2 hc0_2
 have HR0_3 := xy hr0_3
 have HC0_3 := xy hc0_3
 clear hr0_3 hc0_3
 have HR0_5 := xy hr0_5
 have HC0_5 := xy hc0_5
 clear hr0_5 hc0_5
 have HR1 := xy hr1
 have HC1 := xy hc1
 clear hr1 hc1
 have HB := xy (Below.refl w.heap.size w)
 unfold mapper_Map.f at h
 have H := h
 clear h
 replace H := xj H
 obtain ⟨t238, A30, H⟩ := H
 try dsimp only at H
 have A3 := xy A30
 clear A30
 by_cases c4 : t238 = 0
 ·rw [if_pos c4] at H
  have c4b0 : (t238 == 0) = true := beq_iff_eq.mpr c4
  have c4b1 : (t238 != 0) = false := bne_eq_false_iff_eq.mpr c4
  clear c4
  have H' := xy H
  clear H
  go_enter Tryz.func15, Tryz.ntmps15
  go_wp2_with (first | ((with_reducible refine gate_dst (N := 2) rfl ?_); refine xq (N := 2) (cs := #[.bool a0_0, .slice A0_1 l0_1.length c0_1, .slice A0_2 l0_2.length c0_2, .slice A0_3 l0_3.length c0_3, .int .i64 a0_4, .slice A0_5 l0_5.length c0_5, .bool a0_6, .int .i64 a0_7, .string a0_8, .bool a0_9, .int .i64 a0_10, .bool a0_11, .bool a0_12, .int .i64 a0_13]) (t := 26) ?_; intro gb237 hg w5 hbox hb; have BK237 := xy (hbox); have GW237 := xs w hg; have GE237 := xs w hg; replace HB := xy (below_step xb hb); clear hb hbox hg; have hcz6_0 : w5.cell? ⟨gb237, 0, none⟩ = some (.bool a0_0) := (kc BK237.out 0).trans rfl; have hcz6_1 : w5.cell? ⟨gb237, 1, none⟩ = some (.slice A0_1 l0_1.length c0_1) := (kc BK237.out 1).trans rfl; have hcz6_2 : w5.cell? ⟨gb237, 2, none⟩ = some (.slice A0_2 l0_2.length c0_2) := (kc BK237.out 2).trans rfl; have hcz6_3 : w5.cell? ⟨gb237, 3, none⟩ = some (.slice A0_3 l0_3.length c0_3) := (kc BK237.out 3).trans rfl; have hcz6_4 : w5.cell? ⟨gb237, 4, none⟩ = some (.int .i64 a0_4) := (kc BK237.out 4).trans rfl; have hcz6_5 : w5.cell? ⟨gb237, 5, none⟩ = some (.slice A0_5 l0_5.length c0_5) := (kc BK237.out 5).trans rfl; have hcz6_6 : w5.cell? ⟨gb237, 6, none⟩ = some (.bool a0_6) := (kc BK237.out 6).trans rfl; have hcz6_7 : w5.cell? ⟨gb237, 7, none⟩ = some (.int .i64 a0_7) := (kc BK237.out 7).trans rfl; have hcz6_8 : w5.cell? ⟨gb237, 8, none⟩ = some (.string a0_8) := (kc BK237.out 8).trans rfl; have hcz6_9 : w5.cell? ⟨gb237, 9, none⟩ = some (.bool a0_9) := (kc BK237.out 9).trans rfl; have hcz6_10 : w5.cell? ⟨gb237, 10, none⟩ = some (.int .i64 a0_10) := (kc BK237.out 10).trans rfl; have hcz6_11 : w5.cell? ⟨gb237, 11, none⟩ = some (.bool a0_11) := (kc BK237.out 11).trans rfl; have hcz6_12 : w5.cell? ⟨gb237, 12, none⟩ = some (.bool a0_12) := (kc BK237.out 12).trans rfl; have hcz6_13 : w5.cell? ⟨gb237, 13, none⟩ = some (.int .i64 a0_13) := (kc BK237.out 13).trans rfl; have hfz6_0 := kf BK237.out 0; have hfz6_1 := kf BK237.out 1; have hfz6_2 := kf BK237.out 2; have hfz6_3 := kf BK237.out 3; have hfz6_4 := kf BK237.out 4; have hfz6_5 := kf BK237.out 5; have hfz6_6 := kf BK237.out 6; have hfz6_7 := kf BK237.out 7; have hfz6_8 := kf BK237.out 8; have hfz6_9 := kf BK237.out 9; have hfz6_10 := kf BK237.out 10; have hfz6_11 := kf BK237.out 11; have hfz6_12 := kf BK237.out 12; have hfz6_13 := kf BK237.out 13) | ((with_reducible refine gate_callee (f := 23) rfl ?_); refine goesL_ (some 16) rfl rfl Tryz.func23 (by kernel_rfl) rfl #[.agg #[.bool a0_0, .slice A0_1 l0_1.length c0_1, .slice A0_2 l0_2.length c0_2, .slice A0_3 l0_3.length c0_3, .int .i64 a0_4, .slice A0_5 l0_5.length c0_5, .bool a0_6, .int .i64 a0_7, .string a0_8, .bool a0_9, .int .i64 a0_10, .bool a0_11, .bool a0_12, .int .i64 a0_13]] rfl xr ?_; (with_reducible refine (job_Check.calls k a0_0 _ _ l0_1 _ _ l0_2 _ _ l0_3 a0_4 _ _ l0_5 a0_6 a0_7 a0_8 a0_9 a0_10 a0_11 a0_12 a0_13 t238 _ (Tabs.below hT xf) ?side1 ?side2 ?side3 ?side4 ?side5 ?side6 ?side7 ?side8 A3.out).mono ?_); (case side1 => exact Kd.C_below HR0_1.out xb); (case side2 => exact HC0_1.out); (case side3 => exact Kd.C_below HR0_2.out xb); (case side4 => exact HC0_2.out); (case side5 => exact Kd.C_below HR0_3.out xb); (case side6 => exact HC0_3.out); (case side7 => exact Kd.C_below HR0_5.out xb); (case side8 => exact HC0_5.out); rintro e w7 ⟨rfl, hb⟩; refine ⟨_, rfl, ?_⟩; replace BK237 := xd BK237.out hb; replace HB := xy (below_step xb hb); (try clear hb); (try clear hb2); (try clear hk); (try clear hi)))
  go_loopg [7, 22] k (fun kq v7 v22 w' => ∃ (x7_1 : List (S55)) (x22_1 : Int), v22 = .int .i64 x22_1 ∧ Aside0 (mapper_Map.l0 kq x7_1 l1 (l1.length : Int) x22_1 a0_0 l0_1 l0_2 l0_3 a0_4 l0_5 a0_6 a0_7 a0_8 a0_9 a0_10 a0_11 a0_12 a0_13 = some (r1, r2)) ∧ Aside0 (kq ≤ k) ∧ Aside0 (Kd.R k55 55 w' w.heap.size (fun _ => True) v7 x7_1) ∧ Aside0 (w'.heap[gb237]? = some (.cells #[.bool a0_0, (.slice A0_1 l0_1.length c0_1), (.slice A0_2 l0_2.length c0_2), (.slice A0_3 l0_3.length c0_3), .int .i64 a0_4, (.slice A0_5 l0_5.length c0_5), .bool a0_6, .int .i64 a0_7, .string a0_8, .bool a0_9, .int .i64 a0_10, .bool a0_11, .bool a0_12, .int .i64 a0_13] 26 (0, 0))) ∧ Aside0 (Below w.heap.size w w'))
  case atStart => exact ⟨(([] : List (S55))), (0), xg, H', ⟨Nat.le_refl _⟩, ⟨by first | exact Kd.R_nil _ _ _ _ _ | exact Kd.N_nil _ _ _ _ _ | exact Kd.V_nil _ _ _ _ _ | exact Kd.Q_nil _ _ _ _ _ | exact Kd.S_nil _ _ _ _ _⟩, ⟨by (with_reducible repeat (first | refine blk_drewN ?_ _ | refine blk_drew ?_ | refine blk_alloc ?_ _)); exact BK237.out⟩, ⟨xb⟩⟩
  case round =>
   clear H'
   try clear c1
   try clear c2
   try clear p2
   try clear c4
   try clear c4b0
   try clear c4b1
   try clear hcz6_0
   try clear hcz6_1
   try clear hcz6_10
   try clear hcz6_11
   try clear hcz6_12
   try clear hcz6_13
   try clear hcz6_2
   try clear hcz6_3
   try clear hcz6_4
   try clear hcz6_5
   try clear hcz6_6
   try clear hcz6_7
   try clear hcz6_8
   try clear hcz6_9
   try clear hfz6_0
   try clear hfz6_1
   try clear hfz6_10
   try clear hfz6_11
   try clear hfz6_12
   try clear hfz6_13
   try clear hfz6_2
   try clear hfz6_3
   try clear hfz6_4
   try clear hfz6_5
   try clear hfz6_6
   try clear hfz6_7
   try clear hfz6_8
   try clear hfz6_9
   obtain ⟨x7_1, x22_1, rfl, HA, HK1, HO_7, BK237, HB⟩ := hrel
   cases gk with
   | zero => exact absurd HA.out (by simp [mapper_Map.l0])
   | succ k1 =>
    have H := HA.out
    clear HA
    simp only [mapper_Map.l0] at H
    by_cases c8 : x22_1 < (l1.length : Int)
    ·rw [if_pos c8] at H
     have c8b0 : decide (x22_1 < (l1.length : Int)) = true := decide_eq_true c8
     clear c8
     by_cases c9 : 0 ≤ x22_1
     ·rw [if_pos c9] at H
      have c9b0 : decide (0 ≤ x22_1) = true := decide_eq_true c9
      clear c9
      by_cases c10 : x22_1 < (l1.length : Int)
      ·rw [if_pos c10] at H
       have c10b0 : decide (x22_1 < (l1.length : Int)) = true := decide_eq_true c10
       clear c10
       replace H := xj H
       obtain ⟨t240, A110, H⟩ := H
       try dsimp only at H
       have A11 := xy A110
       clear A110
       have H' := xy H
       clear H
       have p239 : 0 ≤ (x22_1 : Int) := xi
       have q239 : x22_1 < (l1.length : Int) := xi
       obtain ⟨ad239, A239_0, c239_0, e239, hx239_0, hl239_0, hi239_0⟩ := at_L7 HR1.out x22_1 p239 q239
       cases e239
       replace hx239_0 := (HB.out.cell (World.block_lt_of_cell? w _ hx239_0)).trans hx239_0
       have HR239_0 := xy hi239_0
       have HC239_0 := xy hl239_0
       clear hi239_0 hl239_0
       replace p239 := eq_true p239
       replace q239 := eq_true q239
       have hcz12_0 : wr.cell? ⟨gb237, 0, none⟩ = some (.bool a0_0) := (kc BK237.out 0).trans rfl
       have hcz12_1 : wr.cell? ⟨gb237, 1, none⟩ = some (.slice A0_1 l0_1.length c0_1) := (kc BK237.out 1).trans rfl
       have hcz12_2 : wr.cell? ⟨gb237, 2, none⟩ = some (.slice A0_2 l0_2.length c0_2) := (kc BK237.out 2).trans rfl
       have hcz12_3 : wr.cell? ⟨gb237, 3, none⟩ = some (.slice A0_3 l0_3.length c0_3) := (kc BK237.out 3).trans rfl
       have hcz12_4 : wr.cell? ⟨gb237, 4, none⟩ = some (.int .i64 a0_4) := (kc BK237.out 4).trans rfl
       have hcz12_5 : wr.cell? ⟨gb237, 5, none⟩ = some (.slice A0_5 l0_5.length c0_5) := (kc BK237.out 5).trans rfl
       have hcz12_6 : wr.cell? ⟨gb237, 6, none⟩ = some (.bool a0_6) := (kc BK237.out 6).trans rfl
       have hcz12_7 : wr.cell? ⟨gb237, 7, none⟩ = some (.int .i64 a0_7) := (kc BK237.out 7).trans rfl
       have hcz12_8 : wr.cell? ⟨gb237, 8, none⟩ = some (.string a0_8) := (kc BK237.out 8).trans rfl
       have hcz12_9 : wr.cell? ⟨gb237, 9, none⟩ = some (.bool a0_9) := (kc BK237.out 9).trans rfl
       have hcz12_10 : wr.cell? ⟨gb237, 10, none⟩ = some (.int .i64 a0_10) := (kc BK237.out 10).trans rfl
       have hcz12_11 : wr.cell? ⟨gb237, 11, none⟩ = some (.bool a0_11) := (kc BK237.out 11).trans rfl
       have hcz12_12 : wr.cell? ⟨gb237, 12, none⟩ = some (.bool a0_12) := (kc BK237.out 12).trans rfl
       have hcz12_13 : wr.cell? ⟨gb237, 13, none⟩ = some (.int .i64 a0_13) := (kc BK237.out 13).trans rfl
       have hfz12_0 := kf BK237.out 0
       have hfz12_1 := kf BK237.out 1
       have hfz12_2 := kf BK237.out 2
       have hfz12_3 := kf BK237.out 3
       have hfz12_4 := kf BK237.out 4
       have hfz12_5 := kf BK237.out 5
       have hfz12_6 := kf BK237.out 6
       have hfz12_7 := kf BK237.out 7
       have hfz12_8 := kf BK237.out 8
       have hfz12_9 := kf BK237.out 9
       have hfz12_10 := kf BK237.out 10
       have hfz12_11 := kf BK237.out 11
       have hfz12_12 := kf BK237.out 12
       have hfz12_13 := kf BK237.out 13
       go_wp2_with (first | ((with_reducible refine gate_callee (f := 14) rfl ?_); refine goesL_ (some 28) rfl rfl Tryz.func14 (by kernel_rfl) rfl #[.agg #[.bool a0_0, .slice A0_1 l0_1.length c0_1, .slice A0_2 l0_2.length c0_2, .slice A0_3 l0_3.length c0_3, .int .i64 a0_4, .slice A0_5 l0_5.length c0_5, .bool a0_6, .int .i64 a0_7, .string a0_8, .bool a0_9, .int .i64 a0_10, .bool a0_11, .bool a0_12, .int .i64 a0_13], .slice A239_0 (rd_L7 l1 x22_1).length c239_0] rfl xr ?_; (with_reducible refine (mapper_See.calls k1 a0_0 _ _ l0_1 _ _ l0_2 _ _ l0_3 a0_4 _ _ l0_5 a0_6 a0_7 a0_8 a0_9 a0_10 a0_11 a0_12 a0_13 _ _ (rd_L7 l1 x22_1) t240 _ (Tabs.below hT xf) ?side1 ?side2 ?side3 ?side4 ?side5 ?side6 ?side7 ?side8 ?side9 ?side10 A11.out).mono ?_); (case side1 => exact Kd.C_below HR0_1.out xb); (case side2 => exact HC0_1.out); (case side3 => exact Kd.C_below HR0_2.out xb); (case side4 => exact HC0_2.out); (case side5 => exact Kd.C_below HR0_3.out xb); (case side6 => exact HC0_3.out); (case side7 => exact Kd.C_below HR0_5.out xb); (case side8 => exact HC0_5.out); (case side9 => exact Kd.C_below HR239_0.out xb); (case side10 => exact HC239_0.out); rintro e w13 ⟨v241, rfl, ho0, hb⟩; refine ⟨_, rfl, ?_⟩; have HO242 := xy (Kd.N_lower (Kd.N_mono (ok' := fun k_ => some k_ ≠ (u7 : Value).ownBlock ∧ k_ ≠ gb237) ho0 (fun k_ hk_ => ⟨(Kd.fresh' (Kd.R_lt (xo HO_7.out)) k_ hk_), (Kd.freshB (g := gb237) (o := .cells #[.bool a0_0, .slice A0_1 l0_1.length c0_1, .slice A0_2 l0_2.length c0_2, .slice A0_3 l0_3.length c0_3, .int .i64 a0_4, .slice A0_5 l0_5.length c0_5, .bool a0_6, .int .i64 a0_7, .string a0_8, .bool a0_9, .int .i64 a0_10, .bool a0_11, .bool a0_12, .int .i64 a0_13] 26 (0, 0)) (xk BK237.out) k_ hk_)⟩)) (below_size xb)); replace HO_7 := xy (Kd.R_below (xo HO_7.out) hb); replace BK237 := xd BK237.out hb; replace HB := xy (below_step xb hb); (try clear hb); (try clear hb2); (try clear hk); (try clear hi); (try clear ho0); obtain ⟨Ao14, co14, eo14⟩ := Kd.N_slice HO242.out; subst eo14))
       go_loopg [7, 30] k1 (fun kq v7 v30 w' => ∃ (x7_2 : List (S55)) (x30_2 : Int), v30 = .int .i64 x30_2 ∧ Aside0 (mapper_Map.l1 kq x7_2 l1 (l1.length : Int) x22_1 t240 (t240.length : Int) x30_2 a0_0 l0_1 l0_2 l0_3 a0_4 l0_5 a0_6 a0_7 a0_8 a0_9 a0_10 a0_11 a0_12 a0_13 = some (r1, r2)) ∧ Aside0 (kq ≤ k1) ∧ Aside0 (Kd.R k55 55 w' w.heap.size (fun _ => True) v7 x7_2) ∧ Aside0 (Kd.N (Kd.slice 9 Kd.string) 45 w' w.heap.size (fun k_ => some k_ ≠ (v7 : Value).ownBlock ∧ k_ ≠ gb237) (.slice Ao14 t240.length co14) t240) ∧ Aside0 (w'.heap[gb237]? = some (.cells #[.bool a0_0, (.slice A0_1 l0_1.length c0_1), (.slice A0_2 l0_2.length c0_2), (.slice A0_3 l0_3.length c0_3), .int .i64 a0_4, (.slice A0_5 l0_5.length c0_5), .bool a0_6, .int .i64 a0_7, .string a0_8, .bool a0_9, .int .i64 a0_10, .bool a0_11, .bool a0_12, .int .i64 a0_13] 26 (0, 0))) ∧ Aside0 (Below w.heap.size w w'))
       case atStart => exact ⟨(x7_1), (0), xg, H', ⟨Nat.le_refl _⟩, ⟨by (with_reducible repeat (first | apply Kd.R_alloc | apply Kd.R_drewN | apply Kd.R_drew)); exact HO_7.out⟩, ⟨by (with_reducible repeat (first | apply Kd.N_alloc | apply Kd.N_drewN | apply Kd.N_drew)); exact HO242.out⟩, ⟨by (with_reducible repeat (first | refine blk_drewN ?_ _ | refine blk_drew ?_ | refine blk_alloc ?_ _)); exact BK237.out⟩, ⟨xb⟩⟩
       case round =>
        clear H'
        try clear c1
        try clear c2
        try clear p2
        try clear q2
        try clear hx2
        try clear c4
        try clear c4b0
        try clear c4b1
        try clear c8
        try clear c8b0
        try clear c9
        try clear c9b0
        try clear c10
        try clear c10b0
        try clear c14
        try clear hcz12_0
        try clear hcz12_1
        try clear hcz12_10
        try clear hcz12_11
        try clear hcz12_12
        try clear hcz12_13
        try clear hcz12_2
        try clear hcz12_3
        try clear hcz12_4
        try clear hcz12_5
        try clear hcz12_6
        try clear hcz12_7
        try clear hcz12_8
        try clear hcz12_9
        try clear hcz6_0
        try clear hcz6_1
        try clear hcz6_10
        try clear hcz6_11
        try clear hcz6_12
        try clear hcz6_13
        try clear hcz6_2
        try clear hcz6_3
        try clear hcz6_4
        try clear hcz6_5
        try clear hcz6_6
        try clear hcz6_7
        try clear hcz6_8
        try clear hcz6_9
        try clear hfz12_0
        try clear hfz12_1
        try clear hfz12_10
        try clear hfz12_11
        try clear hfz12_12
        try clear hfz12_13
        try clear hfz12_2
        try clear hfz12_3
        try clear hfz12_4
        try clear hfz12_5
        try clear hfz12_6
        try clear hfz12_7
        try clear hfz12_8
        try clear hfz12_9
        try clear hfz6_0
        try clear hfz6_1
        try clear hfz6_10
        try clear hfz6_11
        try clear hfz6_12
        try clear hfz6_13
        try clear hfz6_2
        try clear hfz6_3
        try clear hfz6_4
        try clear hfz6_5
        try clear hfz6_6
        try clear hfz6_7
        try clear hfz6_8
        try clear hfz6_9
        try clear hx239_0
        try clear p2
        try clear p239
        try clear q239
        obtain ⟨x7_2, x30_2, rfl, HA, HK2, HO_7, HO_28, BK237, HB⟩ := hrel
        cases gk with
        | zero => exact absurd HA.out (by simp [mapper_Map.l1])
        | succ k2 =>
         have H := HA.out
         clear HA
         simp only [mapper_Map.l1] at H
         by_cases c15 : x30_2 < (t240.length : Int)
         ·rw [if_pos c15] at H
          have c15b0 : decide (x30_2 < (t240.length : Int)) = true := decide_eq_true c15
          clear c15
          by_cases c16 : 0 ≤ x30_2
          ·rw [if_pos c16] at H
           have c16b0 : decide (0 ≤ x30_2) = true := decide_eq_true c16
           clear c16
           by_cases c17 : x30_2 < (t240.length : Int)
           ·rw [if_pos c17] at H
            have c17b0 : decide (x30_2 < (t240.length : Int)) = true := decide_eq_true c17
            clear c17
            replace H := xj H
            obtain ⟨⟨t244, t245, t246, t247, t248, t249⟩, A180, H⟩ := H
            try dsimp only at H
            have A18 := xy A180
            clear A180
            by_cases c19 : t249 = 0
            ·rw [if_pos c19] at H
             have c19b0 : (t249 == 0) = true := beq_iff_eq.mpr c19
             have c19b1 : (t249 != 0) = false := bne_eq_false_iff_eq.mpr c19
             clear c19
             by_cases c20 : t248 = true
             ·subst c20
              rw [if_pos rfl] at H
              by_cases c21 : x7_2.length < 2932031007402
              ·rw [if_pos c21] at H
               have LMc21 := xy c21
               clear c21
               obtain ⟨y251, hy251⟩ : ∃ y_ : List (S55), y_ = (x7_2 ++ [(⟨t244, (⟨t245, t246, t247⟩ : S24)⟩ : S55)]) := ⟨_, rfl⟩
               replace H : (mapper_Map.l1 k2 y251 l1 (l1.length : Int) x22_1 t240 (t240.length : Int) (wrap64 (x30_2 + 1)) a0_0 l0_1 l0_2 l0_3 a0_4 l0_5 a0_6 a0_7 a0_8 a0_9 a0_10 a0_11 a0_12 a0_13) = some (r1, r2) := by first | (rw [hy251]; with_reducible exact H) | (have H2_ := (Option.bind_some _ _).symm.trans H; rw [hy251]; with_reducible exact H2_) | (have H2_ := (Option.bind_some _ _).symm.trans H; with_reducible exact H2_) | with_reducible exact H | (rw [hy251]; exact H) | exact H
               have Ny251 := xy hy251
               clear hy251
               have H' := xy H
               clear H
               have p243 : 0 ≤ (x30_2 : Int) := xi
               have q243 : x30_2 < (t240.length : Int) := xi
               obtain ⟨ad243, A243_0, c243_0, e243, hx243_0, hl243_0, hi243_0⟩ := at_L7 (Kd.N_reads' HO_28.out).2.2 x30_2 p243 q243
               cases e243
               obtain ⟨ce243, hce243, hMe243, hcc243⟩ := Kd.N_get HO_28.out [] x30_2 p243 (by first | exact q243 | exact xi | (have e_ := (Kd.N_reads' HO_28.out).1; omega))
               obtain ⟨ua243_0, uc243_0, rfl, ul243_0, ge243_0⟩ := Kd.FK_slice_open hMe243
               have hv243_0 := hcc243 0 _ rfl
               rw [Nat.add_zero, show ((Kd.slice 9 Kd.string)).sz = 1 from rfl, Nat.mul_one] at hv243_0
               replace hv243_0 := Option.some.inj (hv243_0.symm.trans hx243_0)
               injection hv243_0 with hva_ hvn_ hvc_
               rw [hva_] at ge243_0
               rw [hvc_] at ul243_0
               have HL243_0 := xy (show Kd.V Kd.string 9 _ w.heap.size _ _ (rd_L7 t240 x30_2) from Kd.V_mk ul243_0 ge243_0)
               clear hva_ hvn_ hvc_ ge243_0 ul243_0
               clear hcc243 hce243
               have HR243_0 := xy hi243_0
               have HC243_0 := xy hl243_0
               clear hi243_0 hl243_0
               replace p243 := eq_true p243
               replace q243 := eq_true q243
               have hcz22_0 : wr.cell? ⟨gb237, 0, none⟩ = some (.bool a0_0) := (kc BK237.out 0).trans rfl
               have hcz22_1 : wr.cell? ⟨gb237, 1, none⟩ = some (.slice A0_1 l0_1.length c0_1) := (kc BK237.out 1).trans rfl
               have hcz22_2 : wr.cell? ⟨gb237, 2, none⟩ = some (.slice A0_2 l0_2.length c0_2) := (kc BK237.out 2).trans rfl
               have hcz22_3 : wr.cell? ⟨gb237, 3, none⟩ = some (.slice A0_3 l0_3.length c0_3) := (kc BK237.out 3).trans rfl
               have hcz22_4 : wr.cell? ⟨gb237, 4, none⟩ = some (.int .i64 a0_4) := (kc BK237.out 4).trans rfl
               have hcz22_5 : wr.cell? ⟨gb237, 5, none⟩ = some (.slice A0_5 l0_5.length c0_5) := (kc BK237.out 5).trans rfl
               have hcz22_6 : wr.cell? ⟨gb237, 6, none⟩ = some (.bool a0_6) := (kc BK237.out 6).trans rfl
               have hcz22_7 : wr.cell? ⟨gb237, 7, none⟩ = some (.int .i64 a0_7) := (kc BK237.out 7).trans rfl
               have hcz22_8 : wr.cell? ⟨gb237, 8, none⟩ = some (.string a0_8) := (kc BK237.out 8).trans rfl
               have hcz22_9 : wr.cell? ⟨gb237, 9, none⟩ = some (.bool a0_9) := (kc BK237.out 9).trans rfl
               have hcz22_10 : wr.cell? ⟨gb237, 10, none⟩ = some (.int .i64 a0_10) := (kc BK237.out 10).trans rfl
               have hcz22_11 : wr.cell? ⟨gb237, 11, none⟩ = some (.bool a0_11) := (kc BK237.out 11).trans rfl
               have hcz22_12 : wr.cell? ⟨gb237, 12, none⟩ = some (.bool a0_12) := (kc BK237.out 12).trans rfl
               have hcz22_13 : wr.cell? ⟨gb237, 13, none⟩ = some (.int .i64 a0_13) := (kc BK237.out 13).trans rfl
               have hfz22_0 := kf BK237.out 0
               have hfz22_1 := kf BK237.out 1
               have hfz22_2 := kf BK237.out 2
               have hfz22_3 := kf BK237.out 3
               have hfz22_4 := kf BK237.out 4
               have hfz22_5 := kf BK237.out 5
               have hfz22_6 := kf BK237.out 6
               have hfz22_7 := kf BK237.out 7
               have hfz22_8 := kf BK237.out 8
               have hfz22_9 := kf BK237.out 9
               have hfz22_10 := kf BK237.out 10
               have hfz22_11 := kf BK237.out 11
               have hfz22_12 := kf BK237.out 12
               have hfz22_13 := kf BK237.out 13
               go_wp2_with (first | ((with_reducible refine gate_callee (f := 24) rfl ?_); refine goesL_ (some 37) rfl rfl Tryz.func24 (by kernel_rfl) rfl #[.agg #[.bool a0_0, .slice A0_1 l0_1.length c0_1, .slice A0_2 l0_2.length c0_2, .slice A0_3 l0_3.length c0_3, .int .i64 a0_4, .slice A0_5 l0_5.length c0_5, .bool a0_6, .int .i64 a0_7, .string a0_8, .bool a0_9, .int .i64 a0_10, .bool a0_11, .bool a0_12, .int .i64 a0_13], .slice A243_0 (rd_L7 t240 x30_2).length c243_0] rfl xr ?_; (with_reducible refine (mapper_one.calls k2 a0_0 _ _ l0_1 _ _ l0_2 _ _ l0_3 a0_4 _ _ l0_5 a0_6 a0_7 a0_8 a0_9 a0_10 a0_11 a0_12 a0_13 _ _ (rd_L7 t240 x30_2) t244 t245 t246 t247 true t249 _ (Tabs.below hT xf) ?side1 ?side2 ?side3 ?side4 ?side5 ?side6 ?side7 ?side8 ?side9 ?side10 A18.out).mono ?_); (case side1 => exact Kd.C_below HR0_1.out xb); (case side2 => exact HC0_1.out); (case side3 => exact Kd.C_below HR0_2.out xb); (case side4 => exact HC0_2.out); (case side5 => exact Kd.C_below HR0_3.out xb); (case side6 => exact HC0_3.out); (case side7 => exact Kd.C_below HR0_5.out xb); (case side8 => exact HC0_5.out); (case side9 => repeat (first | exact (by repeat (first | (with_reducible exact HR243_0.out) | (with_reducible refine Kd.C_alloc ?_ _) | (with_reducible refine Kd.C_drewN ?_ _) | (with_reducible refine Kd.C_drew ?_) | exact HR243_0.out)) | (with_reducible refine Kd.C_alloc ?_ _) | (with_reducible refine Kd.C_drewN ?_ _) | (with_reducible refine Kd.C_drew ?_))); (case side10 => exact HC243_0.out); rintro e w23 ⟨rfl, hb⟩; refine ⟨_, rfl, ?_⟩; replace HO_7 := xy (Kd.R_below (xo HO_7.out) hb); replace HO_28 := xy (Kd.N_below (by (with_reducible repeat (first | apply Kd.N_alloc | apply Kd.N_drewN | apply Kd.N_drew)); exact HO_28.out) hb); replace HL243_0 := xy (Kd.V_below (by (with_reducible repeat (first | apply Kd.V_alloc | apply Kd.V_drewN | apply Kd.V_drew)); exact HL243_0.out) hb); replace BK237 := xd BK237.out hb; replace HR243_0 := xy (Kd.C_below (by repeat (first | (with_reducible exact HR243_0.out) | (with_reducible refine Kd.C_alloc ?_ _) | (with_reducible refine Kd.C_drewN ?_ _) | (with_reducible refine Kd.C_drew ?_) | exact HR243_0.out)) hb); replace HB := xy (below_step xb hb); (try clear hb); (try clear hb2); (try clear hk); (try clear hi)) | ((with_reducible refine gate_dst (N := 12) rfl ?_); refine xq (N := 12) (cs := #[.string (⟨#[]⟩ : ByteArray), .bool false, .int .i64 0, .string (⟨#[]⟩ : ByteArray)]) (t := 55) ?_; intro gb250 hg w24 hbox hb; replace HO_7 := xy (Kd.R_below (Kd.R_elderB (xo HO_7.out) gb250 (Nat.le_of_eq hg.symm)) hb); replace HO_28 := xy (Kd.N_below (Kd.N_elderB (by (with_reducible repeat (first | apply Kd.N_alloc | apply Kd.N_drewN | apply Kd.N_drew)); exact HO_28.out) gb250 (Nat.le_of_eq hg.symm)) hb); replace HL243_0 := xy (Kd.V_below (Kd.V_elderB (by (with_reducible repeat (first | apply Kd.V_alloc | apply Kd.V_drewN | apply Kd.V_drew)); exact HL243_0.out) gb250 (Nat.le_of_eq hg.symm)) hb); replace HR243_0 := xy (Kd.C_below (by repeat (first | (with_reducible exact HR243_0.out) | (with_reducible refine Kd.C_alloc ?_ _) | (with_reducible refine Kd.C_drewN ?_ _) | (with_reducible refine Kd.C_drew ?_) | exact HR243_0.out)) hb); have BK250 := xy (hbox); have GW250 := xs w hg; have GE250 := xs w hg; replace HB := xy (below_step xb hb); have NB237_250 := xn hg BK237.out; have NB250_237 := xp hg BK237.out; replace BK237 := xd BK237.out hb; clear hb hbox hg; have hnb25 := NB250_237.out; have hnc25 := NB237_250.out; have hcz26_0 : w24.cell? ⟨gb250, 0, none⟩ = some (.string (⟨#[]⟩ : ByteArray)) := (kc BK250.out 0).trans rfl; have hcz26_1 : w24.cell? ⟨gb250, 1, none⟩ = some (.bool false) := (kc BK250.out 1).trans rfl; have hcz26_2 : w24.cell? ⟨gb250, 2, none⟩ = some (.int .i64 0) := (kc BK250.out 2).trans rfl; have hcz26_3 : w24.cell? ⟨gb250, 3, none⟩ = some (.string (⟨#[]⟩ : ByteArray)) := (kc BK250.out 3).trans rfl; have hfz26_0 := kf BK250.out 0; have hfz26_1 := kf BK250.out 1; have hfz26_2 := kf BK250.out 2; have hfz26_3 := kf BK250.out 3) | ((with_reducible refine gate_builtin (b := .append) (xs := #[.tmp 45, .tmp 47]) rfl ?_); at_builtin; refine Kd.R_append k55 (w0 := w) w.heap.size rfl (.tmp 45) (.tmp 47) 27 55 (.agg #[(.string ⟨#[]⟩), (.bool false), (.int .i64 0), (.string ⟨#[]⟩)]) 48 rfl Tryz.underlying27 info55 rfl (by decide) (by omega) u7 x7_2 (⟨t244, (⟨t245, t246, t247⟩ : S24)⟩ : S55) [.string t244, .bool t245, .int .i64 t246, .string t247] (fun k_ => k_ ≠ gb250) (fun _ => False) rfl (by first | (go_simp; done) | (go_simp; rfl)) ?aP (fun _ hk => hk.elim) ?aF ?aO ?aB ?aS ?aL ?_; (case aP => exact k55_mkM _ _ _ (⟨t244, (⟨t245, t246, t247⟩ : S24)⟩ : S55)); (case aB => exact xb); (case aF => exact (fun k_ hk => Kd.freshB (g := gb250) (o := .cells #[.string t244, .bool t245, .int .i64 t246, .string t247] 55 (0, 0)) (by (with_reducible repeat (first | refine blk_drewN ?_ _ | refine blk_drew ?_ | refine blk_alloc ?_ _)); refine blk_put (cs := #[.string t244, .bool t245, .int .i64 t246, .string (⟨#[]⟩ : ByteArray)]) ?_ 3 _ rfl; (with_reducible repeat (first | refine blk_drewN ?_ _ | refine blk_drew ?_ | refine blk_alloc ?_ _)); refine blk_put (cs := #[.string t244, .bool t245, .int .i64 0, .string (⟨#[]⟩ : ByteArray)]) ?_ 2 _ rfl; (with_reducible repeat (first | refine blk_drewN ?_ _ | refine blk_drew ?_ | refine blk_alloc ?_ _)); refine blk_put (cs := #[.string t244, .bool false, .int .i64 0, .string (⟨#[]⟩ : ByteArray)]) ?_ 1 _ rfl; (with_reducible repeat (first | refine blk_drewN ?_ _ | refine blk_drew ?_ | refine blk_alloc ?_ _)); refine blk_put (cs := #[.string (⟨#[]⟩ : ByteArray), .bool false, .int .i64 0, .string (⟨#[]⟩ : ByteArray)]) ?_ 0 _ rfl; (with_reducible repeat (first | refine blk_drewN ?_ _ | refine blk_drew ?_ | refine blk_alloc ?_ _)); exact BK250.out) k_ hk)); (case aO => exact (by (with_reducible repeat (first | apply Kd.R_alloc | apply Kd.R_drewN | apply Kd.R_drew)); exact Kd.R_mono (Kd.R_far (p := ⟨gb250, 3, none⟩) (Kd.R_far (p := ⟨gb250, 2, none⟩) (Kd.R_far (p := ⟨gb250, 1, none⟩) (Kd.R_far (p := ⟨gb250, 0, none⟩) (Kd.R_mono HO_7.out (fun k_ hk => (⟨hk, hk.2⟩ : _ ∧ k_ ≠ gb250))) (fun _ hk => hk.2) (.string t244)) (fun _ hk => hk.2) (.bool t245)) (fun _ hk => hk.2) (.int .i64 t246)) (fun _ hk => hk.2) (.string t247)) (fun _ hk => hk.1.2))); (case aS => exact (below_size xb)); (case aL => have := LMc21.out; omega); intro v252 w27 ho hb hg hat; rw [← Ny251.out] at ho; replace HO_28 := xy (Kd.N_afterv (ok := (fun k_ => k_ ≠ gb237 ∧ k_ ≠ gb250)) (by (with_reducible repeat (first | apply Kd.N_alloc | apply Kd.N_drewN | apply Kd.N_drew)); exact Kd.N_mono (Kd.N_far (p := ⟨gb250, 3, none⟩) (Kd.N_far (p := ⟨gb250, 2, none⟩) (Kd.N_far (p := ⟨gb250, 1, none⟩) (Kd.N_far (p := ⟨gb250, 0, none⟩) (Kd.N_mono HO_28.out (fun k_ hk => (⟨hk, hk.2⟩ : _ ∧ k_ ≠ gb250))) (fun _ hk => hk.2) (.string t244)) (fun _ hk => hk.2) (.bool t245)) (fun _ hk => hk.2) (.int .i64 t246)) (fun _ hk => hk.2) (.string t247)) (fun _ hk => ⟨⟨hk.1.1.2, hk.1.2⟩, hk.1.1.1⟩)) hg hat); replace BK237 := xy (blk_grown (g := gb237) (o := .cells #[.bool a0_0, .slice A0_1 l0_1.length c0_1, .slice A0_2 l0_2.length c0_2, .slice A0_3 l0_3.length c0_3, .int .i64 a0_4, .slice A0_5 l0_5.length c0_5, .bool a0_6, .int .i64 a0_7, .string a0_8, .bool a0_9, .int .i64 a0_10, .bool a0_11, .bool a0_12, .int .i64 a0_13] 26 (0, 0)) (by repeat (first | (with_reducible first | exact BK237.out | refine blk_drewN ?_ _ | refine blk_drew ?_ | refine blk_alloc ?_ _) | refine blk_far ?_ NB237_250.out _ | exact BK237.out)) hg (Kd.R_ne HO_7.out BK237.out (by decide))); replace HL243_0 := xy (Kd.V_afterv (ok := (fun k_ => some k_ ≠ (.slice (some ad243) t240.length co14 : Value).ownBlock ∧ k_ ≠ gb237 ∧ k_ ≠ gb250)) (by (with_reducible repeat (first | apply Kd.V_alloc | apply Kd.V_drewN | apply Kd.V_drew)); exact Kd.V_mono (Kd.V_far (p := ⟨gb250, 3, none⟩) (Kd.V_far (p := ⟨gb250, 2, none⟩) (Kd.V_far (p := ⟨gb250, 1, none⟩) (Kd.V_far (p := ⟨gb250, 0, none⟩) (Kd.V_mono HL243_0.out (fun k_ hk => (⟨hk, hk.2⟩ : _ ∧ k_ ≠ gb250))) (fun _ hk => hk.2) (.string t244)) (fun _ hk => hk.2) (.bool t245)) (fun _ hk => hk.2) (.int .i64 t246)) (fun _ hk => hk.2) (.string t247)) (fun _ hk => ⟨⟨hk.1.1.2, ⟨hk.1.1.1.2, hk.1.2⟩⟩, hk.1.1.1.1⟩)) hg hat); replace BK250 := xy (blk_grown (g := gb250) (o := .cells #[.string t244, .bool t245, .int .i64 t246, .string t247] 55 (0, 0)) (by (with_reducible repeat (first | refine blk_drewN ?_ _ | refine blk_drew ?_ | refine blk_alloc ?_ _)); refine blk_put (cs := #[.string t244, .bool t245, .int .i64 t246, .string (⟨#[]⟩ : ByteArray)]) ?_ 3 _ rfl; (with_reducible repeat (first | refine blk_drewN ?_ _ | refine blk_drew ?_ | refine blk_alloc ?_ _)); refine blk_put (cs := #[.string t244, .bool t245, .int .i64 0, .string (⟨#[]⟩ : ByteArray)]) ?_ 2 _ rfl; (with_reducible repeat (first | refine blk_drewN ?_ _ | refine blk_drew ?_ | refine blk_alloc ?_ _)); refine blk_put (cs := #[.string t244, .bool false, .int .i64 0, .string (⟨#[]⟩ : ByteArray)]) ?_ 1 _ rfl; (with_reducible repeat (first | refine blk_drewN ?_ _ | refine blk_drew ?_ | refine blk_alloc ?_ _)); refine blk_put (cs := #[.string (⟨#[]⟩ : ByteArray), .bool false, .int .i64 0, .string (⟨#[]⟩ : ByteArray)]) ?_ 0 _ rfl; (with_reducible repeat (first | refine blk_drewN ?_ _ | refine blk_drew ?_ | refine blk_alloc ?_ _)); exact BK250.out) hg (Kd.R_away HO_7.out (fun _ hk => hk.2))); replace HB := xy (hb); have HO253 := xy (ho); clear HO_7; clear ho hb hg hat))
               go_roundg k2
               case measure => have := HK1.out; have := HK2.out; omega
               case rel => exact ⟨(y251), (wrap64 (x30_2 + 1)), xg, H', ⟨by have := HK1.out; have := HK2.out; omega⟩, ⟨by (with_reducible repeat (first | apply Kd.R_alloc | apply Kd.R_drewN | apply Kd.R_drew)); exact Kd.R_mono HO253.out (fun _ hk => trivial)⟩, ⟨by (with_reducible repeat (first | apply Kd.N_alloc | apply Kd.N_drewN | apply Kd.N_drew)); exact Kd.N_mono HO_28.out (fun _ hk => ⟨hk.2, hk.1.1⟩)⟩, ⟨by (with_reducible repeat (first | refine blk_drewN ?_ _ | refine blk_drew ?_ | refine blk_alloc ?_ _)); exact BK237.out⟩, ⟨xb⟩⟩
              ·rw [if_neg c21] at H
               exact absurd H (by simp)
             ·replace c20 := Bool.eq_false_iff.mpr c20
              subst c20
              rw [if_neg (show ¬ (false = true) by decide)] at H
              have H' := xy H
              clear H
              have p243 : 0 ≤ (x30_2 : Int) := xi
              have q243 : x30_2 < (t240.length : Int) := xi
              obtain ⟨ad243, A243_0, c243_0, e243, hx243_0, hl243_0, hi243_0⟩ := at_L7 (Kd.N_reads' HO_28.out).2.2 x30_2 p243 q243
              cases e243
              obtain ⟨ce243, hce243, hMe243, hcc243⟩ := Kd.N_get HO_28.out [] x30_2 p243 (by first | exact q243 | exact xi | (have e_ := (Kd.N_reads' HO_28.out).1; omega))
              obtain ⟨ua243_0, uc243_0, rfl, ul243_0, ge243_0⟩ := Kd.FK_slice_open hMe243
              have hv243_0 := hcc243 0 _ rfl
              rw [Nat.add_zero, show ((Kd.slice 9 Kd.string)).sz = 1 from rfl, Nat.mul_one] at hv243_0
              replace hv243_0 := Option.some.inj (hv243_0.symm.trans hx243_0)
              injection hv243_0 with hva_ hvn_ hvc_
              rw [hva_] at ge243_0
              rw [hvc_] at ul243_0
              have HL243_0 := xy (show Kd.V Kd.string 9 _ w.heap.size _ _ (rd_L7 t240 x30_2) from Kd.V_mk ul243_0 ge243_0)
              clear hva_ hvn_ hvc_ ge243_0 ul243_0
              clear hcc243 hce243
              have HR243_0 := xy hi243_0
              have HC243_0 := xy hl243_0
              clear hi243_0 hl243_0
              replace p243 := eq_true p243
              replace q243 := eq_true q243
              have hcz28_0 : wr.cell? ⟨gb237, 0, none⟩ = some (.bool a0_0) := (kc BK237.out 0).trans rfl
              have hcz28_1 : wr.cell? ⟨gb237, 1, none⟩ = some (.slice A0_1 l0_1.length c0_1) := (kc BK237.out 1).trans rfl
              have hcz28_2 : wr.cell? ⟨gb237, 2, none⟩ = some (.slice A0_2 l0_2.length c0_2) := (kc BK237.out 2).trans rfl
              have hcz28_3 : wr.cell? ⟨gb237, 3, none⟩ = some (.slice A0_3 l0_3.length c0_3) := (kc BK237.out 3).trans rfl
              have hcz28_4 : wr.cell? ⟨gb237, 4, none⟩ = some (.int .i64 a0_4) := (kc BK237.out 4).trans rfl
              have hcz28_5 : wr.cell? ⟨gb237, 5, none⟩ = some (.slice A0_5 l0_5.length c0_5) := (kc BK237.out 5).trans rfl
              have hcz28_6 : wr.cell? ⟨gb237, 6, none⟩ = some (.bool a0_6) := (kc BK237.out 6).trans rfl
              have hcz28_7 : wr.cell? ⟨gb237, 7, none⟩ = some (.int .i64 a0_7) := (kc BK237.out 7).trans rfl
              have hcz28_8 : wr.cell? ⟨gb237, 8, none⟩ = some (.string a0_8) := (kc BK237.out 8).trans rfl
              have hcz28_9 : wr.cell? ⟨gb237, 9, none⟩ = some (.bool a0_9) := (kc BK237.out 9).trans rfl
              have hcz28_10 : wr.cell? ⟨gb237, 10, none⟩ = some (.int .i64 a0_10) := (kc BK237.out 10).trans rfl
              have hcz28_11 : wr.cell? ⟨gb237, 11, none⟩ = some (.bool a0_11) := (kc BK237.out 11).trans rfl
              have hcz28_12 : wr.cell? ⟨gb237, 12, none⟩ = some (.bool a0_12) := (kc BK237.out 12).trans rfl
              have hcz28_13 : wr.cell? ⟨gb237, 13, none⟩ = some (.int .i64 a0_13) := (kc BK237.out 13).trans rfl
              have hfz28_0 := kf BK237.out 0
              have hfz28_1 := kf BK237.out 1
              have hfz28_2 := kf BK237.out 2
              have hfz28_3 := kf BK237.out 3
              have hfz28_4 := kf BK237.out 4
              have hfz28_5 := kf BK237.out 5
              have hfz28_6 := kf BK237.out 6
              have hfz28_7 := kf BK237.out 7
              have hfz28_8 := kf BK237.out 8
              have hfz28_9 := kf BK237.out 9
              have hfz28_10 := kf BK237.out 10
              have hfz28_11 := kf BK237.out 11
              have hfz28_12 := kf BK237.out 12
              have hfz28_13 := kf BK237.out 13
              go_wp2_with (first | ((with_reducible refine gate_callee (f := 24) rfl ?_); refine goesL_ (some 37) rfl rfl Tryz.func24 (by kernel_rfl) rfl #[.agg #[.bool a0_0, .slice A0_1 l0_1.length c0_1, .slice A0_2 l0_2.length c0_2, .slice A0_3 l0_3.length c0_3, .int .i64 a0_4, .slice A0_5 l0_5.length c0_5, .bool a0_6, .int .i64 a0_7, .string a0_8, .bool a0_9, .int .i64 a0_10, .bool a0_11, .bool a0_12, .int .i64 a0_13], .slice A243_0 (rd_L7 t240 x30_2).length c243_0] rfl xr ?_; (with_reducible refine (mapper_one.calls k2 a0_0 _ _ l0_1 _ _ l0_2 _ _ l0_3 a0_4 _ _ l0_5 a0_6 a0_7 a0_8 a0_9 a0_10 a0_11 a0_12 a0_13 _ _ (rd_L7 t240 x30_2) t244 t245 t246 t247 false t249 _ (Tabs.below hT xf) ?side1 ?side2 ?side3 ?side4 ?side5 ?side6 ?side7 ?side8 ?side9 ?side10 A18.out).mono ?_); (case side1 => exact Kd.C_below HR0_1.out xb); (case side2 => exact HC0_1.out); (case side3 => exact Kd.C_below HR0_2.out xb); (case side4 => exact HC0_2.out); (case side5 => exact Kd.C_below HR0_3.out xb); (case side6 => exact HC0_3.out); (case side7 => exact Kd.C_below HR0_5.out xb); (case side8 => exact HC0_5.out); (case side9 => repeat (first | exact (by repeat (first | (with_reducible exact HR243_0.out) | (with_reducible refine Kd.C_alloc ?_ _) | (with_reducible refine Kd.C_drewN ?_ _) | (with_reducible refine Kd.C_drew ?_) | exact HR243_0.out)) | (with_reducible refine Kd.C_alloc ?_ _) | (with_reducible refine Kd.C_drewN ?_ _) | (with_reducible refine Kd.C_drew ?_))); (case side10 => exact HC243_0.out); rintro e w29 ⟨rfl, hb⟩; refine ⟨_, rfl, ?_⟩; replace HO_7 := xy (Kd.R_below (xo HO_7.out) hb); replace HO_28 := xy (Kd.N_below (by (with_reducible repeat (first | apply Kd.N_alloc | apply Kd.N_drewN | apply Kd.N_drew)); exact HO_28.out) hb); replace HL243_0 := xy (Kd.V_below (by (with_reducible repeat (first | apply Kd.V_alloc | apply Kd.V_drewN | apply Kd.V_drew)); exact HL243_0.out) hb); replace BK237 := xd BK237.out hb; replace HR243_0 := xy (Kd.C_below (by repeat (first | (with_reducible exact HR243_0.out) | (with_reducible refine Kd.C_alloc ?_ _) | (with_reducible refine Kd.C_drewN ?_ _) | (with_reducible refine Kd.C_drew ?_) | exact HR243_0.out)) hb); replace HB := xy (below_step xb hb); (try clear hb); (try clear hb2); (try clear hk); (try clear hi)) | ((with_reducible refine gate_dst (N := 12) rfl ?_); refine xq (N := 12) (cs := #[.string (⟨#[]⟩ : ByteArray), .bool false, .int .i64 0, .string (⟨#[]⟩ : ByteArray)]) (t := 55) ?_; intro gb250 hg w30 hbox hb; replace HO_7 := xy (Kd.R_below (Kd.R_elderB (xo HO_7.out) gb250 (Nat.le_of_eq hg.symm)) hb); replace HO_28 := xy (Kd.N_below (Kd.N_elderB (by (with_reducible repeat (first | apply Kd.N_alloc | apply Kd.N_drewN | apply Kd.N_drew)); exact HO_28.out) gb250 (Nat.le_of_eq hg.symm)) hb); replace HL243_0 := xy (Kd.V_below (Kd.V_elderB (by (with_reducible repeat (first | apply Kd.V_alloc | apply Kd.V_drewN | apply Kd.V_drew)); exact HL243_0.out) gb250 (Nat.le_of_eq hg.symm)) hb); replace HR243_0 := xy (Kd.C_below (by repeat (first | (with_reducible exact HR243_0.out) | (with_reducible refine Kd.C_alloc ?_ _) | (with_reducible refine Kd.C_drewN ?_ _) | (with_reducible refine Kd.C_drew ?_) | exact HR243_0.out)) hb); have BK250 := xy (hbox); have GW250 := xs w hg; have GE250 := xs w hg; replace HB := xy (below_step xb hb); have NB237_250 := xn hg BK237.out; have NB250_237 := xp hg BK237.out; replace BK237 := xd BK237.out hb; clear hb hbox hg; have hnb31 := NB250_237.out; have hnc31 := NB237_250.out; have hcz32_0 : w30.cell? ⟨gb250, 0, none⟩ = some (.string (⟨#[]⟩ : ByteArray)) := (kc BK250.out 0).trans rfl; have hcz32_1 : w30.cell? ⟨gb250, 1, none⟩ = some (.bool false) := (kc BK250.out 1).trans rfl; have hcz32_2 : w30.cell? ⟨gb250, 2, none⟩ = some (.int .i64 0) := (kc BK250.out 2).trans rfl; have hcz32_3 : w30.cell? ⟨gb250, 3, none⟩ = some (.string (⟨#[]⟩ : ByteArray)) := (kc BK250.out 3).trans rfl; have hfz32_0 := kf BK250.out 0; have hfz32_1 := kf BK250.out 1; have hfz32_2 := kf BK250.out 2; have hfz32_3 := kf BK250.out 3))
              go_roundg k2
              case measure => have := HK1.out; have := HK2.out; omega
              case rel => exact ⟨(x7_2), (wrap64 (x30_2 + 1)), xg, H', ⟨by have := HK1.out; have := HK2.out; omega⟩, ⟨by (with_reducible repeat (first | apply Kd.R_alloc | apply Kd.R_drewN | apply Kd.R_drew)); exact Kd.R_mono (Kd.R_far (p := ⟨gb250, 3, none⟩) (Kd.R_far (p := ⟨gb250, 2, none⟩) (Kd.R_far (p := ⟨gb250, 1, none⟩) (Kd.R_far (p := ⟨gb250, 0, none⟩) (Kd.R_mono HO_7.out (fun k_ hk => (⟨hk, hk.2⟩ : _ ∧ k_ ≠ gb250))) (fun _ hk => hk.2) (.string t244)) (fun _ hk => hk.2) (.bool t245)) (fun _ hk => hk.2) (.int .i64 t246)) (fun _ hk => hk.2) (.string t247)) (fun _ hk => trivial)⟩, ⟨by (with_reducible repeat (first | apply Kd.N_alloc | apply Kd.N_drewN | apply Kd.N_drew)); exact Kd.N_mono (Kd.N_far (p := ⟨gb250, 3, none⟩) (Kd.N_far (p := ⟨gb250, 2, none⟩) (Kd.N_far (p := ⟨gb250, 1, none⟩) (Kd.N_far (p := ⟨gb250, 0, none⟩) (Kd.N_mono HO_28.out (fun k_ hk => (⟨hk, hk.2⟩ : _ ∧ k_ ≠ gb250))) (fun _ hk => hk.2) (.string t244)) (fun _ hk => hk.2) (.bool t245)) (fun _ hk => hk.2) (.int .i64 t246)) (fun _ hk => hk.2) (.string t247)) (fun _ hk => ⟨hk.1.1.1, hk.1.1.2⟩)⟩, ⟨by repeat (first | (with_reducible first | exact BK237.out | refine blk_drewN ?_ _ | refine blk_drew ?_ | refine blk_alloc ?_ _) | refine blk_far ?_ NB237_250.out _ | exact BK237.out)⟩, ⟨xb⟩⟩
            ·rw [if_neg c19] at H
             have c19b0 : (t249 == 0) = false := beq_eq_false_iff_ne.mpr c19
             have c19b1 : (t249 != 0) = true := bne_iff_ne.mpr c19
             simp only [Option.some.injEq, Prod.mk.injEq] at H
             obtain ⟨rfl, rfl⟩ := H
             have p243 : 0 ≤ (x30_2 : Int) := xi
             have q243 : x30_2 < (t240.length : Int) := xi
             obtain ⟨ad243, A243_0, c243_0, e243, hx243_0, hl243_0, hi243_0⟩ := at_L7 (Kd.N_reads' HO_28.out).2.2 x30_2 p243 q243
             cases e243
             obtain ⟨ce243, hce243, hMe243, hcc243⟩ := Kd.N_get HO_28.out [] x30_2 p243 (by first | exact q243 | exact xi | (have e_ := (Kd.N_reads' HO_28.out).1; omega))
             obtain ⟨ua243_0, uc243_0, rfl, ul243_0, ge243_0⟩ := Kd.FK_slice_open hMe243
             have hv243_0 := hcc243 0 _ rfl
             rw [Nat.add_zero, show ((Kd.slice 9 Kd.string)).sz = 1 from rfl, Nat.mul_one] at hv243_0
             replace hv243_0 := Option.some.inj (hv243_0.symm.trans hx243_0)
             injection hv243_0 with hva_ hvn_ hvc_
             rw [hva_] at ge243_0
             rw [hvc_] at ul243_0
             have HL243_0 := xy (show Kd.V Kd.string 9 _ w.heap.size _ _ (rd_L7 t240 x30_2) from Kd.V_mk ul243_0 ge243_0)
             clear hva_ hvn_ hvc_ ge243_0 ul243_0
             clear hcc243 hce243
             have HR243_0 := xy hi243_0
             have HC243_0 := xy hl243_0
             clear hi243_0 hl243_0
             replace p243 := eq_true p243
             replace q243 := eq_true q243
             have hcz33_0 : wr.cell? ⟨gb237, 0, none⟩ = some (.bool a0_0) := (kc BK237.out 0).trans rfl
             have hcz33_1 : wr.cell? ⟨gb237, 1, none⟩ = some (.slice A0_1 l0_1.length c0_1) := (kc BK237.out 1).trans rfl
             have hcz33_2 : wr.cell? ⟨gb237, 2, none⟩ = some (.slice A0_2 l0_2.length c0_2) := (kc BK237.out 2).trans rfl
             have hcz33_3 : wr.cell? ⟨gb237, 3, none⟩ = some (.slice A0_3 l0_3.length c0_3) := (kc BK237.out 3).trans rfl
             have hcz33_4 : wr.cell? ⟨gb237, 4, none⟩ = some (.int .i64 a0_4) := (kc BK237.out 4).trans rfl
             have hcz33_5 : wr.cell? ⟨gb237, 5, none⟩ = some (.slice A0_5 l0_5.length c0_5) := (kc BK237.out 5).trans rfl
             have hcz33_6 : wr.cell? ⟨gb237, 6, none⟩ = some (.bool a0_6) := (kc BK237.out 6).trans rfl
             have hcz33_7 : wr.cell? ⟨gb237, 7, none⟩ = some (.int .i64 a0_7) := (kc BK237.out 7).trans rfl
             have hcz33_8 : wr.cell? ⟨gb237, 8, none⟩ = some (.string a0_8) := (kc BK237.out 8).trans rfl
             have hcz33_9 : wr.cell? ⟨gb237, 9, none⟩ = some (.bool a0_9) := (kc BK237.out 9).trans rfl
             have hcz33_10 : wr.cell? ⟨gb237, 10, none⟩ = some (.int .i64 a0_10) := (kc BK237.out 10).trans rfl
             have hcz33_11 : wr.cell? ⟨gb237, 11, none⟩ = some (.bool a0_11) := (kc BK237.out 11).trans rfl
             have hcz33_12 : wr.cell? ⟨gb237, 12, none⟩ = some (.bool a0_12) := (kc BK237.out 12).trans rfl
             have hcz33_13 : wr.cell? ⟨gb237, 13, none⟩ = some (.int .i64 a0_13) := (kc BK237.out 13).trans rfl
             have hfz33_0 := kf BK237.out 0
             have hfz33_1 := kf BK237.out 1
             have hfz33_2 := kf BK237.out 2
             have hfz33_3 := kf BK237.out 3
             have hfz33_4 := kf BK237.out 4
             have hfz33_5 := kf BK237.out 5
             have hfz33_6 := kf BK237.out 6
             have hfz33_7 := kf BK237.out 7
             have hfz33_8 := kf BK237.out 8
             have hfz33_9 := kf BK237.out 9
             have hfz33_10 := kf BK237.out 10
             have hfz33_11 := kf BK237.out 11
             have hfz33_12 := kf BK237.out 12
             have hfz33_13 := kf BK237.out 13
             go_wp2_with (first | ((with_reducible refine gate_callee (f := 24) rfl ?_); refine goesL_ (some 37) rfl rfl Tryz.func24 (by kernel_rfl) rfl #[.agg #[.bool a0_0, .slice A0_1 l0_1.length c0_1, .slice A0_2 l0_2.length c0_2, .slice A0_3 l0_3.length c0_3, .int .i64 a0_4, .slice A0_5 l0_5.length c0_5, .bool a0_6, .int .i64 a0_7, .string a0_8, .bool a0_9, .int .i64 a0_10, .bool a0_11, .bool a0_12, .int .i64 a0_13], .slice A243_0 (rd_L7 t240 x30_2).length c243_0] rfl xr ?_; (with_reducible refine (mapper_one.calls k2 a0_0 _ _ l0_1 _ _ l0_2 _ _ l0_3 a0_4 _ _ l0_5 a0_6 a0_7 a0_8 a0_9 a0_10 a0_11 a0_12 a0_13 _ _ (rd_L7 t240 x30_2) t244 t245 t246 t247 t248 t249 _ (Tabs.below hT xf) ?side1 ?side2 ?side3 ?side4 ?side5 ?side6 ?side7 ?side8 ?side9 ?side10 A18.out).mono ?_); (case side1 => exact Kd.C_below HR0_1.out xb); (case side2 => exact HC0_1.out); (case side3 => exact Kd.C_below HR0_2.out xb); (case side4 => exact HC0_2.out); (case side5 => exact Kd.C_below HR0_3.out xb); (case side6 => exact HC0_3.out); (case side7 => exact Kd.C_below HR0_5.out xb); (case side8 => exact HC0_5.out); (case side9 => repeat (first | exact (by repeat (first | (with_reducible exact HR243_0.out) | (with_reducible refine Kd.C_alloc ?_ _) | (with_reducible refine Kd.C_drewN ?_ _) | (with_reducible refine Kd.C_drew ?_) | exact HR243_0.out)) | (with_reducible refine Kd.C_alloc ?_ _) | (with_reducible refine Kd.C_drewN ?_ _) | (with_reducible refine Kd.C_drew ?_))); (case side10 => exact HC243_0.out); rintro e w34 ⟨rfl, hb⟩; refine ⟨_, rfl, ?_⟩; replace HO_7 := xy (Kd.R_below (xo HO_7.out) hb); replace HO_28 := xy (Kd.N_below (by (with_reducible repeat (first | apply Kd.N_alloc | apply Kd.N_drewN | apply Kd.N_drew)); exact HO_28.out) hb); replace HL243_0 := xy (Kd.V_below (by (with_reducible repeat (first | apply Kd.V_alloc | apply Kd.V_drewN | apply Kd.V_drew)); exact HL243_0.out) hb); replace BK237 := xd BK237.out hb; replace HR243_0 := xy (Kd.C_below (by repeat (first | (with_reducible exact HR243_0.out) | (with_reducible refine Kd.C_alloc ?_ _) | (with_reducible refine Kd.C_drewN ?_ _) | (with_reducible refine Kd.C_drew ?_) | exact HR243_0.out)) hb); replace HB := xy (below_step xb hb); (try clear hb); (try clear hb2); (try clear hk); (try clear hi)) | ((with_reducible refine gate_dst (N := 12) rfl ?_); refine xq (N := 12) (cs := #[.string (⟨#[]⟩ : ByteArray), .bool false, .int .i64 0, .string (⟨#[]⟩ : ByteArray)]) (t := 55) ?_; intro gb250 hg w35 hbox hb; replace HO_7 := xy (Kd.R_below (Kd.R_elderB (xo HO_7.out) gb250 (Nat.le_of_eq hg.symm)) hb); replace HO_28 := xy (Kd.N_below (Kd.N_elderB (by (with_reducible repeat (first | apply Kd.N_alloc | apply Kd.N_drewN | apply Kd.N_drew)); exact HO_28.out) gb250 (Nat.le_of_eq hg.symm)) hb); replace HL243_0 := xy (Kd.V_below (Kd.V_elderB (by (with_reducible repeat (first | apply Kd.V_alloc | apply Kd.V_drewN | apply Kd.V_drew)); exact HL243_0.out) gb250 (Nat.le_of_eq hg.symm)) hb); replace HR243_0 := xy (Kd.C_below (by repeat (first | (with_reducible exact HR243_0.out) | (with_reducible refine Kd.C_alloc ?_ _) | (with_reducible refine Kd.C_drewN ?_ _) | (with_reducible refine Kd.C_drew ?_) | exact HR243_0.out)) hb); have BK250 := xy (hbox); have GW250 := xs w hg; have GE250 := xs w hg; replace HB := xy (below_step xb hb); have NB237_250 := xn hg BK237.out; have NB250_237 := xp hg BK237.out; replace BK237 := xd BK237.out hb; clear hb hbox hg; have hnb36 := NB250_237.out; have hnc36 := NB237_250.out; have hcz37_0 : w35.cell? ⟨gb250, 0, none⟩ = some (.string (⟨#[]⟩ : ByteArray)) := (kc BK250.out 0).trans rfl; have hcz37_1 : w35.cell? ⟨gb250, 1, none⟩ = some (.bool false) := (kc BK250.out 1).trans rfl; have hcz37_2 : w35.cell? ⟨gb250, 2, none⟩ = some (.int .i64 0) := (kc BK250.out 2).trans rfl; have hcz37_3 : w35.cell? ⟨gb250, 3, none⟩ = some (.string (⟨#[]⟩ : ByteArray)) := (kc BK250.out 3).trans rfl; have hfz37_0 := kf BK250.out 0; have hfz37_1 := kf BK250.out 1; have hfz37_2 := kf BK250.out 2; have hfz37_3 := kf BK250.out 3))
             go_ret2
             exact ⟨_, by first | rfl | (simp [errW_none, errW_some] <;> rfl) | (simp [*, errW_none, errW_some] <;> rfl), by first | exact Kd.R_nil _ _ _ _ _ | exact Kd.N_nil _ _ _ _ _ | exact Kd.V_nil _ _ _ _ _ | exact Kd.Q_nil _ _ _ _ _ | exact Kd.S_nil _ _ _ _ _, xb⟩
           ·rw [if_neg c17] at H
            exact absurd H (by simp)
          ·rw [if_neg c16] at H
           exact absurd H (by simp)
         ·rw [if_neg c15] at H
          have c15b0 : decide (x30_2 < (t240.length : Int)) = false := decide_eq_false c15
          clear c15
          have H' := xy H
          clear H
          go_wp2
          go_roundg k2
          case measure => have := HK1.out; have := HK2.out; omega
          case rel => exact ⟨(x7_2), (wrap64 (x22_1 + 1)), xg, H', ⟨by have := HK1.out; have := HK2.out; omega⟩, ⟨by (with_reducible repeat (first | apply Kd.R_alloc | apply Kd.R_drewN | apply Kd.R_drew)); exact HO_7.out⟩, ⟨by (with_reducible repeat (first | refine blk_drewN ?_ _ | refine blk_drew ?_ | refine blk_alloc ?_ _)); exact BK237.out⟩, ⟨xb⟩⟩
      ·rw [if_neg c10] at H
       exact absurd H (by simp)
     ·rw [if_neg c9] at H
      exact absurd H (by simp)
    ·rw [if_neg c8] at H
     have c8b0 : decide (x22_1 < (l1.length : Int)) = false := decide_eq_false c8
     clear c8
     simp only [Option.some.injEq, Prod.mk.injEq] at H
     obtain ⟨rfl, rfl⟩ := H
     go_wp2
     go_ret2
     exact ⟨_, by first | rfl | (simp [errW_none, errW_some] <;> rfl) | (simp [*, errW_none, errW_some] <;> rfl), by (with_reducible repeat (first | apply Kd.R_alloc | apply Kd.R_drewN | apply Kd.R_drew)); exact HO_7.out, xb⟩
 ·rw [if_neg c4] at H
  have c4b0 : (t238 == 0) = false := beq_eq_false_iff_ne.mpr c4
  have c4b1 : (t238 != 0) = true := bne_iff_ne.mpr c4
  simp only [Option.some.injEq, Prod.mk.injEq] at H
  obtain ⟨rfl, rfl⟩ := H
  go_enter Tryz.func15, Tryz.ntmps15
  go_wp2_with (first | ((with_reducible refine gate_dst (N := 2) rfl ?_); refine xq (N := 2) (cs := #[.bool a0_0, .slice A0_1 l0_1.length c0_1, .slice A0_2 l0_2.length c0_2, .slice A0_3 l0_3.length c0_3, .int .i64 a0_4, .slice A0_5 l0_5.length c0_5, .bool a0_6, .int .i64 a0_7, .string a0_8, .bool a0_9, .int .i64 a0_10, .bool a0_11, .bool a0_12, .int .i64 a0_13]) (t := 26) ?_; intro gb237 hg w38 hbox hb; have BK237 := xy (hbox); have GW237 := xs w hg; have GE237 := xs w hg; replace HB := xy (below_step xb hb); clear hb hbox hg; have hcz39_0 : w38.cell? ⟨gb237, 0, none⟩ = some (.bool a0_0) := (kc BK237.out 0).trans rfl; have hcz39_1 : w38.cell? ⟨gb237, 1, none⟩ = some (.slice A0_1 l0_1.length c0_1) := (kc BK237.out 1).trans rfl; have hcz39_2 : w38.cell? ⟨gb237, 2, none⟩ = some (.slice A0_2 l0_2.length c0_2) := (kc BK237.out 2).trans rfl; have hcz39_3 : w38.cell? ⟨gb237, 3, none⟩ = some (.slice A0_3 l0_3.length c0_3) := (kc BK237.out 3).trans rfl; have hcz39_4 : w38.cell? ⟨gb237, 4, none⟩ = some (.int .i64 a0_4) := (kc BK237.out 4).trans rfl; have hcz39_5 : w38.cell? ⟨gb237, 5, none⟩ = some (.slice A0_5 l0_5.length c0_5) := (kc BK237.out 5).trans rfl; have hcz39_6 : w38.cell? ⟨gb237, 6, none⟩ = some (.bool a0_6) := (kc BK237.out 6).trans rfl; have hcz39_7 : w38.cell? ⟨gb237, 7, none⟩ = some (.int .i64 a0_7) := (kc BK237.out 7).trans rfl; have hcz39_8 : w38.cell? ⟨gb237, 8, none⟩ = some (.string a0_8) := (kc BK237.out 8).trans rfl; have hcz39_9 : w38.cell? ⟨gb237, 9, none⟩ = some (.bool a0_9) := (kc BK237.out 9).trans rfl; have hcz39_10 : w38.cell? ⟨gb237, 10, none⟩ = some (.int .i64 a0_10) := (kc BK237.out 10).trans rfl; have hcz39_11 : w38.cell? ⟨gb237, 11, none⟩ = some (.bool a0_11) := (kc BK237.out 11).trans rfl; have hcz39_12 : w38.cell? ⟨gb237, 12, none⟩ = some (.bool a0_12) := (kc BK237.out 12).trans rfl; have hcz39_13 : w38.cell? ⟨gb237, 13, none⟩ = some (.int .i64 a0_13) := (kc BK237.out 13).trans rfl; have hfz39_0 := kf BK237.out 0; have hfz39_1 := kf BK237.out 1; have hfz39_2 := kf BK237.out 2; have hfz39_3 := kf BK237.out 3; have hfz39_4 := kf BK237.out 4; have hfz39_5 := kf BK237.out 5; have hfz39_6 := kf BK237.out 6; have hfz39_7 := kf BK237.out 7; have hfz39_8 := kf BK237.out 8; have hfz39_9 := kf BK237.out 9; have hfz39_10 := kf BK237.out 10; have hfz39_11 := kf BK237.out 11; have hfz39_12 := kf BK237.out 12; have hfz39_13 := kf BK237.out 13) | ((with_reducible refine gate_callee (f := 23) rfl ?_); refine goesL_ (some 16) rfl rfl Tryz.func23 (by kernel_rfl) rfl #[.agg #[.bool a0_0, .slice A0_1 l0_1.length c0_1, .slice A0_2 l0_2.length c0_2, .slice A0_3 l0_3.length c0_3, .int .i64 a0_4, .slice A0_5 l0_5.length c0_5, .bool a0_6, .int .i64 a0_7, .string a0_8, .bool a0_9, .int .i64 a0_10, .bool a0_11, .bool a0_12, .int .i64 a0_13]] rfl xr ?_; (with_reducible refine (job_Check.calls k a0_0 _ _ l0_1 _ _ l0_2 _ _ l0_3 a0_4 _ _ l0_5 a0_6 a0_7 a0_8 a0_9 a0_10 a0_11 a0_12 a0_13 t238 _ (Tabs.below hT xf) ?side1 ?side2 ?side3 ?side4 ?side5 ?side6 ?side7 ?side8 A3.out).mono ?_); (case side1 => exact Kd.C_below HR0_1.out xb); (case side2 => exact HC0_1.out); (case side3 => exact Kd.C_below HR0_2.out xb); (case side4 => exact HC0_2.out); (case side5 => exact Kd.C_below HR0_3.out xb); (case side6 => exact HC0_3.out); (case side7 => exact Kd.C_below HR0_5.out xb); (case side8 => exact HC0_5.out); rintro e w40 ⟨rfl, hb⟩; refine ⟨_, rfl, ?_⟩; replace BK237 := xd BK237.out hb; replace HB := xy (below_step xb hb); (try clear hb); (try clear hb2); (try clear hk); (try clear hi)))
  go_ret2
  exact ⟨_, by first | rfl | (simp [errW_none, errW_some] <;> rfl) | (simp [*, errW_none, errW_some] <;> rfl), by first | exact Kd.R_nil _ _ _ _ _ | exact Kd.N_nil _ _ _ _ _ | exact Kd.V_nil _ _ _ _ _ | exact Kd.Q_nil _ _ _ _ _ | exact Kd.S_nil _ _ _ _ _, xb⟩
end Go.Proofs.YtialoecplmnjfaaGreatDoor.PX
