/- Walked functions, by this session's program over the kit's print. -/
import Derived.Test.YtnodgcakmolleaaGreatDoorPXx0
import Derived.Test.YtnodgcakmolleaaGreatDoorPXx11
namespace Go.Proofs.YtnodgcakmolleaaGreatDoor.PX
open Go.RowKit Go.Proofs.YtnodgcakmolleaaGreatDoorW.PrintWords Go.Proofs.YtnodgcakmolleaaGreatDoorW.PrintLast Go.Proofs.YtnodgcakmolleaaGreatDoorW.PrintMore
attribute [local go_sem] xm_gtr max2_int min2_int max_two min_two max_three min_three max_four min_four
set_option linter.unusedVariables false
set_option linter.unusedSimpArgs false
/- Walked functions, by this session's program over the kit's print. -/
mutual
def r15_step.j0 : Nat → List Bool → List Bool → Bool → Int → Int → ByteArray → Option (List Bool × Int)
 | 0, _, _, _, _, _, _ => none
 | k + 1, x0, x2, x25, x340000, x340001, x340002 => if x25 = true then (some (([] : List Bool), 1)) else ((r13_Arity.f k x340000).bind fun t341 => (if t341 > (x0.length : Int) then (some (([] : List Bool), 13)) else (if x340000 = 1 then (r15_step.j1 k x0 x2 t341 true x340000 x340001 x340002) else (r15_step.j1 k x0 x2 t341 (x340000 == 2) x340000 x340001 x340002))))
def r15_step.j1 : Nat → List Bool → List Bool → Int → Bool → Int → Int → ByteArray → Option (List Bool × Int)
 | 0, _, _, _, _, _, _, _ => none
 | k + 1, x0, x2, x8, x9, x340000, x340001, x340002 => if x340000 ≥ 22 then (if 0 ≤ (wrap64 (x340000 - 22)) then (if (wrap64 (x340000 - 22)) < (x2.length : Int) then (r15_step.j2 k x0 x8 (rdOf false x2 (wrap64 (x340000 - 22))) x340000 x340001 x340002) else (none)) else (none)) else (r15_step.j2 k x0 x8 x9 x340000 x340001 x340002)
def r15_step.j2 : Nat → List Bool → Int → Bool → Int → Int → ByteArray → Option (List Bool × Int)
 | 0, _, _, _, _, _, _ => none
 | k + 1, x0, x8, x9, x340000, x340001, x340002 => if x8 > 0 then (if 0 ≤ (wrap64 ((x0.length : Int) - x8)) then (if (wrap64 ((x0.length : Int) - x8)) ≤ (x0.length : Int) then ((r13_Result.f k x340000 (x0.drop ((wrap64 ((x0.length : Int) - x8)) : Int).toNat)).bind fun bt344 => (if bt344.2 = 0 then ((some (([] : List Bool) : List Bool)).bind fun y346 => (if y346.length + (x0.take ((wrap64 ((x0.length : Int) - x8)) : Int).toNat).length < 140737488355328 then ((some (y346 ++ (x0.take ((wrap64 ((x0.length : Int) - x8)) : Int).toNat) : List Bool)).bind fun y350 => (if y350.length < 140737488355328 then ((some (y350 ++ [bt344.1] : List Bool)).bind fun y353 => (if (y353.length : Int) > 30 then (some (([] : List Bool), 13)) else (some (y353, 0)))) else (none))) else (none))) else (some (([] : List Bool), bt344.2)))) else (none)) else (none)) else ((some (([] : List Bool) : List Bool)).bind fun y356 => (if 0 ≤ (wrap64 ((x0.length : Int) - x8)) then (if (wrap64 ((x0.length : Int) - x8)) ≤ (x0.length : Int) then (if y356.length + (x0.take ((wrap64 ((x0.length : Int) - x8)) : Int).toNat).length < 140737488355328 then ((some (y356 ++ (x0.take ((wrap64 ((x0.length : Int) - x8)) : Int).toNat) : List Bool)).bind fun y360 => (if y360.length < 140737488355328 then ((some (y360 ++ [x9] : List Bool)).bind fun y363 => (if (y363.length : Int) > 30 then (some (([] : List Bool), 13)) else (some (y363, 0)))) else (none))) else (none)) else (none)) else (none)))
end
def r15_step.f (k : Nat) (l0 : List Bool) (a1_0 : Int) (a1_1 : Int) (a1_2 : ByteArray) (l2 : List Bool) : Option (List Bool × Int) := (r14_May.f a1_0 a1_1 a1_2).bind fun t340 => (if t340 = true then (if a1_0 ≥ 22 then (r15_step.j0 k l0 l2 ((l2.length : Int) == 0) a1_0 a1_1 a1_2) else (r15_step.j0 k l0 l2 false a1_0 a1_1 a1_2)) else (r15_step.j0 k l0 l2 true a1_0 a1_1 a1_2))
theorem r15_step.mono_l : ∀ k, (∀ y0 y1 y2 y3 y4 y5, LeO (r15_step.j0 k y0 y1 y2 y3 y4 y5) (r15_step.j0 (k + 1) y0 y1 y2 y3 y4 y5)) ∧ (∀ y0 y1 y2 y3 y4 y5 y6, LeO (r15_step.j1 k y0 y1 y2 y3 y4 y5 y6) (r15_step.j1 (k + 1) y0 y1 y2 y3 y4 y5 y6)) ∧ (∀ y0 y1 y2 y3 y4 y5, LeO (r15_step.j2 k y0 y1 y2 y3 y4 y5) (r15_step.j2 (k + 1) y0 y1 y2 y3 y4 y5))
 | 0 => ⟨fun _ _ _ _ _ _ r h => by simp [r15_step.j0] at h, fun _ _ _ _ _ _ _ r h => by simp [r15_step.j1] at h, fun _ _ _ _ _ _ r h => by simp [r15_step.j2] at h⟩
 | k + 1 => by
  obtain ⟨ih0, ih1, ih2⟩ := r15_step.mono_l k
  refine ⟨?_, ?_, ?_⟩
  ·intro y0 y1 y2 y3 y4 y5
   unfold r15_step.j0
   repeat' (with_reducible first | exact ih0 _ _ _ _ _ _ | exact ih1 _ _ _ _ _ _ _ | exact ih2 _ _ _ _ _ _ | exact r13_Arity.mono _ _ | exact r13_Result.mono _ _ _ | exact LeO.refl _ | exact LeO.none _ | refine LeO.ite ?_ ?_ | refine LeO.bind ?_ (fun _ => ?_))
  ·intro y0 y1 y2 y3 y4 y5 y6
   unfold r15_step.j1
   repeat' (with_reducible first | exact ih0 _ _ _ _ _ _ | exact ih1 _ _ _ _ _ _ _ | exact ih2 _ _ _ _ _ _ | exact r13_Arity.mono _ _ | exact r13_Result.mono _ _ _ | exact LeO.refl _ | exact LeO.none _ | refine LeO.ite ?_ ?_ | refine LeO.bind ?_ (fun _ => ?_))
  ·intro y0 y1 y2 y3 y4 y5
   unfold r15_step.j2
   repeat' (with_reducible first | exact ih0 _ _ _ _ _ _ | exact ih1 _ _ _ _ _ _ _ | exact ih2 _ _ _ _ _ _ | exact r13_Arity.mono _ _ | exact r13_Result.mono _ _ _ | exact LeO.refl _ | exact LeO.none _ | refine LeO.ite ?_ ?_ | refine LeO.bind ?_ (fun _ => ?_))
theorem r15_step.mono : ∀ a0 a1 a2 a3 a4 k, LeO (r15_step.f k a0 a1 a2 a3 a4) (r15_step.f (k + 1) a0 a1 a2 a3 a4) := by
 intro a0 a1 a2 a3 a4 k
 obtain ⟨ih0, ih1, ih2⟩ := r15_step.mono_l k
 unfold r15_step.f
 repeat' (with_reducible first | exact ih0 _ _ _ _ _ _ | exact ih1 _ _ _ _ _ _ _ | exact ih2 _ _ _ _ _ _ | exact r13_Arity.mono _ _ | exact r13_Result.mono _ _ _ | exact LeO.refl _ | exact LeO.none _ | refine LeO.ite ?_ ?_ | refine LeO.bind ?_ (fun _ => ?_))
set_option maxHeartbeats 8000000 in
set_option maxRecDepth 100000 in
theorem r15_step.calls (k : Nat) (A0 : Option Addr) (c0 : Nat) (l0 : List Bool) (a1_0 : Int) (a1_1 : Int) (a1_2 : ByteArray) (A2 : Option Addr) (c2 : Nat) (l2 : List Bool) (r1 : List Bool) (r2 : Int) (w : World) (hT : Tabs w) (hr0 : Kd.C Kd.bool w A0 l0.length l0) (hc0 : l0.length ≤ c0) (hr2 : Kd.C Kd.bool w A2 l2.length l2) (hc2 : l2.length ≤ c2) (h : r15_step.f k l0 a1_0 a1_1 a1_2 l2 = some (r1, r2)) :
  Calls Tryz.prog 29 #[.slice A0 l0.length c0, .agg #[.int .i64 a1_0, .int .i64 a1_1, .string a1_2], .slice A2 l2.length c2] w fun e w' => ∃ v0_ : Value, e = .returned (.tuple #[v0_, .int .i64 r2]) ∧ Kd.R Kd.bool 4 w' w.heap.size (fun _ => True) v0_ r1 ∧ Below w.heap.size w w' := by
 have hu44 := Tryz.underlying44
 have HR0 := xy hr0
 have HC0 := xy hc0
 clear hr0 hc0
 have HR2 := xy hr2
 have HC2 := xy hc2
 clear hr2 hc2
 have HB := xy (Below.refl w.heap.size w)
 unfold r15_step.f at h
 have H := h
 clear h
 have HC4 := xy H
 clear H
 go_enter Tryz.func29, Tryz.ntmps29
 go_upto_region 1 with (((with_reducible refine gate_dst (N := 4) rfl ?_); (try (refine gate_guard (by rfl) ?_; dsimp only)); refine xq (N := 4) (cs := #[.int .i64 a1_0, .int .i64 a1_1, .string a1_2]) (t := 44) ?_; intro gb339 hg w5 hbox hb; have BK339 := xy (hbox); have GW339 := xs w hg; have GE339 := xs w hg; replace HB := xy (below_step xb hb); clear hb hbox hg))
 repeat (go_quiet (fail); go_upto_region 1 with (fail))
 (try simp only [Act.put, List.setIfInBounds_toArray, List.set_cons_zero, List.set_cons_succ])
 go_cut [25] (fun v25 wc => ∃ (kq : Nat) (x25_3 : Bool), v25 = .bool x25_3 ∧ Aside0 (r15_step.j0 kq l0 l2 x25_3 a1_0 a1_1 a1_2 = some (r1, r2)) ∧ Aside0 (kq ≤ k) ∧ Aside0 (wc.heap[gb339]? = some (.cells #[.int .i64 a1_0, .int .i64 a1_1, .string a1_2] 44 (0, 0))) ∧ Aside0 (Below w.heap.size w wc))
 case first =>
  have H := HC4.out
  clear HC4
  replace H := xj H
  obtain ⟨t340, A60, H⟩ := H
  replace H : (if t340 = true then (if a1_0 ≥ 22 then (r15_step.j0 k l0 l2 ((l2.length : Int) == 0) a1_0 a1_1 a1_2) else (r15_step.j0 k l0 l2 false a1_0 a1_1 a1_2)) else (r15_step.j0 k l0 l2 true a1_0 a1_1 a1_2)) = some (r1, r2) := H
  have A6 := xy A60
  clear A60
  by_cases c7 : t340 = true
  ·subst c7
   rw [if_pos rfl] at H
   by_cases c8 : a1_0 ≥ 22
   ·rw [if_pos c8] at H
    have c8b0 : decide (22 ≤ a1_0) = true := decide_eq_true c8
    clear c8
    (first | rw [c8b0] | (simp only [i64_w, i32_w]; rw [c8b0]) | skip)
    have H' := xy H
    clear H
    have hcz9_0 : w5.cell? ⟨gb339, 0, none⟩ = some (.int .i64 a1_0) := (kc BK339.out 0).trans rfl
    have hcz9_1 : w5.cell? ⟨gb339, 1, none⟩ = some (.int .i64 a1_1) := (kc BK339.out 1).trans rfl
    have hcz9_2 : w5.cell? ⟨gb339, 2, none⟩ = some (.string a1_2) := (kc BK339.out 2).trans rfl
    have hfz9_0 := kf BK339.out 0
    have hfz9_1 := kf BK339.out 1
    have hfz9_2 := kf BK339.out 2
    go_wp2_with ((go_at_call 47; (with_reducible refine (r14_May.calls a1_0 a1_1 a1_2 true _ (Tabs.below hT xf) A6.out).mono ?_); rintro e w10 ⟨rfl, hb⟩; replace BK339 := xd BK339.out hb; replace HB := xy (below_step xb hb); (try clear hb); (try clear hb2); (try clear hk); (try clear hi); have hcz11_0 : w10.cell? ⟨gb339, 0, none⟩ = some (.int .i64 a1_0) := (kc BK339.out 0).trans rfl; have hcz11_1 : w10.cell? ⟨gb339, 1, none⟩ = some (.int .i64 a1_1) := (kc BK339.out 1).trans rfl; have hcz11_2 : w10.cell? ⟨gb339, 2, none⟩ = some (.string a1_2) := (kc BK339.out 2).trans rfl; have hfz11_0 := kf BK339.out 0; have hfz11_1 := kf BK339.out 1; have hfz11_2 := kf BK339.out 2))
    repeat (go_quiet (fail); try go_wp2_with (fail))
    go_meet
    case rel => exact ⟨_, (((l2.length : Int) == 0)), xg, H', ⟨by first | omega | exact Nat.le_refl _⟩, ⟨by (with_reducible repeat (first | refine blk_drewN ?_ _ | refine blk_drew ?_ | refine blk_alloc ?_ _)); exact BK339.out⟩, ⟨xb⟩⟩
   ·rw [if_neg c8] at H
    have c8b0 : decide (22 ≤ a1_0) = false := decide_eq_false c8
    clear c8
    (first | rw [c8b0] | (simp only [i64_w, i32_w]; rw [c8b0]) | skip)
    have H' := xy H
    clear H
    have hcz12_0 : w5.cell? ⟨gb339, 0, none⟩ = some (.int .i64 a1_0) := (kc BK339.out 0).trans rfl
    have hcz12_1 : w5.cell? ⟨gb339, 1, none⟩ = some (.int .i64 a1_1) := (kc BK339.out 1).trans rfl
    have hcz12_2 : w5.cell? ⟨gb339, 2, none⟩ = some (.string a1_2) := (kc BK339.out 2).trans rfl
    have hfz12_0 := kf BK339.out 0
    have hfz12_1 := kf BK339.out 1
    have hfz12_2 := kf BK339.out 2
    go_wp2_with ((go_at_call 47; (with_reducible refine (r14_May.calls a1_0 a1_1 a1_2 true _ (Tabs.below hT xf) A6.out).mono ?_); rintro e w13 ⟨rfl, hb⟩; replace BK339 := xd BK339.out hb; replace HB := xy (below_step xb hb); (try clear hb); (try clear hb2); (try clear hk); (try clear hi); have hcz14_0 : w13.cell? ⟨gb339, 0, none⟩ = some (.int .i64 a1_0) := (kc BK339.out 0).trans rfl; have hcz14_1 : w13.cell? ⟨gb339, 1, none⟩ = some (.int .i64 a1_1) := (kc BK339.out 1).trans rfl; have hcz14_2 : w13.cell? ⟨gb339, 2, none⟩ = some (.string a1_2) := (kc BK339.out 2).trans rfl; have hfz14_0 := kf BK339.out 0; have hfz14_1 := kf BK339.out 1; have hfz14_2 := kf BK339.out 2))
    repeat (go_quiet (fail); try go_wp2_with (fail))
    go_meet
    case rel => exact ⟨_, (false), xg, H', ⟨by first | omega | exact Nat.le_refl _⟩, ⟨by (with_reducible repeat (first | refine blk_drewN ?_ _ | refine blk_drew ?_ | refine blk_alloc ?_ _)); exact BK339.out⟩, ⟨xb⟩⟩
  ·replace c7 := Bool.eq_false_iff.mpr c7
   subst c7
   rw [if_neg (show ¬ (false = true) by decide)] at H
   have H' := xy H
   clear H
   have hcz15_0 : w5.cell? ⟨gb339, 0, none⟩ = some (.int .i64 a1_0) := (kc BK339.out 0).trans rfl
   have hcz15_1 : w5.cell? ⟨gb339, 1, none⟩ = some (.int .i64 a1_1) := (kc BK339.out 1).trans rfl
   have hcz15_2 : w5.cell? ⟨gb339, 2, none⟩ = some (.string a1_2) := (kc BK339.out 2).trans rfl
   have hfz15_0 := kf BK339.out 0
   have hfz15_1 := kf BK339.out 1
   have hfz15_2 := kf BK339.out 2
   go_wp2_with ((go_at_call 47; (with_reducible refine (r14_May.calls a1_0 a1_1 a1_2 false _ (Tabs.below hT xf) A6.out).mono ?_); rintro e w16 ⟨rfl, hb⟩; replace BK339 := xd BK339.out hb; replace HB := xy (below_step xb hb); (try clear hb); (try clear hb2); (try clear hk); (try clear hi)))
   repeat (go_quiet (fail); try go_wp2_with (fail))
   go_meet
   case rel => exact ⟨_, (true), xg, H', ⟨by first | omega | exact Nat.le_refl _⟩, ⟨by (with_reducible repeat (first | refine blk_drewN ?_ _ | refine blk_drew ?_ | refine blk_alloc ?_ _)); exact BK339.out⟩, ⟨xb⟩⟩
 case rest =>
  clear HC4
  try clear c2
  try clear p2
  try clear c7
  try clear c8
  try clear c8b0
  try clear hcz11_0
  try clear hcz11_1
  try clear hcz11_2
  try clear hcz12_0
  try clear hcz12_1
  try clear hcz12_2
  try clear hcz14_0
  try clear hcz14_1
  try clear hcz14_2
  try clear hcz15_0
  try clear hcz15_1
  try clear hcz15_2
  try clear hcz9_0
  try clear hcz9_1
  try clear hcz9_2
  try clear hfz11_0
  try clear hfz11_1
  try clear hfz11_2
  try clear hfz12_0
  try clear hfz12_1
  try clear hfz12_2
  try clear hfz14_0
  try clear hfz14_1
  try clear hfz14_2
  try clear hfz15_0
  try clear hfz15_1
  try clear hfz15_2
  try clear hfz9_0
  try clear hfz9_1
  try clear hfz9_2
  obtain ⟨kq, x25_3, rfl, HA, HJ3, BK339, HB⟩ := hcut
  cases kq with
  | zero => exact absurd HA.out (by simp [r15_step.j0])
  | succ kj3 =>
   have H := HA.out
   clear HA
   simp only [r15_step.j0] at H
   by_cases c17 : x25_3 = true
   ·subst c17
    rw [if_pos rfl] at H
    simp only [Option.some.injEq, Prod.mk.injEq] at H
    obtain ⟨rfl, rfl⟩ := H
    go_wp2
    repeat (go_quiet (fail); try go_wp2)
    go_ret2
    exact ⟨_, by first | rfl | (simp [errW_none, errW_some] <;> rfl) | (simp [*, errW_none, errW_some] <;> rfl), by first | exact Kd.R_nil _ _ _ _ _ | exact Kd.N_nil _ _ _ _ _ | exact Kd.V_nil _ _ _ _ _ | exact Kd.Q_nil _ _ _ _ _ | exact Kd.S_nil _ _ _ _ _, xb⟩
   ·replace c17 := Bool.eq_false_iff.mpr c17
    subst c17
    rw [if_neg (show ¬ (false = true) by decide)] at H
    replace H := xj H
    obtain ⟨t341, A180, H⟩ := H
    replace H : (if t341 > (l0.length : Int) then (some (([] : List Bool), 13)) else (if a1_0 = 1 then (r15_step.j1 kj3 l0 l2 t341 true a1_0 a1_1 a1_2) else (r15_step.j1 kj3 l0 l2 t341 (a1_0 == 2) a1_0 a1_1 a1_2))) = some (r1, r2) := H
    have A18 := xy A180
    clear A180
    by_cases c19 : t341 > (l0.length : Int)
    ·rw [if_pos c19] at H
     have c19b0 : decide ((l0.length : Int) < t341) = true := decide_eq_true c19
     clear c19
     simp only [Option.some.injEq, Prod.mk.injEq] at H
     obtain ⟨rfl, rfl⟩ := H
     have hcz20_0 : wc.cell? ⟨gb339, 0, none⟩ = some (.int .i64 a1_0) := (kc BK339.out 0).trans rfl
     have hcz20_1 : wc.cell? ⟨gb339, 1, none⟩ = some (.int .i64 a1_1) := (kc BK339.out 1).trans rfl
     have hcz20_2 : wc.cell? ⟨gb339, 2, none⟩ = some (.string a1_2) := (kc BK339.out 2).trans rfl
     have hfz20_0 := kf BK339.out 0
     have hfz20_1 := kf BK339.out 1
     have hfz20_2 := kf BK339.out 2
     go_wp2_with ((go_at_call 30; (with_reducible refine (r13_Arity.calls kj3 a1_0 t341 _ (Tabs.below hT xf) A18.out).mono ?_); rintro e w' ⟨rfl, ⟨nd, rfl⟩⟩; (try first | exact ⟨rfl, _, World.drewN_drewN _ _ _⟩ | exact ⟨rfl, _, Eq.trans (World.drewN_drewN _ _ _) (congrArg (World.drewN _) (Nat.add_assoc _ _ _))⟩)))
     repeat (go_quiet (fail); try go_wp2_with (fail))
     go_ret2
     exact ⟨_, by first | rfl | (simp [errW_none, errW_some] <;> rfl) | (simp [*, errW_none, errW_some] <;> rfl), by first | exact Kd.R_nil _ _ _ _ _ | exact Kd.N_nil _ _ _ _ _ | exact Kd.V_nil _ _ _ _ _ | exact Kd.Q_nil _ _ _ _ _ | exact Kd.S_nil _ _ _ _ _, xb⟩
    ·rw [if_neg c19] at H
     have c19b0 : decide ((l0.length : Int) < t341) = false := decide_eq_false c19
     clear c19
     have HC21 := xy H
     clear H
     have hcz22_0 : wc.cell? ⟨gb339, 0, none⟩ = some (.int .i64 a1_0) := (kc BK339.out 0).trans rfl
     have hcz22_1 : wc.cell? ⟨gb339, 1, none⟩ = some (.int .i64 a1_1) := (kc BK339.out 1).trans rfl
     have hcz22_2 : wc.cell? ⟨gb339, 2, none⟩ = some (.string a1_2) := (kc BK339.out 2).trans rfl
     have hfz22_0 := kf BK339.out 0
     have hfz22_1 := kf BK339.out 1
     have hfz22_2 := kf BK339.out 2
     go_upto_region 6 with ((go_at_call 30; (with_reducible refine (r13_Arity.calls kj3 a1_0 t341 _ (Tabs.below hT xf) A18.out).mono ?_); rintro e w' ⟨rfl, ⟨nd, rfl⟩⟩; (try first | exact ⟨rfl, _, World.drewN_drewN _ _ _⟩ | exact ⟨rfl, _, Eq.trans (World.drewN_drewN _ _ _) (congrArg (World.drewN _) (Nat.add_assoc _ _ _))⟩)))
     repeat (go_quiet (fail); go_upto_region 6 with (fail))
     (try simp only [Act.put, List.setIfInBounds_toArray, List.set_cons_zero, List.set_cons_succ])
     go_cut [9] (fun v9 wc => ∃ (kq : Nat) (x9_20 : Bool), v9 = .bool x9_20 ∧ Aside0 (r15_step.j1 kq l0 l2 t341 x9_20 a1_0 a1_1 a1_2 = some (r1, r2)) ∧ Aside0 (kq ≤ kj3) ∧ Aside0 (wc.heap[gb339]? = some (.cells #[.int .i64 a1_0, .int .i64 a1_1, .string a1_2] 44 (0, 0))) ∧ Aside0 (Below w.heap.size w wc))
     case first =>
      have H := HC21.out
      clear HC21
      by_cases c23 : a1_0 = 1
      ·rw [if_pos c23] at H
       have c23b0 : (a1_0 == 1) = true := beq_iff_eq.mpr c23
       have c23b1 : (a1_0 != 1) = false := bne_eq_false_iff_eq.mpr c23
       clear c23
       (first | rw [c23b0] | (simp only [i64_w, i32_w]; rw [c23b0]) | skip)
       have H' := xy H
       clear H
       have hcz24_0 : wc.cell? ⟨gb339, 0, none⟩ = some (.int .i64 a1_0) := (kc BK339.out 0).trans rfl
       have hcz24_1 : wc.cell? ⟨gb339, 1, none⟩ = some (.int .i64 a1_1) := (kc BK339.out 1).trans rfl
       have hcz24_2 : wc.cell? ⟨gb339, 2, none⟩ = some (.string a1_2) := (kc BK339.out 2).trans rfl
       have hfz24_0 := kf BK339.out 0
       have hfz24_1 := kf BK339.out 1
       have hfz24_2 := kf BK339.out 2
       go_wp2
       repeat (go_quiet (fail); try go_wp2)
       go_meet
       case rel => exact ⟨_, (true), xg, H', ⟨by have := HJ3.out; first | omega | exact Nat.le_refl _⟩, ⟨by (with_reducible repeat (first | refine blk_drewN ?_ _ | refine blk_drew ?_ | refine blk_alloc ?_ _)); exact BK339.out⟩, ⟨xb⟩⟩
      ·rw [if_neg c23] at H
       have c23b0 : (a1_0 == 1) = false := beq_eq_false_iff_ne.mpr c23
       have c23b1 : (a1_0 != 1) = true := bne_iff_ne.mpr c23
       (first | rw [c23b0] | (simp only [i64_w, i32_w]; rw [c23b0]) | skip)
       have H' := xy H
       clear H
       have hcz25_0 : wc.cell? ⟨gb339, 0, none⟩ = some (.int .i64 a1_0) := (kc BK339.out 0).trans rfl
       have hcz25_1 : wc.cell? ⟨gb339, 1, none⟩ = some (.int .i64 a1_1) := (kc BK339.out 1).trans rfl
       have hcz25_2 : wc.cell? ⟨gb339, 2, none⟩ = some (.string a1_2) := (kc BK339.out 2).trans rfl
       have hfz25_0 := kf BK339.out 0
       have hfz25_1 := kf BK339.out 1
       have hfz25_2 := kf BK339.out 2
       go_wp2
       repeat (go_quiet (fail); try go_wp2)
       go_meet
       case rel => exact ⟨_, ((a1_0 == 2)), xg, H', ⟨by have := HJ3.out; first | omega | exact Nat.le_refl _⟩, ⟨by (with_reducible repeat (first | refine blk_drewN ?_ _ | refine blk_drew ?_ | refine blk_alloc ?_ _)); exact BK339.out⟩, ⟨xb⟩⟩
     case rest =>
      clear HC21
      try clear c1
      try clear c2
      try clear p2
      try clear c7
      try clear c8
      try clear c8b0
      try clear c17
      try clear c19
      try clear c19b0
      try clear c23
      try clear c23b0
      try clear c23b1
      try clear hcz11_0
      try clear hcz11_1
      try clear hcz11_2
      try clear hcz12_0
      try clear hcz12_1
      try clear hcz12_2
      try clear hcz14_0
      try clear hcz14_1
      try clear hcz14_2
      try clear hcz15_0
      try clear hcz15_1
      try clear hcz15_2
      try clear hcz20_0
      try clear hcz20_1
      try clear hcz20_2
      try clear hcz22_0
      try clear hcz22_1
      try clear hcz22_2
      try clear hcz24_0
      try clear hcz24_1
      try clear hcz24_2
      try clear hcz25_0
      try clear hcz25_1
      try clear hcz25_2
      try clear hcz9_0
      try clear hcz9_1
      try clear hcz9_2
      try clear hfz11_0
      try clear hfz11_1
      try clear hfz11_2
      try clear hfz12_0
      try clear hfz12_1
      try clear hfz12_2
      try clear hfz14_0
      try clear hfz14_1
      try clear hfz14_2
      try clear hfz15_0
      try clear hfz15_1
      try clear hfz15_2
      try clear hfz20_0
      try clear hfz20_1
      try clear hfz20_2
      try clear hfz22_0
      try clear hfz22_1
      try clear hfz22_2
      try clear hfz24_0
      try clear hfz24_1
      try clear hfz24_2
      try clear hfz25_0
      try clear hfz25_1
      try clear hfz25_2
      try clear hfz9_0
      try clear hfz9_1
      try clear hfz9_2
      try clear p2
      obtain ⟨kq, x9_20, rfl, HA, HJ20, BK339, HB⟩ := hcut
      cases kq with
      | zero => exact absurd HA.out (by simp [r15_step.j1])
      | succ kj20 =>
       have H := HA.out
       clear HA
       simp only [r15_step.j1] at H
       have HC26 := xy H
       clear H
       have hcz27_0 : wc.cell? ⟨gb339, 0, none⟩ = some (.int .i64 a1_0) := (kc BK339.out 0).trans rfl
       have hcz27_1 : wc.cell? ⟨gb339, 1, none⟩ = some (.int .i64 a1_1) := (kc BK339.out 1).trans rfl
       have hcz27_2 : wc.cell? ⟨gb339, 2, none⟩ = some (.string a1_2) := (kc BK339.out 2).trans rfl
       have hfz27_0 := kf BK339.out 0
       have hfz27_1 := kf BK339.out 1
       have hfz27_2 := kf BK339.out 2
       go_upto_if 43 with (fail)
       repeat (go_quiet (fail); go_upto_if 43 with (fail))
       go_cut [9] (fun v9 wc => ∃ (kq : Nat) (x9_25 : Bool), v9 = .bool x9_25 ∧ Aside0 (r15_step.j2 kq l0 t341 x9_25 a1_0 a1_1 a1_2 = some (r1, r2)) ∧ Aside0 (kq ≤ kj20) ∧ Aside0 (wc.heap[gb339]? = some (.cells #[.int .i64 a1_0, .int .i64 a1_1, .string a1_2] 44 (0, 0))) ∧ Aside0 (Below w.heap.size w wc))
       case first =>
        have H := HC26.out
        clear HC26
        by_cases c28 : a1_0 ≥ 22
        ·rw [if_pos c28] at H
         have c28b0 : decide (22 ≤ a1_0) = true := decide_eq_true c28
         clear c28
         (first | rw [c28b0] | (simp only [i64_w, i32_w]; rw [c28b0]) | skip)
         obtain ⟨ji29, hji29⟩ : ∃ j_ : Int, (wrap64 (a1_0 - 22)) = j_ := ⟨_, rfl⟩
         replace H : (if 0 ≤ (ji29) then (if (ji29) < (l2.length : Int) then (r15_step.j2 kj20 l0 t341 (rdOf false l2 (ji29)) a1_0 a1_1 a1_2) else (none)) else (none)) = some (r1, r2) := by first | (rw [hji29] at H; exact H) | (simp only [hji29] at H ⊢; exact H)
         have hji29w : (IntKind.i64.wrap (a1_0 - 22)) = ji29 := (i64_w _).trans hji29
         by_cases c30 : 0 ≤ (ji29)
         ·rw [if_pos c30] at H
          have c30b0 : decide (0 ≤ (ji29)) = true := decide_eq_true c30
          clear c30
          by_cases c31 : (ji29) < (l2.length : Int)
          ·rw [if_pos c31] at H
           have c31b0 : decide ((ji29) < (l2.length : Int)) = true := decide_eq_true c31
           clear c31
           have H' := xy H
           clear H
           have hcz32_0 : wc.cell? ⟨gb339, 0, none⟩ = some (.int .i64 a1_0) := (kc BK339.out 0).trans rfl
           have hcz32_1 : wc.cell? ⟨gb339, 1, none⟩ = some (.int .i64 a1_1) := (kc BK339.out 1).trans rfl
           have hcz32_2 : wc.cell? ⟨gb339, 2, none⟩ = some (.string a1_2) := (kc BK339.out 2).trans rfl
           have hfz32_0 := kf BK339.out 0
           have hfz32_1 := kf BK339.out 1
           have hfz32_2 := kf BK339.out 2
           have p342 : 0 ≤ ((ji29) : Int) := xi
           have q342 : (ji29) < (l2.length : Int) := xi
           obtain ⟨ad342, e342, hx342_0⟩ := Kd.at_bool HR2.out (ji29) p342 q342
           cases e342
           replace hx342_0 := (HB.out.cell (World.block_lt_of_cell? w _ hx342_0)).trans hx342_0
           replace p342 := eq_true p342
           replace q342 := eq_true q342
           go_wp2
           repeat (go_quiet (fail); try go_wp2)
           go_meet
           case rel => exact ⟨_, (rdOf false l2 (ji29)), (by first | rfl | (simp; done) | (simp only [← hji29] <;> (first | rfl | simp)) | (simp [*]; done)), H', ⟨by have := HJ3.out; have := HJ20.out; first | omega | exact Nat.le_refl _⟩, ⟨by (with_reducible repeat (first | refine blk_drewN ?_ _ | refine blk_drew ?_ | refine blk_alloc ?_ _)); exact BK339.out⟩, ⟨xb⟩⟩
          ·rw [if_neg c31] at H
           exact absurd H (by simp)
         ·rw [if_neg c30] at H
          exact absurd H (by simp)
        ·rw [if_neg c28] at H
         have c28b0 : decide (22 ≤ a1_0) = false := decide_eq_false c28
         clear c28
         (first | rw [c28b0] | (simp only [i64_w, i32_w]; rw [c28b0]) | skip)
         have H' := xy H
         clear H
         go_wp2
         repeat (go_quiet (fail); try go_wp2)
         go_meet
         case rel => exact ⟨_, (x9_20), xg, H', ⟨by have := HJ3.out; have := HJ20.out; first | omega | exact Nat.le_refl _⟩, ⟨by (with_reducible repeat (first | refine blk_drewN ?_ _ | refine blk_drew ?_ | refine blk_alloc ?_ _)); exact BK339.out⟩, ⟨xb⟩⟩
       case rest =>
        clear HC26
        try clear c1
        try clear c2
        try clear p2
        try clear c3
        try clear p3
        try clear q3
        try clear hx3
        try clear p6
        try clear c7
        try clear c8
        try clear c8b0
        try clear c17
        try clear c19
        try clear c19b0
        try clear c23
        try clear c23b0
        try clear c23b1
        try clear c28
        try clear c28b0
        try clear c29
        try clear c30
        try clear c30b0
        try clear c31
        try clear c31b0
        try clear hcz11_0
        try clear hcz11_1
        try clear hcz11_2
        try clear hcz12_0
        try clear hcz12_1
        try clear hcz12_2
        try clear hcz14_0
        try clear hcz14_1
        try clear hcz14_2
        try clear hcz15_0
        try clear hcz15_1
        try clear hcz15_2
        try clear hcz20_0
        try clear hcz20_1
        try clear hcz20_2
        try clear hcz22_0
        try clear hcz22_1
        try clear hcz22_2
        try clear hcz24_0
        try clear hcz24_1
        try clear hcz24_2
        try clear hcz25_0
        try clear hcz25_1
        try clear hcz25_2
        try clear hcz27_0
        try clear hcz27_1
        try clear hcz27_2
        try clear hcz32_0
        try clear hcz32_1
        try clear hcz32_2
        try clear hcz9_0
        try clear hcz9_1
        try clear hcz9_2
        try clear hfz11_0
        try clear hfz11_1
        try clear hfz11_2
        try clear hfz12_0
        try clear hfz12_1
        try clear hfz12_2
        try clear hfz14_0
        try clear hfz14_1
        try clear hfz14_2
        try clear hfz15_0
        try clear hfz15_1
        try clear hfz15_2
        try clear hfz20_0
        try clear hfz20_1
        try clear hfz20_2
        try clear hfz22_0
        try clear hfz22_1
        try clear hfz22_2
        try clear hfz24_0
        try clear hfz24_1
        try clear hfz24_2
        try clear hfz25_0
        try clear hfz25_1
        try clear hfz25_2
        try clear hfz27_0
        try clear hfz27_1
        try clear hfz27_2
        try clear hfz32_0
        try clear hfz32_1
        try clear hfz32_2
        try clear hfz9_0
        try clear hfz9_1
        try clear hfz9_2
        try clear hx342_0
        try clear p2
        try clear p342
        try clear q342
        obtain ⟨kq, x9_25, rfl, HA, HJ25, BK339, HB⟩ := hcut
        cases kq with
        | zero => exact absurd HA.out (by simp [r15_step.j2])
        | succ kj25 =>
         have H := HA.out
         clear HA
         simp only [r15_step.j2] at H
         by_cases c33 : t341 > 0
         ·rw [if_pos c33] at H
          have c33b0 : decide (0 < t341) = true := decide_eq_true c33
          clear c33
          obtain ⟨ji34, hji34⟩ : ∃ j_ : Int, (wrap64 ((l0.length : Int) - t341)) = j_ := ⟨_, rfl⟩
          replace H : (if 0 ≤ (ji34) then (if (ji34) ≤ (l0.length : Int) then ((r13_Result.f kj25 a1_0 (l0.drop ((ji34) : Int).toNat)).bind fun bt344 => (if bt344.2 = 0 then ((some (([] : List Bool) : List Bool)).bind fun y346 => (if y346.length + (l0.take ((ji34) : Int).toNat).length < 140737488355328 then ((some (y346 ++ (l0.take ((ji34) : Int).toNat) : List Bool)).bind fun y350 => (if y350.length < 140737488355328 then ((some (y350 ++ [bt344.1] : List Bool)).bind fun y353 => (if (y353.length : Int) > 30 then (some (([] : List Bool), 13)) else (some (y353, 0)))) else (none))) else (none))) else (some (([] : List Bool), bt344.2)))) else (none)) else (none)) = some (r1, r2) := by first | (rw [hji34] at H; exact H) | (simp only [hji34] at H ⊢; exact H)
          have hji34w : (IntKind.i64.wrap ((l0.length : Int) - t341)) = ji34 := (i64_w _).trans hji34
          by_cases c35 : 0 ≤ (ji34)
          ·rw [if_pos c35] at H
           have c35b0 := eq_true c35
           have c35b1 : decide (0 ≤ (ji34)) = true := decide_eq_true c35
           clear c35
           by_cases c36 : (ji34) ≤ (l0.length : Int)
           ·rw [if_pos c36] at H
            have c36b0 := eq_true c36
            have c36b1 : decide ((ji34) ≤ (l0.length : Int)) = true := decide_eq_true c36
            clear c36
            replace H := xj H
            obtain ⟨⟨t344, t345⟩, A370, H⟩ := H
            replace H : (if t345 = 0 then ((some (([] : List Bool) : List Bool)).bind fun y346 => (if y346.length + (l0.take ((ji34) : Int).toNat).length < 140737488355328 then ((some (y346 ++ (l0.take ((ji34) : Int).toNat) : List Bool)).bind fun y350 => (if y350.length < 140737488355328 then ((some (y350 ++ [t344] : List Bool)).bind fun y353 => (if (y353.length : Int) > 30 then (some (([] : List Bool), 13)) else (some (y353, 0)))) else (none))) else (none))) else (some (([] : List Bool), t345))) = some (r1, r2) := H
            have A37 := xy A370
            clear A370
            by_cases c38 : t345 = 0
            ·rw [if_pos c38] at H
             have c38b0 : (t345 == 0) = true := beq_iff_eq.mpr c38
             have c38b1 : (t345 != 0) = false := bne_eq_false_iff_eq.mpr c38
             clear c38
             obtain ⟨y346, hy346⟩ : ∃ y_ : List Bool, y_ = (([] : List Bool)) := ⟨_, rfl⟩
             replace H : (if y346.length + (l0.take ((ji34) : Int).toNat).length < 140737488355328 then ((some (y346 ++ (l0.take ((ji34) : Int).toNat) : List Bool)).bind fun y350 => (if y350.length < 140737488355328 then ((some (y350 ++ [t344] : List Bool)).bind fun y353 => (if (y353.length : Int) > 30 then (some (([] : List Bool), 13)) else (some (y353, 0)))) else (none))) else (none)) = some (r1, r2) := by first | (rw [hy346]; with_reducible exact H) | (have H2_ := (Option.bind_some _ _).symm.trans H; rw [hy346]; with_reducible exact H2_) | (have H2_ := (Option.bind_some _ _).symm.trans H; with_reducible exact H2_) | with_reducible exact H | (rw [hy346]; exact H) | exact H
             have Ny346 := xy hy346
             clear hy346
             have c39b0 := eq_true (xi : 0 ≤ (ji34))
             have c40b0 := eq_true (xi : (ji34) ≤ (l0.length : Int))
             by_cases c41 : y346.length + (l0.take ((ji34) : Int).toNat).length < 140737488355328
             ·rw [if_pos c41] at H
              have LMc41 := xy c41
              clear c41
              obtain ⟨y350, hy350⟩ : ∃ y_ : List Bool, y_ = (y346 ++ (l0.take ((ji34) : Int).toNat)) := ⟨_, rfl⟩
              replace H : (if y350.length < 140737488355328 then ((some (y350 ++ [t344] : List Bool)).bind fun y353 => (if (y353.length : Int) > 30 then (some (([] : List Bool), 13)) else (some (y353, 0)))) else (none)) = some (r1, r2) := by first | (rw [hy350]; with_reducible exact H) | (have H2_ := (Option.bind_some _ _).symm.trans H; rw [hy350]; with_reducible exact H2_) | (have H2_ := (Option.bind_some _ _).symm.trans H; with_reducible exact H2_) | with_reducible exact H | (rw [hy350]; exact H) | exact H
              have Ny350 := xy hy350
              clear hy350
              by_cases c42 : y350.length < 140737488355328
              ·rw [if_pos c42] at H
               have LMc42 := xy c42
               clear c42
               obtain ⟨y353, hy353⟩ : ∃ y_ : List Bool, y_ = (y350 ++ [t344]) := ⟨_, rfl⟩
               replace H : (if (y353.length : Int) > 30 then (some (([] : List Bool), 13)) else (some (y353, 0))) = some (r1, r2) := by first | (rw [hy353]; with_reducible exact H) | (have H2_ := (Option.bind_some _ _).symm.trans H; rw [hy353]; with_reducible exact H2_) | (have H2_ := (Option.bind_some _ _).symm.trans H; with_reducible exact H2_) | with_reducible exact H | (rw [hy353]; exact H) | exact H
               have Ny353 := xy hy353
               clear hy353
               by_cases c43 : (y353.length : Int) > 30
               ·rw [if_pos c43] at H
                have c43b0 : decide (30 < (y353.length : Int)) = true := decide_eq_true c43
                have c43b1 : decide (30 < y353.length) = true := decide_eq_true (by omega)
                clear c43
                simp only [Option.some.injEq, Prod.mk.injEq] at H
                obtain ⟨rfl, rfl⟩ := H
                have hcz44_0 : wc.cell? ⟨gb339, 0, none⟩ = some (.int .i64 a1_0) := (kc BK339.out 0).trans rfl
                have hcz44_1 : wc.cell? ⟨gb339, 1, none⟩ = some (.int .i64 a1_1) := (kc BK339.out 1).trans rfl
                have hcz44_2 : wc.cell? ⟨gb339, 2, none⟩ = some (.string a1_2) := (kc BK339.out 2).trans rfl
                have hfz44_0 := kf BK339.out 0
                have hfz44_1 := kf BK339.out 1
                have hfz44_2 := kf BK339.out 2
                obtain ⟨i045, hi045, _, hsz45, _⟩ := info_parts info4
                obtain ⟨A45, hcut45, hA45, hC45⟩ := print_drop_of (P := Tryz.prog) Value.bool false 47 4 .i64 Tryz.underlying47 hi045 hsz45 A0 c0 l0 (ji34) xi xi HC0.out
                have HR343 := xy (Kd.C_of_reads (h1 := fun _ => rfl) (hA45 _ (Kd.reads_of_C HR0.out)))
                have HC343 := xy hC45
                clear hA45 hC45 hi045 hsz45
                go_wp2_with (fail)
                repeat (go_quiet ((go_at_call 48; (try rw [← List.length_drop]); (with_reducible refine (r13_Result.calls kj25 a1_0 _ _ (l0.drop ((ji34) : Int).toNat) t344 t345 _ (Tabs.below hT xf) ?side1 ?side2 A37.out).mono ?_); (case side1 => exact Kd.C_below HR343.out xb); (case side2 => exact HC343.out); rintro e w' ⟨rfl, ⟨nd, rfl⟩⟩; (try first | exact ⟨rfl, _, World.drewN_drewN _ _ _⟩ | exact ⟨rfl, _, Eq.trans (World.drewN_drewN _ _ _) (congrArg (World.drewN _) (Nat.add_assoc _ _ _))⟩))); try go_wp2_with (first | ((with_reducible refine gate_dst (N := 68) rfl ?_); (try (refine gate_guard (by rfl) ?_; dsimp only)); refine Kd.R_lit Kd.bool _ 4 ?hg (N := 68) ?hd (xs := ([] : List Bool)) (inner := []) (ok := fun _ => True) (okp := fun _ => True) ?hr ?hp (fun _ hk => hk) trivial (Below.refl _ _) (Nat.le_refl _) (by simp) ?_; (case hd => rfl); (case hg => rfl); (case hr => exact xh); (case hp => exact (Reps.none _ _)); intro v347 w46 ho47 hb hg_ hnew_; clear hg_ hnew_; (first | rw [← Ny346.out] at ho47 | (simp only [Int.reduceToNat] at ho47; rw [← Ny346.out] at ho47)); have HO348 := xy (Kd.R_lower ho47 (below_size xb)); replace BK339 := xd BK339.out hb; replace HB := xy (below_step xb hb); clear hb ho47; obtain ⟨i048, hi048, _, hsz48, _⟩ := info_parts info4; obtain ⟨hcut48, hA48, hC48⟩ := print_take_of (P := Tryz.prog) Value.bool false 47 4 .i64 Tryz.underlying47 hi048 hsz48 A0 c0 l0 (ji34) xi xi HC0.out; have HR349 := xy (Kd.C_of_reads (h1 := fun _ => rfl) (hA48 _ (Kd.reads_of_C HR0.out))); have HC349 := xy hC48; clear hA48 hC48 hi048 hsz48) | ((with_reducible refine gate_builtin (b := .append) (xs := #[.tmp 68, .tmp 74]) rfl ?_); (try (refine gate_guard (by rfl) ?_; dsimp only)); at_builtin; refine Kd.R_append_rows Kd.bool (w0 := w) w.heap.size rfl (.tmp 68) (.tmp 74) 47 4 (.bool false) 1 rfl Tryz.underlying47 info4 rfl (by decide) (by omega) v347 y346 (l0.take ((ji34) : Int).toNat) _ _ _ (fun _ => True) (fun _ => False) rfl rfl ?aO ?aR (fun _ _ h => h) (fun _ h => h.elim) ?aF ?aB ?aS ?aL ?_; (case aR => first | (refine Eq.mp (congrArg (fun z_ => ReadsRow _ _ _ _ z_ _) (show (l0.take ((ji34) : Int).toNat).length = (ji34).toNat from (by rw [List.length_take]; have h_ : ((ji34) : Int) ≤ (l0.length : Int) := xi; omega))) ?_; exact Kd.C_below HR349.out xb) | (exact Kd.C_below HR349.out xb)); (case aB => exact xb); (case aF => exact (fun _ _ => trivial)); (case aO => exact (xo HO348.out)); (case aS => exact (below_size xb)); (case aL => have := LMc41.out; have hlx_ := (show (l0.take ((ji34) : Int).toNat).length = (ji34).toNat from (by rw [List.length_take]; have h_ : ((ji34) : Int) ≤ (l0.length : Int) := xi; omega)); omega); intro v351 w49 ho hb hg hat; rw [← Ny350.out] at ho; replace BK339 := xy (blk_grown (g := gb339) (o := .cells #[.int .i64 a1_0, .int .i64 a1_1, .string a1_2] 44 (0, 0)) (xk BK339.out) hg (Kd.R_ne HO348.out BK339.out (by decide))); replace HB := xy (hb); have HO352 := xy (ho); clear HO348; clear ho hb hg hat) | ((with_reducible refine gate_builtin (b := .append) (xs := #[.tmp 76, .tmp 78]) rfl ?_); (try (refine gate_guard (by rfl) ?_; dsimp only)); at_builtin; refine Kd.R_append Kd.bool (w0 := w) w.heap.size rfl (.tmp 76) (.tmp 78) 47 4 (.bool false) 1 rfl Tryz.underlying47 info4 rfl (by decide) (by omega) v351 y350 t344 [.bool t344] (fun _ => True) (fun _ => False) rfl rfl ?aP (fun _ hk => hk.elim) ?aF ?aO ?aB ?aS ?aL ?_; (case aP => exact rfl); (case aB => exact xb); (case aF => exact (fun _ _ => trivial)); (case aO => exact (xo HO352.out)); (case aS => exact (below_size xb)); (case aL => have := LMc42.out; omega); intro v354 w50 ho hb hg hat; rw [← Ny353.out] at ho; replace BK339 := xy (blk_grown (g := gb339) (o := .cells #[.int .i64 a1_0, .int .i64 a1_1, .string a1_2] 44 (0, 0)) (xk BK339.out) hg (Kd.R_ne HO352.out BK339.out (by decide))); replace HB := xy (hb); have HO355 := xy (ho); clear HO352; clear ho hb hg hat; obtain ⟨Ao51, co51, eo51⟩ := Kd.R_slice HO355.out; subst eo51)))
                go_ret2
                exact ⟨_, by first | rfl | (simp [errW_none, errW_some] <;> rfl) | (simp only [← hji34]; first | rfl | (simp [errW_none, errW_some] <;> rfl)) | (simp [*, errW_none, errW_some] <;> rfl), by first | exact Kd.R_nil _ _ _ _ _ | exact Kd.N_nil _ _ _ _ _ | exact Kd.V_nil _ _ _ _ _ | exact Kd.Q_nil _ _ _ _ _ | exact Kd.S_nil _ _ _ _ _, xb⟩
               ·rw [if_neg c43] at H
                have c43b0 : decide (30 < (y353.length : Int)) = false := decide_eq_false c43
                have c43b1 : decide (30 < y353.length) = false := decide_eq_false (by omega)
                clear c43
                simp only [Option.some.injEq, Prod.mk.injEq] at H
                obtain ⟨rfl, rfl⟩ := H
                have hcz52_0 : wc.cell? ⟨gb339, 0, none⟩ = some (.int .i64 a1_0) := (kc BK339.out 0).trans rfl
                have hcz52_1 : wc.cell? ⟨gb339, 1, none⟩ = some (.int .i64 a1_1) := (kc BK339.out 1).trans rfl
                have hcz52_2 : wc.cell? ⟨gb339, 2, none⟩ = some (.string a1_2) := (kc BK339.out 2).trans rfl
                have hfz52_0 := kf BK339.out 0
                have hfz52_1 := kf BK339.out 1
                have hfz52_2 := kf BK339.out 2
                obtain ⟨i053, hi053, _, hsz53, _⟩ := info_parts info4
                obtain ⟨A53, hcut53, hA53, hC53⟩ := print_drop_of (P := Tryz.prog) Value.bool false 47 4 .i64 Tryz.underlying47 hi053 hsz53 A0 c0 l0 (ji34) xi xi HC0.out
                have HR343 := xy (Kd.C_of_reads (h1 := fun _ => rfl) (hA53 _ (Kd.reads_of_C HR0.out)))
                have HC343 := xy hC53
                clear hA53 hC53 hi053 hsz53
                go_wp2_with (fail)
                repeat (go_quiet ((go_at_call 48; (try rw [← List.length_drop]); (with_reducible refine (r13_Result.calls kj25 a1_0 _ _ (l0.drop ((ji34) : Int).toNat) t344 t345 _ (Tabs.below hT xf) ?side1 ?side2 A37.out).mono ?_); (case side1 => exact Kd.C_below HR343.out xb); (case side2 => exact HC343.out); rintro e w' ⟨rfl, ⟨nd, rfl⟩⟩; (try first | exact ⟨rfl, _, World.drewN_drewN _ _ _⟩ | exact ⟨rfl, _, Eq.trans (World.drewN_drewN _ _ _) (congrArg (World.drewN _) (Nat.add_assoc _ _ _))⟩))); try go_wp2_with (first | ((with_reducible refine gate_dst (N := 68) rfl ?_); (try (refine gate_guard (by rfl) ?_; dsimp only)); refine Kd.R_lit Kd.bool _ 4 ?hg (N := 68) ?hd (xs := ([] : List Bool)) (inner := []) (ok := fun _ => True) (okp := fun _ => True) ?hr ?hp (fun _ hk => hk) trivial (Below.refl _ _) (Nat.le_refl _) (by simp) ?_; (case hd => rfl); (case hg => rfl); (case hr => exact xh); (case hp => exact (Reps.none _ _)); intro v347 w54 ho55 hb hg_ hnew_; clear hg_ hnew_; (first | rw [← Ny346.out] at ho55 | (simp only [Int.reduceToNat] at ho55; rw [← Ny346.out] at ho55)); have HO348 := xy (Kd.R_lower ho55 (below_size xb)); replace BK339 := xd BK339.out hb; replace HB := xy (below_step xb hb); clear hb ho55; obtain ⟨i056, hi056, _, hsz56, _⟩ := info_parts info4; obtain ⟨hcut56, hA56, hC56⟩ := print_take_of (P := Tryz.prog) Value.bool false 47 4 .i64 Tryz.underlying47 hi056 hsz56 A0 c0 l0 (ji34) xi xi HC0.out; have HR349 := xy (Kd.C_of_reads (h1 := fun _ => rfl) (hA56 _ (Kd.reads_of_C HR0.out))); have HC349 := xy hC56; clear hA56 hC56 hi056 hsz56) | ((with_reducible refine gate_builtin (b := .append) (xs := #[.tmp 68, .tmp 74]) rfl ?_); (try (refine gate_guard (by rfl) ?_; dsimp only)); at_builtin; refine Kd.R_append_rows Kd.bool (w0 := w) w.heap.size rfl (.tmp 68) (.tmp 74) 47 4 (.bool false) 1 rfl Tryz.underlying47 info4 rfl (by decide) (by omega) v347 y346 (l0.take ((ji34) : Int).toNat) _ _ _ (fun _ => True) (fun _ => False) rfl rfl ?aO ?aR (fun _ _ h => h) (fun _ h => h.elim) ?aF ?aB ?aS ?aL ?_; (case aR => first | (refine Eq.mp (congrArg (fun z_ => ReadsRow _ _ _ _ z_ _) (show (l0.take ((ji34) : Int).toNat).length = (ji34).toNat from (by rw [List.length_take]; have h_ : ((ji34) : Int) ≤ (l0.length : Int) := xi; omega))) ?_; exact Kd.C_below HR349.out xb) | (exact Kd.C_below HR349.out xb)); (case aB => exact xb); (case aF => exact (fun _ _ => trivial)); (case aO => exact (xo HO348.out)); (case aS => exact (below_size xb)); (case aL => have := LMc41.out; have hlx_ := (show (l0.take ((ji34) : Int).toNat).length = (ji34).toNat from (by rw [List.length_take]; have h_ : ((ji34) : Int) ≤ (l0.length : Int) := xi; omega)); omega); intro v351 w57 ho hb hg hat; rw [← Ny350.out] at ho; replace BK339 := xy (blk_grown (g := gb339) (o := .cells #[.int .i64 a1_0, .int .i64 a1_1, .string a1_2] 44 (0, 0)) (xk BK339.out) hg (Kd.R_ne HO348.out BK339.out (by decide))); replace HB := xy (hb); have HO352 := xy (ho); clear HO348; clear ho hb hg hat) | ((with_reducible refine gate_builtin (b := .append) (xs := #[.tmp 76, .tmp 78]) rfl ?_); (try (refine gate_guard (by rfl) ?_; dsimp only)); at_builtin; refine Kd.R_append Kd.bool (w0 := w) w.heap.size rfl (.tmp 76) (.tmp 78) 47 4 (.bool false) 1 rfl Tryz.underlying47 info4 rfl (by decide) (by omega) v351 y350 t344 [.bool t344] (fun _ => True) (fun _ => False) rfl rfl ?aP (fun _ hk => hk.elim) ?aF ?aO ?aB ?aS ?aL ?_; (case aP => exact rfl); (case aB => exact xb); (case aF => exact (fun _ _ => trivial)); (case aO => exact (xo HO352.out)); (case aS => exact (below_size xb)); (case aL => have := LMc42.out; omega); intro v354 w58 ho hb hg hat; rw [← Ny353.out] at ho; replace BK339 := xy (blk_grown (g := gb339) (o := .cells #[.int .i64 a1_0, .int .i64 a1_1, .string a1_2] 44 (0, 0)) (xk BK339.out) hg (Kd.R_ne HO352.out BK339.out (by decide))); replace HB := xy (hb); have HO355 := xy (ho); clear HO352; clear ho hb hg hat; obtain ⟨Ao59, co59, eo59⟩ := Kd.R_slice HO355.out; subst eo59)))
                go_ret2
                exact ⟨_, by first | rfl | (simp [errW_none, errW_some] <;> rfl) | (simp only [← hji34]; first | rfl | (simp [errW_none, errW_some] <;> rfl)) | (simp [*, errW_none, errW_some] <;> rfl), by (with_reducible repeat (first | apply Kd.R_alloc | apply Kd.R_drewN | apply Kd.R_drew)); exact HO355.out, xb⟩
              ·rw [if_neg c42] at H
               exact absurd H (by simp)
             ·rw [if_neg c41] at H
              exact absurd H (by simp)
            ·rw [if_neg c38] at H
             have c38b0 : (t345 == 0) = false := beq_eq_false_iff_ne.mpr c38
             have c38b1 : (t345 != 0) = true := bne_iff_ne.mpr c38
             simp only [Option.some.injEq, Prod.mk.injEq] at H
             obtain ⟨rfl, rfl⟩ := H
             have hcz60_0 : wc.cell? ⟨gb339, 0, none⟩ = some (.int .i64 a1_0) := (kc BK339.out 0).trans rfl
             have hcz60_1 : wc.cell? ⟨gb339, 1, none⟩ = some (.int .i64 a1_1) := (kc BK339.out 1).trans rfl
             have hcz60_2 : wc.cell? ⟨gb339, 2, none⟩ = some (.string a1_2) := (kc BK339.out 2).trans rfl
             have hfz60_0 := kf BK339.out 0
             have hfz60_1 := kf BK339.out 1
             have hfz60_2 := kf BK339.out 2
             obtain ⟨i061, hi061, _, hsz61, _⟩ := info_parts info4
             obtain ⟨A61, hcut61, hA61, hC61⟩ := print_drop_of (P := Tryz.prog) Value.bool false 47 4 .i64 Tryz.underlying47 hi061 hsz61 A0 c0 l0 (ji34) xi xi HC0.out
             have HR343 := xy (Kd.C_of_reads (h1 := fun _ => rfl) (hA61 _ (Kd.reads_of_C HR0.out)))
             have HC343 := xy hC61
             clear hA61 hC61 hi061 hsz61
             go_wp2_with (fail)
             repeat (go_quiet ((go_at_call 48; (try rw [← List.length_drop]); (with_reducible refine (r13_Result.calls kj25 a1_0 _ _ (l0.drop ((ji34) : Int).toNat) t344 t345 _ (Tabs.below hT xf) ?side1 ?side2 A37.out).mono ?_); (case side1 => exact Kd.C_below HR343.out xb); (case side2 => exact HC343.out); rintro e w' ⟨rfl, ⟨nd, rfl⟩⟩; (try first | exact ⟨rfl, _, World.drewN_drewN _ _ _⟩ | exact ⟨rfl, _, Eq.trans (World.drewN_drewN _ _ _) (congrArg (World.drewN _) (Nat.add_assoc _ _ _))⟩))); try go_wp2_with (fail))
             go_ret2
             exact ⟨_, by first | rfl | (simp [errW_none, errW_some] <;> rfl) | (simp only [← hji34]; first | rfl | (simp [errW_none, errW_some] <;> rfl)) | (simp [*, errW_none, errW_some] <;> rfl), by first | exact Kd.R_nil _ _ _ _ _ | exact Kd.N_nil _ _ _ _ _ | exact Kd.V_nil _ _ _ _ _ | exact Kd.Q_nil _ _ _ _ _ | exact Kd.S_nil _ _ _ _ _, xb⟩
           ·rw [if_neg c36] at H
            exact absurd H (by simp)
          ·rw [if_neg c35] at H
           exact absurd H (by simp)
         ·rw [if_neg c33] at H
          have c33b0 : decide (0 < t341) = false := decide_eq_false c33
          clear c33
          obtain ⟨y356, hy356⟩ : ∃ y_ : List Bool, y_ = (([] : List Bool)) := ⟨_, rfl⟩
          replace H : (if 0 ≤ (wrap64 ((l0.length : Int) - t341)) then (if (wrap64 ((l0.length : Int) - t341)) ≤ (l0.length : Int) then (if y356.length + (l0.take ((wrap64 ((l0.length : Int) - t341)) : Int).toNat).length < 140737488355328 then ((some (y356 ++ (l0.take ((wrap64 ((l0.length : Int) - t341)) : Int).toNat) : List Bool)).bind fun y360 => (if y360.length < 140737488355328 then ((some (y360 ++ [x9_25] : List Bool)).bind fun y363 => (if (y363.length : Int) > 30 then (some (([] : List Bool), 13)) else (some (y363, 0)))) else (none))) else (none)) else (none)) else (none)) = some (r1, r2) := by first | (rw [hy356]; with_reducible exact H) | (have H2_ := (Option.bind_some _ _).symm.trans H; rw [hy356]; with_reducible exact H2_) | (have H2_ := (Option.bind_some _ _).symm.trans H; with_reducible exact H2_) | with_reducible exact H | (rw [hy356]; exact H) | exact H
          have Ny356 := xy hy356
          clear hy356
          obtain ⟨ji62, hji62⟩ : ∃ j_ : Int, (wrap64 ((l0.length : Int) - t341)) = j_ := ⟨_, rfl⟩
          replace H : (if 0 ≤ (ji62) then (if (ji62) ≤ (l0.length : Int) then (if y356.length + (l0.take ((ji62) : Int).toNat).length < 140737488355328 then ((some (y356 ++ (l0.take ((ji62) : Int).toNat) : List Bool)).bind fun y360 => (if y360.length < 140737488355328 then ((some (y360 ++ [x9_25] : List Bool)).bind fun y363 => (if (y363.length : Int) > 30 then (some (([] : List Bool), 13)) else (some (y363, 0)))) else (none))) else (none)) else (none)) else (none)) = some (r1, r2) := by first | (rw [hji62] at H; exact H) | (simp only [hji62] at H ⊢; exact H)
          have hji62w : (IntKind.i64.wrap ((l0.length : Int) - t341)) = ji62 := (i64_w _).trans hji62
          by_cases c63 : 0 ≤ (ji62)
          ·rw [if_pos c63] at H
           have c63b0 := eq_true c63
           have c63b1 : decide (0 ≤ (ji62)) = true := decide_eq_true c63
           clear c63
           by_cases c64 : (ji62) ≤ (l0.length : Int)
           ·rw [if_pos c64] at H
            have c64b0 := eq_true c64
            have c64b1 : decide ((ji62) ≤ (l0.length : Int)) = true := decide_eq_true c64
            clear c64
            by_cases c65 : y356.length + (l0.take ((ji62) : Int).toNat).length < 140737488355328
            ·rw [if_pos c65] at H
             have LMc65 := xy c65
             clear c65
             obtain ⟨y360, hy360⟩ : ∃ y_ : List Bool, y_ = (y356 ++ (l0.take ((ji62) : Int).toNat)) := ⟨_, rfl⟩
             replace H : (if y360.length < 140737488355328 then ((some (y360 ++ [x9_25] : List Bool)).bind fun y363 => (if (y363.length : Int) > 30 then (some (([] : List Bool), 13)) else (some (y363, 0)))) else (none)) = some (r1, r2) := by first | (rw [hy360]; with_reducible exact H) | (have H2_ := (Option.bind_some _ _).symm.trans H; rw [hy360]; with_reducible exact H2_) | (have H2_ := (Option.bind_some _ _).symm.trans H; with_reducible exact H2_) | with_reducible exact H | (rw [hy360]; exact H) | exact H
             have Ny360 := xy hy360
             clear hy360
             by_cases c66 : y360.length < 140737488355328
             ·rw [if_pos c66] at H
              have LMc66 := xy c66
              clear c66
              obtain ⟨y363, hy363⟩ : ∃ y_ : List Bool, y_ = (y360 ++ [x9_25]) := ⟨_, rfl⟩
              replace H : (if (y363.length : Int) > 30 then (some (([] : List Bool), 13)) else (some (y363, 0))) = some (r1, r2) := by first | (rw [hy363]; with_reducible exact H) | (have H2_ := (Option.bind_some _ _).symm.trans H; rw [hy363]; with_reducible exact H2_) | (have H2_ := (Option.bind_some _ _).symm.trans H; with_reducible exact H2_) | with_reducible exact H | (rw [hy363]; exact H) | exact H
              have Ny363 := xy hy363
              clear hy363
              by_cases c67 : (y363.length : Int) > 30
              ·rw [if_pos c67] at H
               have c67b0 : decide (30 < (y363.length : Int)) = true := decide_eq_true c67
               have c67b1 : decide (30 < y363.length) = true := decide_eq_true (by omega)
               clear c67
               simp only [Option.some.injEq, Prod.mk.injEq] at H
               obtain ⟨rfl, rfl⟩ := H
               go_wp2_with (first | ((with_reducible refine gate_dst (N := 68) rfl ?_); (try (refine gate_guard (by rfl) ?_; dsimp only)); refine Kd.R_lit Kd.bool _ 4 ?hg (N := 68) ?hd (xs := ([] : List Bool)) (inner := []) (ok := fun _ => True) (okp := fun _ => True) ?hr ?hp (fun _ hk => hk) trivial (Below.refl _ _) (Nat.le_refl _) (by simp) ?_; (case hd => rfl); (case hg => rfl); (case hr => exact xh); (case hp => exact (Reps.none _ _)); intro v357 w68 ho69 hb hg_ hnew_; clear hg_ hnew_; (first | rw [← Ny356.out] at ho69 | (simp only [Int.reduceToNat] at ho69; rw [← Ny356.out] at ho69)); have HO358 := xy (Kd.R_lower ho69 (below_size xb)); replace BK339 := xd BK339.out hb; replace HB := xy (below_step xb hb); clear hb ho69; obtain ⟨i070, hi070, _, hsz70, _⟩ := info_parts info4; obtain ⟨hcut70, hA70, hC70⟩ := print_take_of (P := Tryz.prog) Value.bool false 47 4 .i64 Tryz.underlying47 hi070 hsz70 A0 c0 l0 (ji62) xi xi HC0.out; have HR359 := xy (Kd.C_of_reads (h1 := fun _ => rfl) (hA70 _ (Kd.reads_of_C HR0.out))); have HC359 := xy hC70; clear hA70 hC70 hi070 hsz70) | ((with_reducible refine gate_builtin (b := .append) (xs := #[.tmp 68, .tmp 74]) rfl ?_); (try (refine gate_guard (by rfl) ?_; dsimp only)); at_builtin; refine Kd.R_append_rows Kd.bool (w0 := w) w.heap.size rfl (.tmp 68) (.tmp 74) 47 4 (.bool false) 1 rfl Tryz.underlying47 info4 rfl (by decide) (by omega) v357 y356 (l0.take ((ji62) : Int).toNat) _ _ _ (fun _ => True) (fun _ => False) rfl rfl ?aO ?aR (fun _ _ h => h) (fun _ h => h.elim) ?aF ?aB ?aS ?aL ?_; (case aR => first | (refine Eq.mp (congrArg (fun z_ => ReadsRow _ _ _ _ z_ _) (show (l0.take ((ji62) : Int).toNat).length = (ji62).toNat from (by rw [List.length_take]; have h_ : ((ji62) : Int) ≤ (l0.length : Int) := xi; omega))) ?_; exact Kd.C_below HR359.out xb) | (exact Kd.C_below HR359.out xb)); (case aB => exact xb); (case aF => exact (fun _ _ => trivial)); (case aO => exact (xo HO358.out)); (case aS => exact (below_size xb)); (case aL => have := LMc65.out; have hlx_ := (show (l0.take ((ji62) : Int).toNat).length = (ji62).toNat from (by rw [List.length_take]; have h_ : ((ji62) : Int) ≤ (l0.length : Int) := xi; omega)); omega); intro v361 w71 ho hb hg hat; rw [← Ny360.out] at ho; replace BK339 := xy (blk_grown (g := gb339) (o := .cells #[.int .i64 a1_0, .int .i64 a1_1, .string a1_2] 44 (0, 0)) (xk BK339.out) hg (Kd.R_ne HO358.out BK339.out (by decide))); replace HB := xy (hb); have HO362 := xy (ho); clear HO358; clear ho hb hg hat) | ((with_reducible refine gate_builtin (b := .append) (xs := #[.tmp 76, .tmp 78]) rfl ?_); (try (refine gate_guard (by rfl) ?_; dsimp only)); at_builtin; refine Kd.R_append Kd.bool (w0 := w) w.heap.size rfl (.tmp 76) (.tmp 78) 47 4 (.bool false) 1 rfl Tryz.underlying47 info4 rfl (by decide) (by omega) v361 y360 x9_25 [.bool x9_25] (fun _ => True) (fun _ => False) rfl rfl ?aP (fun _ hk => hk.elim) ?aF ?aO ?aB ?aS ?aL ?_; (case aP => exact rfl); (case aB => exact xb); (case aF => exact (fun _ _ => trivial)); (case aO => exact (xo HO362.out)); (case aS => exact (below_size xb)); (case aL => have := LMc66.out; omega); intro v364 w72 ho hb hg hat; rw [← Ny363.out] at ho; replace BK339 := xy (blk_grown (g := gb339) (o := .cells #[.int .i64 a1_0, .int .i64 a1_1, .string a1_2] 44 (0, 0)) (xk BK339.out) hg (Kd.R_ne HO362.out BK339.out (by decide))); replace HB := xy (hb); have HO365 := xy (ho); clear HO362; clear ho hb hg hat; obtain ⟨Ao73, co73, eo73⟩ := Kd.R_slice HO365.out; subst eo73))
               repeat (go_quiet (fail); try go_wp2_with (fail))
               go_ret2
               exact ⟨_, by first | rfl | (simp [errW_none, errW_some] <;> rfl) | (simp only [← hji62]; first | rfl | (simp [errW_none, errW_some] <;> rfl)) | (simp [*, errW_none, errW_some] <;> rfl), by first | exact Kd.R_nil _ _ _ _ _ | exact Kd.N_nil _ _ _ _ _ | exact Kd.V_nil _ _ _ _ _ | exact Kd.Q_nil _ _ _ _ _ | exact Kd.S_nil _ _ _ _ _, xb⟩
              ·rw [if_neg c67] at H
               have c67b0 : decide (30 < (y363.length : Int)) = false := decide_eq_false c67
               have c67b1 : decide (30 < y363.length) = false := decide_eq_false (by omega)
               clear c67
               simp only [Option.some.injEq, Prod.mk.injEq] at H
               obtain ⟨rfl, rfl⟩ := H
               go_wp2_with (first | ((with_reducible refine gate_dst (N := 68) rfl ?_); (try (refine gate_guard (by rfl) ?_; dsimp only)); refine Kd.R_lit Kd.bool _ 4 ?hg (N := 68) ?hd (xs := ([] : List Bool)) (inner := []) (ok := fun _ => True) (okp := fun _ => True) ?hr ?hp (fun _ hk => hk) trivial (Below.refl _ _) (Nat.le_refl _) (by simp) ?_; (case hd => rfl); (case hg => rfl); (case hr => exact xh); (case hp => exact (Reps.none _ _)); intro v357 w74 ho75 hb hg_ hnew_; clear hg_ hnew_; (first | rw [← Ny356.out] at ho75 | (simp only [Int.reduceToNat] at ho75; rw [← Ny356.out] at ho75)); have HO358 := xy (Kd.R_lower ho75 (below_size xb)); replace BK339 := xd BK339.out hb; replace HB := xy (below_step xb hb); clear hb ho75; obtain ⟨i076, hi076, _, hsz76, _⟩ := info_parts info4; obtain ⟨hcut76, hA76, hC76⟩ := print_take_of (P := Tryz.prog) Value.bool false 47 4 .i64 Tryz.underlying47 hi076 hsz76 A0 c0 l0 (ji62) xi xi HC0.out; have HR359 := xy (Kd.C_of_reads (h1 := fun _ => rfl) (hA76 _ (Kd.reads_of_C HR0.out))); have HC359 := xy hC76; clear hA76 hC76 hi076 hsz76) | ((with_reducible refine gate_builtin (b := .append) (xs := #[.tmp 68, .tmp 74]) rfl ?_); (try (refine gate_guard (by rfl) ?_; dsimp only)); at_builtin; refine Kd.R_append_rows Kd.bool (w0 := w) w.heap.size rfl (.tmp 68) (.tmp 74) 47 4 (.bool false) 1 rfl Tryz.underlying47 info4 rfl (by decide) (by omega) v357 y356 (l0.take ((ji62) : Int).toNat) _ _ _ (fun _ => True) (fun _ => False) rfl rfl ?aO ?aR (fun _ _ h => h) (fun _ h => h.elim) ?aF ?aB ?aS ?aL ?_; (case aR => first | (refine Eq.mp (congrArg (fun z_ => ReadsRow _ _ _ _ z_ _) (show (l0.take ((ji62) : Int).toNat).length = (ji62).toNat from (by rw [List.length_take]; have h_ : ((ji62) : Int) ≤ (l0.length : Int) := xi; omega))) ?_; exact Kd.C_below HR359.out xb) | (exact Kd.C_below HR359.out xb)); (case aB => exact xb); (case aF => exact (fun _ _ => trivial)); (case aO => exact (xo HO358.out)); (case aS => exact (below_size xb)); (case aL => have := LMc65.out; have hlx_ := (show (l0.take ((ji62) : Int).toNat).length = (ji62).toNat from (by rw [List.length_take]; have h_ : ((ji62) : Int) ≤ (l0.length : Int) := xi; omega)); omega); intro v361 w77 ho hb hg hat; rw [← Ny360.out] at ho; replace BK339 := xy (blk_grown (g := gb339) (o := .cells #[.int .i64 a1_0, .int .i64 a1_1, .string a1_2] 44 (0, 0)) (xk BK339.out) hg (Kd.R_ne HO358.out BK339.out (by decide))); replace HB := xy (hb); have HO362 := xy (ho); clear HO358; clear ho hb hg hat) | ((with_reducible refine gate_builtin (b := .append) (xs := #[.tmp 76, .tmp 78]) rfl ?_); (try (refine gate_guard (by rfl) ?_; dsimp only)); at_builtin; refine Kd.R_append Kd.bool (w0 := w) w.heap.size rfl (.tmp 76) (.tmp 78) 47 4 (.bool false) 1 rfl Tryz.underlying47 info4 rfl (by decide) (by omega) v361 y360 x9_25 [.bool x9_25] (fun _ => True) (fun _ => False) rfl rfl ?aP (fun _ hk => hk.elim) ?aF ?aO ?aB ?aS ?aL ?_; (case aP => exact rfl); (case aB => exact xb); (case aF => exact (fun _ _ => trivial)); (case aO => exact (xo HO362.out)); (case aS => exact (below_size xb)); (case aL => have := LMc66.out; omega); intro v364 w78 ho hb hg hat; rw [← Ny363.out] at ho; replace BK339 := xy (blk_grown (g := gb339) (o := .cells #[.int .i64 a1_0, .int .i64 a1_1, .string a1_2] 44 (0, 0)) (xk BK339.out) hg (Kd.R_ne HO362.out BK339.out (by decide))); replace HB := xy (hb); have HO365 := xy (ho); clear HO362; clear ho hb hg hat; obtain ⟨Ao79, co79, eo79⟩ := Kd.R_slice HO365.out; subst eo79))
               repeat (go_quiet (fail); try go_wp2_with (fail))
               go_ret2
               exact ⟨_, by first | rfl | (simp [errW_none, errW_some] <;> rfl) | (simp only [← hji62]; first | rfl | (simp [errW_none, errW_some] <;> rfl)) | (simp [*, errW_none, errW_some] <;> rfl), by (with_reducible repeat (first | apply Kd.R_alloc | apply Kd.R_drewN | apply Kd.R_drew)); exact HO365.out, xb⟩
             ·rw [if_neg c66] at H
              exact absurd H (by simp)
            ·rw [if_neg c65] at H
             exact absurd H (by simp)
           ·rw [if_neg c64] at H
            exact absurd H (by simp)
          ·rw [if_neg c63] at H
           exact absurd H (by simp)
end Go.Proofs.YtnodgcakmolleaaGreatDoor.PX
