/- Walked functions, by this session's program over the kit's print. -/
import Derived.Test.YtnodgcakmolleaaGreatDoorPXx0
import Derived.Test.YtnodgcakmolleaaGreatDoorPXx11
import Derived.Test.YtnodgcakmolleaaGreatDoorPXx15
import Derived.Test.YtnodgcakmolleaaGreatDoorPXx17
import Derived.Test.YtnodgcakmolleaaGreatDoorPXx20
namespace Go.Proofs.YtnodgcakmolleaaGreatDoor.PX
open Go.RowKit Go.Proofs.YtnodgcakmolleaaGreatDoorW.PrintWords Go.Proofs.YtnodgcakmolleaaGreatDoorW.PrintLast Go.Proofs.YtnodgcakmolleaaGreatDoorW.PrintMore
attribute [local go_sem] xm_gtr max2_int min2_int max_two min_two max_three min_three max_four min_four
set_option linter.unusedVariables false
set_option linter.unusedSimpArgs false
/- Walked functions, by this session's program over the kit's print. -/
mutual
def r13_Do.l0 : Nat → Int → List (S32) → List Bool → Int → Option (Bool × Int × ByteArray × Int)
 | 0, _, _, _, _ => none
 | k + 1, x0, x1, x6, x7 => if x7 < (x1.length : Int) then (if 0 ≤ x7 then ((r13_Is.f ((rd_T32 x1 x7).f0) ((rd_T32 x1 x7).f1) ((rd_T32 x1 x7).f2)).bind fun t448 => (if t448 = true then (if x6.length < 140737488355328 then (r13_Do.l0 k x0 x1 (x6 ++ [(rd_T32 x1 x7).f0]) (wrap64 (x7 + 1))) else (none)) else (some (false, 0, (⟨#[]⟩ : ByteArray), 1)))) else (none)) else ((r13_Result.f k x0 x6).bind fun bt453 => (if bt453.2 = 0 then (if 0 < (x1.length : Int) then (if (x1.length : Int) > 1 then (if 1 < (x1.length : Int) then (r13_Do.j1 k x0 x1 ((rd_T32 x1 0).f0) ((rd_T32 x1 0).f1) ((rd_T32 x1 0).f2) ((rd_T32 x1 1).f0) ((rd_T32 x1 1).f1) ((rd_T32 x1 1).f2) false 0 (⟨#[]⟩ : ByteArray)) else (none)) else (r13_Do.j1 k x0 x1 ((rd_T32 x1 0).f0) ((rd_T32 x1 0).f1) ((rd_T32 x1 0).f2) false 0 (⟨#[]⟩ : ByteArray) false 0 (⟨#[]⟩ : ByteArray))) else (none)) else (some (false, 0, (⟨#[]⟩ : ByteArray), bt453.2))))
def r13_Do.j1 : Nat → Int → List (S32) → Bool → Int → ByteArray → Bool → Int → ByteArray → Bool → Int → ByteArray → Option (Bool × Int × ByteArray × Int)
 | 0, _, _, _, _, _, _, _, _, _, _, _ => none
 | k + 1, x0, x1, x457000, x457001, x457002, x458000, x458001, x458002, x459000, x459001, x459002 => if (x1.length : Int) > 2 then (if 2 < (x1.length : Int) then (r13_Do.j2 k x0 x457000 x457001 x457002 x458000 x458001 x458002 ((rd_T32 x1 2).f0) ((rd_T32 x1 2).f1) ((rd_T32 x1 2).f2)) else (none)) else (r13_Do.j2 k x0 x457000 x457001 x457002 x458000 x458001 x458002 x459000 x459001 x459002)
def r13_Do.j2 : Nat → Int → Bool → Int → ByteArray → Bool → Int → ByteArray → Bool → Int → ByteArray → Option (Bool × Int × ByteArray × Int)
 | 0, _, _, _, _, _, _, _, _, _, _ => none
 | k + 1, x0, x457000, x457001, x457002, x458000, x458001, x458002, x459000, x459001, x459002 => if x0 ≤ 8 then (r13_Do.j3 k x0 true x457000 x457001 x457002 x458000 x458001 x458002 x459000 x459001 x459002) else (if x0 ≥ 14 then (r13_Do.j3 k x0 (decide (x0 ≤ 17)) x457000 x457001 x457002 x458000 x458001 x458002 x459000 x459001 x459002) else (r13_Do.j3 k x0 false x457000 x457001 x457002 x458000 x458001 x458002 x459000 x459001 x459002))
def r13_Do.j3 : Nat → Int → Bool → Bool → Int → ByteArray → Bool → Int → ByteArray → Bool → Int → ByteArray → Option (Bool × Int × ByteArray × Int)
 | 0, _, _, _, _, _, _, _, _, _, _, _ => none
 | k + 1, x0, x71, x457000, x457001, x457002, x458000, x458001, x458002, x459000, x459001, x459002 => if x71 = true then ((r13_reckoned.f k x0 x457000 x457001 x457002 x458000 x458001 x458002 x459000 x459001 x459002).bind fun bt461 => (some (bt461.1, bt461.2.1, bt461.2.2, 0))) else ((r13_texted.f k x0 x457000 x457001 x457002 x458000 x458001 x458002 x459000 x459001 x459002).bind fun bt464 => (some (bt464.1, bt464.2.1, bt464.2.2, 0)))
end
def r13_Do.f (k : Nat) (a0 : Int) (l1 : List (S32)) : Option (Bool × Int × ByteArray × Int) := r13_Do.l0 k a0 l1 (([] : List Bool)) 0
theorem r13_Do.mono_l : ∀ k, (∀ y0 y1 y2 y3, LeO (r13_Do.l0 k y0 y1 y2 y3) (r13_Do.l0 (k + 1) y0 y1 y2 y3)) ∧ (∀ y0 y1 y2 y3 y4 y5 y6 y7 y8 y9 y10, LeO (r13_Do.j1 k y0 y1 y2 y3 y4 y5 y6 y7 y8 y9 y10) (r13_Do.j1 (k + 1) y0 y1 y2 y3 y4 y5 y6 y7 y8 y9 y10)) ∧ (∀ y0 y1 y2 y3 y4 y5 y6 y7 y8 y9, LeO (r13_Do.j2 k y0 y1 y2 y3 y4 y5 y6 y7 y8 y9) (r13_Do.j2 (k + 1) y0 y1 y2 y3 y4 y5 y6 y7 y8 y9)) ∧ (∀ y0 y1 y2 y3 y4 y5 y6 y7 y8 y9 y10, LeO (r13_Do.j3 k y0 y1 y2 y3 y4 y5 y6 y7 y8 y9 y10) (r13_Do.j3 (k + 1) y0 y1 y2 y3 y4 y5 y6 y7 y8 y9 y10))
 | 0 => ⟨fun _ _ _ _ r h => by simp [r13_Do.l0] at h, fun _ _ _ _ _ _ _ _ _ _ _ r h => by simp [r13_Do.j1] at h, fun _ _ _ _ _ _ _ _ _ _ r h => by simp [r13_Do.j2] at h, fun _ _ _ _ _ _ _ _ _ _ _ r h => by simp [r13_Do.j3] at h⟩
 | k + 1 => by
  obtain ⟨ih0, ih1, ih2, ih3⟩ := r13_Do.mono_l k
  refine ⟨?_, ?_, ?_, ?_⟩
  ·intro y0 y1 y2 y3
   unfold r13_Do.l0
   repeat' (with_reducible first | exact ih0 _ _ _ _ | exact ih1 _ _ _ _ _ _ _ _ _ _ _ | exact ih2 _ _ _ _ _ _ _ _ _ _ | exact ih3 _ _ _ _ _ _ _ _ _ _ _ | exact r13_Result.mono _ _ _ | exact r13_reckoned.mono _ _ _ _ _ _ _ _ _ _ _ | exact r13_texted.mono _ _ _ _ _ _ _ _ _ _ _ | exact LeO.refl _ | exact LeO.none _ | refine LeO.ite ?_ ?_ | refine LeO.bind ?_ (fun _ => ?_))
  ·intro y0 y1 y2 y3 y4 y5 y6 y7 y8 y9 y10
   unfold r13_Do.j1
   repeat' (with_reducible first | exact ih0 _ _ _ _ | exact ih1 _ _ _ _ _ _ _ _ _ _ _ | exact ih2 _ _ _ _ _ _ _ _ _ _ | exact ih3 _ _ _ _ _ _ _ _ _ _ _ | exact r13_Result.mono _ _ _ | exact r13_reckoned.mono _ _ _ _ _ _ _ _ _ _ _ | exact r13_texted.mono _ _ _ _ _ _ _ _ _ _ _ | exact LeO.refl _ | exact LeO.none _ | refine LeO.ite ?_ ?_ | refine LeO.bind ?_ (fun _ => ?_))
  ·intro y0 y1 y2 y3 y4 y5 y6 y7 y8 y9
   unfold r13_Do.j2
   repeat' (with_reducible first | exact ih0 _ _ _ _ | exact ih1 _ _ _ _ _ _ _ _ _ _ _ | exact ih2 _ _ _ _ _ _ _ _ _ _ | exact ih3 _ _ _ _ _ _ _ _ _ _ _ | exact r13_Result.mono _ _ _ | exact r13_reckoned.mono _ _ _ _ _ _ _ _ _ _ _ | exact r13_texted.mono _ _ _ _ _ _ _ _ _ _ _ | exact LeO.refl _ | exact LeO.none _ | refine LeO.ite ?_ ?_ | refine LeO.bind ?_ (fun _ => ?_))
  ·intro y0 y1 y2 y3 y4 y5 y6 y7 y8 y9 y10
   unfold r13_Do.j3
   repeat' (with_reducible first | exact ih0 _ _ _ _ | exact ih1 _ _ _ _ _ _ _ _ _ _ _ | exact ih2 _ _ _ _ _ _ _ _ _ _ | exact ih3 _ _ _ _ _ _ _ _ _ _ _ | exact r13_Result.mono _ _ _ | exact r13_reckoned.mono _ _ _ _ _ _ _ _ _ _ _ | exact r13_texted.mono _ _ _ _ _ _ _ _ _ _ _ | exact LeO.refl _ | exact LeO.none _ | refine LeO.ite ?_ ?_ | refine LeO.bind ?_ (fun _ => ?_))
theorem r13_Do.mono : ∀ a0 a1 k, LeO (r13_Do.f k a0 a1) (r13_Do.f (k + 1) a0 a1) := by
 intro a0 a1 k
 obtain ⟨ih0, ih1, ih2, ih3⟩ := r13_Do.mono_l k
 unfold r13_Do.f
 repeat' (with_reducible first | exact ih0 _ _ _ _ | exact ih1 _ _ _ _ _ _ _ _ _ _ _ | exact ih2 _ _ _ _ _ _ _ _ _ _ | exact ih3 _ _ _ _ _ _ _ _ _ _ _ | exact r13_Result.mono _ _ _ | exact r13_reckoned.mono _ _ _ _ _ _ _ _ _ _ _ | exact r13_texted.mono _ _ _ _ _ _ _ _ _ _ _ | exact LeO.refl _ | exact LeO.none _ | refine LeO.ite ?_ ?_ | refine LeO.bind ?_ (fun _ => ?_))
set_option maxHeartbeats 8000000 in
set_option maxRecDepth 100000 in
theorem r13_Do.calls (k : Nat) (a0 : Int) (A1 : Option Addr) (c1 : Nat) (l1 : List (S32)) (r1 : Bool) (r2 : Int) (r3 : ByteArray) (r4 : Int) (w : World) (hT : Tabs w) (hr1 : Kd.C k32 w A1 l1.length l1) (hc1 : l1.length ≤ c1) (h : r13_Do.f k a0 l1 = some (r1, r2, r3, r4)) :
  Calls Tryz.prog 33 #[.int .i64 a0, .slice A1 l1.length c1] w fun e w' => e = .returned (.tuple #[.agg #[.bool r1, .int .i64 r2, .string r3], .int .i64 r4]) ∧ Below w.heap.size w w' := by
 have hu32 := Tryz.underlying32
 have HR1 := xy hr1
 have HC1 := xy hc1
 clear hr1 hc1
 have HB := xy (Below.refl w.heap.size w)
 unfold r13_Do.f at h
 have H := h
 clear h
 obtain ⟨y444, hy444⟩ : ∃ y_ : List Bool, y_ = (([] : List Bool)) := ⟨_, rfl⟩
 replace H : (r13_Do.l0 k a0 l1 y444 0) = some (r1, r2, r3, r4) := by first | (rw [hy444]; with_reducible exact H) | (have H2_ := (Option.bind_some _ _).symm.trans H; rw [hy444]; with_reducible exact H2_) | (have H2_ := (Option.bind_some _ _).symm.trans H; with_reducible exact H2_) | with_reducible exact H | (rw [hy444]; exact H) | exact H
 have Ny444 := xy hy444
 clear hy444
 have H' := xy H
 clear H
 go_enter Tryz.func33, Tryz.ntmps33
 go_wp2_with (first | ((with_reducible refine gate_dst (N := 4) rfl ?_); refine xq (N := 4) (cs := #[.bool false, .int .i64 0, .string (⟨#[]⟩ : ByteArray)]) (t := 32) ?_; intro gb443 hg w3 hbox hb; have BK443 := xy (hbox); have GW443 := xs w hg; have GE443 := xs w hg; replace HB := xy (below_step xb hb); clear hb hbox hg) | ((with_reducible refine gate_dst (N := 13) rfl ?_); refine Kd.R_lit Kd.bool _ 4 ?hg (N := 13) ?hd (xs := ([] : List Bool)) (inner := []) (ok := fun _ => True) (okp := fun _ => True) ?hr ?hp (fun _ hk => hk) trivial (Below.refl _ _) (Nat.le_refl _) (by simp) ?_; (case hd => rfl); (case hg => rfl); (case hr => exact xh); (case hp => exact (Reps.none _ _)); intro v445 w4 ho5 hb hg_ hnew_; clear hg_ hnew_; (first | rw [← Ny444.out] at ho5 | (simp only [Int.reduceToNat] at ho5; rw [← Ny444.out] at ho5)); have HO446 := xy (Kd.R_lower ho5 (below_size xb)); replace BK443 := xd BK443.out hb; replace HB := xy (below_step xb hb); clear hb ho5))
 go_loopg [6, 7] k (fun kq v6 v7 w' => ∃ (x6_1 : List Bool) (x7_1 : Int) (x444000_1 : Bool) (x444001_1 : Int) (x444002_1 : ByteArray), v7 = .int .i64 x7_1 ∧ Aside0 (r13_Do.l0 kq a0 l1 x6_1 x7_1 = some (r1, r2, r3, r4)) ∧ Aside0 (kq ≤ k) ∧ Aside0 (Kd.R Kd.bool 4 w' w.heap.size (fun _ => True) v6 x6_1) ∧ Aside0 (w'.heap[gb443]? = some (.cells #[.bool x444000_1, .int .i64 x444001_1, .string x444002_1] 32 (0, 0))) ∧ Aside0 (Below w.heap.size w w'))
 case atStart => exact ⟨(y444), (0), (false), (0), ((⟨#[]⟩ : ByteArray)), xg, H', ⟨Nat.le_refl _⟩, ⟨by (with_reducible repeat (first | apply Kd.R_alloc | apply Kd.R_drewN | apply Kd.R_drew)); exact HO446.out⟩, ⟨by (with_reducible repeat (first | refine blk_drewN ?_ _ | refine blk_drew ?_ | refine blk_alloc ?_ _)); exact BK443.out⟩, ⟨xb⟩⟩
 case round =>
  clear H'
  try clear c1
  try clear p2
  try clear c3
  obtain ⟨x6_1, x7_1, x444000_1, x444001_1, x444002_1, rfl, HA, HK1, HO_6, BK443, HB⟩ := hrel
  cases gk with
  | zero => exact absurd HA.out (by simp [r13_Do.l0])
  | succ k1 =>
   have H := HA.out
   clear HA
   simp only [r13_Do.l0] at H
   by_cases c6 : x7_1 < (l1.length : Int)
   ·rw [if_pos c6] at H
    have c6b0 : decide (x7_1 < (l1.length : Int)) = true := decide_eq_true c6
    clear c6
    by_cases c7 : 0 ≤ x7_1
    ·rw [if_pos c7] at H
     have c7b0 : decide (0 ≤ x7_1) = true := decide_eq_true c7
     clear c7
     replace H := xj H
     obtain ⟨t448, A80, H⟩ := H
     replace H : (if t448 = true then (if x6_1.length < 140737488355328 then (r13_Do.l0 k1 a0 l1 (x6_1 ++ [(rd_T32 l1 x7_1).f0]) (wrap64 (x7_1 + 1))) else (none)) else (some (false, 0, (⟨#[]⟩ : ByteArray), 1))) = some (r1, r2, r3, r4) := H
     have A8 := xy A80
     clear A80
     by_cases c9 : t448 = true
     ·subst c9
      rw [if_pos rfl] at H
      by_cases c10 : x6_1.length < 140737488355328
      ·rw [if_pos c10] at H
       have LMc10 := xy c10
       clear c10
       obtain ⟨y450, hy450⟩ : ∃ y_ : List Bool, y_ = (x6_1 ++ [(rd_T32 l1 x7_1).f0]) := ⟨_, rfl⟩
       replace H : (r13_Do.l0 k1 a0 l1 y450 (wrap64 (x7_1 + 1))) = some (r1, r2, r3, r4) := by first | (rw [hy450]; with_reducible exact H) | (have H2_ := (Option.bind_some _ _).symm.trans H; rw [hy450]; with_reducible exact H2_) | (have H2_ := (Option.bind_some _ _).symm.trans H; with_reducible exact H2_) | with_reducible exact H | (rw [hy450]; exact H) | exact H
       have Ny450 := xy hy450
       clear hy450
       have H' := xy H
       clear H
       have p447 : 0 ≤ (x7_1 : Int) := xi
       have q447 : x7_1 < (l1.length : Int) := xi
       obtain ⟨ad447, e447, hx447_0, hx447_1, hx447_2⟩ := at_T32 HR1.out x7_1 p447 q447
       cases e447
       replace hx447_0 := (HB.out.cell (World.block_lt_of_cell? w _ hx447_0)).trans hx447_0
       replace hx447_1 := (HB.out.cell (World.block_lt_of_cell? w _ hx447_1)).trans hx447_1
       replace hx447_2 := (HB.out.cell (World.block_lt_of_cell? w _ hx447_2)).trans hx447_2
       replace p447 := eq_true p447
       replace q447 := eq_true q447
       go_wp2_with (first | ((with_reducible refine gate_callee (f := 23) rfl ?_); refine goesL_ (some 24) rfl rfl Tryz.func23 (by kernel_rfl) rfl #[.agg #[.bool ((rd_T32 l1 x7_1).f0), .int .i64 ((rd_T32 l1 x7_1).f1), .string ((rd_T32 l1 x7_1).f2)]] rfl xr ?_; (with_reducible refine (r13_Is.calls ((rd_T32 l1 x7_1).f0) ((rd_T32 l1 x7_1).f1) ((rd_T32 l1 x7_1).f2) true _ (Tabs.below hT xf) A8.out).mono ?_); rintro e w11 ⟨rfl, hb⟩; refine ⟨_, rfl, ?_⟩; replace HO_6 := xy (Kd.R_below (xo HO_6.out) hb); replace BK443 := xd BK443.out hb; replace HB := xy (below_step xb hb); (try clear hb); (try clear hb2); (try clear hk); (try clear hi); have p449 : 0 ≤ (x7_1 : Int) := xi; have q449 : x7_1 < (l1.length : Int) := xi; obtain ⟨ad449, e449, hx449_0, hx449_1, hx449_2⟩ := at_T32 HR1.out x7_1 p449 q449; obtain rfl : ad447 = ad449 := (by injection e449); replace hx449_0 := (HB.out.cell (World.block_lt_of_cell? w _ hx449_0)).trans hx449_0; replace hx449_1 := (HB.out.cell (World.block_lt_of_cell? w _ hx449_1)).trans hx449_1; replace hx449_2 := (HB.out.cell (World.block_lt_of_cell? w _ hx449_2)).trans hx449_2; replace p449 := eq_true p449; replace q449 := eq_true q449) | ((with_reducible refine gate_builtin (b := .append) (xs := #[.tmp 27, .tmp 33]) rfl ?_); at_builtin; refine Kd.R_append Kd.bool (w0 := w) w.heap.size rfl (.tmp 27) (.tmp 33) 47 4 (.bool false) 1 rfl Tryz.underlying47 info4 rfl (by decide) (by omega) u6 x6_1 ((rd_T32 l1 x7_1).f0) [.bool ((rd_T32 l1 x7_1).f0)] (fun _ => True) (fun _ => False) rfl rfl ?aP (fun _ hk => hk.elim) ?aF ?aO ?aB ?aS ?aL ?_; (case aP => exact rfl); (case aB => exact xb); (case aF => exact (fun _ _ => trivial)); (case aO => exact (xo HO_6.out)); (case aS => exact (below_size xb)); (case aL => have := LMc10.out; omega); intro v451 w12 ho hb hg hat; rw [← Ny450.out] at ho; replace BK443 := xy (blk_grown (g := gb443) (o := .cells #[.bool x444000_1, .int .i64 x444001_1, .string x444002_1] 32 (0, 0)) (xk BK443.out) hg (Kd.R_ne HO_6.out BK443.out (by decide))); replace HB := xy (hb); have HO452 := xy (ho); clear HO_6; clear ho hb hg hat))
       go_roundg k1
       case measure => have := HK1.out; omega
       case rel => exact ⟨(y450), (wrap64 (x7_1 + 1)), (x444000_1), (x444001_1), (x444002_1), xg, H', ⟨by have := HK1.out; omega⟩, ⟨by (with_reducible repeat (first | apply Kd.R_alloc | apply Kd.R_drewN | apply Kd.R_drew)); exact HO452.out⟩, ⟨by (with_reducible repeat (first | refine blk_drewN ?_ _ | refine blk_drew ?_ | refine blk_alloc ?_ _)); exact BK443.out⟩, ⟨xb⟩⟩
      ·rw [if_neg c10] at H
       exact absurd H (by simp)
     ·replace c9 := Bool.eq_false_iff.mpr c9
      subst c9
      rw [if_neg (show ¬ (false = true) by decide)] at H
      simp only [Option.some.injEq, Prod.mk.injEq] at H
      obtain ⟨rfl, rfl, rfl, rfl⟩ := H
      have p447 : 0 ≤ (x7_1 : Int) := xi
      have q447 : x7_1 < (l1.length : Int) := xi
      obtain ⟨ad447, e447, hx447_0, hx447_1, hx447_2⟩ := at_T32 HR1.out x7_1 p447 q447
      cases e447
      replace hx447_0 := (HB.out.cell (World.block_lt_of_cell? w _ hx447_0)).trans hx447_0
      replace hx447_1 := (HB.out.cell (World.block_lt_of_cell? w _ hx447_1)).trans hx447_1
      replace hx447_2 := (HB.out.cell (World.block_lt_of_cell? w _ hx447_2)).trans hx447_2
      replace p447 := eq_true p447
      replace q447 := eq_true q447
      go_wp2_with (((with_reducible refine gate_callee (f := 23) rfl ?_); refine goesL_ (some 24) rfl rfl Tryz.func23 (by kernel_rfl) rfl #[.agg #[.bool ((rd_T32 l1 x7_1).f0), .int .i64 ((rd_T32 l1 x7_1).f1), .string ((rd_T32 l1 x7_1).f2)]] rfl xr ?_; (with_reducible refine (r13_Is.calls ((rd_T32 l1 x7_1).f0) ((rd_T32 l1 x7_1).f1) ((rd_T32 l1 x7_1).f2) false _ (Tabs.below hT xf) A8.out).mono ?_); rintro e w13 ⟨rfl, hb⟩; refine ⟨_, rfl, ?_⟩; replace HO_6 := xy (Kd.R_below (xo HO_6.out) hb); replace BK443 := xd BK443.out hb; replace HB := xy (below_step xb hb); (try clear hb); (try clear hb2); (try clear hk); (try clear hi); have hcz14_0 : w13.cell? ⟨gb443, 0, none⟩ = some (.bool x444000_1) := (kc BK443.out 0).trans rfl; have hcz14_1 : w13.cell? ⟨gb443, 1, none⟩ = some (.int .i64 x444001_1) := (kc BK443.out 1).trans rfl; have hcz14_2 : w13.cell? ⟨gb443, 2, none⟩ = some (.string x444002_1) := (kc BK443.out 2).trans rfl; have hfz14_0 := kf BK443.out 0; have hfz14_1 := kf BK443.out 1; have hfz14_2 := kf BK443.out 2))
      refine bodyPost_ret (results_ct rfl _ _ gb443 32 #[.bool false, .int .i64 0, .string (⟨#[]⟩ : ByteArray)] (0, 0) _ rfl (kp BK443.out) Tryz.underlying32 rfl (by kernel_rfl)) rfl ?_
      exact ⟨xe, xb⟩
    ·rw [if_neg c7] at H
     exact absurd H (by simp)
   ·rw [if_neg c6] at H
    have c6b0 : decide (x7_1 < (l1.length : Int)) = false := decide_eq_false c6
    clear c6
    replace H := xj H
    obtain ⟨⟨t453, t454⟩, A150, H⟩ := H
    replace H : (if t454 = 0 then (if 0 < (l1.length : Int) then (if (l1.length : Int) > 1 then (if 1 < (l1.length : Int) then (r13_Do.j1 k1 a0 l1 ((rd_T32 l1 0).f0) ((rd_T32 l1 0).f1) ((rd_T32 l1 0).f2) ((rd_T32 l1 1).f0) ((rd_T32 l1 1).f1) ((rd_T32 l1 1).f2) false 0 (⟨#[]⟩ : ByteArray)) else (none)) else (r13_Do.j1 k1 a0 l1 ((rd_T32 l1 0).f0) ((rd_T32 l1 0).f1) ((rd_T32 l1 0).f2) false 0 (⟨#[]⟩ : ByteArray) false 0 (⟨#[]⟩ : ByteArray))) else (none)) else (some (false, 0, (⟨#[]⟩ : ByteArray), t454))) = some (r1, r2, r3, r4) := H
    have A15 := xy A150
    clear A150
    by_cases c16 : t454 = 0
    ·rw [if_pos c16] at H
     have c16b0 : (t454 == 0) = true := beq_iff_eq.mpr c16
     have c16b1 : (t454 != 0) = false := bne_eq_false_iff_eq.mpr c16
     clear c16
     by_cases c17 : 0 < (l1.length : Int)
     ·rw [if_pos c17] at H
      have c17b0 : decide (0 < (l1.length : Int)) = true := decide_eq_true c17
      have c17b1 : decide (0 < l1.length) = true := decide_eq_true (by omega)
      clear c17
      have HC18 := xy H
      clear H
      obtain ⟨Ao19, co19, eo19⟩ := Kd.R_slice HO_6.out
      subst eo19
      go_upto_if 52 with (first | ((with_reducible refine gate_callee (f := 48) rfl ?_); refine goesL_ (some 38) rfl rfl Tryz.func48 (by kernel_rfl) rfl #[.int .i64 a0, .slice Ao19 x6_1.length co19] rfl xr ?_; (with_reducible refine (r13_Result.calls k1 a0 _ _ x6_1 t453 t454 _ (Tabs.below hT xf) ?side1 ?side2 A15.out).mono ?_); (case side1 => repeat (first | exact (Kd.R_reads' HO_6.out).2.2 | (with_reducible refine Kd.C_alloc ?_ _) | (with_reducible refine Kd.C_drewN ?_ _) | (with_reducible refine Kd.C_drew ?_))); (case side2 => exact (Kd.R_reads' HO_6.out).2.1); rintro e w' ⟨rfl, ⟨nd, rfl⟩⟩; refine ⟨_, rfl, ?_⟩; (try (rw [drewN_self wr]; generalize hq_ : World.drewN wr _ = wr; have n0_ : Aside0 (Kd.R Kd.bool 4 wr w.heap.size (fun _ => True) (.slice Ao19 x6_1.length co19) x6_1) := ⟨by rw [← hq_]; exact (xo HO_6.out)⟩; have n1_ : Aside0 (wr.heap[gb443]? = some (.cells #[.bool x444000_1, .int .i64 x444001_1, .string x444002_1] 32 (0, 0))) := ⟨by rw [← hq_]; exact (xk BK443.out)⟩; have n2_ : Aside0 (Below w.heap.size w wr) := ⟨by rw [← hq_]; exact xb⟩; clear HO_6 BK443 HB hq_; have HO_6 := n0_; have BK443 := n1_; have HB := n2_; clear n0_ n1_ n2_)); have p455 : 0 ≤ (0 : Int) := (by omega); have q455 : 0 < (l1.length : Int) := xi; obtain ⟨ad455, e455, hx455_0, hx455_1, hx455_2⟩ := at_T32 HR1.out 0 p455 q455; cases e455; have qi455 : (0 < l1.length) = True := eq_true (by omega); (try rw [show ((0 : Int)).toNat = 0 from rfl] at hx455_0); (try rw [show 0 * 3 = 0 from rfl] at hx455_0); (try rw [Addr.add_zero'] at hx455_0); (try rw [show ((0 : Int)).toNat = 0 from rfl] at hx455_1); (try rw [show 0 * 3 = 0 from rfl] at hx455_1); (try rw [Addr.add_zero'] at hx455_1); (try rw [show ((0 : Int)).toNat = 0 from rfl] at hx455_2); (try rw [show 0 * 3 = 0 from rfl] at hx455_2); (try rw [Addr.add_zero'] at hx455_2); replace hx455_0 := (HB.out.cell (World.block_lt_of_cell? w _ hx455_0)).trans hx455_0; replace hx455_1 := (HB.out.cell (World.block_lt_of_cell? w _ hx455_1)).trans hx455_1; replace hx455_2 := (HB.out.cell (World.block_lt_of_cell? w _ hx455_2)).trans hx455_2; replace p455 := eq_true p455; replace q455 := eq_true q455) | ((with_reducible refine gate_dst (N := 10) rfl ?_); refine xq (N := 10) (cs := #[.bool false, .int .i64 0, .string (⟨#[]⟩ : ByteArray)]) (t := 32) ?_; intro gb456 hg w20 hbox hb; replace HO_6 := xy (Kd.R_below (xo HO_6.out) hb); have BK456 := xy (hbox); have GW456 := xs w hg; have GE456 := xs w hg; replace HB := xy (below_step xb hb); have NB443_456 := xn hg BK443.out; have NB456_443 := xp hg BK443.out; replace BK443 := xd BK443.out hb; clear hb hbox hg; have hnb21 := NB456_443.out; have hnc21 := NB443_456.out; have hcz22_0 : w20.cell? ⟨gb456, 0, none⟩ = some (.bool false) := (kc BK456.out 0).trans rfl; have hcz22_1 : w20.cell? ⟨gb456, 1, none⟩ = some (.int .i64 0) := (kc BK456.out 1).trans rfl; have hcz22_2 : w20.cell? ⟨gb456, 2, none⟩ = some (.string (⟨#[]⟩ : ByteArray)) := (kc BK456.out 2).trans rfl; have hfz22_0 := kf BK456.out 0; have hfz22_1 := kf BK456.out 1; have hfz22_2 := kf BK456.out 2) | ((with_reducible refine gate_dst (N := 11) rfl ?_); refine xq (N := 11) (cs := #[.bool false, .int .i64 0, .string (⟨#[]⟩ : ByteArray)]) (t := 32) ?_; intro gb457 hg w23 hbox hb; replace HO_6 := xy (Kd.R_below (by (with_reducible repeat (first | apply Kd.R_alloc | apply Kd.R_drewN | apply Kd.R_drew)); exact (Kd.R_mono (Kd.R_far (p := ⟨gb456, 2, none⟩) (Kd.R_far (p := ⟨gb456, 1, none⟩) (Kd.R_far (p := ⟨gb456, 0, none⟩) (Kd.R_types HO_6.out BK456.out (by decide)) (fun _ hk => hk.2) (.bool ((rd_T32 l1 0).f0))) (fun _ hk => hk.2) (.int .i64 ((rd_T32 l1 0).f1))) (fun _ hk => hk.2) (.string ((rd_T32 l1 0).f2))) (fun _ h_ => h_.1))) hb); have BK457 := xy (hbox); have GW457 := xs w hg; have GE457 := xs w hg; replace HB := xy (below_step xb hb); have NB443_457 := xy ((by rw [hg]; exact Nat.ne_of_lt (blk_lt (g := gb443) (o := .cells #[.bool x444000_1, .int .i64 x444001_1, .string x444002_1] 32 (0, 0)) (by repeat (first | (with_reducible first | exact BK443.out | refine blk_drewN ?_ _ | refine blk_drew ?_ | refine blk_alloc ?_ _) | refine blk_far ?_ NB443_456.out _ | exact BK443.out))) : gb443 ≠ gb457)); have NB457_443 := xy ((by rw [hg]; exact Nat.ne_of_gt (blk_lt (g := gb443) (o := .cells #[.bool x444000_1, .int .i64 x444001_1, .string x444002_1] 32 (0, 0)) (by repeat (first | (with_reducible first | exact BK443.out | refine blk_drewN ?_ _ | refine blk_drew ?_ | refine blk_alloc ?_ _) | refine blk_far ?_ NB443_456.out _ | exact BK443.out))) : gb457 ≠ gb443)); replace BK443 := xy (blk_below (g := gb443) (o := .cells #[.bool x444000_1, .int .i64 x444001_1, .string x444002_1] 32 (0, 0)) (by repeat (first | (with_reducible first | exact BK443.out | refine blk_drewN ?_ _ | refine blk_drew ?_ | refine blk_alloc ?_ _) | refine blk_far ?_ NB443_456.out _ | exact BK443.out)) hb); have NB456_457 := xy ((by rw [hg]; exact Nat.ne_of_lt (blk_lt (g := gb456) (o := .cells #[.bool ((rd_T32 l1 0).f0), .int .i64 ((rd_T32 l1 0).f1), .string ((rd_T32 l1 0).f2)] 32 (0, 0)) (kp BK456.out)) : gb456 ≠ gb457)); have NB457_456 := xy ((by rw [hg]; exact Nat.ne_of_gt (blk_lt (g := gb456) (o := .cells #[.bool ((rd_T32 l1 0).f0), .int .i64 ((rd_T32 l1 0).f1), .string ((rd_T32 l1 0).f2)] 32 (0, 0)) (kp BK456.out)) : gb457 ≠ gb456)); replace BK456 := xy (blk_below (g := gb456) (o := .cells #[.bool ((rd_T32 l1 0).f0), .int .i64 ((rd_T32 l1 0).f1), .string ((rd_T32 l1 0).f2)] 32 (0, 0)) (kp BK456.out) hb); clear hb hbox hg) | ((with_reducible refine gate_dst (N := 12) rfl ?_); refine xq (N := 12) (cs := #[.bool false, .int .i64 0, .string (⟨#[]⟩ : ByteArray)]) (t := 32) ?_; intro gb458 hg w24 hbox hb; replace HO_6 := xy (Kd.R_below (xo HO_6.out) hb); have BK458 := xy (hbox); have GW458 := xs w hg; have GE458 := xs w hg; replace HB := xy (below_step xb hb); have NB443_458 := xn hg BK443.out; have NB458_443 := xp hg BK443.out; replace BK443 := xd BK443.out hb; have NB456_458 := xn hg BK456.out; have NB458_456 := xp hg BK456.out; replace BK456 := xd BK456.out hb; have NB457_458 := xn hg BK457.out; have NB458_457 := xp hg BK457.out; replace BK457 := xd BK457.out hb; clear hb hbox hg; have hnb25 := NB457_443.out; have hnc25 := NB443_457.out; have hnb26 := NB457_456.out; have hnc26 := NB456_457.out; have hnb27 := NB457_458.out; have hnc27 := NB458_457.out; have hcz28_0 : w24.cell? ⟨gb457, 0, none⟩ = some (.bool false) := (kc BK457.out 0).trans rfl; have hcz28_1 : w24.cell? ⟨gb457, 1, none⟩ = some (.int .i64 0) := (kc BK457.out 1).trans rfl; have hcz28_2 : w24.cell? ⟨gb457, 2, none⟩ = some (.string (⟨#[]⟩ : ByteArray)) := (kc BK457.out 2).trans rfl; have hfz28_0 := kf BK457.out 0; have hfz28_1 := kf BK457.out 1; have hfz28_2 := kf BK457.out 2; have hnb29 := NB458_443.out; have hnc29 := NB443_458.out; have hnb30 := NB458_456.out; have hnc30 := NB456_458.out; have hcz31_0 : w24.cell? ⟨gb458, 0, none⟩ = some (.bool false) := (kc BK458.out 0).trans rfl; have hcz31_1 : w24.cell? ⟨gb458, 1, none⟩ = some (.int .i64 0) := (kc BK458.out 1).trans rfl; have hcz31_2 : w24.cell? ⟨gb458, 2, none⟩ = some (.string (⟨#[]⟩ : ByteArray)) := (kc BK458.out 2).trans rfl; have hfz31_0 := kf BK458.out 0; have hfz31_1 := kf BK458.out 1; have hfz31_2 := kf BK458.out 2))
      (try simp only [Act.put, List.setIfInBounds_toArray, List.set_cons_zero, List.set_cons_succ])
      go_cut [] (fun wc => ∃ (kq : Nat) (x458000_17 : Bool) (x458001_17 : Int) (x458002_17 : ByteArray), Aside0 (r13_Do.j1 kq a0 l1 ((rd_T32 l1 0).f0) ((rd_T32 l1 0).f1) ((rd_T32 l1 0).f2) x458000_17 x458001_17 x458002_17 false 0 (⟨#[]⟩ : ByteArray) = some (r1, r2, r3, r4)) ∧ Aside0 (kq ≤ k1) ∧ Aside0 (wc.heap[gb443]? = some (.cells #[.bool x444000_1, .int .i64 x444001_1, .string x444002_1] 32 (0, 0))) ∧ Aside0 (wc.heap[gb456]? = some (.cells #[.bool ((rd_T32 l1 0).f0), .int .i64 ((rd_T32 l1 0).f1), .string ((rd_T32 l1 0).f2)] 32 (0, 0))) ∧ Aside0 (wc.heap[gb457]? = some (.cells #[.bool x458000_17, .int .i64 x458001_17, .string x458002_17] 32 (0, 0))) ∧ Aside0 (wc.heap[gb458]? = some (.cells #[.bool false, .int .i64 0, .string (⟨#[]⟩ : ByteArray)] 32 (0, 0))) ∧ Aside0 (Below w.heap.size w wc))
      case first =>
       have H := HC18.out
       clear HC18
       by_cases c32 : (l1.length : Int) > 1
       ·rw [if_pos c32] at H
        have c32b0 : decide (1 < (l1.length : Int)) = true := decide_eq_true c32
        have c32b1 : decide (1 < l1.length) = true := decide_eq_true (by omega)
        clear c32
        (first | rw [c32b0] | (simp only [i64_w, i32_w]; rw [c32b0]) | skip)
        by_cases c33 : 1 < (l1.length : Int)
        ·rw [if_pos c33] at H
         have c33b0 : decide (1 < (l1.length : Int)) = true := decide_eq_true c33
         have c33b1 : decide (1 < l1.length) = true := decide_eq_true (by omega)
         clear c33
         have H' := xy H
         clear H
         have p459 : 0 ≤ (1 : Int) := (by omega)
         have q459 : 1 < (l1.length : Int) := xi
         obtain ⟨ad459, e459, hx459_0, hx459_1, hx459_2⟩ := at_T32 HR1.out 1 p459 q459
         obtain rfl : ad455 = ad459 := (by injection e459)
         (try simp only [show (1 : Int).toNat = 1 from rfl, Nat.reduceMul, Nat.reduceEqDiff, Go.Addr.add, ↓reduceIte] at hx459_0)
         (try simp only [show (1 : Int).toNat = 1 from rfl, Nat.reduceMul, Nat.reduceEqDiff, Go.Addr.add, ↓reduceIte] at hx459_1)
         (try simp only [show (1 : Int).toNat = 1 from rfl, Nat.reduceMul, Nat.reduceEqDiff, Go.Addr.add, ↓reduceIte] at hx459_2)
         have qi459 : (1 < l1.length) = True := eq_true (by omega)
         (try rw [show ((1 : Int)).toNat = 1 from rfl] at hx459_0)
         (try rw [show 1 * 3 = 3 from rfl] at hx459_0)
         (try rw [show ((1 : Int)).toNat = 1 from rfl] at hx459_1)
         (try rw [show 1 * 3 = 3 from rfl] at hx459_1)
         (try rw [show ((1 : Int)).toNat = 1 from rfl] at hx459_2)
         (try rw [show 1 * 3 = 3 from rfl] at hx459_2)
         have hn459_0 : ad455.block ≠ gb457 := Nat.ne_of_lt (Nat.lt_of_lt_of_le (by have := World.block_lt_of_cell? _ _ hx459_0; first | rwa [add_block] at this | exact this) GW457.out)
         have hn459_1 : ad455.block ≠ gb457 := Nat.ne_of_lt (Nat.lt_of_lt_of_le (by have := World.block_lt_of_cell? _ _ hx459_0; first | rwa [add_block] at this | exact this) GW457.out)
         have hn459_2 : ad455.block ≠ gb457 := Nat.ne_of_lt (Nat.lt_of_lt_of_le (by have := World.block_lt_of_cell? _ _ hx459_0; first | rwa [add_block] at this | exact this) GW457.out)
         have hn459_3 : ad455.block ≠ gb458 := Nat.ne_of_lt (Nat.lt_of_lt_of_le (by have := World.block_lt_of_cell? _ _ hx459_0; first | rwa [add_block] at this | exact this) GW458.out)
         have hn459_4 : ad455.block ≠ gb458 := Nat.ne_of_lt (Nat.lt_of_lt_of_le (by have := World.block_lt_of_cell? _ _ hx459_0; first | rwa [add_block] at this | exact this) GW458.out)
         have hn459_5 : ad455.block ≠ gb458 := Nat.ne_of_lt (Nat.lt_of_lt_of_le (by have := World.block_lt_of_cell? _ _ hx459_0; first | rwa [add_block] at this | exact this) GW458.out)
         replace hx459_0 := (HB.out.cell (World.block_lt_of_cell? w _ hx459_0)).trans hx459_0
         replace hx459_1 := (HB.out.cell (World.block_lt_of_cell? w _ hx459_1)).trans hx459_1
         replace hx459_2 := (HB.out.cell (World.block_lt_of_cell? w _ hx459_2)).trans hx459_2
         replace hx459_0 := (cell_far (p := ⟨gb457, 0, none⟩) (by first | (rw [add_block]; exact hn459_0) | (show (Addr.add _ _).block ≠ _; rw [add_block]; exact hn459_0) | exact hn459_0) (.bool false)).trans hx459_0
         replace hx459_1 := (cell_far (p := ⟨gb457, 0, none⟩) (by first | (rw [add_block]; exact hn459_0) | (show (Addr.add _ _).block ≠ _; rw [add_block]; exact hn459_0) | exact hn459_0) (.bool false)).trans hx459_1
         replace hx459_2 := (cell_far (p := ⟨gb457, 0, none⟩) (by first | (rw [add_block]; exact hn459_0) | (show (Addr.add _ _).block ≠ _; rw [add_block]; exact hn459_0) | exact hn459_0) (.bool false)).trans hx459_2
         replace hx459_0 := (cell_far (p := ⟨gb457, 1, none⟩) (by first | (rw [add_block]; exact hn459_1) | (show (Addr.add _ _).block ≠ _; rw [add_block]; exact hn459_1) | exact hn459_1) (.int .i64 0)).trans hx459_0
         replace hx459_1 := (cell_far (p := ⟨gb457, 1, none⟩) (by first | (rw [add_block]; exact hn459_1) | (show (Addr.add _ _).block ≠ _; rw [add_block]; exact hn459_1) | exact hn459_1) (.int .i64 0)).trans hx459_1
         replace hx459_2 := (cell_far (p := ⟨gb457, 1, none⟩) (by first | (rw [add_block]; exact hn459_1) | (show (Addr.add _ _).block ≠ _; rw [add_block]; exact hn459_1) | exact hn459_1) (.int .i64 0)).trans hx459_2
         replace hx459_0 := (cell_far (p := ⟨gb457, 2, none⟩) (by first | (rw [add_block]; exact hn459_2) | (show (Addr.add _ _).block ≠ _; rw [add_block]; exact hn459_2) | exact hn459_2) (.string (⟨#[]⟩ : ByteArray))).trans hx459_0
         replace hx459_1 := (cell_far (p := ⟨gb457, 2, none⟩) (by first | (rw [add_block]; exact hn459_2) | (show (Addr.add _ _).block ≠ _; rw [add_block]; exact hn459_2) | exact hn459_2) (.string (⟨#[]⟩ : ByteArray))).trans hx459_1
         replace hx459_2 := (cell_far (p := ⟨gb457, 2, none⟩) (by first | (rw [add_block]; exact hn459_2) | (show (Addr.add _ _).block ≠ _; rw [add_block]; exact hn459_2) | exact hn459_2) (.string (⟨#[]⟩ : ByteArray))).trans hx459_2
         replace hx459_0 := (cell_far (p := ⟨gb458, 0, none⟩) (by first | (rw [add_block]; exact hn459_3) | (show (Addr.add _ _).block ≠ _; rw [add_block]; exact hn459_3) | exact hn459_3) (.bool false)).trans hx459_0
         replace hx459_1 := (cell_far (p := ⟨gb458, 0, none⟩) (by first | (rw [add_block]; exact hn459_3) | (show (Addr.add _ _).block ≠ _; rw [add_block]; exact hn459_3) | exact hn459_3) (.bool false)).trans hx459_1
         replace hx459_2 := (cell_far (p := ⟨gb458, 0, none⟩) (by first | (rw [add_block]; exact hn459_3) | (show (Addr.add _ _).block ≠ _; rw [add_block]; exact hn459_3) | exact hn459_3) (.bool false)).trans hx459_2
         replace hx459_0 := (cell_far (p := ⟨gb458, 1, none⟩) (by first | (rw [add_block]; exact hn459_4) | (show (Addr.add _ _).block ≠ _; rw [add_block]; exact hn459_4) | exact hn459_4) (.int .i64 0)).trans hx459_0
         replace hx459_1 := (cell_far (p := ⟨gb458, 1, none⟩) (by first | (rw [add_block]; exact hn459_4) | (show (Addr.add _ _).block ≠ _; rw [add_block]; exact hn459_4) | exact hn459_4) (.int .i64 0)).trans hx459_1
         replace hx459_2 := (cell_far (p := ⟨gb458, 1, none⟩) (by first | (rw [add_block]; exact hn459_4) | (show (Addr.add _ _).block ≠ _; rw [add_block]; exact hn459_4) | exact hn459_4) (.int .i64 0)).trans hx459_2
         replace hx459_0 := (cell_far (p := ⟨gb458, 2, none⟩) (by first | (rw [add_block]; exact hn459_5) | (show (Addr.add _ _).block ≠ _; rw [add_block]; exact hn459_5) | exact hn459_5) (.string (⟨#[]⟩ : ByteArray))).trans hx459_0
         replace hx459_1 := (cell_far (p := ⟨gb458, 2, none⟩) (by first | (rw [add_block]; exact hn459_5) | (show (Addr.add _ _).block ≠ _; rw [add_block]; exact hn459_5) | exact hn459_5) (.string (⟨#[]⟩ : ByteArray))).trans hx459_1
         replace hx459_2 := (cell_far (p := ⟨gb458, 2, none⟩) (by first | (rw [add_block]; exact hn459_5) | (show (Addr.add _ _).block ≠ _; rw [add_block]; exact hn459_5) | exact hn459_5) (.string (⟨#[]⟩ : ByteArray))).trans hx459_2
         clear hn459_0
         clear hn459_1
         clear hn459_2
         clear hn459_3
         clear hn459_4
         clear hn459_5
         replace p459 := eq_true p459
         replace q459 := eq_true q459
         have hnb34 := NB457_443.out
         have hnc34 := NB443_457.out
         have hnb35 := NB457_456.out
         have hnc35 := NB456_457.out
         have hnb36 := NB457_458.out
         have hnc36 := NB458_457.out
         have hcz37_0 : w24.cell? ⟨gb457, 0, none⟩ = some (.bool false) := (kc BK457.out 0).trans rfl
         have hcz37_1 : w24.cell? ⟨gb457, 1, none⟩ = some (.int .i64 0) := (kc BK457.out 1).trans rfl
         have hcz37_2 : w24.cell? ⟨gb457, 2, none⟩ = some (.string (⟨#[]⟩ : ByteArray)) := (kc BK457.out 2).trans rfl
         have hfz37_0 := kf BK457.out 0
         have hfz37_1 := kf BK457.out 1
         have hfz37_2 := kf BK457.out 2
         go_wp2
         go_meet
         case rel => exact ⟨_, ((rd_T32 l1 1).f0), ((rd_T32 l1 1).f1), ((rd_T32 l1 1).f2), H', ⟨by have := HK1.out; first | omega | exact Nat.le_refl _⟩, ⟨by repeat (first | (with_reducible first | exact BK443.out | refine blk_drewN ?_ _ | refine blk_drew ?_ | refine blk_alloc ?_ _) | refine blk_far ?_ NB443_457.out _ | refine blk_far ?_ NB443_458.out _ | exact BK443.out)⟩, ⟨by repeat (first | (with_reducible first | exact BK456.out | refine blk_drewN ?_ _ | refine blk_drew ?_ | refine blk_alloc ?_ _) | refine blk_far ?_ NB456_457.out _ | refine blk_far ?_ NB456_458.out _ | exact BK456.out)⟩, ⟨by (with_reducible repeat (first | refine blk_drewN ?_ _ | refine blk_drew ?_ | refine blk_alloc ?_ _)); refine blk_put (cs := #[.bool ((rd_T32 l1 1).f0), .int .i64 ((rd_T32 l1 1).f1), .string (⟨#[]⟩ : ByteArray)]) ?_ 2 _ rfl; (with_reducible repeat (first | refine blk_drewN ?_ _ | refine blk_drew ?_ | refine blk_alloc ?_ _)); refine blk_put (cs := #[.bool ((rd_T32 l1 1).f0), .int .i64 0, .string (⟨#[]⟩ : ByteArray)]) ?_ 1 _ rfl; (with_reducible repeat (first | refine blk_drewN ?_ _ | refine blk_drew ?_ | refine blk_alloc ?_ _)); refine blk_put (cs := #[.bool false, .int .i64 0, .string (⟨#[]⟩ : ByteArray)]) ?_ 0 _ rfl; (with_reducible repeat (first | refine blk_drewN ?_ _ | refine blk_drew ?_ | refine blk_alloc ?_ _)); refine blk_far ?_ NB457_458.out _; (with_reducible repeat (first | refine blk_drewN ?_ _ | refine blk_drew ?_ | refine blk_alloc ?_ _)); refine blk_far ?_ NB457_458.out _; (with_reducible repeat (first | refine blk_drewN ?_ _ | refine blk_drew ?_ | refine blk_alloc ?_ _)); refine blk_far ?_ NB457_458.out _; (with_reducible repeat (first | refine blk_drewN ?_ _ | refine blk_drew ?_ | refine blk_alloc ?_ _)); refine blk_put (cs := #[.bool false, .int .i64 0, .string (⟨#[]⟩ : ByteArray)]) ?_ 2 _ rfl; (with_reducible repeat (first | refine blk_drewN ?_ _ | refine blk_drew ?_ | refine blk_alloc ?_ _)); refine blk_put (cs := #[.bool false, .int .i64 0, .string (⟨#[]⟩ : ByteArray)]) ?_ 1 _ rfl; (with_reducible repeat (first | refine blk_drewN ?_ _ | refine blk_drew ?_ | refine blk_alloc ?_ _)); refine blk_put (cs := #[.bool false, .int .i64 0, .string (⟨#[]⟩ : ByteArray)]) ?_ 0 _ rfl; (with_reducible repeat (first | refine blk_drewN ?_ _ | refine blk_drew ?_ | refine blk_alloc ?_ _)); exact BK457.out⟩, ⟨by (with_reducible repeat (first | refine blk_drewN ?_ _ | refine blk_drew ?_ | refine blk_alloc ?_ _)); refine blk_far ?_ NB458_457.out _; (with_reducible repeat (first | refine blk_drewN ?_ _ | refine blk_drew ?_ | refine blk_alloc ?_ _)); refine blk_far ?_ NB458_457.out _; (with_reducible repeat (first | refine blk_drewN ?_ _ | refine blk_drew ?_ | refine blk_alloc ?_ _)); refine blk_far ?_ NB458_457.out _; (with_reducible repeat (first | refine blk_drewN ?_ _ | refine blk_drew ?_ | refine blk_alloc ?_ _)); refine blk_put (cs := #[.bool false, .int .i64 0, .string (⟨#[]⟩ : ByteArray)]) ?_ 2 _ rfl; (with_reducible repeat (first | refine blk_drewN ?_ _ | refine blk_drew ?_ | refine blk_alloc ?_ _)); refine blk_put (cs := #[.bool false, .int .i64 0, .string (⟨#[]⟩ : ByteArray)]) ?_ 1 _ rfl; (with_reducible repeat (first | refine blk_drewN ?_ _ | refine blk_drew ?_ | refine blk_alloc ?_ _)); refine blk_put (cs := #[.bool false, .int .i64 0, .string (⟨#[]⟩ : ByteArray)]) ?_ 0 _ rfl; (with_reducible repeat (first | refine blk_drewN ?_ _ | refine blk_drew ?_ | refine blk_alloc ?_ _)); refine blk_far ?_ NB458_457.out _; (with_reducible repeat (first | refine blk_drewN ?_ _ | refine blk_drew ?_ | refine blk_alloc ?_ _)); refine blk_far ?_ NB458_457.out _; (with_reducible repeat (first | refine blk_drewN ?_ _ | refine blk_drew ?_ | refine blk_alloc ?_ _)); refine blk_far ?_ NB458_457.out _; (with_reducible repeat (first | refine blk_drewN ?_ _ | refine blk_drew ?_ | refine blk_alloc ?_ _)); exact BK458.out⟩, ⟨xb⟩⟩
        ·rw [if_neg c33] at H
         exact absurd H (by simp)
       ·rw [if_neg c32] at H
        have c32b0 : decide (1 < (l1.length : Int)) = false := decide_eq_false c32
        have c32b1 : decide (1 < l1.length) = false := decide_eq_false (by omega)
        clear c32
        (first | rw [c32b0] | (simp only [i64_w, i32_w]; rw [c32b0]) | skip)
        have H' := xy H
        clear H
        go_wp2
        go_meet
        case rel => exact ⟨_, (false), (0), ((⟨#[]⟩ : ByteArray)), H', ⟨by have := HK1.out; first | omega | exact Nat.le_refl _⟩, ⟨by repeat (first | (with_reducible first | exact BK443.out | refine blk_drewN ?_ _ | refine blk_drew ?_ | refine blk_alloc ?_ _) | refine blk_far ?_ NB443_458.out _ | refine blk_far ?_ NB443_457.out _ | exact BK443.out)⟩, ⟨by repeat (first | (with_reducible first | exact BK456.out | refine blk_drewN ?_ _ | refine blk_drew ?_ | refine blk_alloc ?_ _) | refine blk_far ?_ NB456_458.out _ | refine blk_far ?_ NB456_457.out _ | exact BK456.out)⟩, ⟨by (with_reducible repeat (first | refine blk_drewN ?_ _ | refine blk_drew ?_ | refine blk_alloc ?_ _)); refine blk_far ?_ NB457_458.out _; (with_reducible repeat (first | refine blk_drewN ?_ _ | refine blk_drew ?_ | refine blk_alloc ?_ _)); refine blk_far ?_ NB457_458.out _; (with_reducible repeat (first | refine blk_drewN ?_ _ | refine blk_drew ?_ | refine blk_alloc ?_ _)); refine blk_far ?_ NB457_458.out _; (with_reducible repeat (first | refine blk_drewN ?_ _ | refine blk_drew ?_ | refine blk_alloc ?_ _)); refine blk_put (cs := #[.bool false, .int .i64 0, .string (⟨#[]⟩ : ByteArray)]) ?_ 2 _ rfl; (with_reducible repeat (first | refine blk_drewN ?_ _ | refine blk_drew ?_ | refine blk_alloc ?_ _)); refine blk_put (cs := #[.bool false, .int .i64 0, .string (⟨#[]⟩ : ByteArray)]) ?_ 1 _ rfl; (with_reducible repeat (first | refine blk_drewN ?_ _ | refine blk_drew ?_ | refine blk_alloc ?_ _)); refine blk_put (cs := #[.bool false, .int .i64 0, .string (⟨#[]⟩ : ByteArray)]) ?_ 0 _ rfl; (with_reducible repeat (first | refine blk_drewN ?_ _ | refine blk_drew ?_ | refine blk_alloc ?_ _)); exact BK457.out⟩, ⟨by (with_reducible repeat (first | refine blk_drewN ?_ _ | refine blk_drew ?_ | refine blk_alloc ?_ _)); refine blk_put (cs := #[.bool false, .int .i64 0, .string (⟨#[]⟩ : ByteArray)]) ?_ 2 _ rfl; (with_reducible repeat (first | refine blk_drewN ?_ _ | refine blk_drew ?_ | refine blk_alloc ?_ _)); refine blk_put (cs := #[.bool false, .int .i64 0, .string (⟨#[]⟩ : ByteArray)]) ?_ 1 _ rfl; (with_reducible repeat (first | refine blk_drewN ?_ _ | refine blk_drew ?_ | refine blk_alloc ?_ _)); refine blk_put (cs := #[.bool false, .int .i64 0, .string (⟨#[]⟩ : ByteArray)]) ?_ 0 _ rfl; (with_reducible repeat (first | refine blk_drewN ?_ _ | refine blk_drew ?_ | refine blk_alloc ?_ _)); refine blk_far ?_ NB458_457.out _; (with_reducible repeat (first | refine blk_drewN ?_ _ | refine blk_drew ?_ | refine blk_alloc ?_ _)); refine blk_far ?_ NB458_457.out _; (with_reducible repeat (first | refine blk_drewN ?_ _ | refine blk_drew ?_ | refine blk_alloc ?_ _)); refine blk_far ?_ NB458_457.out _; (with_reducible repeat (first | refine blk_drewN ?_ _ | refine blk_drew ?_ | refine blk_alloc ?_ _)); exact BK458.out⟩, ⟨xb⟩⟩
      case rest =>
       clear HC18
       try clear c1
       try clear c2
       try clear p2
       try clear c3
       try clear c4
       try clear p4
       try clear q4
       try clear hx4
       try clear qi4
       try clear c6
       try clear c6b0
       try clear p6
       try clear c7
       try clear c7b0
       try clear c9
       try clear c10
       try clear c16
       try clear c16b0
       try clear c16b1
       try clear c17
       try clear c17b0
       try clear c17b1
       try clear c21
       try clear c23
       try clear c25
       try clear c26
       try clear c27
       try clear c29
       try clear c30
       try clear c32
       try clear c32b0
       try clear c32b1
       try clear c33
       try clear c33b0
       try clear c33b1
       try clear c34
       try clear c35
       try clear c36
       try clear hcz14_0
       try clear hcz14_1
       try clear hcz14_2
       try clear hcz22_0
       try clear hcz22_1
       try clear hcz22_2
       try clear hcz28_0
       try clear hcz28_1
       try clear hcz28_2
       try clear hcz31_0
       try clear hcz31_1
       try clear hcz31_2
       try clear hcz37_0
       try clear hcz37_1
       try clear hcz37_2
       try clear hfz14_0
       try clear hfz14_1
       try clear hfz14_2
       try clear hfz22_0
       try clear hfz22_1
       try clear hfz22_2
       try clear hfz28_0
       try clear hfz28_1
       try clear hfz28_2
       try clear hfz31_0
       try clear hfz31_1
       try clear hfz31_2
       try clear hfz37_0
       try clear hfz37_1
       try clear hfz37_2
       try clear hx447_0
       try clear hx447_1
       try clear hx447_2
       try clear hx449_0
       try clear hx449_1
       try clear hx449_2
       try clear hx455_0
       try clear hx455_1
       try clear hx455_2
       try clear hx459_0
       try clear hx459_1
       try clear hx459_2
       try clear p2
       try clear p447
       try clear p449
       try clear p455
       try clear p459
       try clear q447
       try clear q449
       try clear q455
       try clear q459
       obtain ⟨kq, x458000_17, x458001_17, x458002_17, HA, HJ17, BK443, BK456, BK457, BK458, HB⟩ := hcut
       cases kq with
       | zero => exact absurd HA.out (by simp [r13_Do.j1])
       | succ kj17 =>
        have H := HA.out
        clear HA
        simp only [r13_Do.j1] at H
        have HC38 := xy H
        clear H
        go_upto_if 58 with (fail)
        go_cut [] (fun wc => ∃ (kq : Nat) (x459000_37 : Bool) (x459001_37 : Int) (x459002_37 : ByteArray), Aside0 (r13_Do.j2 kq a0 ((rd_T32 l1 0).f0) ((rd_T32 l1 0).f1) ((rd_T32 l1 0).f2) x458000_17 x458001_17 x458002_17 x459000_37 x459001_37 x459002_37 = some (r1, r2, r3, r4)) ∧ Aside0 (kq ≤ kj17) ∧ Aside0 (wc.heap[gb443]? = some (.cells #[.bool x444000_1, .int .i64 x444001_1, .string x444002_1] 32 (0, 0))) ∧ Aside0 (wc.heap[gb456]? = some (.cells #[.bool ((rd_T32 l1 0).f0), .int .i64 ((rd_T32 l1 0).f1), .string ((rd_T32 l1 0).f2)] 32 (0, 0))) ∧ Aside0 (wc.heap[gb457]? = some (.cells #[.bool x458000_17, .int .i64 x458001_17, .string x458002_17] 32 (0, 0))) ∧ Aside0 (wc.heap[gb458]? = some (.cells #[.bool x459000_37, .int .i64 x459001_37, .string x459002_37] 32 (0, 0))) ∧ Aside0 (Below w.heap.size w wc))
        case first =>
         have H := HC38.out
         clear HC38
         by_cases c39 : (l1.length : Int) > 2
         ·rw [if_pos c39] at H
          have c39b0 : decide (2 < (l1.length : Int)) = true := decide_eq_true c39
          have c39b1 : decide (2 < l1.length) = true := decide_eq_true (by omega)
          clear c39
          (first | rw [c39b0] | (simp only [i64_w, i32_w]; rw [c39b0]) | skip)
          by_cases c40 : 2 < (l1.length : Int)
          ·rw [if_pos c40] at H
           have c40b0 : decide (2 < (l1.length : Int)) = true := decide_eq_true c40
           have c40b1 : decide (2 < l1.length) = true := decide_eq_true (by omega)
           clear c40
           have H' := xy H
           clear H
           have p460 : 0 ≤ (2 : Int) := (by omega)
           have q460 : 2 < (l1.length : Int) := xi
           obtain ⟨ad460, e460, hx460_0, hx460_1, hx460_2⟩ := at_T32 HR1.out 2 p460 q460
           obtain rfl : ad455 = ad460 := (by injection e460)
           (try simp only [show (2 : Int).toNat = 2 from rfl, Nat.reduceMul, Nat.reduceEqDiff, Go.Addr.add, ↓reduceIte] at hx460_0)
           (try simp only [show (2 : Int).toNat = 2 from rfl, Nat.reduceMul, Nat.reduceEqDiff, Go.Addr.add, ↓reduceIte] at hx460_1)
           (try simp only [show (2 : Int).toNat = 2 from rfl, Nat.reduceMul, Nat.reduceEqDiff, Go.Addr.add, ↓reduceIte] at hx460_2)
           have qi460 : (2 < l1.length) = True := eq_true (by omega)
           (try rw [show ((2 : Int)).toNat = 2 from rfl] at hx460_0)
           (try rw [show 2 * 3 = 6 from rfl] at hx460_0)
           (try rw [show ((2 : Int)).toNat = 2 from rfl] at hx460_1)
           (try rw [show 2 * 3 = 6 from rfl] at hx460_1)
           (try rw [show ((2 : Int)).toNat = 2 from rfl] at hx460_2)
           (try rw [show 2 * 3 = 6 from rfl] at hx460_2)
           replace hx460_0 := (HB.out.cell (World.block_lt_of_cell? w _ hx460_0)).trans hx460_0
           replace hx460_1 := (HB.out.cell (World.block_lt_of_cell? w _ hx460_1)).trans hx460_1
           replace hx460_2 := (HB.out.cell (World.block_lt_of_cell? w _ hx460_2)).trans hx460_2
           replace p460 := eq_true p460
           replace q460 := eq_true q460
           have hnb41 := NB458_443.out
           have hnc41 := NB443_458.out
           have hnb42 := NB458_456.out
           have hnc42 := NB456_458.out
           have hnb43 := NB458_457.out
           have hnc43 := NB457_458.out
           have hcz44_0 : wc.cell? ⟨gb458, 0, none⟩ = some (.bool false) := (kc BK458.out 0).trans rfl
           have hcz44_1 : wc.cell? ⟨gb458, 1, none⟩ = some (.int .i64 0) := (kc BK458.out 1).trans rfl
           have hcz44_2 : wc.cell? ⟨gb458, 2, none⟩ = some (.string (⟨#[]⟩ : ByteArray)) := (kc BK458.out 2).trans rfl
           have hfz44_0 := kf BK458.out 0
           have hfz44_1 := kf BK458.out 1
           have hfz44_2 := kf BK458.out 2
           go_wp2
           go_meet
           case rel => exact ⟨_, ((rd_T32 l1 2).f0), ((rd_T32 l1 2).f1), ((rd_T32 l1 2).f2), H', ⟨by have := HK1.out; have := HJ17.out; first | omega | exact Nat.le_refl _⟩, ⟨by repeat (first | (with_reducible first | exact BK443.out | refine blk_drewN ?_ _ | refine blk_drew ?_ | refine blk_alloc ?_ _) | refine blk_far ?_ NB443_458.out _ | exact BK443.out)⟩, ⟨by repeat (first | (with_reducible first | exact BK456.out | refine blk_drewN ?_ _ | refine blk_drew ?_ | refine blk_alloc ?_ _) | refine blk_far ?_ NB456_458.out _ | exact BK456.out)⟩, ⟨by repeat (first | (with_reducible first | exact BK457.out | refine blk_drewN ?_ _ | refine blk_drew ?_ | refine blk_alloc ?_ _) | refine blk_far ?_ NB457_458.out _ | exact BK457.out)⟩, ⟨kp BK458.out⟩, ⟨xb⟩⟩
          ·rw [if_neg c40] at H
           exact absurd H (by simp)
         ·rw [if_neg c39] at H
          have c39b0 : decide (2 < (l1.length : Int)) = false := decide_eq_false c39
          have c39b1 : decide (2 < l1.length) = false := decide_eq_false (by omega)
          clear c39
          (first | rw [c39b0] | (simp only [i64_w, i32_w]; rw [c39b0]) | skip)
          have H' := xy H
          clear H
          go_wp2
          go_meet
          case rel => exact ⟨_, (false), (0), ((⟨#[]⟩ : ByteArray)), H', ⟨by have := HK1.out; have := HJ17.out; first | omega | exact Nat.le_refl _⟩, ⟨by (with_reducible repeat (first | refine blk_drewN ?_ _ | refine blk_drew ?_ | refine blk_alloc ?_ _)); exact BK443.out⟩, ⟨by (with_reducible repeat (first | refine blk_drewN ?_ _ | refine blk_drew ?_ | refine blk_alloc ?_ _)); exact BK456.out⟩, ⟨by (with_reducible repeat (first | refine blk_drewN ?_ _ | refine blk_drew ?_ | refine blk_alloc ?_ _)); exact BK457.out⟩, ⟨by (with_reducible repeat (first | refine blk_drewN ?_ _ | refine blk_drew ?_ | refine blk_alloc ?_ _)); exact BK458.out⟩, ⟨xb⟩⟩
        case rest =>
         clear HC38
         try clear c1
         try clear c2
         try clear p2
         try clear c3
         try clear c4
         try clear p4
         try clear q4
         try clear hx4
         try clear qi4
         try clear c6
         try clear c6b0
         try clear p6
         try clear c7
         try clear c7b0
         try clear c9
         try clear c10
         try clear c16
         try clear c16b0
         try clear c16b1
         try clear c17
         try clear c17b0
         try clear c17b1
         try clear c21
         try clear c23
         try clear c25
         try clear c26
         try clear c27
         try clear c29
         try clear c30
         try clear c32
         try clear c32b0
         try clear c32b1
         try clear c33
         try clear c33b0
         try clear c33b1
         try clear c34
         try clear c35
         try clear c36
         try clear c39
         try clear c39b0
         try clear c39b1
         try clear c40
         try clear c40b0
         try clear c40b1
         try clear c41
         try clear c42
         try clear c43
         try clear p44
         try clear q44
         try clear hx44
         try clear hcz14_0
         try clear hcz14_1
         try clear hcz14_2
         try clear hcz22_0
         try clear hcz22_1
         try clear hcz22_2
         try clear hcz28_0
         try clear hcz28_1
         try clear hcz28_2
         try clear hcz31_0
         try clear hcz31_1
         try clear hcz31_2
         try clear hcz37_0
         try clear hcz37_1
         try clear hcz37_2
         try clear hcz44_0
         try clear hcz44_1
         try clear hcz44_2
         try clear hfz14_0
         try clear hfz14_1
         try clear hfz14_2
         try clear hfz22_0
         try clear hfz22_1
         try clear hfz22_2
         try clear hfz28_0
         try clear hfz28_1
         try clear hfz28_2
         try clear hfz31_0
         try clear hfz31_1
         try clear hfz31_2
         try clear hfz37_0
         try clear hfz37_1
         try clear hfz37_2
         try clear hfz44_0
         try clear hfz44_1
         try clear hfz44_2
         try clear hx447_0
         try clear hx447_1
         try clear hx447_2
         try clear hx449_0
         try clear hx449_1
         try clear hx449_2
         try clear hx455_0
         try clear hx455_1
         try clear hx455_2
         try clear hx459_0
         try clear hx459_1
         try clear hx459_2
         try clear hx460_0
         try clear hx460_1
         try clear hx460_2
         try clear p2
         try clear p4
         try clear p447
         try clear p449
         try clear p455
         try clear p459
         try clear p460
         try clear p6
         try clear q4
         try clear q447
         try clear q449
         try clear q455
         try clear q459
         try clear q460
         obtain ⟨kq, x459000_37, x459001_37, x459002_37, HA, HJ37, BK443, BK456, BK457, BK458, HB⟩ := hcut
         cases kq with
         | zero => exact absurd HA.out (by simp [r13_Do.j2])
         | succ kj37 =>
          have H := HA.out
          clear HA
          simp only [r13_Do.j2] at H
          have HC45 := xy H
          clear H
          go_upto_region 17 with (fail)
          go_cut [71] (fun v71 wc => ∃ (kq : Nat) (x71_44 : Bool), v71 = .bool x71_44 ∧ Aside0 (r13_Do.j3 kq a0 x71_44 ((rd_T32 l1 0).f0) ((rd_T32 l1 0).f1) ((rd_T32 l1 0).f2) x458000_17 x458001_17 x458002_17 x459000_37 x459001_37 x459002_37 = some (r1, r2, r3, r4)) ∧ Aside0 (kq ≤ kj37) ∧ Aside0 (wc.heap[gb443]? = some (.cells #[.bool x444000_1, .int .i64 x444001_1, .string x444002_1] 32 (0, 0))) ∧ Aside0 (wc.heap[gb456]? = some (.cells #[.bool ((rd_T32 l1 0).f0), .int .i64 ((rd_T32 l1 0).f1), .string ((rd_T32 l1 0).f2)] 32 (0, 0))) ∧ Aside0 (wc.heap[gb457]? = some (.cells #[.bool x458000_17, .int .i64 x458001_17, .string x458002_17] 32 (0, 0))) ∧ Aside0 (wc.heap[gb458]? = some (.cells #[.bool x459000_37, .int .i64 x459001_37, .string x459002_37] 32 (0, 0))) ∧ Aside0 (Below w.heap.size w wc))
          case first =>
           have H := HC45.out
           clear HC45
           by_cases c46 : a0 ≤ 8
           ·rw [if_pos c46] at H
            have c46b0 : decide (a0 ≤ 8) = true := decide_eq_true c46
            clear c46
            (first | rw [c46b0] | (simp only [i64_w, i32_w]; rw [c46b0]) | skip)
            have H' := xy H
            clear H
            go_wp2
            go_meet
            case rel => exact ⟨_, (true), xg, H', ⟨by have := HK1.out; have := HJ17.out; have := HJ37.out; first | omega | exact Nat.le_refl _⟩, ⟨by (with_reducible repeat (first | refine blk_drewN ?_ _ | refine blk_drew ?_ | refine blk_alloc ?_ _)); exact BK443.out⟩, ⟨by (with_reducible repeat (first | refine blk_drewN ?_ _ | refine blk_drew ?_ | refine blk_alloc ?_ _)); exact BK456.out⟩, ⟨by (with_reducible repeat (first | refine blk_drewN ?_ _ | refine blk_drew ?_ | refine blk_alloc ?_ _)); exact BK457.out⟩, ⟨by (with_reducible repeat (first | refine blk_drewN ?_ _ | refine blk_drew ?_ | refine blk_alloc ?_ _)); exact BK458.out⟩, ⟨xb⟩⟩
           ·rw [if_neg c46] at H
            have c46b0 : decide (a0 ≤ 8) = false := decide_eq_false c46
            clear c46
            (first | rw [c46b0] | (simp only [i64_w, i32_w]; rw [c46b0]) | skip)
            by_cases c47 : a0 ≥ 14
            ·rw [if_pos c47] at H
             have c47b0 : decide (14 ≤ a0) = true := decide_eq_true c47
             clear c47
             have H' := xy H
             clear H
             go_wp2
             go_meet
             case rel => exact ⟨_, (decide (a0 ≤ 17)), xg, H', ⟨by have := HK1.out; have := HJ17.out; have := HJ37.out; first | omega | exact Nat.le_refl _⟩, ⟨by (with_reducible repeat (first | refine blk_drewN ?_ _ | refine blk_drew ?_ | refine blk_alloc ?_ _)); exact BK443.out⟩, ⟨by (with_reducible repeat (first | refine blk_drewN ?_ _ | refine blk_drew ?_ | refine blk_alloc ?_ _)); exact BK456.out⟩, ⟨by (with_reducible repeat (first | refine blk_drewN ?_ _ | refine blk_drew ?_ | refine blk_alloc ?_ _)); exact BK457.out⟩, ⟨by (with_reducible repeat (first | refine blk_drewN ?_ _ | refine blk_drew ?_ | refine blk_alloc ?_ _)); exact BK458.out⟩, ⟨xb⟩⟩
            ·rw [if_neg c47] at H
             have c47b0 : decide (14 ≤ a0) = false := decide_eq_false c47
             clear c47
             have H' := xy H
             clear H
             go_wp2
             go_meet
             case rel => exact ⟨_, (false), xg, H', ⟨by have := HK1.out; have := HJ17.out; have := HJ37.out; first | omega | exact Nat.le_refl _⟩, ⟨by (with_reducible repeat (first | refine blk_drewN ?_ _ | refine blk_drew ?_ | refine blk_alloc ?_ _)); exact BK443.out⟩, ⟨by (with_reducible repeat (first | refine blk_drewN ?_ _ | refine blk_drew ?_ | refine blk_alloc ?_ _)); exact BK456.out⟩, ⟨by (with_reducible repeat (first | refine blk_drewN ?_ _ | refine blk_drew ?_ | refine blk_alloc ?_ _)); exact BK457.out⟩, ⟨by (with_reducible repeat (first | refine blk_drewN ?_ _ | refine blk_drew ?_ | refine blk_alloc ?_ _)); exact BK458.out⟩, ⟨xb⟩⟩
          case rest =>
           clear HC45
           try clear c1
           try clear c2
           try clear p2
           try clear c3
           try clear c4
           try clear p4
           try clear q4
           try clear hx4
           try clear qi4
           try clear c6
           try clear c6b0
           try clear p6
           try clear c7
           try clear c7b0
           try clear c9
           try clear c10
           try clear c16
           try clear c16b0
           try clear c16b1
           try clear c17
           try clear c17b0
           try clear c17b1
           try clear c21
           try clear c23
           try clear c25
           try clear c26
           try clear c27
           try clear c29
           try clear c30
           try clear c32
           try clear c32b0
           try clear c32b1
           try clear c33
           try clear c33b0
           try clear c33b1
           try clear c34
           try clear c35
           try clear c36
           try clear c39
           try clear c39b0
           try clear c39b1
           try clear c40
           try clear c40b0
           try clear c40b1
           try clear c41
           try clear c42
           try clear c43
           try clear p44
           try clear q44
           try clear hx44
           try clear p45
           try clear q45
           try clear hx45
           try clear qi45
           try clear c46
           try clear c46b0
           try clear p46
           try clear q46
           try clear hx46
           try clear qi46
           try clear c47
           try clear c47b0
           try clear hcz14_0
           try clear hcz14_1
           try clear hcz14_2
           try clear hcz22_0
           try clear hcz22_1
           try clear hcz22_2
           try clear hcz28_0
           try clear hcz28_1
           try clear hcz28_2
           try clear hcz31_0
           try clear hcz31_1
           try clear hcz31_2
           try clear hcz37_0
           try clear hcz37_1
           try clear hcz37_2
           try clear hcz44_0
           try clear hcz44_1
           try clear hcz44_2
           try clear hfz14_0
           try clear hfz14_1
           try clear hfz14_2
           try clear hfz22_0
           try clear hfz22_1
           try clear hfz22_2
           try clear hfz28_0
           try clear hfz28_1
           try clear hfz28_2
           try clear hfz31_0
           try clear hfz31_1
           try clear hfz31_2
           try clear hfz37_0
           try clear hfz37_1
           try clear hfz37_2
           try clear hfz44_0
           try clear hfz44_1
           try clear hfz44_2
           try clear hx447_0
           try clear hx447_1
           try clear hx447_2
           try clear hx449_0
           try clear hx449_1
           try clear hx449_2
           try clear hx455_0
           try clear hx455_1
           try clear hx455_2
           try clear hx459_0
           try clear hx459_1
           try clear hx459_2
           try clear hx460_0
           try clear hx460_1
           try clear hx460_2
           try clear p2
           try clear p4
           try clear p44
           try clear p447
           try clear p449
           try clear p455
           try clear p459
           try clear p460
           try clear p6
           try clear q4
           try clear q44
           try clear q447
           try clear q449
           try clear q455
           try clear q459
           try clear q460
           obtain ⟨kq, x71_44, rfl, HA, HJ44, BK443, BK456, BK457, BK458, HB⟩ := hcut
           cases kq with
           | zero => exact absurd HA.out (by simp [r13_Do.j3])
           | succ kj44 =>
            have H := HA.out
            clear HA
            simp only [r13_Do.j3] at H
            by_cases c48 : x71_44 = true
            ·subst c48
             rw [if_pos rfl] at H
             replace H := xj H
             obtain ⟨⟨t461, t462, t463⟩, A490, H⟩ := H
             replace H : (some (t461, t462, t463, 0)) = some (r1, r2, r3, r4) := H
             have A49 := xy A490
             clear A490
             simp only [Option.some.injEq, Prod.mk.injEq] at H
             obtain ⟨rfl, rfl, rfl, rfl⟩ := H
             have hnb50 := NB456_443.out
             have hnc50 := NB443_456.out
             have hnb51 := NB456_457.out
             have hnc51 := NB457_456.out
             have hnb52 := NB456_458.out
             have hnc52 := NB458_456.out
             have hcz53_0 : wc.cell? ⟨gb456, 0, none⟩ = some (.bool ((rd_T32 l1 0).f0)) := (kc BK456.out 0).trans rfl
             have hcz53_1 : wc.cell? ⟨gb456, 1, none⟩ = some (.int .i64 ((rd_T32 l1 0).f1)) := (kc BK456.out 1).trans rfl
             have hcz53_2 : wc.cell? ⟨gb456, 2, none⟩ = some (.string ((rd_T32 l1 0).f2)) := (kc BK456.out 2).trans rfl
             have hfz53_0 := kf BK456.out 0
             have hfz53_1 := kf BK456.out 1
             have hfz53_2 := kf BK456.out 2
             have hnb54 := NB457_443.out
             have hnc54 := NB443_457.out
             have hnb55 := NB457_458.out
             have hnc55 := NB458_457.out
             have hcz56_0 : wc.cell? ⟨gb457, 0, none⟩ = some (.bool x458000_17) := (kc BK457.out 0).trans rfl
             have hcz56_1 : wc.cell? ⟨gb457, 1, none⟩ = some (.int .i64 x458001_17) := (kc BK457.out 1).trans rfl
             have hcz56_2 : wc.cell? ⟨gb457, 2, none⟩ = some (.string x458002_17) := (kc BK457.out 2).trans rfl
             have hfz56_0 := kf BK457.out 0
             have hfz56_1 := kf BK457.out 1
             have hfz56_2 := kf BK457.out 2
             have hnb57 := NB458_443.out
             have hnc57 := NB443_458.out
             have hcz58_0 : wc.cell? ⟨gb458, 0, none⟩ = some (.bool x459000_37) := (kc BK458.out 0).trans rfl
             have hcz58_1 : wc.cell? ⟨gb458, 1, none⟩ = some (.int .i64 x459001_37) := (kc BK458.out 1).trans rfl
             have hcz58_2 : wc.cell? ⟨gb458, 2, none⟩ = some (.string x459002_37) := (kc BK458.out 2).trans rfl
             have hfz58_0 := kf BK458.out 0
             have hfz58_1 := kf BK458.out 1
             have hfz58_2 := kf BK458.out 2
             go_wp2_with (((with_reducible refine gate_callee (f := 51) rfl ?_); refine goesL_ (some 76) rfl rfl Tryz.func51 (by kernel_rfl) rfl #[.int .i64 a0, .agg #[.bool ((rd_T32 l1 0).f0), .int .i64 ((rd_T32 l1 0).f1), .string ((rd_T32 l1 0).f2)], .agg #[.bool x458000_17, .int .i64 x458001_17, .string x458002_17], .agg #[.bool x459000_37, .int .i64 x459001_37, .string x459002_37]] rfl xr ?_; (with_reducible refine (r13_reckoned.calls kj44 a0 ((rd_T32 l1 0).f0) ((rd_T32 l1 0).f1) ((rd_T32 l1 0).f2) x458000_17 x458001_17 x458002_17 x459000_37 x459001_37 x459002_37 t461 t462 t463 _ (Tabs.below hT xf) A49.out).mono ?_); rintro e w59 ⟨rfl, hb⟩; refine ⟨_, rfl, ?_⟩; replace BK443 := xd BK443.out hb; replace BK456 := xd BK456.out hb; replace BK457 := xd BK457.out hb; replace BK458 := xd BK458.out hb; replace HB := xy (below_step xb hb); (try clear hb); (try clear hb2); (try clear hk); (try clear hi); have hcz60_0 : w59.cell? ⟨gb443, 0, none⟩ = some (.bool x444000_1) := (kc BK443.out 0).trans rfl; have hcz60_1 : w59.cell? ⟨gb443, 1, none⟩ = some (.int .i64 x444001_1) := (kc BK443.out 1).trans rfl; have hcz60_2 : w59.cell? ⟨gb443, 2, none⟩ = some (.string x444002_1) := (kc BK443.out 2).trans rfl; have hfz60_0 := kf BK443.out 0; have hfz60_1 := kf BK443.out 1; have hfz60_2 := kf BK443.out 2))
             refine bodyPost_ret (results_ct rfl _ _ gb443 32 #[.bool t461, .int .i64 t462, .string t463] (0, 0) _ rfl (kp BK443.out) Tryz.underlying32 rfl (by kernel_rfl)) rfl ?_
             exact ⟨xe, xb⟩
            ·replace c48 := Bool.eq_false_iff.mpr c48
             subst c48
             rw [if_neg (show ¬ (false = true) by decide)] at H
             replace H := xj H
             obtain ⟨⟨t464, t465, t466⟩, A610, H⟩ := H
             replace H : (some (t464, t465, t466, 0)) = some (r1, r2, r3, r4) := H
             have A61 := xy A610
             clear A610
             simp only [Option.some.injEq, Prod.mk.injEq] at H
             obtain ⟨rfl, rfl, rfl, rfl⟩ := H
             have hnb62 := NB456_443.out
             have hnc62 := NB443_456.out
             have hnb63 := NB456_457.out
             have hnc63 := NB457_456.out
             have hnb64 := NB456_458.out
             have hnc64 := NB458_456.out
             have hcz65_0 : wc.cell? ⟨gb456, 0, none⟩ = some (.bool ((rd_T32 l1 0).f0)) := (kc BK456.out 0).trans rfl
             have hcz65_1 : wc.cell? ⟨gb456, 1, none⟩ = some (.int .i64 ((rd_T32 l1 0).f1)) := (kc BK456.out 1).trans rfl
             have hcz65_2 : wc.cell? ⟨gb456, 2, none⟩ = some (.string ((rd_T32 l1 0).f2)) := (kc BK456.out 2).trans rfl
             have hfz65_0 := kf BK456.out 0
             have hfz65_1 := kf BK456.out 1
             have hfz65_2 := kf BK456.out 2
             have hnb66 := NB457_443.out
             have hnc66 := NB443_457.out
             have hnb67 := NB457_458.out
             have hnc67 := NB458_457.out
             have hcz68_0 : wc.cell? ⟨gb457, 0, none⟩ = some (.bool x458000_17) := (kc BK457.out 0).trans rfl
             have hcz68_1 : wc.cell? ⟨gb457, 1, none⟩ = some (.int .i64 x458001_17) := (kc BK457.out 1).trans rfl
             have hcz68_2 : wc.cell? ⟨gb457, 2, none⟩ = some (.string x458002_17) := (kc BK457.out 2).trans rfl
             have hfz68_0 := kf BK457.out 0
             have hfz68_1 := kf BK457.out 1
             have hfz68_2 := kf BK457.out 2
             have hnb69 := NB458_443.out
             have hnc69 := NB443_458.out
             have hcz70_0 : wc.cell? ⟨gb458, 0, none⟩ = some (.bool x459000_37) := (kc BK458.out 0).trans rfl
             have hcz70_1 : wc.cell? ⟨gb458, 1, none⟩ = some (.int .i64 x459001_37) := (kc BK458.out 1).trans rfl
             have hcz70_2 : wc.cell? ⟨gb458, 2, none⟩ = some (.string x459002_37) := (kc BK458.out 2).trans rfl
             have hfz70_0 := kf BK458.out 0
             have hfz70_1 := kf BK458.out 1
             have hfz70_2 := kf BK458.out 2
             go_wp2_with (((with_reducible refine gate_callee (f := 52) rfl ?_); refine goesL_ (some 81) rfl rfl Tryz.func52 (by kernel_rfl) rfl #[.int .i64 a0, .agg #[.bool ((rd_T32 l1 0).f0), .int .i64 ((rd_T32 l1 0).f1), .string ((rd_T32 l1 0).f2)], .agg #[.bool x458000_17, .int .i64 x458001_17, .string x458002_17], .agg #[.bool x459000_37, .int .i64 x459001_37, .string x459002_37]] rfl xr ?_; (with_reducible refine (r13_texted.calls kj44 a0 ((rd_T32 l1 0).f0) ((rd_T32 l1 0).f1) ((rd_T32 l1 0).f2) x458000_17 x458001_17 x458002_17 x459000_37 x459001_37 x459002_37 t464 t465 t466 _ (Tabs.below hT xf) A61.out).mono ?_); rintro e w71 ⟨rfl, hb⟩; refine ⟨_, rfl, ?_⟩; replace BK443 := xd BK443.out hb; replace BK456 := xd BK456.out hb; replace BK457 := xd BK457.out hb; replace BK458 := xd BK458.out hb; replace HB := xy (below_step xb hb); (try clear hb); (try clear hb2); (try clear hk); (try clear hi); have hcz72_0 : w71.cell? ⟨gb443, 0, none⟩ = some (.bool x444000_1) := (kc BK443.out 0).trans rfl; have hcz72_1 : w71.cell? ⟨gb443, 1, none⟩ = some (.int .i64 x444001_1) := (kc BK443.out 1).trans rfl; have hcz72_2 : w71.cell? ⟨gb443, 2, none⟩ = some (.string x444002_1) := (kc BK443.out 2).trans rfl; have hfz72_0 := kf BK443.out 0; have hfz72_1 := kf BK443.out 1; have hfz72_2 := kf BK443.out 2))
             refine bodyPost_ret (results_ct rfl _ _ gb443 32 #[.bool t464, .int .i64 t465, .string t466] (0, 0) _ rfl (kp BK443.out) Tryz.underlying32 rfl (by kernel_rfl)) rfl ?_
             exact ⟨xe, xb⟩
     ·rw [if_neg c17] at H
      exact absurd H (by simp)
    ·rw [if_neg c16] at H
     have c16b0 : (t454 == 0) = false := beq_eq_false_iff_ne.mpr c16
     have c16b1 : (t454 != 0) = true := bne_iff_ne.mpr c16
     simp only [Option.some.injEq, Prod.mk.injEq] at H
     obtain ⟨rfl, rfl, rfl, rfl⟩ := H
     obtain ⟨Ao73, co73, eo73⟩ := Kd.R_slice HO_6.out
     subst eo73
     go_wp2_with (((with_reducible refine gate_callee (f := 48) rfl ?_); refine goesL_ (some 38) rfl rfl Tryz.func48 (by kernel_rfl) rfl #[.int .i64 a0, .slice Ao73 x6_1.length co73] rfl xr ?_; (with_reducible refine (r13_Result.calls k1 a0 _ _ x6_1 t453 t454 _ (Tabs.below hT xf) ?side1 ?side2 A15.out).mono ?_); (case side1 => repeat (first | exact (Kd.R_reads' HO_6.out).2.2 | (with_reducible refine Kd.C_alloc ?_ _) | (with_reducible refine Kd.C_drewN ?_ _) | (with_reducible refine Kd.C_drew ?_))); (case side2 => exact (Kd.R_reads' HO_6.out).2.1); rintro e w' ⟨rfl, ⟨nd, rfl⟩⟩; refine ⟨_, rfl, ?_⟩; (try (rw [drewN_self wr]; generalize hq_ : World.drewN wr _ = wr; have n0_ : Aside0 (Kd.R Kd.bool 4 wr w.heap.size (fun _ => True) (.slice Ao73 x6_1.length co73) x6_1) := ⟨by rw [← hq_]; exact (xo HO_6.out)⟩; have n1_ : Aside0 (wr.heap[gb443]? = some (.cells #[.bool x444000_1, .int .i64 x444001_1, .string x444002_1] 32 (0, 0))) := ⟨by rw [← hq_]; exact (xk BK443.out)⟩; have n2_ : Aside0 (Below w.heap.size w wr) := ⟨by rw [← hq_]; exact xb⟩; clear HO_6 BK443 HB hq_; have HO_6 := n0_; have BK443 := n1_; have HB := n2_; clear n0_ n1_ n2_)); have hcz74_0 : wr.cell? ⟨gb443, 0, none⟩ = some (.bool x444000_1) := (kc BK443.out 0).trans rfl; have hcz74_1 : wr.cell? ⟨gb443, 1, none⟩ = some (.int .i64 x444001_1) := (kc BK443.out 1).trans rfl; have hcz74_2 : wr.cell? ⟨gb443, 2, none⟩ = some (.string x444002_1) := (kc BK443.out 2).trans rfl; have hfz74_0 := kf BK443.out 0; have hfz74_1 := kf BK443.out 1; have hfz74_2 := kf BK443.out 2))
     refine bodyPost_ret (results_ct rfl _ _ gb443 32 #[.bool false, .int .i64 0, .string (⟨#[]⟩ : ByteArray)] (0, 0) _ rfl (kp BK443.out) Tryz.underlying32 rfl (by kernel_rfl)) rfl ?_
     exact ⟨xe, xb⟩
end Go.Proofs.YtnodgcakmolleaaGreatDoor.PX
