/- Walked functions, by this session's program over the kit's print. -/
import Derived.Test.YtebofnoljebakaaGreatDoorPXx0
import Derived.Test.YtebofnoljebakaaGreatDoorPXx8
import Derived.Test.YtebofnoljebakaaGreatDoorPXx10
import Derived.Test.YtebofnoljebakaaGreatDoorPXx12
import Derived.Test.YtebofnoljebakaaGreatDoorPXx16
namespace Go.Proofs.YtebofnoljebakaaGreatDoor.PX
open Go.RowKit Go.Proofs.YtebofnoljebakaaGreatDoorW.PrintWords Go.Proofs.YtebofnoljebakaaGreatDoorW.PrintLast Go.Proofs.YtebofnoljebakaaGreatDoorW.PrintMore
attribute [local go_sem] xm_gtr max2_int min2_int max_two min_two max_three min_three max_four min_four
set_option linter.unusedVariables false
set_option linter.unusedSimpArgs false
/- Walked functions, by this session's program over the kit's print. -/
mutual
def r13_Do.l0 : Nat → Int → List (S24) → List Bool → Int → Option (Bool × Int × ByteArray × Int)
 | 0, _, _, _, _ => none
 | k + 1, x0, x1, x6, x7 => if x7 < (x1.length : Int) then (if 0 ≤ x7 then ((r13_Is.f ((rd_T24 x1 x7).f0) ((rd_T24 x1 x7).f1) ((rd_T24 x1 x7).f2)).bind fun t406 => (if t406 = true then (if x6.length < 140737488355328 then (r13_Do.l0 k x0 x1 (x6 ++ [(rd_T24 x1 x7).f0]) (wrap64 (x7 + 1))) else (none)) else (some (false, 0, (⟨#[]⟩ : ByteArray), 1)))) else (none)) else ((r13_Result.f k x0 x6).bind fun bt411 => (if bt411.2 = 0 then (if 0 < (x1.length : Int) then (if (x1.length : Int) > 1 then (if 1 < (x1.length : Int) then (r13_Do.j1 k x0 x1 ((rd_T24 x1 0).f0) ((rd_T24 x1 0).f1) ((rd_T24 x1 0).f2) ((rd_T24 x1 1).f0) ((rd_T24 x1 1).f1) ((rd_T24 x1 1).f2) false 0 (⟨#[]⟩ : ByteArray)) else (none)) else (r13_Do.j1 k x0 x1 ((rd_T24 x1 0).f0) ((rd_T24 x1 0).f1) ((rd_T24 x1 0).f2) false 0 (⟨#[]⟩ : ByteArray) false 0 (⟨#[]⟩ : ByteArray))) else (none)) else (some (false, 0, (⟨#[]⟩ : ByteArray), bt411.2))))
def r13_Do.j1 : Nat → Int → List (S24) → Bool → Int → ByteArray → Bool → Int → ByteArray → Bool → Int → ByteArray → Option (Bool × Int × ByteArray × Int)
 | 0, _, _, _, _, _, _, _, _, _, _, _ => none
 | k + 1, x0, x1, x415000, x415001, x415002, x416000, x416001, x416002, x417000, x417001, x417002 => if (x1.length : Int) > 2 then (if 2 < (x1.length : Int) then (r13_Do.j2 k x0 x415000 x415001 x415002 x416000 x416001 x416002 ((rd_T24 x1 2).f0) ((rd_T24 x1 2).f1) ((rd_T24 x1 2).f2)) else (none)) else (r13_Do.j2 k x0 x415000 x415001 x415002 x416000 x416001 x416002 x417000 x417001 x417002)
def r13_Do.j2 : Nat → Int → Bool → Int → ByteArray → Bool → Int → ByteArray → Bool → Int → ByteArray → Option (Bool × Int × ByteArray × Int)
 | 0, _, _, _, _, _, _, _, _, _, _ => none
 | k + 1, x0, x415000, x415001, x415002, x416000, x416001, x416002, x417000, x417001, x417002 => if x0 ≤ 8 then (r13_Do.j3 k x0 true x415000 x415001 x415002 x416000 x416001 x416002 x417000 x417001 x417002) else (if x0 ≥ 14 then (r13_Do.j3 k x0 (decide (x0 ≤ 17)) x415000 x415001 x415002 x416000 x416001 x416002 x417000 x417001 x417002) else (r13_Do.j3 k x0 false x415000 x415001 x415002 x416000 x416001 x416002 x417000 x417001 x417002))
def r13_Do.j3 : Nat → Int → Bool → Bool → Int → ByteArray → Bool → Int → ByteArray → Bool → Int → ByteArray → Option (Bool × Int × ByteArray × Int)
 | 0, _, _, _, _, _, _, _, _, _, _, _ => none
 | k + 1, x0, x71, x415000, x415001, x415002, x416000, x416001, x416002, x417000, x417001, x417002 => if x71 = true then ((r13_reckoned.f k x0 x415000 x415001 x415002 x416000 x416001 x416002 x417000 x417001 x417002).bind fun bt419 => (some (bt419.1, bt419.2.1, bt419.2.2, 0))) else ((r13_texted.f k x0 x415000 x415001 x415002 x416000 x416001 x416002 x417000 x417001 x417002).bind fun bt422 => (some (bt422.1, bt422.2.1, bt422.2.2, 0)))
end
def r13_Do.f (k : Nat) (a0 : Int) (l1 : List (S24)) : Option (Bool × Int × ByteArray × Int) := r13_Do.l0 k a0 l1 (([] : List Bool)) 0
theorem r13_Do.mono_l : ∀ k, (∀ y0 y1 y2 y3, LeO (r13_Do.l0 k y0 y1 y2 y3) (r13_Do.l0 (k + 1) y0 y1 y2 y3)) ∧ (∀ y0 y1 y2 y3 y4 y5 y6 y7 y8 y9 y10, LeO (r13_Do.j1 k y0 y1 y2 y3 y4 y5 y6 y7 y8 y9 y10) (r13_Do.j1 (k + 1) y0 y1 y2 y3 y4 y5 y6 y7 y8 y9 y10)) ∧ (∀ y0 y1 y2 y3 y4 y5 y6 y7 y8 y9, LeO (r13_Do.j2 k y0 y1 y2 y3 y4 y5 y6 y7 y8 y9) (r13_Do.j2 (k + 1) y0 y1 y2 y3 y4 y5 y6 y7 y8 y9)) ∧ (∀ y0 y1 y2 y3 y4 y5 y6 y7 y8 y9 y10, LeO (r13_Do.j3 k y0 y1 y2 y3 y4 y5 y6 y7 y8 y9 y10) (r13_Do.j3 (k + 1) y0 y1 y2 y3 y4 y5 y6 y7 y8 y9 y10))
 | 0 => ⟨fun _ _ _ _ r h => by simp [r13_Do.l0] at h, fun _ _ _ _ _ _ _ _ _ _ _ r h => by simp [r13_Do.j1] at h, fun _ _ _ _ _ _ _ _ _ _ r h => by simp [r13_Do.j2] at h, fun _ _ _ _ _ _ _ _ _ _ _ r h => by simp [r13_Do.j3] at h⟩
 | k + 1 => by
  obtain ⟨ih0, ih1, ih2, ih3⟩ := r13_Do.mono_l k
  refine ⟨?_, ?_, ?_, ?_⟩
  ·intro y0 y1 y2 y3
   unfold r13_Do.l0
   repeat' (with_reducible first | exact ih0 _ _ _ _ | exact ih1 _ _ _ _ _ _ _ _ _ _ _ | exact ih2 _ _ _ _ _ _ _ _ _ _ | exact ih3 _ _ _ _ _ _ _ _ _ _ _ | exact r13_Result.mono _ _ _ | exact r13_reckoned.mono _ _ _ _ _ _ _ _ _ _ _ | exact r13_texted.mono _ _ _ _ _ _ _ _ _ _ _ | exact LeO.refl _ | exact LeO.none _ | refine LeO.ite ?_ ?_ | refine LeO.bind ?_ (fun _ => ?_))
  ·intro y0 y1 y2 y3 y4 y5 y6 y7 y8 y9 y10
   unfold r13_Do.j1
   repeat' (with_reducible first | exact ih0 _ _ _ _ | exact ih1 _ _ _ _ _ _ _ _ _ _ _ | exact ih2 _ _ _ _ _ _ _ _ _ _ | exact ih3 _ _ _ _ _ _ _ _ _ _ _ | exact r13_Result.mono _ _ _ | exact r13_reckoned.mono _ _ _ _ _ _ _ _ _ _ _ | exact r13_texted.mono _ _ _ _ _ _ _ _ _ _ _ | exact LeO.refl _ | exact LeO.none _ | refine LeO.ite ?_ ?_ | refine LeO.bind ?_ (fun _ => ?_))
  ·intro y0 y1 y2 y3 y4 y5 y6 y7 y8 y9
   unfold r13_Do.j2
   repeat' (with_reducible first | exact ih0 _ _ _ _ | exact ih1 _ _ _ _ _ _ _ _ _ _ _ | exact ih2 _ _ _ _ _ _ _ _ _ _ | exact ih3 _ _ _ _ _ _ _ _ _ _ _ | exact r13_Result.mono _ _ _ | exact r13_reckoned.mono _ _ _ _ _ _ _ _ _ _ _ | exact r13_texted.mono _ _ _ _ _ _ _ _ _ _ _ | exact LeO.refl _ | exact LeO.none _ | refine LeO.ite ?_ ?_ | refine LeO.bind ?_ (fun _ => ?_))
  ·intro y0 y1 y2 y3 y4 y5 y6 y7 y8 y9 y10
   unfold r13_Do.j3
   repeat' (with_reducible first | exact ih0 _ _ _ _ | exact ih1 _ _ _ _ _ _ _ _ _ _ _ | exact ih2 _ _ _ _ _ _ _ _ _ _ | exact ih3 _ _ _ _ _ _ _ _ _ _ _ | exact r13_Result.mono _ _ _ | exact r13_reckoned.mono _ _ _ _ _ _ _ _ _ _ _ | exact r13_texted.mono _ _ _ _ _ _ _ _ _ _ _ | exact LeO.refl _ | exact LeO.none _ | refine LeO.ite ?_ ?_ | refine LeO.bind ?_ (fun _ => ?_))
theorem r13_Do.mono : ∀ a0 a1 k, LeO (r13_Do.f k a0 a1) (r13_Do.f (k + 1) a0 a1) := by
 intro a0 a1 k
 obtain ⟨ih0, ih1, ih2, ih3⟩ := r13_Do.mono_l k
 unfold r13_Do.f
 repeat' (with_reducible first | exact ih0 _ _ _ _ | exact ih1 _ _ _ _ _ _ _ _ _ _ _ | exact ih2 _ _ _ _ _ _ _ _ _ _ | exact ih3 _ _ _ _ _ _ _ _ _ _ _ | exact r13_Result.mono _ _ _ | exact r13_reckoned.mono _ _ _ _ _ _ _ _ _ _ _ | exact r13_texted.mono _ _ _ _ _ _ _ _ _ _ _ | exact LeO.refl _ | exact LeO.none _ | refine LeO.ite ?_ ?_ | refine LeO.bind ?_ (fun _ => ?_))
set_option maxHeartbeats 8000000 in
set_option maxRecDepth 100000 in
theorem r13_Do.calls (k : Nat) (a0 : Int) (A1 : Option Addr) (c1 : Nat) (l1 : List (S24)) (r1 : Bool) (r2 : Int) (r3 : ByteArray) (r4 : Int) (w : World) (hT : Tabs w) (hr1 : Kd.C k24 w A1 l1.length l1) (hc1 : l1.length ≤ c1) (h : r13_Do.f k a0 l1 = some (r1, r2, r3, r4)) :
  Calls Tryz.prog 47 #[.int .i64 a0, .slice A1 l1.length c1] w fun e w' => e = .returned (.tuple #[.agg #[.bool r1, .int .i64 r2, .string r3], .int .i64 r4]) ∧ Below w.heap.size w w' := by
 have hu24 := Tryz.underlying24
 have HR1 := xy hr1
 have HC1 := xy hc1
 clear hr1 hc1
 have HB := xy (Below.refl w.heap.size w)
 unfold r13_Do.f at h
 have H := h
 clear h
 obtain ⟨y402, hy402⟩ : ∃ y_ : List Bool, y_ = (([] : List Bool)) := ⟨_, rfl⟩
 replace H : (r13_Do.l0 k a0 l1 y402 0) = some (r1, r2, r3, r4) := by first | (rw [hy402]; with_reducible exact H) | (have H2_ := (Option.bind_some _ _).symm.trans H; rw [hy402]; with_reducible exact H2_) | (have H2_ := (Option.bind_some _ _).symm.trans H; with_reducible exact H2_) | with_reducible exact H | (rw [hy402]; exact H) | exact H
 have Ny402 := xy hy402
 clear hy402
 have H' := xy H
 clear H
 go_enter Tryz.func47, Tryz.ntmps47
 go_wp2_with (first | ((with_reducible refine gate_dst (N := 4) rfl ?_); refine xq (N := 4) (cs := #[.bool false, .int .i64 0, .string (⟨#[]⟩ : ByteArray)]) (t := 24) ?_; intro gb401 hg w3 hbox hb; have BK401 := xy (hbox); have GW401 := xs w hg; have GE401 := xs w hg; replace HB := xy (below_step xb hb); clear hb hbox hg) | ((with_reducible refine gate_dst (N := 13) rfl ?_); refine Kd.R_lit Kd.bool _ 4 ?hg (N := 13) ?hd (xs := ([] : List Bool)) (inner := []) (ok := fun _ => True) (okp := fun _ => True) ?hr ?hp (fun _ hk => hk) trivial (Below.refl _ _) (Nat.le_refl _) (by simp) ?_; (case hd => rfl); (case hg => rfl); (case hr => exact xh); (case hp => exact (Reps.none _ _)); intro v403 w4 ho5 hb hg_ hnew_; clear hg_ hnew_; (first | rw [← Ny402.out] at ho5 | (simp only [Int.reduceToNat] at ho5; rw [← Ny402.out] at ho5)); have HO404 := xy (Kd.R_lower ho5 (below_size xb)); replace BK401 := xd BK401.out hb; replace HB := xy (below_step xb hb); clear hb ho5))
 go_loopg [6, 7] k (fun kq v6 v7 w' => ∃ (x6_1 : List Bool) (x7_1 : Int) (x402000_1 : Bool) (x402001_1 : Int) (x402002_1 : ByteArray), v7 = .int .i64 x7_1 ∧ Aside0 (r13_Do.l0 kq a0 l1 x6_1 x7_1 = some (r1, r2, r3, r4)) ∧ Aside0 (kq ≤ k) ∧ Aside0 (Kd.R Kd.bool 4 w' w.heap.size (fun _ => True) v6 x6_1) ∧ Aside0 (w'.heap[gb401]? = some (.cells #[.bool x402000_1, .int .i64 x402001_1, .string x402002_1] 24 (0, 0))) ∧ Aside0 (Below w.heap.size w w'))
 case atStart => exact ⟨(y402), (0), (false), (0), ((⟨#[]⟩ : ByteArray)), xg, H', ⟨Nat.le_refl _⟩, ⟨by (with_reducible repeat (first | apply Kd.R_alloc | apply Kd.R_drewN | apply Kd.R_drew)); exact HO404.out⟩, ⟨by (with_reducible repeat (first | refine blk_drewN ?_ _ | refine blk_drew ?_ | refine blk_alloc ?_ _)); exact BK401.out⟩, ⟨xb⟩⟩
 case round =>
  clear H'
  try clear c1
  try clear p2
  try clear c4
  obtain ⟨x6_1, x7_1, x402000_1, x402001_1, x402002_1, rfl, HA, HK1, HO_6, BK401, HB⟩ := hrel
  cases gk with
  | zero => exact absurd HA.out (by simp [r13_Do.l0])
  | succ k1 =>
   have H := HA.out
   clear HA
   simp only [r13_Do.l0] at H
   by_cases c6 : x7_1 < (l1.length : Int)
   ·rw [if_pos c6] at H
    have c6b0 : decide (x7_1 < (l1.length : Int)) = true := decide_eq_true c6
    clear c6
    by_cases c7 : 0 ≤ x7_1
    ·rw [if_pos c7] at H
     have c7b0 : decide (0 ≤ x7_1) = true := decide_eq_true c7
     clear c7
     replace H := xj H
     obtain ⟨t406, A80, H⟩ := H
     try dsimp only at H
     have A8 := xy A80
     clear A80
     by_cases c9 : t406 = true
     ·subst c9
      rw [if_pos rfl] at H
      by_cases c10 : x6_1.length < 140737488355328
      ·rw [if_pos c10] at H
       have LMc10 := xy c10
       clear c10
       obtain ⟨y408, hy408⟩ : ∃ y_ : List Bool, y_ = (x6_1 ++ [(rd_T24 l1 x7_1).f0]) := ⟨_, rfl⟩
       replace H : (r13_Do.l0 k1 a0 l1 y408 (wrap64 (x7_1 + 1))) = some (r1, r2, r3, r4) := by first | (rw [hy408]; with_reducible exact H) | (have H2_ := (Option.bind_some _ _).symm.trans H; rw [hy408]; with_reducible exact H2_) | (have H2_ := (Option.bind_some _ _).symm.trans H; with_reducible exact H2_) | with_reducible exact H | (rw [hy408]; exact H) | exact H
       have Ny408 := xy hy408
       clear hy408
       have H' := xy H
       clear H
       have p405 : 0 ≤ (x7_1 : Int) := xi
       have q405 : x7_1 < (l1.length : Int) := xi
       obtain ⟨ad405, e405, hx405_0, hx405_1, hx405_2⟩ := at_T24 HR1.out x7_1 p405 q405
       cases e405
       replace hx405_0 := (HB.out.cell (World.block_lt_of_cell? w _ hx405_0)).trans hx405_0
       replace hx405_1 := (HB.out.cell (World.block_lt_of_cell? w _ hx405_1)).trans hx405_1
       replace hx405_2 := (HB.out.cell (World.block_lt_of_cell? w _ hx405_2)).trans hx405_2
       replace p405 := eq_true p405
       replace q405 := eq_true q405
       go_wp2_with (first | ((with_reducible refine gate_callee (f := 54) rfl ?_); refine goesL_ (some 24) rfl rfl Tryz.func54 (by kernel_rfl) rfl #[.agg #[.bool ((rd_T24 l1 x7_1).f0), .int .i64 ((rd_T24 l1 x7_1).f1), .string ((rd_T24 l1 x7_1).f2)]] rfl xr ?_; (with_reducible refine (r13_Is.calls ((rd_T24 l1 x7_1).f0) ((rd_T24 l1 x7_1).f1) ((rd_T24 l1 x7_1).f2) true _ (Tabs.below hT xf) A8.out).mono ?_); rintro e w11 ⟨rfl, hb⟩; refine ⟨_, rfl, ?_⟩; replace HO_6 := xy (Kd.R_below (xo HO_6.out) hb); replace BK401 := xd BK401.out hb; replace HB := xy (below_step xb hb); (try clear hb); (try clear hb2); (try clear hk); (try clear hi); have p407 : 0 ≤ (x7_1 : Int) := xi; have q407 : x7_1 < (l1.length : Int) := xi; obtain ⟨ad407, e407, hx407_0, hx407_1, hx407_2⟩ := at_T24 HR1.out x7_1 p407 q407; obtain rfl : ad405 = ad407 := (by injection e407); replace hx407_0 := (HB.out.cell (World.block_lt_of_cell? w _ hx407_0)).trans hx407_0; replace hx407_1 := (HB.out.cell (World.block_lt_of_cell? w _ hx407_1)).trans hx407_1; replace hx407_2 := (HB.out.cell (World.block_lt_of_cell? w _ hx407_2)).trans hx407_2; replace p407 := eq_true p407; replace q407 := eq_true q407) | ((with_reducible refine gate_builtin (b := .append) (xs := #[.tmp 27, .tmp 33]) rfl ?_); at_builtin; refine Kd.R_append Kd.bool (w0 := w) w.heap.size rfl (.tmp 27) (.tmp 33) 97 4 (.bool false) 1 rfl Tryz.underlying97 info4 rfl (by decide) (by omega) u6 x6_1 ((rd_T24 l1 x7_1).f0) [.bool ((rd_T24 l1 x7_1).f0)] (fun _ => True) (fun _ => False) rfl rfl ?aP (fun _ hk => hk.elim) ?aF ?aO ?aB ?aS ?aL ?_; (case aP => exact rfl); (case aB => exact xb); (case aF => exact (fun _ _ => trivial)); (case aO => exact (xo HO_6.out)); (case aS => exact (below_size xb)); (case aL => have := LMc10.out; omega); intro v409 w12 ho hb hg hat; rw [← Ny408.out] at ho; replace BK401 := xy (blk_grown (g := gb401) (o := .cells #[.bool x402000_1, .int .i64 x402001_1, .string x402002_1] 24 (0, 0)) (xk BK401.out) hg (Kd.R_ne HO_6.out BK401.out (by decide))); replace HB := xy (hb); have HO410 := xy (ho); clear HO_6; clear ho hb hg hat))
       go_roundg k1
       case measure => have := HK1.out; omega
       case rel => exact ⟨(y408), (wrap64 (x7_1 + 1)), (x402000_1), (x402001_1), (x402002_1), xg, H', ⟨by have := HK1.out; omega⟩, ⟨by (with_reducible repeat (first | apply Kd.R_alloc | apply Kd.R_drewN | apply Kd.R_drew)); exact HO410.out⟩, ⟨by (with_reducible repeat (first | refine blk_drewN ?_ _ | refine blk_drew ?_ | refine blk_alloc ?_ _)); exact BK401.out⟩, ⟨xb⟩⟩
      ·rw [if_neg c10] at H
       exact absurd H (by simp)
     ·replace c9 := Bool.eq_false_iff.mpr c9
      subst c9
      rw [if_neg (show ¬ (false = true) by decide)] at H
      simp only [Option.some.injEq, Prod.mk.injEq] at H
      obtain ⟨rfl, rfl, rfl, rfl⟩ := H
      have p405 : 0 ≤ (x7_1 : Int) := xi
      have q405 : x7_1 < (l1.length : Int) := xi
      obtain ⟨ad405, e405, hx405_0, hx405_1, hx405_2⟩ := at_T24 HR1.out x7_1 p405 q405
      cases e405
      replace hx405_0 := (HB.out.cell (World.block_lt_of_cell? w _ hx405_0)).trans hx405_0
      replace hx405_1 := (HB.out.cell (World.block_lt_of_cell? w _ hx405_1)).trans hx405_1
      replace hx405_2 := (HB.out.cell (World.block_lt_of_cell? w _ hx405_2)).trans hx405_2
      replace p405 := eq_true p405
      replace q405 := eq_true q405
      go_wp2_with (((with_reducible refine gate_callee (f := 54) rfl ?_); refine goesL_ (some 24) rfl rfl Tryz.func54 (by kernel_rfl) rfl #[.agg #[.bool ((rd_T24 l1 x7_1).f0), .int .i64 ((rd_T24 l1 x7_1).f1), .string ((rd_T24 l1 x7_1).f2)]] rfl xr ?_; (with_reducible refine (r13_Is.calls ((rd_T24 l1 x7_1).f0) ((rd_T24 l1 x7_1).f1) ((rd_T24 l1 x7_1).f2) false _ (Tabs.below hT xf) A8.out).mono ?_); rintro e w13 ⟨rfl, hb⟩; refine ⟨_, rfl, ?_⟩; replace HO_6 := xy (Kd.R_below (xo HO_6.out) hb); replace BK401 := xd BK401.out hb; replace HB := xy (below_step xb hb); (try clear hb); (try clear hb2); (try clear hk); (try clear hi); have hcz14_0 : w13.cell? ⟨gb401, 0, none⟩ = some (.bool x402000_1) := (kc BK401.out 0).trans rfl; have hcz14_1 : w13.cell? ⟨gb401, 1, none⟩ = some (.int .i64 x402001_1) := (kc BK401.out 1).trans rfl; have hcz14_2 : w13.cell? ⟨gb401, 2, none⟩ = some (.string x402002_1) := (kc BK401.out 2).trans rfl; have hfz14_0 := kf BK401.out 0; have hfz14_1 := kf BK401.out 1; have hfz14_2 := kf BK401.out 2))
      refine bodyPost_ret (results_ct rfl _ _ gb401 24 #[.bool false, .int .i64 0, .string (⟨#[]⟩ : ByteArray)] (0, 0) _ rfl (kp BK401.out) Tryz.underlying24 rfl (by kernel_rfl)) rfl ?_
      exact ⟨xe, xb⟩
    ·rw [if_neg c7] at H
     exact absurd H (by simp)
   ·rw [if_neg c6] at H
    have c6b0 : decide (x7_1 < (l1.length : Int)) = false := decide_eq_false c6
    clear c6
    replace H := xj H
    obtain ⟨⟨t411, t412⟩, A150, H⟩ := H
    try dsimp only at H
    have A15 := xy A150
    clear A150
    by_cases c16 : t412 = 0
    ·rw [if_pos c16] at H
     have c16b0 : (t412 == 0) = true := beq_iff_eq.mpr c16
     have c16b1 : (t412 != 0) = false := bne_eq_false_iff_eq.mpr c16
     clear c16
     by_cases c17 : 0 < (l1.length : Int)
     ·rw [if_pos c17] at H
      have c17b0 : decide (0 < (l1.length : Int)) = true := decide_eq_true c17
      have c17b1 : decide (0 < l1.length) = true := decide_eq_true (by omega)
      clear c17
      have HC18 := xy H
      clear H
      obtain ⟨Ao19, co19, eo19⟩ := Kd.R_slice HO_6.out
      subst eo19
      go_upto_if 52 with (first | ((with_reducible refine gate_callee (f := 55) rfl ?_); refine goesL_ (some 38) rfl rfl Tryz.func55 (by kernel_rfl) rfl #[.int .i64 a0, .slice Ao19 x6_1.length co19] rfl xr ?_; (with_reducible refine (r13_Result.calls k1 a0 _ _ x6_1 t411 t412 _ (Tabs.below hT xf) ?side1 ?side2 A15.out).mono ?_); (case side1 => repeat (first | exact (Kd.R_reads' HO_6.out).2.2 | (with_reducible refine Kd.C_alloc ?_ _) | (with_reducible refine Kd.C_drewN ?_ _) | (with_reducible refine Kd.C_drew ?_))); (case side2 => exact (Kd.R_reads' HO_6.out).2.1); rintro e w' ⟨rfl, ⟨nd, rfl⟩⟩; refine ⟨_, rfl, ?_⟩; (try (rw [drewN_self wr]; generalize hq_ : World.drewN wr _ = wr; have n0_ : Aside0 (Kd.R Kd.bool 4 wr w.heap.size (fun _ => True) (.slice Ao19 x6_1.length co19) x6_1) := ⟨by rw [← hq_]; exact (xo HO_6.out)⟩; have n1_ : Aside0 (wr.heap[gb401]? = some (.cells #[.bool x402000_1, .int .i64 x402001_1, .string x402002_1] 24 (0, 0))) := ⟨by rw [← hq_]; exact (xk BK401.out)⟩; have n2_ : Aside0 (Below w.heap.size w wr) := ⟨by rw [← hq_]; exact xb⟩; clear HO_6 BK401 HB hq_; have HO_6 := n0_; have BK401 := n1_; have HB := n2_; clear n0_ n1_ n2_)); have p413 : 0 ≤ (0 : Int) := (by omega); have q413 : 0 < (l1.length : Int) := xi; obtain ⟨ad413, e413, hx413_0, hx413_1, hx413_2⟩ := at_T24 HR1.out 0 p413 q413; cases e413; have qi413 : (0 < l1.length) = True := eq_true (by omega); (try rw [show ((0 : Int)).toNat = 0 from rfl] at hx413_0); (try rw [show 0 * 3 = 0 from rfl] at hx413_0); (try rw [Addr.add_zero'] at hx413_0); (try rw [show ((0 : Int)).toNat = 0 from rfl] at hx413_1); (try rw [show 0 * 3 = 0 from rfl] at hx413_1); (try rw [Addr.add_zero'] at hx413_1); (try rw [show ((0 : Int)).toNat = 0 from rfl] at hx413_2); (try rw [show 0 * 3 = 0 from rfl] at hx413_2); (try rw [Addr.add_zero'] at hx413_2); replace hx413_0 := (HB.out.cell (World.block_lt_of_cell? w _ hx413_0)).trans hx413_0; replace hx413_1 := (HB.out.cell (World.block_lt_of_cell? w _ hx413_1)).trans hx413_1; replace hx413_2 := (HB.out.cell (World.block_lt_of_cell? w _ hx413_2)).trans hx413_2; replace p413 := eq_true p413; replace q413 := eq_true q413) | ((with_reducible refine gate_dst (N := 10) rfl ?_); refine xq (N := 10) (cs := #[.bool false, .int .i64 0, .string (⟨#[]⟩ : ByteArray)]) (t := 24) ?_; intro gb414 hg w20 hbox hb; replace HO_6 := xy (Kd.R_below (xo HO_6.out) hb); have BK414 := xy (hbox); have GW414 := xs w hg; have GE414 := xs w hg; replace HB := xy (below_step xb hb); have NB401_414 := xn hg BK401.out; have NB414_401 := xp hg BK401.out; replace BK401 := xd BK401.out hb; clear hb hbox hg; have hnb21 := NB414_401.out; have hnc21 := NB401_414.out; have hcz22_0 : w20.cell? ⟨gb414, 0, none⟩ = some (.bool false) := (kc BK414.out 0).trans rfl; have hcz22_1 : w20.cell? ⟨gb414, 1, none⟩ = some (.int .i64 0) := (kc BK414.out 1).trans rfl; have hcz22_2 : w20.cell? ⟨gb414, 2, none⟩ = some (.string (⟨#[]⟩ : ByteArray)) := (kc BK414.out 2).trans rfl; have hfz22_0 := kf BK414.out 0; have hfz22_1 := kf BK414.out 1; have hfz22_2 := kf BK414.out 2) | ((with_reducible refine gate_dst (N := 11) rfl ?_); refine xq (N := 11) (cs := #[.bool false, .int .i64 0, .string (⟨#[]⟩ : ByteArray)]) (t := 24) ?_; intro gb415 hg w23 hbox hb; replace HO_6 := xy (Kd.R_below (by (with_reducible repeat (first | apply Kd.R_alloc | apply Kd.R_drewN | apply Kd.R_drew)); exact (Kd.R_mono (Kd.R_far (p := ⟨gb414, 2, none⟩) (Kd.R_far (p := ⟨gb414, 1, none⟩) (Kd.R_far (p := ⟨gb414, 0, none⟩) (Kd.R_types HO_6.out BK414.out (by decide)) (fun _ hk => hk.2) (.bool ((rd_T24 l1 0).f0))) (fun _ hk => hk.2) (.int .i64 ((rd_T24 l1 0).f1))) (fun _ hk => hk.2) (.string ((rd_T24 l1 0).f2))) (fun _ h_ => h_.1))) hb); have BK415 := xy (hbox); have GW415 := xs w hg; have GE415 := xs w hg; replace HB := xy (below_step xb hb); have NB401_415 := xy ((by rw [hg]; exact Nat.ne_of_lt (blk_lt (g := gb401) (o := .cells #[.bool x402000_1, .int .i64 x402001_1, .string x402002_1] 24 (0, 0)) (by repeat (first | (with_reducible first | exact BK401.out | refine blk_drewN ?_ _ | refine blk_drew ?_ | refine blk_alloc ?_ _) | refine blk_far ?_ NB401_414.out _ | exact BK401.out))) : gb401 ≠ gb415)); have NB415_401 := xy ((by rw [hg]; exact Nat.ne_of_gt (blk_lt (g := gb401) (o := .cells #[.bool x402000_1, .int .i64 x402001_1, .string x402002_1] 24 (0, 0)) (by repeat (first | (with_reducible first | exact BK401.out | refine blk_drewN ?_ _ | refine blk_drew ?_ | refine blk_alloc ?_ _) | refine blk_far ?_ NB401_414.out _ | exact BK401.out))) : gb415 ≠ gb401)); replace BK401 := xy (blk_below (g := gb401) (o := .cells #[.bool x402000_1, .int .i64 x402001_1, .string x402002_1] 24 (0, 0)) (by repeat (first | (with_reducible first | exact BK401.out | refine blk_drewN ?_ _ | refine blk_drew ?_ | refine blk_alloc ?_ _) | refine blk_far ?_ NB401_414.out _ | exact BK401.out)) hb); have NB414_415 := xy ((by rw [hg]; exact Nat.ne_of_lt (blk_lt (g := gb414) (o := .cells #[.bool ((rd_T24 l1 0).f0), .int .i64 ((rd_T24 l1 0).f1), .string ((rd_T24 l1 0).f2)] 24 (0, 0)) (kp BK414.out)) : gb414 ≠ gb415)); have NB415_414 := xy ((by rw [hg]; exact Nat.ne_of_gt (blk_lt (g := gb414) (o := .cells #[.bool ((rd_T24 l1 0).f0), .int .i64 ((rd_T24 l1 0).f1), .string ((rd_T24 l1 0).f2)] 24 (0, 0)) (kp BK414.out)) : gb415 ≠ gb414)); replace BK414 := xy (blk_below (g := gb414) (o := .cells #[.bool ((rd_T24 l1 0).f0), .int .i64 ((rd_T24 l1 0).f1), .string ((rd_T24 l1 0).f2)] 24 (0, 0)) (kp BK414.out) hb); clear hb hbox hg) | ((with_reducible refine gate_dst (N := 12) rfl ?_); refine xq (N := 12) (cs := #[.bool false, .int .i64 0, .string (⟨#[]⟩ : ByteArray)]) (t := 24) ?_; intro gb416 hg w24 hbox hb; replace HO_6 := xy (Kd.R_below (xo HO_6.out) hb); have BK416 := xy (hbox); have GW416 := xs w hg; have GE416 := xs w hg; replace HB := xy (below_step xb hb); have NB401_416 := xn hg BK401.out; have NB416_401 := xp hg BK401.out; replace BK401 := xd BK401.out hb; have NB414_416 := xn hg BK414.out; have NB416_414 := xp hg BK414.out; replace BK414 := xd BK414.out hb; have NB415_416 := xn hg BK415.out; have NB416_415 := xp hg BK415.out; replace BK415 := xd BK415.out hb; clear hb hbox hg; have hnb25 := NB415_401.out; have hnc25 := NB401_415.out; have hnb26 := NB415_414.out; have hnc26 := NB414_415.out; have hnb27 := NB415_416.out; have hnc27 := NB416_415.out; have hcz28_0 : w24.cell? ⟨gb415, 0, none⟩ = some (.bool false) := (kc BK415.out 0).trans rfl; have hcz28_1 : w24.cell? ⟨gb415, 1, none⟩ = some (.int .i64 0) := (kc BK415.out 1).trans rfl; have hcz28_2 : w24.cell? ⟨gb415, 2, none⟩ = some (.string (⟨#[]⟩ : ByteArray)) := (kc BK415.out 2).trans rfl; have hfz28_0 := kf BK415.out 0; have hfz28_1 := kf BK415.out 1; have hfz28_2 := kf BK415.out 2; have hnb29 := NB416_401.out; have hnc29 := NB401_416.out; have hnb30 := NB416_414.out; have hnc30 := NB414_416.out; have hcz31_0 : w24.cell? ⟨gb416, 0, none⟩ = some (.bool false) := (kc BK416.out 0).trans rfl; have hcz31_1 : w24.cell? ⟨gb416, 1, none⟩ = some (.int .i64 0) := (kc BK416.out 1).trans rfl; have hcz31_2 : w24.cell? ⟨gb416, 2, none⟩ = some (.string (⟨#[]⟩ : ByteArray)) := (kc BK416.out 2).trans rfl; have hfz31_0 := kf BK416.out 0; have hfz31_1 := kf BK416.out 1; have hfz31_2 := kf BK416.out 2))
      (try simp only [Act.put, List.setIfInBounds_toArray, List.set_cons_zero, List.set_cons_succ])
      go_cut [] (fun wc => ∃ (kq : Nat) (x416000_17 : Bool) (x416001_17 : Int) (x416002_17 : ByteArray), Aside0 (r13_Do.j1 kq a0 l1 ((rd_T24 l1 0).f0) ((rd_T24 l1 0).f1) ((rd_T24 l1 0).f2) x416000_17 x416001_17 x416002_17 false 0 (⟨#[]⟩ : ByteArray) = some (r1, r2, r3, r4)) ∧ Aside0 (kq ≤ k1) ∧ Aside0 (wc.heap[gb401]? = some (.cells #[.bool x402000_1, .int .i64 x402001_1, .string x402002_1] 24 (0, 0))) ∧ Aside0 (wc.heap[gb414]? = some (.cells #[.bool ((rd_T24 l1 0).f0), .int .i64 ((rd_T24 l1 0).f1), .string ((rd_T24 l1 0).f2)] 24 (0, 0))) ∧ Aside0 (wc.heap[gb415]? = some (.cells #[.bool x416000_17, .int .i64 x416001_17, .string x416002_17] 24 (0, 0))) ∧ Aside0 (wc.heap[gb416]? = some (.cells #[.bool false, .int .i64 0, .string (⟨#[]⟩ : ByteArray)] 24 (0, 0))) ∧ Aside0 (Below w.heap.size w wc))
      case first =>
       have H := HC18.out
       clear HC18
       by_cases c32 : (l1.length : Int) > 1
       ·rw [if_pos c32] at H
        have c32b0 : decide (1 < (l1.length : Int)) = true := decide_eq_true c32
        have c32b1 : decide (1 < l1.length) = true := decide_eq_true (by omega)
        clear c32
        (first | rw [c32b0] | (simp only [i64_w, i32_w]; rw [c32b0]) | skip)
        by_cases c33 : 1 < (l1.length : Int)
        ·rw [if_pos c33] at H
         have c33b0 : decide (1 < (l1.length : Int)) = true := decide_eq_true c33
         have c33b1 : decide (1 < l1.length) = true := decide_eq_true (by omega)
         clear c33
         have H' := xy H
         clear H
         have p417 : 0 ≤ (1 : Int) := (by omega)
         have q417 : 1 < (l1.length : Int) := xi
         obtain ⟨ad417, e417, hx417_0, hx417_1, hx417_2⟩ := at_T24 HR1.out 1 p417 q417
         obtain rfl : ad413 = ad417 := (by injection e417)
         (try simp only [show (1 : Int).toNat = 1 from rfl, Nat.reduceMul, Nat.reduceEqDiff, Go.Addr.add, ↓reduceIte] at hx417_0)
         (try simp only [show (1 : Int).toNat = 1 from rfl, Nat.reduceMul, Nat.reduceEqDiff, Go.Addr.add, ↓reduceIte] at hx417_1)
         (try simp only [show (1 : Int).toNat = 1 from rfl, Nat.reduceMul, Nat.reduceEqDiff, Go.Addr.add, ↓reduceIte] at hx417_2)
         have qi417 : (1 < l1.length) = True := eq_true (by omega)
         (try rw [show ((1 : Int)).toNat = 1 from rfl] at hx417_0)
         (try rw [show 1 * 3 = 3 from rfl] at hx417_0)
         (try rw [show ((1 : Int)).toNat = 1 from rfl] at hx417_1)
         (try rw [show 1 * 3 = 3 from rfl] at hx417_1)
         (try rw [show ((1 : Int)).toNat = 1 from rfl] at hx417_2)
         (try rw [show 1 * 3 = 3 from rfl] at hx417_2)
         have hn417_0 : ad413.block ≠ gb415 := Nat.ne_of_lt (Nat.lt_of_lt_of_le (by have := World.block_lt_of_cell? _ _ hx417_0; first | rwa [add_block] at this | exact this) GW415.out)
         have hn417_1 : ad413.block ≠ gb415 := Nat.ne_of_lt (Nat.lt_of_lt_of_le (by have := World.block_lt_of_cell? _ _ hx417_0; first | rwa [add_block] at this | exact this) GW415.out)
         have hn417_2 : ad413.block ≠ gb415 := Nat.ne_of_lt (Nat.lt_of_lt_of_le (by have := World.block_lt_of_cell? _ _ hx417_0; first | rwa [add_block] at this | exact this) GW415.out)
         have hn417_3 : ad413.block ≠ gb416 := Nat.ne_of_lt (Nat.lt_of_lt_of_le (by have := World.block_lt_of_cell? _ _ hx417_0; first | rwa [add_block] at this | exact this) GW416.out)
         have hn417_4 : ad413.block ≠ gb416 := Nat.ne_of_lt (Nat.lt_of_lt_of_le (by have := World.block_lt_of_cell? _ _ hx417_0; first | rwa [add_block] at this | exact this) GW416.out)
         have hn417_5 : ad413.block ≠ gb416 := Nat.ne_of_lt (Nat.lt_of_lt_of_le (by have := World.block_lt_of_cell? _ _ hx417_0; first | rwa [add_block] at this | exact this) GW416.out)
         replace hx417_0 := (HB.out.cell (World.block_lt_of_cell? w _ hx417_0)).trans hx417_0
         replace hx417_1 := (HB.out.cell (World.block_lt_of_cell? w _ hx417_1)).trans hx417_1
         replace hx417_2 := (HB.out.cell (World.block_lt_of_cell? w _ hx417_2)).trans hx417_2
         replace hx417_0 := (cell_far (p := ⟨gb415, 0, none⟩) (by first | (rw [add_block]; exact hn417_0) | (show (Addr.add _ _).block ≠ _; rw [add_block]; exact hn417_0) | exact hn417_0) (.bool false)).trans hx417_0
         replace hx417_1 := (cell_far (p := ⟨gb415, 0, none⟩) (by first | (rw [add_block]; exact hn417_0) | (show (Addr.add _ _).block ≠ _; rw [add_block]; exact hn417_0) | exact hn417_0) (.bool false)).trans hx417_1
         replace hx417_2 := (cell_far (p := ⟨gb415, 0, none⟩) (by first | (rw [add_block]; exact hn417_0) | (show (Addr.add _ _).block ≠ _; rw [add_block]; exact hn417_0) | exact hn417_0) (.bool false)).trans hx417_2
         replace hx417_0 := (cell_far (p := ⟨gb415, 1, none⟩) (by first | (rw [add_block]; exact hn417_1) | (show (Addr.add _ _).block ≠ _; rw [add_block]; exact hn417_1) | exact hn417_1) (.int .i64 0)).trans hx417_0
         replace hx417_1 := (cell_far (p := ⟨gb415, 1, none⟩) (by first | (rw [add_block]; exact hn417_1) | (show (Addr.add _ _).block ≠ _; rw [add_block]; exact hn417_1) | exact hn417_1) (.int .i64 0)).trans hx417_1
         replace hx417_2 := (cell_far (p := ⟨gb415, 1, none⟩) (by first | (rw [add_block]; exact hn417_1) | (show (Addr.add _ _).block ≠ _; rw [add_block]; exact hn417_1) | exact hn417_1) (.int .i64 0)).trans hx417_2
         replace hx417_0 := (cell_far (p := ⟨gb415, 2, none⟩) (by first | (rw [add_block]; exact hn417_2) | (show (Addr.add _ _).block ≠ _; rw [add_block]; exact hn417_2) | exact hn417_2) (.string (⟨#[]⟩ : ByteArray))).trans hx417_0
         replace hx417_1 := (cell_far (p := ⟨gb415, 2, none⟩) (by first | (rw [add_block]; exact hn417_2) | (show (Addr.add _ _).block ≠ _; rw [add_block]; exact hn417_2) | exact hn417_2) (.string (⟨#[]⟩ : ByteArray))).trans hx417_1
         replace hx417_2 := (cell_far (p := ⟨gb415, 2, none⟩) (by first | (rw [add_block]; exact hn417_2) | (show (Addr.add _ _).block ≠ _; rw [add_block]; exact hn417_2) | exact hn417_2) (.string (⟨#[]⟩ : ByteArray))).trans hx417_2
         replace hx417_0 := (cell_far (p := ⟨gb416, 0, none⟩) (by first | (rw [add_block]; exact hn417_3) | (show (Addr.add _ _).block ≠ _; rw [add_block]; exact hn417_3) | exact hn417_3) (.bool false)).trans hx417_0
         replace hx417_1 := (cell_far (p := ⟨gb416, 0, none⟩) (by first | (rw [add_block]; exact hn417_3) | (show (Addr.add _ _).block ≠ _; rw [add_block]; exact hn417_3) | exact hn417_3) (.bool false)).trans hx417_1
         replace hx417_2 := (cell_far (p := ⟨gb416, 0, none⟩) (by first | (rw [add_block]; exact hn417_3) | (show (Addr.add _ _).block ≠ _; rw [add_block]; exact hn417_3) | exact hn417_3) (.bool false)).trans hx417_2
         replace hx417_0 := (cell_far (p := ⟨gb416, 1, none⟩) (by first | (rw [add_block]; exact hn417_4) | (show (Addr.add _ _).block ≠ _; rw [add_block]; exact hn417_4) | exact hn417_4) (.int .i64 0)).trans hx417_0
         replace hx417_1 := (cell_far (p := ⟨gb416, 1, none⟩) (by first | (rw [add_block]; exact hn417_4) | (show (Addr.add _ _).block ≠ _; rw [add_block]; exact hn417_4) | exact hn417_4) (.int .i64 0)).trans hx417_1
         replace hx417_2 := (cell_far (p := ⟨gb416, 1, none⟩) (by first | (rw [add_block]; exact hn417_4) | (show (Addr.add _ _).block ≠ _; rw [add_block]; exact hn417_4) | exact hn417_4) (.int .i64 0)).trans hx417_2
         replace hx417_0 := (cell_far (p := ⟨gb416, 2, none⟩) (by first | (rw [add_block]; exact hn417_5) | (show (Addr.add _ _).block ≠ _; rw [add_block]; exact hn417_5) | exact hn417_5) (.string (⟨#[]⟩ : ByteArray))).trans hx417_0
         replace hx417_1 := (cell_far (p := ⟨gb416, 2, none⟩) (by first | (rw [add_block]; exact hn417_5) | (show (Addr.add _ _).block ≠ _; rw [add_block]; exact hn417_5) | exact hn417_5) (.string (⟨#[]⟩ : ByteArray))).trans hx417_1
         replace hx417_2 := (cell_far (p := ⟨gb416, 2, none⟩) (by first | (rw [add_block]; exact hn417_5) | (show (Addr.add _ _).block ≠ _; rw [add_block]; exact hn417_5) | exact hn417_5) (.string (⟨#[]⟩ : ByteArray))).trans hx417_2
         clear hn417_0
         clear hn417_1
         clear hn417_2
         clear hn417_3
         clear hn417_4
         clear hn417_5
         replace p417 := eq_true p417
         replace q417 := eq_true q417
         have hnb34 := NB415_401.out
         have hnc34 := NB401_415.out
         have hnb35 := NB415_414.out
         have hnc35 := NB414_415.out
         have hnb36 := NB415_416.out
         have hnc36 := NB416_415.out
         have hcz37_0 : w24.cell? ⟨gb415, 0, none⟩ = some (.bool false) := (kc BK415.out 0).trans rfl
         have hcz37_1 : w24.cell? ⟨gb415, 1, none⟩ = some (.int .i64 0) := (kc BK415.out 1).trans rfl
         have hcz37_2 : w24.cell? ⟨gb415, 2, none⟩ = some (.string (⟨#[]⟩ : ByteArray)) := (kc BK415.out 2).trans rfl
         have hfz37_0 := kf BK415.out 0
         have hfz37_1 := kf BK415.out 1
         have hfz37_2 := kf BK415.out 2
         go_wp2
         go_meet
         case rel => exact ⟨_, ((rd_T24 l1 1).f0), ((rd_T24 l1 1).f1), ((rd_T24 l1 1).f2), H', ⟨by have := HK1.out; first | omega | exact Nat.le_refl _⟩, ⟨by repeat (first | (with_reducible first | exact BK401.out | refine blk_drewN ?_ _ | refine blk_drew ?_ | refine blk_alloc ?_ _) | refine blk_far ?_ NB401_415.out _ | refine blk_far ?_ NB401_416.out _ | exact BK401.out)⟩, ⟨by repeat (first | (with_reducible first | exact BK414.out | refine blk_drewN ?_ _ | refine blk_drew ?_ | refine blk_alloc ?_ _) | refine blk_far ?_ NB414_415.out _ | refine blk_far ?_ NB414_416.out _ | exact BK414.out)⟩, ⟨by (with_reducible repeat (first | refine blk_drewN ?_ _ | refine blk_drew ?_ | refine blk_alloc ?_ _)); refine blk_put (cs := #[.bool ((rd_T24 l1 1).f0), .int .i64 ((rd_T24 l1 1).f1), .string (⟨#[]⟩ : ByteArray)]) ?_ 2 _ rfl; (with_reducible repeat (first | refine blk_drewN ?_ _ | refine blk_drew ?_ | refine blk_alloc ?_ _)); refine blk_put (cs := #[.bool ((rd_T24 l1 1).f0), .int .i64 0, .string (⟨#[]⟩ : ByteArray)]) ?_ 1 _ rfl; (with_reducible repeat (first | refine blk_drewN ?_ _ | refine blk_drew ?_ | refine blk_alloc ?_ _)); refine blk_put (cs := #[.bool false, .int .i64 0, .string (⟨#[]⟩ : ByteArray)]) ?_ 0 _ rfl; (with_reducible repeat (first | refine blk_drewN ?_ _ | refine blk_drew ?_ | refine blk_alloc ?_ _)); refine blk_far ?_ NB415_416.out _; (with_reducible repeat (first | refine blk_drewN ?_ _ | refine blk_drew ?_ | refine blk_alloc ?_ _)); refine blk_far ?_ NB415_416.out _; (with_reducible repeat (first | refine blk_drewN ?_ _ | refine blk_drew ?_ | refine blk_alloc ?_ _)); refine blk_far ?_ NB415_416.out _; (with_reducible repeat (first | refine blk_drewN ?_ _ | refine blk_drew ?_ | refine blk_alloc ?_ _)); refine blk_put (cs := #[.bool false, .int .i64 0, .string (⟨#[]⟩ : ByteArray)]) ?_ 2 _ rfl; (with_reducible repeat (first | refine blk_drewN ?_ _ | refine blk_drew ?_ | refine blk_alloc ?_ _)); refine blk_put (cs := #[.bool false, .int .i64 0, .string (⟨#[]⟩ : ByteArray)]) ?_ 1 _ rfl; (with_reducible repeat (first | refine blk_drewN ?_ _ | refine blk_drew ?_ | refine blk_alloc ?_ _)); refine blk_put (cs := #[.bool false, .int .i64 0, .string (⟨#[]⟩ : ByteArray)]) ?_ 0 _ rfl; (with_reducible repeat (first | refine blk_drewN ?_ _ | refine blk_drew ?_ | refine blk_alloc ?_ _)); exact BK415.out⟩, ⟨by (with_reducible repeat (first | refine blk_drewN ?_ _ | refine blk_drew ?_ | refine blk_alloc ?_ _)); refine blk_far ?_ NB416_415.out _; (with_reducible repeat (first | refine blk_drewN ?_ _ | refine blk_drew ?_ | refine blk_alloc ?_ _)); refine blk_far ?_ NB416_415.out _; (with_reducible repeat (first | refine blk_drewN ?_ _ | refine blk_drew ?_ | refine blk_alloc ?_ _)); refine blk_far ?_ NB416_415.out _; (with_reducible repeat (first | refine blk_drewN ?_ _ | refine blk_drew ?_ | refine blk_alloc ?_ _)); refine blk_put (cs := #[.bool false, .int .i64 0, .string (⟨#[]⟩ : ByteArray)]) ?_ 2 _ rfl; (with_reducible repeat (first | refine blk_drewN ?_ _ | refine blk_drew ?_ | refine blk_alloc ?_ _)); refine blk_put (cs := #[.bool false, .int .i64 0, .string (⟨#[]⟩ : ByteArray)]) ?_ 1 _ rfl; (with_reducible repeat (first | refine blk_drewN ?_ _ | refine blk_drew ?_ | refine blk_alloc ?_ _)); refine blk_put (cs := #[.bool false, .int .i64 0, .string (⟨#[]⟩ : ByteArray)]) ?_ 0 _ rfl; (with_reducible repeat (first | refine blk_drewN ?_ _ | refine blk_drew ?_ | refine blk_alloc ?_ _)); refine blk_far ?_ NB416_415.out _; (with_reducible repeat (first | refine blk_drewN ?_ _ | refine blk_drew ?_ | refine blk_alloc ?_ _)); refine blk_far ?_ NB416_415.out _; (with_reducible repeat (first | refine blk_drewN ?_ _ | refine blk_drew ?_ | refine blk_alloc ?_ _)); refine blk_far ?_ NB416_415.out _; (with_reducible repeat (first | refine blk_drewN ?_ _ | refine blk_drew ?_ | refine blk_alloc ?_ _)); exact BK416.out⟩, ⟨xb⟩⟩
        ·rw [if_neg c33] at H
         exact absurd H (by simp)
       ·rw [if_neg c32] at H
        have c32b0 : decide (1 < (l1.length : Int)) = false := decide_eq_false c32
        have c32b1 : decide (1 < l1.length) = false := decide_eq_false (by omega)
        clear c32
        (first | rw [c32b0] | (simp only [i64_w, i32_w]; rw [c32b0]) | skip)
        have H' := xy H
        clear H
        go_wp2
        go_meet
        case rel => exact ⟨_, (false), (0), ((⟨#[]⟩ : ByteArray)), H', ⟨by have := HK1.out; first | omega | exact Nat.le_refl _⟩, ⟨by repeat (first | (with_reducible first | exact BK401.out | refine blk_drewN ?_ _ | refine blk_drew ?_ | refine blk_alloc ?_ _) | refine blk_far ?_ NB401_416.out _ | refine blk_far ?_ NB401_415.out _ | exact BK401.out)⟩, ⟨by repeat (first | (with_reducible first | exact BK414.out | refine blk_drewN ?_ _ | refine blk_drew ?_ | refine blk_alloc ?_ _) | refine blk_far ?_ NB414_416.out _ | refine blk_far ?_ NB414_415.out _ | exact BK414.out)⟩, ⟨by (with_reducible repeat (first | refine blk_drewN ?_ _ | refine blk_drew ?_ | refine blk_alloc ?_ _)); refine blk_far ?_ NB415_416.out _; (with_reducible repeat (first | refine blk_drewN ?_ _ | refine blk_drew ?_ | refine blk_alloc ?_ _)); refine blk_far ?_ NB415_416.out _; (with_reducible repeat (first | refine blk_drewN ?_ _ | refine blk_drew ?_ | refine blk_alloc ?_ _)); refine blk_far ?_ NB415_416.out _; (with_reducible repeat (first | refine blk_drewN ?_ _ | refine blk_drew ?_ | refine blk_alloc ?_ _)); refine blk_put (cs := #[.bool false, .int .i64 0, .string (⟨#[]⟩ : ByteArray)]) ?_ 2 _ rfl; (with_reducible repeat (first | refine blk_drewN ?_ _ | refine blk_drew ?_ | refine blk_alloc ?_ _)); refine blk_put (cs := #[.bool false, .int .i64 0, .string (⟨#[]⟩ : ByteArray)]) ?_ 1 _ rfl; (with_reducible repeat (first | refine blk_drewN ?_ _ | refine blk_drew ?_ | refine blk_alloc ?_ _)); refine blk_put (cs := #[.bool false, .int .i64 0, .string (⟨#[]⟩ : ByteArray)]) ?_ 0 _ rfl; (with_reducible repeat (first | refine blk_drewN ?_ _ | refine blk_drew ?_ | refine blk_alloc ?_ _)); exact BK415.out⟩, ⟨by (with_reducible repeat (first | refine blk_drewN ?_ _ | refine blk_drew ?_ | refine blk_alloc ?_ _)); refine blk_put (cs := #[.bool false, .int .i64 0, .string (⟨#[]⟩ : ByteArray)]) ?_ 2 _ rfl; (with_reducible repeat (first | refine blk_drewN ?_ _ | refine blk_drew ?_ | refine blk_alloc ?_ _)); refine blk_put (cs := #[.bool false, .int .i64 0, .string (⟨#[]⟩ : ByteArray)]) ?_ 1 _ rfl; (with_reducible repeat (first | refine blk_drewN ?_ _ | refine blk_drew ?_ | refine blk_alloc ?_ _)); refine blk_put (cs := #[.bool false, .int .i64 0, .string (⟨#[]⟩ : ByteArray)]) ?_ 0 _ rfl; (with_reducible repeat (first | refine blk_drewN ?_ _ | refine blk_drew ?_ | refine blk_alloc ?_ _)); refine blk_far ?_ NB416_415.out _; (with_reducible repeat (first | refine blk_drewN ?_ _ | refine blk_drew ?_ | refine blk_alloc ?_ _)); refine blk_far ?_ NB416_415.out _; (with_reducible repeat (first | refine blk_drewN ?_ _ | refine blk_drew ?_ | refine blk_alloc ?_ _)); refine blk_far ?_ NB416_415.out _; (with_reducible repeat (first | refine blk_drewN ?_ _ | refine blk_drew ?_ | refine blk_alloc ?_ _)); exact BK416.out⟩, ⟨xb⟩⟩
      case rest =>
       clear HC18
       try clear c1
       try clear c2
       try clear p2
       try clear c3
       try clear c4
       try clear p4
       try clear q4
       try clear hx4
       try clear qi4
       try clear c5
       try clear c6
       try clear c6b0
       try clear p6
       try clear c7
       try clear c7b0
       try clear c9
       try clear c10
       try clear c16
       try clear c16b0
       try clear c16b1
       try clear c17
       try clear c17b0
       try clear c17b1
       try clear c21
       try clear c25
       try clear c26
       try clear c27
       try clear c29
       try clear c30
       try clear c32
       try clear c32b0
       try clear c32b1
       try clear c33
       try clear c33b0
       try clear c33b1
       try clear c34
       try clear c35
       try clear c36
       try clear hcz14_0
       try clear hcz14_1
       try clear hcz14_2
       try clear hcz22_0
       try clear hcz22_1
       try clear hcz22_2
       try clear hcz28_0
       try clear hcz28_1
       try clear hcz28_2
       try clear hcz31_0
       try clear hcz31_1
       try clear hcz31_2
       try clear hcz37_0
       try clear hcz37_1
       try clear hcz37_2
       try clear hfz14_0
       try clear hfz14_1
       try clear hfz14_2
       try clear hfz22_0
       try clear hfz22_1
       try clear hfz22_2
       try clear hfz28_0
       try clear hfz28_1
       try clear hfz28_2
       try clear hfz31_0
       try clear hfz31_1
       try clear hfz31_2
       try clear hfz37_0
       try clear hfz37_1
       try clear hfz37_2
       try clear hx405_0
       try clear hx405_1
       try clear hx405_2
       try clear hx407_0
       try clear hx407_1
       try clear hx407_2
       try clear hx413_0
       try clear hx413_1
       try clear hx413_2
       try clear hx417_0
       try clear hx417_1
       try clear hx417_2
       try clear p2
       try clear p405
       try clear p407
       try clear p413
       try clear p417
       try clear q405
       try clear q407
       try clear q413
       try clear q417
       obtain ⟨kq, x416000_17, x416001_17, x416002_17, HA, HJ17, BK401, BK414, BK415, BK416, HB⟩ := hcut
       cases kq with
       | zero => exact absurd HA.out (by simp [r13_Do.j1])
       | succ kj17 =>
        have H := HA.out
        clear HA
        simp only [r13_Do.j1] at H
        have HC38 := xy H
        clear H
        go_upto_if 58 with (fail)
        go_cut [] (fun wc => ∃ (kq : Nat) (x417000_37 : Bool) (x417001_37 : Int) (x417002_37 : ByteArray), Aside0 (r13_Do.j2 kq a0 ((rd_T24 l1 0).f0) ((rd_T24 l1 0).f1) ((rd_T24 l1 0).f2) x416000_17 x416001_17 x416002_17 x417000_37 x417001_37 x417002_37 = some (r1, r2, r3, r4)) ∧ Aside0 (kq ≤ kj17) ∧ Aside0 (wc.heap[gb401]? = some (.cells #[.bool x402000_1, .int .i64 x402001_1, .string x402002_1] 24 (0, 0))) ∧ Aside0 (wc.heap[gb414]? = some (.cells #[.bool ((rd_T24 l1 0).f0), .int .i64 ((rd_T24 l1 0).f1), .string ((rd_T24 l1 0).f2)] 24 (0, 0))) ∧ Aside0 (wc.heap[gb415]? = some (.cells #[.bool x416000_17, .int .i64 x416001_17, .string x416002_17] 24 (0, 0))) ∧ Aside0 (wc.heap[gb416]? = some (.cells #[.bool x417000_37, .int .i64 x417001_37, .string x417002_37] 24 (0, 0))) ∧ Aside0 (Below w.heap.size w wc))
        case first =>
         have H := HC38.out
         clear HC38
         by_cases c39 : (l1.length : Int) > 2
         ·rw [if_pos c39] at H
          have c39b0 : decide (2 < (l1.length : Int)) = true := decide_eq_true c39
          have c39b1 : decide (2 < l1.length) = true := decide_eq_true (by omega)
          clear c39
          (first | rw [c39b0] | (simp only [i64_w, i32_w]; rw [c39b0]) | skip)
          by_cases c40 : 2 < (l1.length : Int)
          ·rw [if_pos c40] at H
           have c40b0 : decide (2 < (l1.length : Int)) = true := decide_eq_true c40
           have c40b1 : decide (2 < l1.length) = true := decide_eq_true (by omega)
           clear c40
           have H' := xy H
           clear H
           have p418 : 0 ≤ (2 : Int) := (by omega)
           have q418 : 2 < (l1.length : Int) := xi
           obtain ⟨ad418, e418, hx418_0, hx418_1, hx418_2⟩ := at_T24 HR1.out 2 p418 q418
           obtain rfl : ad413 = ad418 := (by injection e418)
           (try simp only [show (2 : Int).toNat = 2 from rfl, Nat.reduceMul, Nat.reduceEqDiff, Go.Addr.add, ↓reduceIte] at hx418_0)
           (try simp only [show (2 : Int).toNat = 2 from rfl, Nat.reduceMul, Nat.reduceEqDiff, Go.Addr.add, ↓reduceIte] at hx418_1)
           (try simp only [show (2 : Int).toNat = 2 from rfl, Nat.reduceMul, Nat.reduceEqDiff, Go.Addr.add, ↓reduceIte] at hx418_2)
           have qi418 : (2 < l1.length) = True := eq_true (by omega)
           (try rw [show ((2 : Int)).toNat = 2 from rfl] at hx418_0)
           (try rw [show 2 * 3 = 6 from rfl] at hx418_0)
           (try rw [show ((2 : Int)).toNat = 2 from rfl] at hx418_1)
           (try rw [show 2 * 3 = 6 from rfl] at hx418_1)
           (try rw [show ((2 : Int)).toNat = 2 from rfl] at hx418_2)
           (try rw [show 2 * 3 = 6 from rfl] at hx418_2)
           replace hx418_0 := (HB.out.cell (World.block_lt_of_cell? w _ hx418_0)).trans hx418_0
           replace hx418_1 := (HB.out.cell (World.block_lt_of_cell? w _ hx418_1)).trans hx418_1
           replace hx418_2 := (HB.out.cell (World.block_lt_of_cell? w _ hx418_2)).trans hx418_2
           replace p418 := eq_true p418
           replace q418 := eq_true q418
           have hnb41 := NB416_401.out
           have hnc41 := NB401_416.out
           have hnb42 := NB416_414.out
           have hnc42 := NB414_416.out
           have hnb43 := NB416_415.out
           have hnc43 := NB415_416.out
           have hcz44_0 : wc.cell? ⟨gb416, 0, none⟩ = some (.bool false) := (kc BK416.out 0).trans rfl
           have hcz44_1 : wc.cell? ⟨gb416, 1, none⟩ = some (.int .i64 0) := (kc BK416.out 1).trans rfl
           have hcz44_2 : wc.cell? ⟨gb416, 2, none⟩ = some (.string (⟨#[]⟩ : ByteArray)) := (kc BK416.out 2).trans rfl
           have hfz44_0 := kf BK416.out 0
           have hfz44_1 := kf BK416.out 1
           have hfz44_2 := kf BK416.out 2
           go_wp2
           go_meet
           case rel => exact ⟨_, ((rd_T24 l1 2).f0), ((rd_T24 l1 2).f1), ((rd_T24 l1 2).f2), H', ⟨by have := HK1.out; have := HJ17.out; first | omega | exact Nat.le_refl _⟩, ⟨by repeat (first | (with_reducible first | exact BK401.out | refine blk_drewN ?_ _ | refine blk_drew ?_ | refine blk_alloc ?_ _) | refine blk_far ?_ NB401_416.out _ | exact BK401.out)⟩, ⟨by repeat (first | (with_reducible first | exact BK414.out | refine blk_drewN ?_ _ | refine blk_drew ?_ | refine blk_alloc ?_ _) | refine blk_far ?_ NB414_416.out _ | exact BK414.out)⟩, ⟨by repeat (first | (with_reducible first | exact BK415.out | refine blk_drewN ?_ _ | refine blk_drew ?_ | refine blk_alloc ?_ _) | refine blk_far ?_ NB415_416.out _ | exact BK415.out)⟩, ⟨kp BK416.out⟩, ⟨xb⟩⟩
          ·rw [if_neg c40] at H
           exact absurd H (by simp)
         ·rw [if_neg c39] at H
          have c39b0 : decide (2 < (l1.length : Int)) = false := decide_eq_false c39
          have c39b1 : decide (2 < l1.length) = false := decide_eq_false (by omega)
          clear c39
          (first | rw [c39b0] | (simp only [i64_w, i32_w]; rw [c39b0]) | skip)
          have H' := xy H
          clear H
          go_wp2
          go_meet
          case rel => exact ⟨_, (false), (0), ((⟨#[]⟩ : ByteArray)), H', ⟨by have := HK1.out; have := HJ17.out; first | omega | exact Nat.le_refl _⟩, ⟨by (with_reducible repeat (first | refine blk_drewN ?_ _ | refine blk_drew ?_ | refine blk_alloc ?_ _)); exact BK401.out⟩, ⟨by (with_reducible repeat (first | refine blk_drewN ?_ _ | refine blk_drew ?_ | refine blk_alloc ?_ _)); exact BK414.out⟩, ⟨by (with_reducible repeat (first | refine blk_drewN ?_ _ | refine blk_drew ?_ | refine blk_alloc ?_ _)); exact BK415.out⟩, ⟨by (with_reducible repeat (first | refine blk_drewN ?_ _ | refine blk_drew ?_ | refine blk_alloc ?_ _)); exact BK416.out⟩, ⟨xb⟩⟩
        case rest =>
         clear HC38
         try clear c1
         try clear c2
         try clear p2
         try clear c3
         try clear c4
         try clear p4
         try clear q4
         try clear hx4
         try clear qi4
         try clear c5
         try clear c6
         try clear c6b0
         try clear p6
         try clear c7
         try clear c7b0
         try clear c9
         try clear c10
         try clear c16
         try clear c16b0
         try clear c16b1
         try clear c17
         try clear c17b0
         try clear c17b1
         try clear c21
         try clear c25
         try clear c26
         try clear c27
         try clear c29
         try clear c30
         try clear c32
         try clear c32b0
         try clear c32b1
         try clear c33
         try clear c33b0
         try clear c33b1
         try clear c34
         try clear c35
         try clear c36
         try clear c39
         try clear c39b0
         try clear c39b1
         try clear c40
         try clear c40b0
         try clear c40b1
         try clear p40
         try clear q40
         try clear hx40
         try clear c41
         try clear p41
         try clear q41
         try clear hx41
         try clear qi41
         try clear c42
         try clear c43
         try clear hcz14_0
         try clear hcz14_1
         try clear hcz14_2
         try clear hcz22_0
         try clear hcz22_1
         try clear hcz22_2
         try clear hcz28_0
         try clear hcz28_1
         try clear hcz28_2
         try clear hcz31_0
         try clear hcz31_1
         try clear hcz31_2
         try clear hcz37_0
         try clear hcz37_1
         try clear hcz37_2
         try clear hcz44_0
         try clear hcz44_1
         try clear hcz44_2
         try clear hfz14_0
         try clear hfz14_1
         try clear hfz14_2
         try clear hfz22_0
         try clear hfz22_1
         try clear hfz22_2
         try clear hfz28_0
         try clear hfz28_1
         try clear hfz28_2
         try clear hfz31_0
         try clear hfz31_1
         try clear hfz31_2
         try clear hfz37_0
         try clear hfz37_1
         try clear hfz37_2
         try clear hfz44_0
         try clear hfz44_1
         try clear hfz44_2
         try clear hx405_0
         try clear hx405_1
         try clear hx405_2
         try clear hx407_0
         try clear hx407_1
         try clear hx407_2
         try clear hx413_0
         try clear hx413_1
         try clear hx413_2
         try clear hx417_0
         try clear hx417_1
         try clear hx417_2
         try clear hx418_0
         try clear hx418_1
         try clear hx418_2
         try clear p2
         try clear p4
         try clear p405
         try clear p407
         try clear p413
         try clear p417
         try clear p418
         try clear p6
         try clear q4
         try clear q405
         try clear q407
         try clear q413
         try clear q417
         try clear q418
         obtain ⟨kq, x417000_37, x417001_37, x417002_37, HA, HJ37, BK401, BK414, BK415, BK416, HB⟩ := hcut
         cases kq with
         | zero => exact absurd HA.out (by simp [r13_Do.j2])
         | succ kj37 =>
          have H := HA.out
          clear HA
          simp only [r13_Do.j2] at H
          have HC45 := xy H
          clear H
          go_upto_region 17 with (fail)
          go_cut [71] (fun v71 wc => ∃ (kq : Nat) (x71_44 : Bool), v71 = .bool x71_44 ∧ Aside0 (r13_Do.j3 kq a0 x71_44 ((rd_T24 l1 0).f0) ((rd_T24 l1 0).f1) ((rd_T24 l1 0).f2) x416000_17 x416001_17 x416002_17 x417000_37 x417001_37 x417002_37 = some (r1, r2, r3, r4)) ∧ Aside0 (kq ≤ kj37) ∧ Aside0 (wc.heap[gb401]? = some (.cells #[.bool x402000_1, .int .i64 x402001_1, .string x402002_1] 24 (0, 0))) ∧ Aside0 (wc.heap[gb414]? = some (.cells #[.bool ((rd_T24 l1 0).f0), .int .i64 ((rd_T24 l1 0).f1), .string ((rd_T24 l1 0).f2)] 24 (0, 0))) ∧ Aside0 (wc.heap[gb415]? = some (.cells #[.bool x416000_17, .int .i64 x416001_17, .string x416002_17] 24 (0, 0))) ∧ Aside0 (wc.heap[gb416]? = some (.cells #[.bool x417000_37, .int .i64 x417001_37, .string x417002_37] 24 (0, 0))) ∧ Aside0 (Below w.heap.size w wc))
          case first =>
           have H := HC45.out
           clear HC45
           by_cases c46 : a0 ≤ 8
           ·rw [if_pos c46] at H
            have c46b0 : decide (a0 ≤ 8) = true := decide_eq_true c46
            clear c46
            (first | rw [c46b0] | (simp only [i64_w, i32_w]; rw [c46b0]) | skip)
            have H' := xy H
            clear H
            go_wp2
            go_meet
            case rel => exact ⟨_, (true), xg, H', ⟨by have := HK1.out; have := HJ17.out; have := HJ37.out; first | omega | exact Nat.le_refl _⟩, ⟨by (with_reducible repeat (first | refine blk_drewN ?_ _ | refine blk_drew ?_ | refine blk_alloc ?_ _)); exact BK401.out⟩, ⟨by (with_reducible repeat (first | refine blk_drewN ?_ _ | refine blk_drew ?_ | refine blk_alloc ?_ _)); exact BK414.out⟩, ⟨by (with_reducible repeat (first | refine blk_drewN ?_ _ | refine blk_drew ?_ | refine blk_alloc ?_ _)); exact BK415.out⟩, ⟨by (with_reducible repeat (first | refine blk_drewN ?_ _ | refine blk_drew ?_ | refine blk_alloc ?_ _)); exact BK416.out⟩, ⟨xb⟩⟩
           ·rw [if_neg c46] at H
            have c46b0 : decide (a0 ≤ 8) = false := decide_eq_false c46
            clear c46
            (first | rw [c46b0] | (simp only [i64_w, i32_w]; rw [c46b0]) | skip)
            by_cases c47 : a0 ≥ 14
            ·rw [if_pos c47] at H
             have c47b0 : decide (14 ≤ a0) = true := decide_eq_true c47
             clear c47
             have H' := xy H
             clear H
             go_wp2
             go_meet
             case rel => exact ⟨_, (decide (a0 ≤ 17)), xg, H', ⟨by have := HK1.out; have := HJ17.out; have := HJ37.out; first | omega | exact Nat.le_refl _⟩, ⟨by (with_reducible repeat (first | refine blk_drewN ?_ _ | refine blk_drew ?_ | refine blk_alloc ?_ _)); exact BK401.out⟩, ⟨by (with_reducible repeat (first | refine blk_drewN ?_ _ | refine blk_drew ?_ | refine blk_alloc ?_ _)); exact BK414.out⟩, ⟨by (with_reducible repeat (first | refine blk_drewN ?_ _ | refine blk_drew ?_ | refine blk_alloc ?_ _)); exact BK415.out⟩, ⟨by (with_reducible repeat (first | refine blk_drewN ?_ _ | refine blk_drew ?_ | refine blk_alloc ?_ _)); exact BK416.out⟩, ⟨xb⟩⟩
            ·rw [if_neg c47] at H
             have c47b0 : decide (14 ≤ a0) = false := decide_eq_false c47
             clear c47
             have H' := xy H
             clear H
             go_wp2
             go_meet
             case rel => exact ⟨_, (false), xg, H', ⟨by have := HK1.out; have := HJ17.out; have := HJ37.out; first | omega | exact Nat.le_refl _⟩, ⟨by (with_reducible repeat (first | refine blk_drewN ?_ _ | refine blk_drew ?_ | refine blk_alloc ?_ _)); exact BK401.out⟩, ⟨by (with_reducible repeat (first | refine blk_drewN ?_ _ | refine blk_drew ?_ | refine blk_alloc ?_ _)); exact BK414.out⟩, ⟨by (with_reducible repeat (first | refine blk_drewN ?_ _ | refine blk_drew ?_ | refine blk_alloc ?_ _)); exact BK415.out⟩, ⟨by (with_reducible repeat (first | refine blk_drewN ?_ _ | refine blk_drew ?_ | refine blk_alloc ?_ _)); exact BK416.out⟩, ⟨xb⟩⟩
          case rest =>
           clear HC45
           try clear c1
           try clear c2
           try clear p2
           try clear c3
           try clear c4
           try clear p4
           try clear q4
           try clear hx4
           try clear qi4
           try clear c5
           try clear c6
           try clear c6b0
           try clear p6
           try clear c7
           try clear c7b0
           try clear c9
           try clear c10
           try clear c16
           try clear c16b0
           try clear c16b1
           try clear c17
           try clear c17b0
           try clear c17b1
           try clear c21
           try clear c25
           try clear c26
           try clear c27
           try clear c29
           try clear c30
           try clear c32
           try clear c32b0
           try clear c32b1
           try clear c33
           try clear c33b0
           try clear c33b1
           try clear c34
           try clear c35
           try clear c36
           try clear c39
           try clear c39b0
           try clear c39b1
           try clear c40
           try clear c40b0
           try clear c40b1
           try clear p40
           try clear q40
           try clear hx40
           try clear c41
           try clear p41
           try clear q41
           try clear hx41
           try clear qi41
           try clear c42
           try clear c43
           try clear c46
           try clear c46b0
           try clear c47
           try clear c47b0
           try clear hcz14_0
           try clear hcz14_1
           try clear hcz14_2
           try clear hcz22_0
           try clear hcz22_1
           try clear hcz22_2
           try clear hcz28_0
           try clear hcz28_1
           try clear hcz28_2
           try clear hcz31_0
           try clear hcz31_1
           try clear hcz31_2
           try clear hcz37_0
           try clear hcz37_1
           try clear hcz37_2
           try clear hcz44_0
           try clear hcz44_1
           try clear hcz44_2
           try clear hfz14_0
           try clear hfz14_1
           try clear hfz14_2
           try clear hfz22_0
           try clear hfz22_1
           try clear hfz22_2
           try clear hfz28_0
           try clear hfz28_1
           try clear hfz28_2
           try clear hfz31_0
           try clear hfz31_1
           try clear hfz31_2
           try clear hfz37_0
           try clear hfz37_1
           try clear hfz37_2
           try clear hfz44_0
           try clear hfz44_1
           try clear hfz44_2
           try clear hx405_0
           try clear hx405_1
           try clear hx405_2
           try clear hx407_0
           try clear hx407_1
           try clear hx407_2
           try clear hx413_0
           try clear hx413_1
           try clear hx413_2
           try clear hx417_0
           try clear hx417_1
           try clear hx417_2
           try clear hx418_0
           try clear hx418_1
           try clear hx418_2
           try clear p2
           try clear p4
           try clear p40
           try clear p405
           try clear p407
           try clear p41
           try clear p413
           try clear p417
           try clear p418
           try clear p6
           try clear q4
           try clear q40
           try clear q405
           try clear q407
           try clear q41
           try clear q413
           try clear q417
           try clear q418
           obtain ⟨kq, x71_44, rfl, HA, HJ44, BK401, BK414, BK415, BK416, HB⟩ := hcut
           cases kq with
           | zero => exact absurd HA.out (by simp [r13_Do.j3])
           | succ kj44 =>
            have H := HA.out
            clear HA
            simp only [r13_Do.j3] at H
            by_cases c48 : x71_44 = true
            ·subst c48
             rw [if_pos rfl] at H
             replace H := xj H
             obtain ⟨⟨t419, t420, t421⟩, A490, H⟩ := H
             try dsimp only at H
             have A49 := xy A490
             clear A490
             simp only [Option.some.injEq, Prod.mk.injEq] at H
             obtain ⟨rfl, rfl, rfl, rfl⟩ := H
             have hnb50 := NB414_401.out
             have hnc50 := NB401_414.out
             have hnb51 := NB414_415.out
             have hnc51 := NB415_414.out
             have hnb52 := NB414_416.out
             have hnc52 := NB416_414.out
             have hcz53_0 : wc.cell? ⟨gb414, 0, none⟩ = some (.bool ((rd_T24 l1 0).f0)) := (kc BK414.out 0).trans rfl
             have hcz53_1 : wc.cell? ⟨gb414, 1, none⟩ = some (.int .i64 ((rd_T24 l1 0).f1)) := (kc BK414.out 1).trans rfl
             have hcz53_2 : wc.cell? ⟨gb414, 2, none⟩ = some (.string ((rd_T24 l1 0).f2)) := (kc BK414.out 2).trans rfl
             have hfz53_0 := kf BK414.out 0
             have hfz53_1 := kf BK414.out 1
             have hfz53_2 := kf BK414.out 2
             have hnb54 := NB415_401.out
             have hnc54 := NB401_415.out
             have hnb55 := NB415_416.out
             have hnc55 := NB416_415.out
             have hcz56_0 : wc.cell? ⟨gb415, 0, none⟩ = some (.bool x416000_17) := (kc BK415.out 0).trans rfl
             have hcz56_1 : wc.cell? ⟨gb415, 1, none⟩ = some (.int .i64 x416001_17) := (kc BK415.out 1).trans rfl
             have hcz56_2 : wc.cell? ⟨gb415, 2, none⟩ = some (.string x416002_17) := (kc BK415.out 2).trans rfl
             have hfz56_0 := kf BK415.out 0
             have hfz56_1 := kf BK415.out 1
             have hfz56_2 := kf BK415.out 2
             have hnb57 := NB416_401.out
             have hnc57 := NB401_416.out
             have hcz58_0 : wc.cell? ⟨gb416, 0, none⟩ = some (.bool x417000_37) := (kc BK416.out 0).trans rfl
             have hcz58_1 : wc.cell? ⟨gb416, 1, none⟩ = some (.int .i64 x417001_37) := (kc BK416.out 1).trans rfl
             have hcz58_2 : wc.cell? ⟨gb416, 2, none⟩ = some (.string x417002_37) := (kc BK416.out 2).trans rfl
             have hfz58_0 := kf BK416.out 0
             have hfz58_1 := kf BK416.out 1
             have hfz58_2 := kf BK416.out 2
             go_wp2_with (((with_reducible refine gate_callee (f := 56) rfl ?_); refine goesL_ (some 76) rfl rfl Tryz.func56 (by kernel_rfl) rfl #[.int .i64 a0, .agg #[.bool ((rd_T24 l1 0).f0), .int .i64 ((rd_T24 l1 0).f1), .string ((rd_T24 l1 0).f2)], .agg #[.bool x416000_17, .int .i64 x416001_17, .string x416002_17], .agg #[.bool x417000_37, .int .i64 x417001_37, .string x417002_37]] rfl xr ?_; (with_reducible refine (r13_reckoned.calls kj44 a0 ((rd_T24 l1 0).f0) ((rd_T24 l1 0).f1) ((rd_T24 l1 0).f2) x416000_17 x416001_17 x416002_17 x417000_37 x417001_37 x417002_37 t419 t420 t421 _ (Tabs.below hT xf) A49.out).mono ?_); rintro e w59 ⟨rfl, hb⟩; refine ⟨_, rfl, ?_⟩; replace BK401 := xd BK401.out hb; replace BK414 := xd BK414.out hb; replace BK415 := xd BK415.out hb; replace BK416 := xd BK416.out hb; replace HB := xy (below_step xb hb); (try clear hb); (try clear hb2); (try clear hk); (try clear hi); have hcz60_0 : w59.cell? ⟨gb401, 0, none⟩ = some (.bool x402000_1) := (kc BK401.out 0).trans rfl; have hcz60_1 : w59.cell? ⟨gb401, 1, none⟩ = some (.int .i64 x402001_1) := (kc BK401.out 1).trans rfl; have hcz60_2 : w59.cell? ⟨gb401, 2, none⟩ = some (.string x402002_1) := (kc BK401.out 2).trans rfl; have hfz60_0 := kf BK401.out 0; have hfz60_1 := kf BK401.out 1; have hfz60_2 := kf BK401.out 2))
             refine bodyPost_ret (results_ct rfl _ _ gb401 24 #[.bool t419, .int .i64 t420, .string t421] (0, 0) _ rfl (kp BK401.out) Tryz.underlying24 rfl (by kernel_rfl)) rfl ?_
             exact ⟨xe, xb⟩
            ·replace c48 := Bool.eq_false_iff.mpr c48
             subst c48
             rw [if_neg (show ¬ (false = true) by decide)] at H
             replace H := xj H
             obtain ⟨⟨t422, t423, t424⟩, A610, H⟩ := H
             try dsimp only at H
             have A61 := xy A610
             clear A610
             simp only [Option.some.injEq, Prod.mk.injEq] at H
             obtain ⟨rfl, rfl, rfl, rfl⟩ := H
             have hnb62 := NB414_401.out
             have hnc62 := NB401_414.out
             have hnb63 := NB414_415.out
             have hnc63 := NB415_414.out
             have hnb64 := NB414_416.out
             have hnc64 := NB416_414.out
             have hcz65_0 : wc.cell? ⟨gb414, 0, none⟩ = some (.bool ((rd_T24 l1 0).f0)) := (kc BK414.out 0).trans rfl
             have hcz65_1 : wc.cell? ⟨gb414, 1, none⟩ = some (.int .i64 ((rd_T24 l1 0).f1)) := (kc BK414.out 1).trans rfl
             have hcz65_2 : wc.cell? ⟨gb414, 2, none⟩ = some (.string ((rd_T24 l1 0).f2)) := (kc BK414.out 2).trans rfl
             have hfz65_0 := kf BK414.out 0
             have hfz65_1 := kf BK414.out 1
             have hfz65_2 := kf BK414.out 2
             have hnb66 := NB415_401.out
             have hnc66 := NB401_415.out
             have hnb67 := NB415_416.out
             have hnc67 := NB416_415.out
             have hcz68_0 : wc.cell? ⟨gb415, 0, none⟩ = some (.bool x416000_17) := (kc BK415.out 0).trans rfl
             have hcz68_1 : wc.cell? ⟨gb415, 1, none⟩ = some (.int .i64 x416001_17) := (kc BK415.out 1).trans rfl
             have hcz68_2 : wc.cell? ⟨gb415, 2, none⟩ = some (.string x416002_17) := (kc BK415.out 2).trans rfl
             have hfz68_0 := kf BK415.out 0
             have hfz68_1 := kf BK415.out 1
             have hfz68_2 := kf BK415.out 2
             have hnb69 := NB416_401.out
             have hnc69 := NB401_416.out
             have hcz70_0 : wc.cell? ⟨gb416, 0, none⟩ = some (.bool x417000_37) := (kc BK416.out 0).trans rfl
             have hcz70_1 : wc.cell? ⟨gb416, 1, none⟩ = some (.int .i64 x417001_37) := (kc BK416.out 1).trans rfl
             have hcz70_2 : wc.cell? ⟨gb416, 2, none⟩ = some (.string x417002_37) := (kc BK416.out 2).trans rfl
             have hfz70_0 := kf BK416.out 0
             have hfz70_1 := kf BK416.out 1
             have hfz70_2 := kf BK416.out 2
             go_wp2_with (((with_reducible refine gate_callee (f := 57) rfl ?_); refine goesL_ (some 81) rfl rfl Tryz.func57 (by kernel_rfl) rfl #[.int .i64 a0, .agg #[.bool ((rd_T24 l1 0).f0), .int .i64 ((rd_T24 l1 0).f1), .string ((rd_T24 l1 0).f2)], .agg #[.bool x416000_17, .int .i64 x416001_17, .string x416002_17], .agg #[.bool x417000_37, .int .i64 x417001_37, .string x417002_37]] rfl xr ?_; (with_reducible refine (r13_texted.calls kj44 a0 ((rd_T24 l1 0).f0) ((rd_T24 l1 0).f1) ((rd_T24 l1 0).f2) x416000_17 x416001_17 x416002_17 x417000_37 x417001_37 x417002_37 t422 t423 t424 _ (Tabs.below hT xf) A61.out).mono ?_); rintro e w71 ⟨rfl, hb⟩; refine ⟨_, rfl, ?_⟩; replace BK401 := xd BK401.out hb; replace BK414 := xd BK414.out hb; replace BK415 := xd BK415.out hb; replace BK416 := xd BK416.out hb; replace HB := xy (below_step xb hb); (try clear hb); (try clear hb2); (try clear hk); (try clear hi); have hcz72_0 : w71.cell? ⟨gb401, 0, none⟩ = some (.bool x402000_1) := (kc BK401.out 0).trans rfl; have hcz72_1 : w71.cell? ⟨gb401, 1, none⟩ = some (.int .i64 x402001_1) := (kc BK401.out 1).trans rfl; have hcz72_2 : w71.cell? ⟨gb401, 2, none⟩ = some (.string x402002_1) := (kc BK401.out 2).trans rfl; have hfz72_0 := kf BK401.out 0; have hfz72_1 := kf BK401.out 1; have hfz72_2 := kf BK401.out 2))
             refine bodyPost_ret (results_ct rfl _ _ gb401 24 #[.bool t422, .int .i64 t423, .string t424] (0, 0) _ rfl (kp BK401.out) Tryz.underlying24 rfl (by kernel_rfl)) rfl ?_
             exact ⟨xe, xb⟩
     ·rw [if_neg c17] at H
      exact absurd H (by simp)
    ·rw [if_neg c16] at H
     have c16b0 : (t412 == 0) = false := beq_eq_false_iff_ne.mpr c16
     have c16b1 : (t412 != 0) = true := bne_iff_ne.mpr c16
     simp only [Option.some.injEq, Prod.mk.injEq] at H
     obtain ⟨rfl, rfl, rfl, rfl⟩ := H
     obtain ⟨Ao73, co73, eo73⟩ := Kd.R_slice HO_6.out
     subst eo73
     go_wp2_with (((with_reducible refine gate_callee (f := 55) rfl ?_); refine goesL_ (some 38) rfl rfl Tryz.func55 (by kernel_rfl) rfl #[.int .i64 a0, .slice Ao73 x6_1.length co73] rfl xr ?_; (with_reducible refine (r13_Result.calls k1 a0 _ _ x6_1 t411 t412 _ (Tabs.below hT xf) ?side1 ?side2 A15.out).mono ?_); (case side1 => repeat (first | exact (Kd.R_reads' HO_6.out).2.2 | (with_reducible refine Kd.C_alloc ?_ _) | (with_reducible refine Kd.C_drewN ?_ _) | (with_reducible refine Kd.C_drew ?_))); (case side2 => exact (Kd.R_reads' HO_6.out).2.1); rintro e w' ⟨rfl, ⟨nd, rfl⟩⟩; refine ⟨_, rfl, ?_⟩; (try (rw [drewN_self wr]; generalize hq_ : World.drewN wr _ = wr; have n0_ : Aside0 (Kd.R Kd.bool 4 wr w.heap.size (fun _ => True) (.slice Ao73 x6_1.length co73) x6_1) := ⟨by rw [← hq_]; exact (xo HO_6.out)⟩; have n1_ : Aside0 (wr.heap[gb401]? = some (.cells #[.bool x402000_1, .int .i64 x402001_1, .string x402002_1] 24 (0, 0))) := ⟨by rw [← hq_]; exact (xk BK401.out)⟩; have n2_ : Aside0 (Below w.heap.size w wr) := ⟨by rw [← hq_]; exact xb⟩; clear HO_6 BK401 HB hq_; have HO_6 := n0_; have BK401 := n1_; have HB := n2_; clear n0_ n1_ n2_)); have hcz74_0 : wr.cell? ⟨gb401, 0, none⟩ = some (.bool x402000_1) := (kc BK401.out 0).trans rfl; have hcz74_1 : wr.cell? ⟨gb401, 1, none⟩ = some (.int .i64 x402001_1) := (kc BK401.out 1).trans rfl; have hcz74_2 : wr.cell? ⟨gb401, 2, none⟩ = some (.string x402002_1) := (kc BK401.out 2).trans rfl; have hfz74_0 := kf BK401.out 0; have hfz74_1 := kf BK401.out 1; have hfz74_2 := kf BK401.out 2))
     refine bodyPost_ret (results_ct rfl _ _ gb401 24 #[.bool false, .int .i64 0, .string (⟨#[]⟩ : ByteArray)] (0, 0) _ rfl (kp BK401.out) Tryz.underlying24 rfl (by kernel_rfl)) rfl ?_
     exact ⟨xe, xb⟩
end Go.Proofs.YtebofnoljebakaaGreatDoor.PX
