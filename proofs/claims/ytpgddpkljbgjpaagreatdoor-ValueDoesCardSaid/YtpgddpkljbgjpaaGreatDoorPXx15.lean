/- Walked functions, by this session's program over the kit's print. -/
import Derived.Test.YtpgddpkljbgjpaaGreatDoorPXx0
import Derived.Test.YtpgddpkljbgjpaaGreatDoorPXx9
import Derived.Test.YtpgddpkljbgjpaaGreatDoorPXx10
import Derived.Test.YtpgddpkljbgjpaaGreatDoorPXx11
import Derived.Test.YtpgddpkljbgjpaaGreatDoorPXx14
namespace Go.Proofs.YtpgddpkljbgjpaaGreatDoor.PX
open Go.RowKit Go.Proofs.YtpgddpkljbgjpaaGreatDoorW.PrintWords Go.Proofs.YtpgddpkljbgjpaaGreatDoorW.PrintLast Go.Proofs.YtpgddpkljbgjpaaGreatDoorW.PrintMore
attribute [local go_sem] xm_gtr max2_int min2_int max_two min_two max_three min_three max_four min_four   -- for this text's walks alone
set_option linter.unusedVariables false
set_option linter.unusedSimpArgs false

/-! ### threshingref13_Do: function 10 -/
mutual
def threshingref13_Do.l0 : Nat → Int → List (S27) → List Bool → Int → Option (Bool × Int × ByteArray × Int)
  | 0, _, _, _, _ => none
  | k + 1, x0, x1, x6, x7 => if x7 < (x1.length : Int) then (if 0 ≤ x7 then ((threshingref13_Is.f ((rd_T27 x1 x7).f0) ((rd_T27 x1 x7).f1) ((rd_T27 x1 x7).f2)).bind fun t398 => (if t398 = true then (if x6.length < 140737488355328 then (threshingref13_Do.l0 k x0 x1 (x6 ++ [(rd_T27 x1 x7).f0]) (wrap64 (x7 + 1))) else (none)) else (some (false, 0, (⟨#[]⟩ : ByteArray), 1)))) else (none)) else ((threshingref13_Result.f k x0 x6).bind fun bt403 => (if bt403.2 = 0 then (if 0 < (x1.length : Int) then (if (x1.length : Int) > 1 then (if 1 < (x1.length : Int) then (threshingref13_Do.j1 k x0 x1 ((rd_T27 x1 0).f0) ((rd_T27 x1 0).f1) ((rd_T27 x1 0).f2) ((rd_T27 x1 1).f0) ((rd_T27 x1 1).f1) ((rd_T27 x1 1).f2) false 0 (⟨#[]⟩ : ByteArray)) else (none)) else (threshingref13_Do.j1 k x0 x1 ((rd_T27 x1 0).f0) ((rd_T27 x1 0).f1) ((rd_T27 x1 0).f2) false 0 (⟨#[]⟩ : ByteArray) false 0 (⟨#[]⟩ : ByteArray))) else (none)) else (some (false, 0, (⟨#[]⟩ : ByteArray), bt403.2))))
def threshingref13_Do.j1 : Nat → Int → List (S27) → Bool → Int → ByteArray → Bool → Int → ByteArray → Bool → Int → ByteArray → Option (Bool × Int × ByteArray × Int)
  | 0, _, _, _, _, _, _, _, _, _, _, _ => none
  | k + 1, x0, x1, x407000, x407001, x407002, x408000, x408001, x408002, x409000, x409001, x409002 => if (x1.length : Int) > 2 then (if 2 < (x1.length : Int) then (threshingref13_Do.j2 k x0 x407000 x407001 x407002 x408000 x408001 x408002 ((rd_T27 x1 2).f0) ((rd_T27 x1 2).f1) ((rd_T27 x1 2).f2)) else (none)) else (threshingref13_Do.j2 k x0 x407000 x407001 x407002 x408000 x408001 x408002 x409000 x409001 x409002)
def threshingref13_Do.j2 : Nat → Int → Bool → Int → ByteArray → Bool → Int → ByteArray → Bool → Int → ByteArray → Option (Bool × Int × ByteArray × Int)
  | 0, _, _, _, _, _, _, _, _, _, _ => none
  | k + 1, x0, x407000, x407001, x407002, x408000, x408001, x408002, x409000, x409001, x409002 => if x0 ≤ 8 then (threshingref13_Do.j3 k x0 true x407000 x407001 x407002 x408000 x408001 x408002 x409000 x409001 x409002) else (if x0 ≥ 14 then (threshingref13_Do.j3 k x0 (decide (x0 ≤ 17)) x407000 x407001 x407002 x408000 x408001 x408002 x409000 x409001 x409002) else (threshingref13_Do.j3 k x0 false x407000 x407001 x407002 x408000 x408001 x408002 x409000 x409001 x409002))
def threshingref13_Do.j3 : Nat → Int → Bool → Bool → Int → ByteArray → Bool → Int → ByteArray → Bool → Int → ByteArray → Option (Bool × Int × ByteArray × Int)
  | 0, _, _, _, _, _, _, _, _, _, _, _ => none
  | k + 1, x0, x71, x407000, x407001, x407002, x408000, x408001, x408002, x409000, x409001, x409002 => if x71 = true then ((threshingref13_reckoned.f k x0 x407000 x407001 x407002 x408000 x408001 x408002 x409000 x409001 x409002).bind fun bt411 => (some (bt411.1, bt411.2.1, bt411.2.2, 0))) else ((threshingref13_texted.f k x0 x407000 x407001 x407002 x408000 x408001 x408002 x409000 x409001 x409002).bind fun bt414 => (some (bt414.1, bt414.2.1, bt414.2.2, 0)))
end
def threshingref13_Do.f (k : Nat) (a0 : Int) (l1 : List (S27)) : Option (Bool × Int × ByteArray × Int) := threshingref13_Do.l0 k a0 l1 (([] : List Bool)) 0
theorem threshingref13_Do.mono_l : ∀ k, (∀ y0 y1 y2 y3, LeO (threshingref13_Do.l0 k y0 y1 y2 y3) (threshingref13_Do.l0 (k + 1) y0 y1 y2 y3)) ∧ (∀ y0 y1 y2 y3 y4 y5 y6 y7 y8 y9 y10, LeO (threshingref13_Do.j1 k y0 y1 y2 y3 y4 y5 y6 y7 y8 y9 y10) (threshingref13_Do.j1 (k + 1) y0 y1 y2 y3 y4 y5 y6 y7 y8 y9 y10)) ∧ (∀ y0 y1 y2 y3 y4 y5 y6 y7 y8 y9, LeO (threshingref13_Do.j2 k y0 y1 y2 y3 y4 y5 y6 y7 y8 y9) (threshingref13_Do.j2 (k + 1) y0 y1 y2 y3 y4 y5 y6 y7 y8 y9)) ∧ (∀ y0 y1 y2 y3 y4 y5 y6 y7 y8 y9 y10, LeO (threshingref13_Do.j3 k y0 y1 y2 y3 y4 y5 y6 y7 y8 y9 y10) (threshingref13_Do.j3 (k + 1) y0 y1 y2 y3 y4 y5 y6 y7 y8 y9 y10))
  | 0 => ⟨fun _ _ _ _ r h => by simp [threshingref13_Do.l0] at h, fun _ _ _ _ _ _ _ _ _ _ _ r h => by simp [threshingref13_Do.j1] at h, fun _ _ _ _ _ _ _ _ _ _ r h => by simp [threshingref13_Do.j2] at h, fun _ _ _ _ _ _ _ _ _ _ _ r h => by simp [threshingref13_Do.j3] at h⟩
  | k + 1 => by
    obtain ⟨ih0, ih1, ih2, ih3⟩ := threshingref13_Do.mono_l k
    refine ⟨?_, ?_, ?_, ?_⟩
    · intro y0 y1 y2 y3
      unfold threshingref13_Do.l0
      repeat' first
      | (with_reducible exact ih0 _ _ _ _)
      | (with_reducible exact ih1 _ _ _ _ _ _ _ _ _ _ _)
      | (with_reducible exact ih2 _ _ _ _ _ _ _ _ _ _)
      | (with_reducible exact ih3 _ _ _ _ _ _ _ _ _ _ _)
      | (with_reducible exact threshingref13_Result.mono _ _ _)
      | (with_reducible exact threshingref13_reckoned.mono _ _ _ _ _ _ _ _ _ _ _)
      | (with_reducible exact threshingref13_texted.mono _ _ _ _ _ _ _ _ _ _ _)
      | (with_reducible exact LeO.refl _)
      | (with_reducible exact LeO.none _)
      | (with_reducible refine LeO.ite ?_ ?_)
      | (with_reducible refine LeO.bind ?_ (fun _ => ?_))
      | exact ih0 _ _ _ _
      | exact ih1 _ _ _ _ _ _ _ _ _ _ _
      | exact ih2 _ _ _ _ _ _ _ _ _ _
      | exact ih3 _ _ _ _ _ _ _ _ _ _ _
      | exact threshingref13_Result.mono _ _ _
      | exact threshingref13_reckoned.mono _ _ _ _ _ _ _ _ _ _ _
      | exact threshingref13_texted.mono _ _ _ _ _ _ _ _ _ _ _
      | exact LeO.none _
      | refine LeO.ite ?_ ?_
      | refine LeO.bind ?_ (fun _ => ?_)
    · intro y0 y1 y2 y3 y4 y5 y6 y7 y8 y9 y10
      unfold threshingref13_Do.j1
      repeat' first
      | (with_reducible exact ih0 _ _ _ _)
      | (with_reducible exact ih1 _ _ _ _ _ _ _ _ _ _ _)
      | (with_reducible exact ih2 _ _ _ _ _ _ _ _ _ _)
      | (with_reducible exact ih3 _ _ _ _ _ _ _ _ _ _ _)
      | (with_reducible exact threshingref13_Result.mono _ _ _)
      | (with_reducible exact threshingref13_reckoned.mono _ _ _ _ _ _ _ _ _ _ _)
      | (with_reducible exact threshingref13_texted.mono _ _ _ _ _ _ _ _ _ _ _)
      | (with_reducible exact LeO.refl _)
      | (with_reducible exact LeO.none _)
      | (with_reducible refine LeO.ite ?_ ?_)
      | (with_reducible refine LeO.bind ?_ (fun _ => ?_))
      | exact ih0 _ _ _ _
      | exact ih1 _ _ _ _ _ _ _ _ _ _ _
      | exact ih2 _ _ _ _ _ _ _ _ _ _
      | exact ih3 _ _ _ _ _ _ _ _ _ _ _
      | exact threshingref13_Result.mono _ _ _
      | exact threshingref13_reckoned.mono _ _ _ _ _ _ _ _ _ _ _
      | exact threshingref13_texted.mono _ _ _ _ _ _ _ _ _ _ _
      | exact LeO.none _
      | refine LeO.ite ?_ ?_
      | refine LeO.bind ?_ (fun _ => ?_)
    · intro y0 y1 y2 y3 y4 y5 y6 y7 y8 y9
      unfold threshingref13_Do.j2
      repeat' first
      | (with_reducible exact ih0 _ _ _ _)
      | (with_reducible exact ih1 _ _ _ _ _ _ _ _ _ _ _)
      | (with_reducible exact ih2 _ _ _ _ _ _ _ _ _ _)
      | (with_reducible exact ih3 _ _ _ _ _ _ _ _ _ _ _)
      | (with_reducible exact threshingref13_Result.mono _ _ _)
      | (with_reducible exact threshingref13_reckoned.mono _ _ _ _ _ _ _ _ _ _ _)
      | (with_reducible exact threshingref13_texted.mono _ _ _ _ _ _ _ _ _ _ _)
      | (with_reducible exact LeO.refl _)
      | (with_reducible exact LeO.none _)
      | (with_reducible refine LeO.ite ?_ ?_)
      | (with_reducible refine LeO.bind ?_ (fun _ => ?_))
      | exact ih0 _ _ _ _
      | exact ih1 _ _ _ _ _ _ _ _ _ _ _
      | exact ih2 _ _ _ _ _ _ _ _ _ _
      | exact ih3 _ _ _ _ _ _ _ _ _ _ _
      | exact threshingref13_Result.mono _ _ _
      | exact threshingref13_reckoned.mono _ _ _ _ _ _ _ _ _ _ _
      | exact threshingref13_texted.mono _ _ _ _ _ _ _ _ _ _ _
      | exact LeO.none _
      | refine LeO.ite ?_ ?_
      | refine LeO.bind ?_ (fun _ => ?_)
    · intro y0 y1 y2 y3 y4 y5 y6 y7 y8 y9 y10
      unfold threshingref13_Do.j3
      repeat' first
      | (with_reducible exact ih0 _ _ _ _)
      | (with_reducible exact ih1 _ _ _ _ _ _ _ _ _ _ _)
      | (with_reducible exact ih2 _ _ _ _ _ _ _ _ _ _)
      | (with_reducible exact ih3 _ _ _ _ _ _ _ _ _ _ _)
      | (with_reducible exact threshingref13_Result.mono _ _ _)
      | (with_reducible exact threshingref13_reckoned.mono _ _ _ _ _ _ _ _ _ _ _)
      | (with_reducible exact threshingref13_texted.mono _ _ _ _ _ _ _ _ _ _ _)
      | (with_reducible exact LeO.refl _)
      | (with_reducible exact LeO.none _)
      | (with_reducible refine LeO.ite ?_ ?_)
      | (with_reducible refine LeO.bind ?_ (fun _ => ?_))
      | exact ih0 _ _ _ _
      | exact ih1 _ _ _ _ _ _ _ _ _ _ _
      | exact ih2 _ _ _ _ _ _ _ _ _ _
      | exact ih3 _ _ _ _ _ _ _ _ _ _ _
      | exact threshingref13_Result.mono _ _ _
      | exact threshingref13_reckoned.mono _ _ _ _ _ _ _ _ _ _ _
      | exact threshingref13_texted.mono _ _ _ _ _ _ _ _ _ _ _
      | exact LeO.none _
      | refine LeO.ite ?_ ?_
      | refine LeO.bind ?_ (fun _ => ?_)
theorem threshingref13_Do.mono : ∀ a0 a1 k, LeO (threshingref13_Do.f k a0 a1) (threshingref13_Do.f (k + 1) a0 a1) := by
  intro a0 a1 k
  obtain ⟨ih0, ih1, ih2, ih3⟩ := threshingref13_Do.mono_l k
  unfold threshingref13_Do.f
  repeat' first
      | (with_reducible exact ih0 _ _ _ _)
      | (with_reducible exact ih1 _ _ _ _ _ _ _ _ _ _ _)
      | (with_reducible exact ih2 _ _ _ _ _ _ _ _ _ _)
      | (with_reducible exact ih3 _ _ _ _ _ _ _ _ _ _ _)
      | (with_reducible exact threshingref13_Result.mono _ _ _)
      | (with_reducible exact threshingref13_reckoned.mono _ _ _ _ _ _ _ _ _ _ _)
      | (with_reducible exact threshingref13_texted.mono _ _ _ _ _ _ _ _ _ _ _)
      | (with_reducible exact LeO.refl _)
      | (with_reducible exact LeO.none _)
      | (with_reducible refine LeO.ite ?_ ?_)
      | (with_reducible refine LeO.bind ?_ (fun _ => ?_))
      | exact ih0 _ _ _ _
      | exact ih1 _ _ _ _ _ _ _ _ _ _ _
      | exact ih2 _ _ _ _ _ _ _ _ _ _
      | exact ih3 _ _ _ _ _ _ _ _ _ _ _
      | exact threshingref13_Result.mono _ _ _
      | exact threshingref13_reckoned.mono _ _ _ _ _ _ _ _ _ _ _
      | exact threshingref13_texted.mono _ _ _ _ _ _ _ _ _ _ _
      | exact LeO.none _
      | refine LeO.ite ?_ ?_
      | refine LeO.bind ?_ (fun _ => ?_)
set_option maxHeartbeats 8000000 in
set_option maxRecDepth 100000 in
theorem threshingref13_Do.calls (k : Nat) (a0 : Int) (A1 : Option Addr) (c1 : Nat) (l1 : List (S27)) (r1 : Bool) (r2 : Int) (r3 : ByteArray) (r4 : Int) (w : World) (hT : Tabs w) (hr1 : Kd.C k27 w A1 l1.length l1) (hc1 : l1.length ≤ c1) (h : threshingref13_Do.f k a0 l1 = some (r1, r2, r3, r4)) :
    Calls Tryz.prog 10 #[.int .i64 a0, .slice A1 l1.length c1] w fun e w' => e = .returned (.tuple #[.agg #[.bool r1, .int .i64 r2, .string r3], .int .i64 r4]) ∧ Below w.heap.size w w' := by
  have hu27 := Tryz.underlying27
  have HR1 := Aside0.mk hr1
  have HC1 := Aside0.mk hc1
  clear hr1 hc1
  have HB := Aside0.mk (Below.refl w.heap.size w)
  have H : (threshingref13_Do.l0 k a0 l1 (([] : List Bool)) 0) = some (r1, r2, r3, r4) := h
  clear h
  obtain ⟨y394, hy394⟩ : ∃ y_ : List Bool, y_ = (([] : List Bool)) := ⟨_, rfl⟩
  replace H : (threshingref13_Do.l0 k a0 l1 y394 0) = some (r1, r2, r3, r4) := by first | (rw [hy394]; with_reducible exact H) | (have H2_ := (Option.bind_some _ _).symm.trans H; rw [hy394]; with_reducible exact H2_) | (have H2_ := (Option.bind_some _ _).symm.trans H; with_reducible exact H2_) | with_reducible exact H | (rw [hy394]; exact H) | exact H
  have Ny394 := Aside0.mk hy394
  clear hy394
  have H' := Aside0.mk H
  clear H
  go_enter Tryz.func10, Tryz.ntmps10
  go_wp2_with (first | ((with_reducible refine gate_dst (N := 4) rfl ?_); refine box_event ?hg (N := 4) ?hd (cs := #[.bool false, .int .i64 0, .string (⟨#[]⟩ : ByteArray)]) (t := 27) ?hr ?_; (case hd => rfl); (case hg => rfl); (case hr => first | (go_simp; done) | (go_simp; rfl)); intro gb393 hg w3 hbox hb; have n0_ := Aside0.mk (below_step xb hb); have n1_ := Aside0.mk (hbox); have n2_ := xs w hg; have n3_ := xs w hg; clear HB; have HB := n0_; have BK393 := n1_; have GW393 := n2_; have GE393 := n3_; clear n0_ n1_ n2_ n3_; clear hb hbox hg) | ((with_reducible refine gate_dst (N := 13) rfl ?_); refine Kd.R_lit Kd.bool _ 4 ?hg (N := 13) ?hd (xs := ([] : List Bool)) (inner := []) (ok := fun _ => True) (okp := fun _ => True) ?hr ?hp (fun _ hk => hk) trivial (Below.refl _ _) (Nat.le_refl _) (by simp) ?_; (case hd => rfl); (case hg => rfl); (case hr => first | (go_simp; done) | (go_simp; rfl)); (case hp => exact (Reps.none _ _)); intro v395 w4 ho5 hb hg_ hnew_; clear hg_ hnew_; (first | rw [← Ny394.out] at ho5 | (simp only [Int.reduceToNat] at ho5; rw [← Ny394.out] at ho5)); have n0_ := Aside0.mk (Kd.R_lower ho5 (below_size xb)); have n1_ := xd BK393.out hb; have n2_ := Aside0.mk (below_step xb hb); clear BK393; clear HB; have HO396 := n0_; have BK393 := n1_; have HB := n2_; clear n0_ n1_ n2_; clear hb ho5))
  go_loopg [6, 7] k (fun kq v6 v7 w' => ∃ (x6_1 : List Bool) (x7_1 : Int) (x394000_1 : Bool) (x394001_1 : Int) (x394002_1 : ByteArray), v7 = .int .i64 x7_1 ∧ Aside0 (threshingref13_Do.l0 kq a0 l1 x6_1 x7_1 = some (r1, r2, r3, r4)) ∧ Aside0 (kq ≤ k) ∧ Aside0 (Kd.R Kd.bool 4 w' w.heap.size (fun _ => True) v6 x6_1) ∧ Aside0 (w'.heap[gb393]? = some (.cells #[.bool x394000_1, .int .i64 x394001_1, .string x394002_1] 27 (0, 0))) ∧ Aside0 (Below w.heap.size w w'))
  case atStart => exact ⟨(y394), (0), (false), (0), ((⟨#[]⟩ : ByteArray)), (by first | rfl | (simp; done) | (simp [*]; done) | exact congrArg Value.bool (xm_ne_nil _) | exact congrArg Value.bool (xm_ne_nil _).symm), H', ⟨Nat.le_refl _⟩, ⟨by (with_reducible repeat (first | apply Kd.R_alloc | apply Kd.R_drewN | apply Kd.R_drew)); exact HO396.out⟩, ⟨by (with_reducible repeat (first | refine blk_drewN ?_ _ | refine blk_drew ?_ | refine blk_alloc ?_ _)); exact BK393.out⟩, ⟨xb⟩⟩
  case round =>
    clear H'
    try clear c1
    try clear p2
    obtain ⟨x6_1, x7_1, x394000_1, x394001_1, x394002_1, rfl, HA, HK1, HO_6, BK393, HB⟩ := hrel
    cases gk with
    | zero => exact absurd HA.out (by simp [threshingref13_Do.l0])
    | succ k1 =>
      have H := HA.out
      clear HA
      simp only [threshingref13_Do.l0] at H
      by_cases c6 : x7_1 < (l1.length : Int)
      · rw [if_pos c6] at H
        have c6b0 : decide (x7_1 < (l1.length : Int)) = true := decide_eq_true c6
        clear c6
        by_cases c7 : 0 ≤ x7_1
        · rw [if_pos c7] at H
          have c7b0 : decide (0 ≤ x7_1) = true := decide_eq_true c7
          clear c7
          replace H := Option.bind_eq_some_iff.mp H
          obtain ⟨t398, A80, H⟩ := H
          replace H : (if t398 = true then (if x6_1.length < 140737488355328 then (threshingref13_Do.l0 k1 a0 l1 (x6_1 ++ [(rd_T27 l1 x7_1).f0]) (wrap64 (x7_1 + 1))) else (none)) else (some (false, 0, (⟨#[]⟩ : ByteArray), 1))) = some (r1, r2, r3, r4) := H
          have A8 := Aside0.mk A80
          clear A80
          by_cases c9 : t398 = true
          · subst c9
            have H1 : (if x6_1.length < 140737488355328 then (threshingref13_Do.l0 k1 a0 l1 (x6_1 ++ [(rd_T27 l1 x7_1).f0]) (wrap64 (x7_1 + 1))) else (none)) = some (r1, r2, r3, r4) := by rw [if_pos rfl] at H; exact H
            clear H
            have H := H1
            clear H1
            by_cases c10 : x6_1.length < 140737488355328
            · rw [if_pos c10] at H
              have LMc10 := Aside0.mk c10
              clear c10
              obtain ⟨y400, hy400⟩ : ∃ y_ : List Bool, y_ = (x6_1 ++ [(rd_T27 l1 x7_1).f0]) := ⟨_, rfl⟩
              replace H : (threshingref13_Do.l0 k1 a0 l1 y400 (wrap64 (x7_1 + 1))) = some (r1, r2, r3, r4) := by first | (rw [hy400]; with_reducible exact H) | (have H2_ := (Option.bind_some _ _).symm.trans H; rw [hy400]; with_reducible exact H2_) | (have H2_ := (Option.bind_some _ _).symm.trans H; with_reducible exact H2_) | with_reducible exact H | (rw [hy400]; exact H) | exact H
              have Ny400 := Aside0.mk hy400
              clear hy400
              have H' := Aside0.mk H
              clear H
              have p397 : 0 ≤ (x7_1 : Int) := of_decide_eq_true (by first | (with_reducible assumption) | assumption)
              have q397 : x7_1 < (l1.length : Int) := of_decide_eq_true (by first | (with_reducible assumption) | assumption)
              obtain ⟨ad397, e397, hx397_0, hx397_1, hx397_2⟩ := at_T27 HR1.out x7_1 p397 q397
              cases e397
              replace hx397_0 := (HB.out.cell (World.block_lt_of_cell? w _ hx397_0)).trans hx397_0
              replace hx397_1 := (HB.out.cell (World.block_lt_of_cell? w _ hx397_1)).trans hx397_1
              replace hx397_2 := (HB.out.cell (World.block_lt_of_cell? w _ hx397_2)).trans hx397_2
              replace p397 := eq_true p397
              replace q397 := eq_true q397
              go_wp2_with (first | ((with_reducible refine gate_callee (f := 31) rfl ?_); refine goesL_ (some 24) rfl rfl Tryz.func31 (by kernel_rfl) rfl #[.agg #[.bool ((rd_T27 l1 x7_1).f0), .int .i64 ((rd_T27 l1 x7_1).f1), .string ((rd_T27 l1 x7_1).f2)]] rfl xr ?_; (with_reducible refine (threshingref13_Is.calls ((rd_T27 l1 x7_1).f0) ((rd_T27 l1 x7_1).f1) ((rd_T27 l1 x7_1).f2) true _ (Tabs.below hT xf) A8.out).mono ?_); rintro e w11 ⟨rfl, hb⟩; refine ⟨_, rfl, ?_⟩; have n0_ := Aside0.mk (Kd.R_below (by (with_reducible repeat (first | apply Kd.R_alloc | apply Kd.R_drewN | apply Kd.R_drew)); exact HO_6.out) hb); have n1_ := xd BK393.out hb; have n2_ := Aside0.mk (below_step xb hb); clear HO_6; clear BK393; clear HB; have HO_6 := n0_; have BK393 := n1_; have HB := n2_; clear n0_ n1_ n2_; (try clear hb); (try clear hb2); (try clear hk); (try clear hi); have p399 : 0 ≤ (x7_1 : Int) := of_decide_eq_true (by first | (with_reducible assumption) | assumption); have q399 : x7_1 < (l1.length : Int) := of_decide_eq_true (by first | (with_reducible assumption) | assumption); obtain ⟨ad399, e399, hx399_0, hx399_1, hx399_2⟩ := at_T27 HR1.out x7_1 p399 q399; obtain rfl : ad397 = ad399 := (by injection e399); replace hx399_0 := (HB.out.cell (World.block_lt_of_cell? w _ hx399_0)).trans hx399_0; replace hx399_1 := (HB.out.cell (World.block_lt_of_cell? w _ hx399_1)).trans hx399_1; replace hx399_2 := (HB.out.cell (World.block_lt_of_cell? w _ hx399_2)).trans hx399_2; replace p399 := eq_true p399; replace q399 := eq_true q399) | ((with_reducible refine gate_builtin (b := .append) (xs := #[.tmp 27, .tmp 33]) rfl ?_); at_builtin; refine Kd.R_append Kd.bool (w0 := w) w.heap.size rfl (.tmp 27) (.tmp 33) 23 4 (.bool false) 1 rfl Tryz.underlying23 info4 rfl (by decide) (by omega) u6 x6_1 ((rd_T27 l1 x7_1).f0) [.bool ((rd_T27 l1 x7_1).f0)] (fun _ => True) (fun _ => False) rfl rfl ?aP (fun _ hk => hk.elim) ?aF ?aO ?aB ?aS ?aL ?_; (case aP => exact rfl); (case aB => exact xb); (case aF => exact (fun _ _ => trivial)); (case aO => exact (by (with_reducible repeat (first | apply Kd.R_alloc | apply Kd.R_drewN | apply Kd.R_drew)); exact HO_6.out)); (case aS => exact (below_size xb)); (case aL => have := LMc10.out; omega); intro v401 w12 ho hb hg hat; rw [← Ny400.out] at ho; have n0_ := Aside0.mk (blk_grown (g := gb393) (o := .cells #[.bool x394000_1, .int .i64 x394001_1, .string x394002_1] 27 (0, 0)) (xk BK393.out) hg (Kd.R_ne HO_6.out BK393.out (by decide))); have n1_ := Aside0.mk (hb); have n2_ := Aside0.mk (ho); clear BK393; clear HB; clear HO_6; have BK393 := n0_; have HB := n1_; have HO402 := n2_; clear n0_ n1_ n2_; clear ho hb hg hat))
              go_roundg k1
              case measure => have := HK1.out; omega
              case rel => exact ⟨(y400), (wrap64 (x7_1 + 1)), (x394000_1), (x394001_1), (x394002_1), (by first | rfl | (simp; done) | (simp [*]; done) | exact congrArg Value.bool (xm_ne_nil _) | exact congrArg Value.bool (xm_ne_nil _).symm), H', ⟨by have := HK1.out; omega⟩, ⟨by (with_reducible repeat (first | apply Kd.R_alloc | apply Kd.R_drewN | apply Kd.R_drew)); exact HO402.out⟩, ⟨by (with_reducible repeat (first | refine blk_drewN ?_ _ | refine blk_drew ?_ | refine blk_alloc ?_ _)); exact BK393.out⟩, ⟨xb⟩⟩
            · rw [if_neg c10] at H
              exact absurd H (by simp)
          · replace c9 := Bool.eq_false_iff.mpr c9
            subst c9
            have H1 : (some (false, 0, (⟨#[]⟩ : ByteArray), 1)) = some (r1, r2, r3, r4) := by rw [if_neg (show ¬ (false = true) by decide)] at H; exact H
            clear H
            have H := H1
            clear H1
            simp only [Option.some.injEq, Prod.mk.injEq] at H
            obtain ⟨rfl, rfl, rfl, rfl⟩ := H
            have p397 : 0 ≤ (x7_1 : Int) := of_decide_eq_true (by first | (with_reducible assumption) | assumption)
            have q397 : x7_1 < (l1.length : Int) := of_decide_eq_true (by first | (with_reducible assumption) | assumption)
            obtain ⟨ad397, e397, hx397_0, hx397_1, hx397_2⟩ := at_T27 HR1.out x7_1 p397 q397
            cases e397
            replace hx397_0 := (HB.out.cell (World.block_lt_of_cell? w _ hx397_0)).trans hx397_0
            replace hx397_1 := (HB.out.cell (World.block_lt_of_cell? w _ hx397_1)).trans hx397_1
            replace hx397_2 := (HB.out.cell (World.block_lt_of_cell? w _ hx397_2)).trans hx397_2
            replace p397 := eq_true p397
            replace q397 := eq_true q397
            go_wp2_with (first | ((with_reducible refine gate_callee (f := 31) rfl ?_); refine goesL_ (some 24) rfl rfl Tryz.func31 (by kernel_rfl) rfl #[.agg #[.bool ((rd_T27 l1 x7_1).f0), .int .i64 ((rd_T27 l1 x7_1).f1), .string ((rd_T27 l1 x7_1).f2)]] rfl xr ?_; (with_reducible refine (threshingref13_Is.calls ((rd_T27 l1 x7_1).f0) ((rd_T27 l1 x7_1).f1) ((rd_T27 l1 x7_1).f2) false _ (Tabs.below hT xf) A8.out).mono ?_); rintro e w13 ⟨rfl, hb⟩; refine ⟨_, rfl, ?_⟩; have n0_ := Aside0.mk (Kd.R_below (by (with_reducible repeat (first | apply Kd.R_alloc | apply Kd.R_drewN | apply Kd.R_drew)); exact HO_6.out) hb); have n1_ := xd BK393.out hb; have n2_ := Aside0.mk (below_step xb hb); clear HO_6; clear BK393; clear HB; have HO_6 := n0_; have BK393 := n1_; have HB := n2_; clear n0_ n1_ n2_; (try clear hb); (try clear hb2); (try clear hk); (try clear hi); have hcz14_0 : w13.cell? ⟨gb393, 0, none⟩ = some (.bool x394000_1) := (blk_cell BK393.out 0).trans rfl; have hcz14_1 : w13.cell? ⟨gb393, 1, none⟩ = some (.int .i64 x394001_1) := (blk_cell BK393.out 1).trans rfl; have hcz14_2 : w13.cell? ⟨gb393, 2, none⟩ = some (.string x394002_1) := (blk_cell BK393.out 2).trans rfl; have hfz14_0 := blk_frozen BK393.out 0; have hfz14_1 := blk_frozen BK393.out 1; have hfz14_2 := blk_frozen BK393.out 2))
            refine bodyPost_ret (results_ct rfl _ _ gb393 27 #[.bool false, .int .i64 0, .string (⟨#[]⟩ : ByteArray)] (0, 0) _ rfl (by (with_reducible repeat (first | refine blk_drewN ?_ _ | refine blk_drew ?_ | refine blk_alloc ?_ _)); refine blk_put (cs := #[.bool false, .int .i64 0, .string x394002_1]) ?_ 2 _ rfl; (with_reducible repeat (first | refine blk_drewN ?_ _ | refine blk_drew ?_ | refine blk_alloc ?_ _)); refine blk_put (cs := #[.bool false, .int .i64 x394001_1, .string x394002_1]) ?_ 1 _ rfl; (with_reducible repeat (first | refine blk_drewN ?_ _ | refine blk_drew ?_ | refine blk_alloc ?_ _)); refine blk_put (cs := #[.bool x394000_1, .int .i64 x394001_1, .string x394002_1]) ?_ 0 _ rfl; (with_reducible repeat (first | refine blk_drewN ?_ _ | refine blk_drew ?_ | refine blk_alloc ?_ _)); exact BK393.out) Tryz.underlying27 rfl (by kernel_rfl)) rfl ?_
            exact ⟨by first | rfl | (simp [errW_none, errW_some] <;> rfl) | (simp [*, errW_none, errW_some] <;> rfl), xb⟩
        · rw [if_neg c7] at H
          exact absurd H (by simp)
      · rw [if_neg c6] at H
        have c6b0 : decide (x7_1 < (l1.length : Int)) = false := decide_eq_false c6
        clear c6
        replace H := Option.bind_eq_some_iff.mp H
        obtain ⟨⟨t403, t404⟩, A150, H⟩ := H
        replace H : (if t404 = 0 then (if 0 < (l1.length : Int) then (if (l1.length : Int) > 1 then (if 1 < (l1.length : Int) then (threshingref13_Do.j1 k1 a0 l1 ((rd_T27 l1 0).f0) ((rd_T27 l1 0).f1) ((rd_T27 l1 0).f2) ((rd_T27 l1 1).f0) ((rd_T27 l1 1).f1) ((rd_T27 l1 1).f2) false 0 (⟨#[]⟩ : ByteArray)) else (none)) else (threshingref13_Do.j1 k1 a0 l1 ((rd_T27 l1 0).f0) ((rd_T27 l1 0).f1) ((rd_T27 l1 0).f2) false 0 (⟨#[]⟩ : ByteArray) false 0 (⟨#[]⟩ : ByteArray))) else (none)) else (some (false, 0, (⟨#[]⟩ : ByteArray), t404))) = some (r1, r2, r3, r4) := H
        have A15 := Aside0.mk A150
        clear A150
        by_cases c16 : t404 = 0
        · rw [if_pos c16] at H
          have c16b0 : (t404 == 0) = true := beq_iff_eq.mpr c16
          have c16b1 : (t404 != 0) = false := bne_eq_false_iff_eq.mpr c16
          clear c16
          by_cases c17 : 0 < (l1.length : Int)
          · rw [if_pos c17] at H
            have c17b0 : decide (0 < (l1.length : Int)) = true := decide_eq_true c17
            have c17b1 : decide (0 < l1.length) = true := decide_eq_true (by omega)
            clear c17
            have HC18 := Aside0.mk H
            clear H
            obtain ⟨Ao19, co19, eo19⟩ := Kd.R_slice HO_6.out
            subst eo19
            go_upto_if 52 with (first | ((with_reducible refine gate_callee (f := 12) rfl ?_); refine goesL_ (some 38) rfl rfl Tryz.func12 (by kernel_rfl) rfl #[.int .i64 a0, .slice Ao19 x6_1.length co19] rfl xr ?_; (with_reducible refine (threshingref13_Result.calls k1 a0 _ _ x6_1 t403 t404 _ (Tabs.below hT xf) ?side1 ?side2 A15.out).mono ?_); (case side1 => repeat (first | exact (Kd.R_reads' HO_6.out).2.2 | (with_reducible refine Kd.C_alloc ?_ _) | (with_reducible refine Kd.C_drewN ?_ _) | (with_reducible refine Kd.C_drew ?_))); (case side2 => exact (Kd.R_reads' HO_6.out).2.1); rintro e w' ⟨rfl, ⟨nd, rfl⟩⟩; refine ⟨_, rfl, ?_⟩; (try (rw [drewN_self wr]; generalize hq_ : World.drewN wr _ = wr; have n0_ : Aside0 (Kd.R Kd.bool 4 wr w.heap.size (fun _ => True) (.slice Ao19 x6_1.length co19) x6_1) := ⟨by rw [← hq_]; exact (by (with_reducible repeat (first | apply Kd.R_alloc | apply Kd.R_drewN | apply Kd.R_drew)); exact HO_6.out)⟩; have n1_ : Aside0 (wr.heap[gb393]? = some (.cells #[.bool x394000_1, .int .i64 x394001_1, .string x394002_1] 27 (0, 0))) := ⟨by rw [← hq_]; exact (xk BK393.out)⟩; have n2_ : Aside0 (Below w.heap.size w wr) := ⟨by rw [← hq_]; exact xb⟩; clear HO_6 BK393 HB hq_; have HO_6 := n0_; have BK393 := n1_; have HB := n2_; clear n0_ n1_ n2_)); have p405 : 0 ≤ (0 : Int) := (by omega); have q405 : 0 < (l1.length : Int) := of_decide_eq_true (by first | (with_reducible assumption) | assumption); obtain ⟨ad405, e405, hx405_0, hx405_1, hx405_2⟩ := at_T27 HR1.out 0 p405 q405; cases e405; have qi405 : (0 < l1.length) = True := eq_true (by omega); (try rw [show ((0 : Int)).toNat = 0 from rfl] at hx405_0); (try rw [show 0 * 3 = 0 from rfl] at hx405_0); (try rw [Addr.add_zero'] at hx405_0); (try rw [show ((0 : Int)).toNat = 0 from rfl] at hx405_1); (try rw [show 0 * 3 = 0 from rfl] at hx405_1); (try rw [Addr.add_zero'] at hx405_1); (try rw [show ((0 : Int)).toNat = 0 from rfl] at hx405_2); (try rw [show 0 * 3 = 0 from rfl] at hx405_2); (try rw [Addr.add_zero'] at hx405_2); replace hx405_0 := (HB.out.cell (World.block_lt_of_cell? w _ hx405_0)).trans hx405_0; replace hx405_1 := (HB.out.cell (World.block_lt_of_cell? w _ hx405_1)).trans hx405_1; replace hx405_2 := (HB.out.cell (World.block_lt_of_cell? w _ hx405_2)).trans hx405_2; replace p405 := eq_true p405; replace q405 := eq_true q405) | ((with_reducible refine gate_dst (N := 10) rfl ?_); refine box_event ?hg (N := 10) ?hd (cs := #[.bool false, .int .i64 0, .string (⟨#[]⟩ : ByteArray)]) (t := 27) ?hr ?_; (case hd => rfl); (case hg => rfl); (case hr => first | (go_simp; done) | (go_simp; rfl)); intro gb406 hg w20 hbox hb; have n0_ := Aside0.mk (Kd.R_below (by (with_reducible repeat (first | apply Kd.R_alloc | apply Kd.R_drewN | apply Kd.R_drew)); exact HO_6.out) hb); have n1_ := xd BK393.out hb; have n2_ := Aside0.mk (below_step xb hb); have n3_ := Aside0.mk (hbox); have n4_ := xs w hg; have n5_ := xs w hg; have n6_ := xn hg BK393.out; have n7_ := xp hg BK393.out; clear HO_6; clear BK393; clear HB; have HO_6 := n0_; have BK393 := n1_; have HB := n2_; have BK406 := n3_; have GW406 := n4_; have GE406 := n5_; have NB393_406 := n6_; have NB406_393 := n7_; clear n0_ n1_ n2_ n3_ n4_ n5_ n6_ n7_; clear hb hbox hg; have hnb21 := NB406_393.out; have hnc21 := NB393_406.out; have hcz22_0 : w20.cell? ⟨gb406, 0, none⟩ = some (.bool false) := (blk_cell BK406.out 0).trans rfl; have hcz22_1 : w20.cell? ⟨gb406, 1, none⟩ = some (.int .i64 0) := (blk_cell BK406.out 1).trans rfl; have hcz22_2 : w20.cell? ⟨gb406, 2, none⟩ = some (.string (⟨#[]⟩ : ByteArray)) := (blk_cell BK406.out 2).trans rfl; have hfz22_0 := blk_frozen BK406.out 0; have hfz22_1 := blk_frozen BK406.out 1; have hfz22_2 := blk_frozen BK406.out 2) | ((with_reducible refine gate_dst (N := 11) rfl ?_); refine box_event ?hg (N := 11) ?hd (cs := #[.bool false, .int .i64 0, .string (⟨#[]⟩ : ByteArray)]) (t := 27) ?hr ?_; (case hd => rfl); (case hg => rfl); (case hr => first | (go_simp; done) | (go_simp; rfl)); intro gb407 hg w23 hbox hb; have n0_ := Aside0.mk (Kd.R_below (by (with_reducible repeat (first | apply Kd.R_alloc | apply Kd.R_drewN | apply Kd.R_drew)); exact (Kd.R_mono (Kd.R_far (p := ⟨gb406, 2, none⟩) (Kd.R_far (p := ⟨gb406, 1, none⟩) (Kd.R_far (p := ⟨gb406, 0, none⟩) (Kd.R_types HO_6.out BK406.out (by decide)) (fun _ hk => hk.2) (.bool ((rd_T27 l1 0).f0))) (fun _ hk => hk.2) (.int .i64 ((rd_T27 l1 0).f1))) (fun _ hk => hk.2) (.string ((rd_T27 l1 0).f2))) (fun _ h_ => h_.1))) hb); have n1_ := Aside0.mk (blk_below (g := gb393) (o := .cells #[.bool x394000_1, .int .i64 x394001_1, .string x394002_1] 27 (0, 0)) (by (with_reducible repeat (first | refine blk_drewN ?_ _ | refine blk_drew ?_ | refine blk_alloc ?_ _)); refine blk_far ?_ NB393_406.out _; (with_reducible repeat (first | refine blk_drewN ?_ _ | refine blk_drew ?_ | refine blk_alloc ?_ _)); refine blk_far ?_ NB393_406.out _; (with_reducible repeat (first | refine blk_drewN ?_ _ | refine blk_drew ?_ | refine blk_alloc ?_ _)); refine blk_far ?_ NB393_406.out _; (with_reducible repeat (first | refine blk_drewN ?_ _ | refine blk_drew ?_ | refine blk_alloc ?_ _)); exact BK393.out) hb); have n2_ := Aside0.mk (blk_below (g := gb406) (o := .cells #[.bool ((rd_T27 l1 0).f0), .int .i64 ((rd_T27 l1 0).f1), .string ((rd_T27 l1 0).f2)] 27 (0, 0)) (by (with_reducible repeat (first | refine blk_drewN ?_ _ | refine blk_drew ?_ | refine blk_alloc ?_ _)); refine blk_put (cs := #[.bool ((rd_T27 l1 0).f0), .int .i64 ((rd_T27 l1 0).f1), .string (⟨#[]⟩ : ByteArray)]) ?_ 2 _ rfl; (with_reducible repeat (first | refine blk_drewN ?_ _ | refine blk_drew ?_ | refine blk_alloc ?_ _)); refine blk_put (cs := #[.bool ((rd_T27 l1 0).f0), .int .i64 0, .string (⟨#[]⟩ : ByteArray)]) ?_ 1 _ rfl; (with_reducible repeat (first | refine blk_drewN ?_ _ | refine blk_drew ?_ | refine blk_alloc ?_ _)); refine blk_put (cs := #[.bool false, .int .i64 0, .string (⟨#[]⟩ : ByteArray)]) ?_ 0 _ rfl; (with_reducible repeat (first | refine blk_drewN ?_ _ | refine blk_drew ?_ | refine blk_alloc ?_ _)); exact BK406.out) hb); have n3_ := Aside0.mk (below_step xb hb); have n4_ := Aside0.mk (hbox); have n5_ := xs w hg; have n6_ := xs w hg; have n7_ := Aside0.mk ((by rw [hg]; exact Nat.ne_of_lt (blk_lt (g := gb393) (o := .cells #[.bool x394000_1, .int .i64 x394001_1, .string x394002_1] 27 (0, 0)) (by (with_reducible repeat (first | refine blk_drewN ?_ _ | refine blk_drew ?_ | refine blk_alloc ?_ _)); refine blk_far ?_ NB393_406.out _; (with_reducible repeat (first | refine blk_drewN ?_ _ | refine blk_drew ?_ | refine blk_alloc ?_ _)); refine blk_far ?_ NB393_406.out _; (with_reducible repeat (first | refine blk_drewN ?_ _ | refine blk_drew ?_ | refine blk_alloc ?_ _)); refine blk_far ?_ NB393_406.out _; (with_reducible repeat (first | refine blk_drewN ?_ _ | refine blk_drew ?_ | refine blk_alloc ?_ _)); exact BK393.out)) : gb393 ≠ gb407)); have n8_ := Aside0.mk ((by rw [hg]; exact Nat.ne_of_gt (blk_lt (g := gb393) (o := .cells #[.bool x394000_1, .int .i64 x394001_1, .string x394002_1] 27 (0, 0)) (by (with_reducible repeat (first | refine blk_drewN ?_ _ | refine blk_drew ?_ | refine blk_alloc ?_ _)); refine blk_far ?_ NB393_406.out _; (with_reducible repeat (first | refine blk_drewN ?_ _ | refine blk_drew ?_ | refine blk_alloc ?_ _)); refine blk_far ?_ NB393_406.out _; (with_reducible repeat (first | refine blk_drewN ?_ _ | refine blk_drew ?_ | refine blk_alloc ?_ _)); refine blk_far ?_ NB393_406.out _; (with_reducible repeat (first | refine blk_drewN ?_ _ | refine blk_drew ?_ | refine blk_alloc ?_ _)); exact BK393.out)) : gb407 ≠ gb393)); have n9_ := Aside0.mk ((by rw [hg]; exact Nat.ne_of_lt (blk_lt (g := gb406) (o := .cells #[.bool ((rd_T27 l1 0).f0), .int .i64 ((rd_T27 l1 0).f1), .string ((rd_T27 l1 0).f2)] 27 (0, 0)) (by (with_reducible repeat (first | refine blk_drewN ?_ _ | refine blk_drew ?_ | refine blk_alloc ?_ _)); refine blk_put (cs := #[.bool ((rd_T27 l1 0).f0), .int .i64 ((rd_T27 l1 0).f1), .string (⟨#[]⟩ : ByteArray)]) ?_ 2 _ rfl; (with_reducible repeat (first | refine blk_drewN ?_ _ | refine blk_drew ?_ | refine blk_alloc ?_ _)); refine blk_put (cs := #[.bool ((rd_T27 l1 0).f0), .int .i64 0, .string (⟨#[]⟩ : ByteArray)]) ?_ 1 _ rfl; (with_reducible repeat (first | refine blk_drewN ?_ _ | refine blk_drew ?_ | refine blk_alloc ?_ _)); refine blk_put (cs := #[.bool false, .int .i64 0, .string (⟨#[]⟩ : ByteArray)]) ?_ 0 _ rfl; (with_reducible repeat (first | refine blk_drewN ?_ _ | refine blk_drew ?_ | refine blk_alloc ?_ _)); exact BK406.out)) : gb406 ≠ gb407)); have n10_ := Aside0.mk ((by rw [hg]; exact Nat.ne_of_gt (blk_lt (g := gb406) (o := .cells #[.bool ((rd_T27 l1 0).f0), .int .i64 ((rd_T27 l1 0).f1), .string ((rd_T27 l1 0).f2)] 27 (0, 0)) (by (with_reducible repeat (first | refine blk_drewN ?_ _ | refine blk_drew ?_ | refine blk_alloc ?_ _)); refine blk_put (cs := #[.bool ((rd_T27 l1 0).f0), .int .i64 ((rd_T27 l1 0).f1), .string (⟨#[]⟩ : ByteArray)]) ?_ 2 _ rfl; (with_reducible repeat (first | refine blk_drewN ?_ _ | refine blk_drew ?_ | refine blk_alloc ?_ _)); refine blk_put (cs := #[.bool ((rd_T27 l1 0).f0), .int .i64 0, .string (⟨#[]⟩ : ByteArray)]) ?_ 1 _ rfl; (with_reducible repeat (first | refine blk_drewN ?_ _ | refine blk_drew ?_ | refine blk_alloc ?_ _)); refine blk_put (cs := #[.bool false, .int .i64 0, .string (⟨#[]⟩ : ByteArray)]) ?_ 0 _ rfl; (with_reducible repeat (first | refine blk_drewN ?_ _ | refine blk_drew ?_ | refine blk_alloc ?_ _)); exact BK406.out)) : gb407 ≠ gb406)); clear HO_6; clear BK393; clear BK406; clear HB; have HO_6 := n0_; have BK393 := n1_; have BK406 := n2_; have HB := n3_; have BK407 := n4_; have GW407 := n5_; have GE407 := n6_; have NB393_407 := n7_; have NB407_393 := n8_; have NB406_407 := n9_; have NB407_406 := n10_; clear n0_ n1_ n2_ n3_ n4_ n5_ n6_ n7_ n8_ n9_ n10_; clear hb hbox hg) | ((with_reducible refine gate_dst (N := 12) rfl ?_); refine box_event ?hg (N := 12) ?hd (cs := #[.bool false, .int .i64 0, .string (⟨#[]⟩ : ByteArray)]) (t := 27) ?hr ?_; (case hd => rfl); (case hg => rfl); (case hr => first | (go_simp; done) | (go_simp; rfl)); intro gb408 hg w24 hbox hb; have n0_ := Aside0.mk (Kd.R_below (by (with_reducible repeat (first | apply Kd.R_alloc | apply Kd.R_drewN | apply Kd.R_drew)); exact HO_6.out) hb); have n1_ := xd BK393.out hb; have n2_ := xd BK406.out hb; have n3_ := xd BK407.out hb; have n4_ := Aside0.mk (below_step xb hb); have n5_ := Aside0.mk (hbox); have n6_ := xs w hg; have n7_ := xs w hg; have n8_ := xn hg BK393.out; have n9_ := xp hg BK393.out; have n10_ := xn hg BK406.out; have n11_ := xp hg BK406.out; have n12_ := xn hg BK407.out; have n13_ := xp hg BK407.out; clear HO_6; clear BK393; clear BK406; clear BK407; clear HB; have HO_6 := n0_; have BK393 := n1_; have BK406 := n2_; have BK407 := n3_; have HB := n4_; have BK408 := n5_; have GW408 := n6_; have GE408 := n7_; have NB393_408 := n8_; have NB408_393 := n9_; have NB406_408 := n10_; have NB408_406 := n11_; have NB407_408 := n12_; have NB408_407 := n13_; clear n0_ n1_ n2_ n3_ n4_ n5_ n6_ n7_ n8_ n9_ n10_ n11_ n12_ n13_; clear hb hbox hg; have hnb25 := NB407_393.out; have hnc25 := NB393_407.out; have hnb26 := NB407_406.out; have hnc26 := NB406_407.out; have hnb27 := NB407_408.out; have hnc27 := NB408_407.out; have hcz28_0 : w24.cell? ⟨gb407, 0, none⟩ = some (.bool false) := (blk_cell BK407.out 0).trans rfl; have hcz28_1 : w24.cell? ⟨gb407, 1, none⟩ = some (.int .i64 0) := (blk_cell BK407.out 1).trans rfl; have hcz28_2 : w24.cell? ⟨gb407, 2, none⟩ = some (.string (⟨#[]⟩ : ByteArray)) := (blk_cell BK407.out 2).trans rfl; have hfz28_0 := blk_frozen BK407.out 0; have hfz28_1 := blk_frozen BK407.out 1; have hfz28_2 := blk_frozen BK407.out 2; have hnb29 := NB408_393.out; have hnc29 := NB393_408.out; have hnb30 := NB408_406.out; have hnc30 := NB406_408.out; have hcz31_0 : w24.cell? ⟨gb408, 0, none⟩ = some (.bool false) := (blk_cell BK408.out 0).trans rfl; have hcz31_1 : w24.cell? ⟨gb408, 1, none⟩ = some (.int .i64 0) := (blk_cell BK408.out 1).trans rfl; have hcz31_2 : w24.cell? ⟨gb408, 2, none⟩ = some (.string (⟨#[]⟩ : ByteArray)) := (blk_cell BK408.out 2).trans rfl; have hfz31_0 := blk_frozen BK408.out 0; have hfz31_1 := blk_frozen BK408.out 1; have hfz31_2 := blk_frozen BK408.out 2))
            (try simp only [Act.put, List.setIfInBounds_toArray, List.set_cons_zero, List.set_cons_succ])
            go_cut [] (fun wc => ∃ (kq : Nat) (x408000_17 : Bool) (x408001_17 : Int) (x408002_17 : ByteArray), Aside0 (threshingref13_Do.j1 kq a0 l1 ((rd_T27 l1 0).f0) ((rd_T27 l1 0).f1) ((rd_T27 l1 0).f2) x408000_17 x408001_17 x408002_17 false 0 (⟨#[]⟩ : ByteArray) = some (r1, r2, r3, r4)) ∧ Aside0 (kq ≤ k1) ∧ Aside0 (wc.heap[gb393]? = some (.cells #[.bool x394000_1, .int .i64 x394001_1, .string x394002_1] 27 (0, 0))) ∧ Aside0 (wc.heap[gb406]? = some (.cells #[.bool ((rd_T27 l1 0).f0), .int .i64 ((rd_T27 l1 0).f1), .string ((rd_T27 l1 0).f2)] 27 (0, 0))) ∧ Aside0 (wc.heap[gb407]? = some (.cells #[.bool x408000_17, .int .i64 x408001_17, .string x408002_17] 27 (0, 0))) ∧ Aside0 (wc.heap[gb408]? = some (.cells #[.bool false, .int .i64 0, .string (⟨#[]⟩ : ByteArray)] 27 (0, 0))) ∧ Aside0 (Below w.heap.size w wc))
            case first =>
              have H := HC18.out
              clear HC18
              by_cases c32 : (l1.length : Int) > 1
              · rw [if_pos c32] at H
                have c32b0 : decide (1 < (l1.length : Int)) = true := decide_eq_true c32
                have c32b1 : decide (1 < l1.length) = true := decide_eq_true (by omega)
                clear c32
                (first | rw [c32b0] | (simp only [i64_w, i32_w]; rw [c32b0]) | skip)
                by_cases c33 : 1 < (l1.length : Int)
                · rw [if_pos c33] at H
                  have c33b0 : decide (1 < (l1.length : Int)) = true := decide_eq_true c33
                  have c33b1 : decide (1 < l1.length) = true := decide_eq_true (by omega)
                  clear c33
                  have H' := Aside0.mk H
                  clear H
                  have p409 : 0 ≤ (1 : Int) := (by omega)
                  have q409 : 1 < (l1.length : Int) := of_decide_eq_true (by first | (with_reducible assumption) | assumption)
                  obtain ⟨ad409, e409, hx409_0, hx409_1, hx409_2⟩ := at_T27 HR1.out 1 p409 q409
                  obtain rfl : ad405 = ad409 := (by injection e409)
                  (try simp only [show (1 : Int).toNat = 1 from rfl, Nat.reduceMul, Nat.reduceEqDiff, Go.Addr.add, ↓reduceIte] at hx409_0)
                  (try simp only [show (1 : Int).toNat = 1 from rfl, Nat.reduceMul, Nat.reduceEqDiff, Go.Addr.add, ↓reduceIte] at hx409_1)
                  (try simp only [show (1 : Int).toNat = 1 from rfl, Nat.reduceMul, Nat.reduceEqDiff, Go.Addr.add, ↓reduceIte] at hx409_2)
                  have qi409 : (1 < l1.length) = True := eq_true (by omega)
                  (try rw [show ((1 : Int)).toNat = 1 from rfl] at hx409_0)
                  (try rw [show 1 * 3 = 3 from rfl] at hx409_0)
                  (try rw [show ((1 : Int)).toNat = 1 from rfl] at hx409_1)
                  (try rw [show 1 * 3 = 3 from rfl] at hx409_1)
                  (try rw [show ((1 : Int)).toNat = 1 from rfl] at hx409_2)
                  (try rw [show 1 * 3 = 3 from rfl] at hx409_2)
                  have hn409_0 : ad405.block ≠ gb407 := Nat.ne_of_lt (Nat.lt_of_lt_of_le (by have := World.block_lt_of_cell? _ _ hx409_0; first | rwa [add_block] at this | exact this) GW407.out)
                  have hn409_1 : ad405.block ≠ gb407 := Nat.ne_of_lt (Nat.lt_of_lt_of_le (by have := World.block_lt_of_cell? _ _ hx409_0; first | rwa [add_block] at this | exact this) GW407.out)
                  have hn409_2 : ad405.block ≠ gb407 := Nat.ne_of_lt (Nat.lt_of_lt_of_le (by have := World.block_lt_of_cell? _ _ hx409_0; first | rwa [add_block] at this | exact this) GW407.out)
                  have hn409_3 : ad405.block ≠ gb408 := Nat.ne_of_lt (Nat.lt_of_lt_of_le (by have := World.block_lt_of_cell? _ _ hx409_0; first | rwa [add_block] at this | exact this) GW408.out)
                  have hn409_4 : ad405.block ≠ gb408 := Nat.ne_of_lt (Nat.lt_of_lt_of_le (by have := World.block_lt_of_cell? _ _ hx409_0; first | rwa [add_block] at this | exact this) GW408.out)
                  have hn409_5 : ad405.block ≠ gb408 := Nat.ne_of_lt (Nat.lt_of_lt_of_le (by have := World.block_lt_of_cell? _ _ hx409_0; first | rwa [add_block] at this | exact this) GW408.out)
                  replace hx409_0 := (HB.out.cell (World.block_lt_of_cell? w _ hx409_0)).trans hx409_0
                  replace hx409_1 := (HB.out.cell (World.block_lt_of_cell? w _ hx409_1)).trans hx409_1
                  replace hx409_2 := (HB.out.cell (World.block_lt_of_cell? w _ hx409_2)).trans hx409_2
                  replace hx409_0 := (cell_far (p := ⟨gb407, 0, none⟩) (by first | (rw [add_block]; exact hn409_0) | (show (Addr.add _ _).block ≠ _; rw [add_block]; exact hn409_0) | exact hn409_0) (.bool false)).trans hx409_0
                  replace hx409_1 := (cell_far (p := ⟨gb407, 0, none⟩) (by first | (rw [add_block]; exact hn409_0) | (show (Addr.add _ _).block ≠ _; rw [add_block]; exact hn409_0) | exact hn409_0) (.bool false)).trans hx409_1
                  replace hx409_2 := (cell_far (p := ⟨gb407, 0, none⟩) (by first | (rw [add_block]; exact hn409_0) | (show (Addr.add _ _).block ≠ _; rw [add_block]; exact hn409_0) | exact hn409_0) (.bool false)).trans hx409_2
                  replace hx409_0 := (cell_far (p := ⟨gb407, 1, none⟩) (by first | (rw [add_block]; exact hn409_1) | (show (Addr.add _ _).block ≠ _; rw [add_block]; exact hn409_1) | exact hn409_1) (.int .i64 0)).trans hx409_0
                  replace hx409_1 := (cell_far (p := ⟨gb407, 1, none⟩) (by first | (rw [add_block]; exact hn409_1) | (show (Addr.add _ _).block ≠ _; rw [add_block]; exact hn409_1) | exact hn409_1) (.int .i64 0)).trans hx409_1
                  replace hx409_2 := (cell_far (p := ⟨gb407, 1, none⟩) (by first | (rw [add_block]; exact hn409_1) | (show (Addr.add _ _).block ≠ _; rw [add_block]; exact hn409_1) | exact hn409_1) (.int .i64 0)).trans hx409_2
                  replace hx409_0 := (cell_far (p := ⟨gb407, 2, none⟩) (by first | (rw [add_block]; exact hn409_2) | (show (Addr.add _ _).block ≠ _; rw [add_block]; exact hn409_2) | exact hn409_2) (.string (⟨#[]⟩ : ByteArray))).trans hx409_0
                  replace hx409_1 := (cell_far (p := ⟨gb407, 2, none⟩) (by first | (rw [add_block]; exact hn409_2) | (show (Addr.add _ _).block ≠ _; rw [add_block]; exact hn409_2) | exact hn409_2) (.string (⟨#[]⟩ : ByteArray))).trans hx409_1
                  replace hx409_2 := (cell_far (p := ⟨gb407, 2, none⟩) (by first | (rw [add_block]; exact hn409_2) | (show (Addr.add _ _).block ≠ _; rw [add_block]; exact hn409_2) | exact hn409_2) (.string (⟨#[]⟩ : ByteArray))).trans hx409_2
                  replace hx409_0 := (cell_far (p := ⟨gb408, 0, none⟩) (by first | (rw [add_block]; exact hn409_3) | (show (Addr.add _ _).block ≠ _; rw [add_block]; exact hn409_3) | exact hn409_3) (.bool false)).trans hx409_0
                  replace hx409_1 := (cell_far (p := ⟨gb408, 0, none⟩) (by first | (rw [add_block]; exact hn409_3) | (show (Addr.add _ _).block ≠ _; rw [add_block]; exact hn409_3) | exact hn409_3) (.bool false)).trans hx409_1
                  replace hx409_2 := (cell_far (p := ⟨gb408, 0, none⟩) (by first | (rw [add_block]; exact hn409_3) | (show (Addr.add _ _).block ≠ _; rw [add_block]; exact hn409_3) | exact hn409_3) (.bool false)).trans hx409_2
                  replace hx409_0 := (cell_far (p := ⟨gb408, 1, none⟩) (by first | (rw [add_block]; exact hn409_4) | (show (Addr.add _ _).block ≠ _; rw [add_block]; exact hn409_4) | exact hn409_4) (.int .i64 0)).trans hx409_0
                  replace hx409_1 := (cell_far (p := ⟨gb408, 1, none⟩) (by first | (rw [add_block]; exact hn409_4) | (show (Addr.add _ _).block ≠ _; rw [add_block]; exact hn409_4) | exact hn409_4) (.int .i64 0)).trans hx409_1
                  replace hx409_2 := (cell_far (p := ⟨gb408, 1, none⟩) (by first | (rw [add_block]; exact hn409_4) | (show (Addr.add _ _).block ≠ _; rw [add_block]; exact hn409_4) | exact hn409_4) (.int .i64 0)).trans hx409_2
                  replace hx409_0 := (cell_far (p := ⟨gb408, 2, none⟩) (by first | (rw [add_block]; exact hn409_5) | (show (Addr.add _ _).block ≠ _; rw [add_block]; exact hn409_5) | exact hn409_5) (.string (⟨#[]⟩ : ByteArray))).trans hx409_0
                  replace hx409_1 := (cell_far (p := ⟨gb408, 2, none⟩) (by first | (rw [add_block]; exact hn409_5) | (show (Addr.add _ _).block ≠ _; rw [add_block]; exact hn409_5) | exact hn409_5) (.string (⟨#[]⟩ : ByteArray))).trans hx409_1
                  replace hx409_2 := (cell_far (p := ⟨gb408, 2, none⟩) (by first | (rw [add_block]; exact hn409_5) | (show (Addr.add _ _).block ≠ _; rw [add_block]; exact hn409_5) | exact hn409_5) (.string (⟨#[]⟩ : ByteArray))).trans hx409_2
                  clear hn409_0
                  clear hn409_1
                  clear hn409_2
                  clear hn409_3
                  clear hn409_4
                  clear hn409_5
                  replace p409 := eq_true p409
                  replace q409 := eq_true q409
                  have hnb34 := NB407_393.out
                  have hnc34 := NB393_407.out
                  have hnb35 := NB407_406.out
                  have hnc35 := NB406_407.out
                  have hnb36 := NB407_408.out
                  have hnc36 := NB408_407.out
                  have hcz37_0 : w24.cell? ⟨gb407, 0, none⟩ = some (.bool false) := (blk_cell BK407.out 0).trans rfl
                  have hcz37_1 : w24.cell? ⟨gb407, 1, none⟩ = some (.int .i64 0) := (blk_cell BK407.out 1).trans rfl
                  have hcz37_2 : w24.cell? ⟨gb407, 2, none⟩ = some (.string (⟨#[]⟩ : ByteArray)) := (blk_cell BK407.out 2).trans rfl
                  have hfz37_0 := blk_frozen BK407.out 0
                  have hfz37_1 := blk_frozen BK407.out 1
                  have hfz37_2 := blk_frozen BK407.out 2
                  go_wp2
                  go_meet
                  case rel => exact ⟨_, ((rd_T27 l1 1).f0), ((rd_T27 l1 1).f1), ((rd_T27 l1 1).f2), H', ⟨by have := HK1.out; first | omega | exact Nat.le_refl _⟩, ⟨by (with_reducible repeat (first | refine blk_drewN ?_ _ | refine blk_drew ?_ | refine blk_alloc ?_ _)); refine blk_far ?_ NB393_407.out _; (with_reducible repeat (first | refine blk_drewN ?_ _ | refine blk_drew ?_ | refine blk_alloc ?_ _)); refine blk_far ?_ NB393_407.out _; (with_reducible repeat (first | refine blk_drewN ?_ _ | refine blk_drew ?_ | refine blk_alloc ?_ _)); refine blk_far ?_ NB393_407.out _; (with_reducible repeat (first | refine blk_drewN ?_ _ | refine blk_drew ?_ | refine blk_alloc ?_ _)); refine blk_far ?_ NB393_408.out _; (with_reducible repeat (first | refine blk_drewN ?_ _ | refine blk_drew ?_ | refine blk_alloc ?_ _)); refine blk_far ?_ NB393_408.out _; (with_reducible repeat (first | refine blk_drewN ?_ _ | refine blk_drew ?_ | refine blk_alloc ?_ _)); refine blk_far ?_ NB393_408.out _; (with_reducible repeat (first | refine blk_drewN ?_ _ | refine blk_drew ?_ | refine blk_alloc ?_ _)); refine blk_far ?_ NB393_407.out _; (with_reducible repeat (first | refine blk_drewN ?_ _ | refine blk_drew ?_ | refine blk_alloc ?_ _)); refine blk_far ?_ NB393_407.out _; (with_reducible repeat (first | refine blk_drewN ?_ _ | refine blk_drew ?_ | refine blk_alloc ?_ _)); refine blk_far ?_ NB393_407.out _; (with_reducible repeat (first | refine blk_drewN ?_ _ | refine blk_drew ?_ | refine blk_alloc ?_ _)); exact BK393.out⟩, ⟨by (with_reducible repeat (first | refine blk_drewN ?_ _ | refine blk_drew ?_ | refine blk_alloc ?_ _)); refine blk_far ?_ NB406_407.out _; (with_reducible repeat (first | refine blk_drewN ?_ _ | refine blk_drew ?_ | refine blk_alloc ?_ _)); refine blk_far ?_ NB406_407.out _; (with_reducible repeat (first | refine blk_drewN ?_ _ | refine blk_drew ?_ | refine blk_alloc ?_ _)); refine blk_far ?_ NB406_407.out _; (with_reducible repeat (first | refine blk_drewN ?_ _ | refine blk_drew ?_ | refine blk_alloc ?_ _)); refine blk_far ?_ NB406_408.out _; (with_reducible repeat (first | refine blk_drewN ?_ _ | refine blk_drew ?_ | refine blk_alloc ?_ _)); refine blk_far ?_ NB406_408.out _; (with_reducible repeat (first | refine blk_drewN ?_ _ | refine blk_drew ?_ | refine blk_alloc ?_ _)); refine blk_far ?_ NB406_408.out _; (with_reducible repeat (first | refine blk_drewN ?_ _ | refine blk_drew ?_ | refine blk_alloc ?_ _)); refine blk_far ?_ NB406_407.out _; (with_reducible repeat (first | refine blk_drewN ?_ _ | refine blk_drew ?_ | refine blk_alloc ?_ _)); refine blk_far ?_ NB406_407.out _; (with_reducible repeat (first | refine blk_drewN ?_ _ | refine blk_drew ?_ | refine blk_alloc ?_ _)); refine blk_far ?_ NB406_407.out _; (with_reducible repeat (first | refine blk_drewN ?_ _ | refine blk_drew ?_ | refine blk_alloc ?_ _)); exact BK406.out⟩, ⟨by (with_reducible repeat (first | refine blk_drewN ?_ _ | refine blk_drew ?_ | refine blk_alloc ?_ _)); refine blk_put (cs := #[.bool ((rd_T27 l1 1).f0), .int .i64 ((rd_T27 l1 1).f1), .string (⟨#[]⟩ : ByteArray)]) ?_ 2 _ rfl; (with_reducible repeat (first | refine blk_drewN ?_ _ | refine blk_drew ?_ | refine blk_alloc ?_ _)); refine blk_put (cs := #[.bool ((rd_T27 l1 1).f0), .int .i64 0, .string (⟨#[]⟩ : ByteArray)]) ?_ 1 _ rfl; (with_reducible repeat (first | refine blk_drewN ?_ _ | refine blk_drew ?_ | refine blk_alloc ?_ _)); refine blk_put (cs := #[.bool false, .int .i64 0, .string (⟨#[]⟩ : ByteArray)]) ?_ 0 _ rfl; (with_reducible repeat (first | refine blk_drewN ?_ _ | refine blk_drew ?_ | refine blk_alloc ?_ _)); refine blk_far ?_ NB407_408.out _; (with_reducible repeat (first | refine blk_drewN ?_ _ | refine blk_drew ?_ | refine blk_alloc ?_ _)); refine blk_far ?_ NB407_408.out _; (with_reducible repeat (first | refine blk_drewN ?_ _ | refine blk_drew ?_ | refine blk_alloc ?_ _)); refine blk_far ?_ NB407_408.out _; (with_reducible repeat (first | refine blk_drewN ?_ _ | refine blk_drew ?_ | refine blk_alloc ?_ _)); refine blk_put (cs := #[.bool false, .int .i64 0, .string (⟨#[]⟩ : ByteArray)]) ?_ 2 _ rfl; (with_reducible repeat (first | refine blk_drewN ?_ _ | refine blk_drew ?_ | refine blk_alloc ?_ _)); refine blk_put (cs := #[.bool false, .int .i64 0, .string (⟨#[]⟩ : ByteArray)]) ?_ 1 _ rfl; (with_reducible repeat (first | refine blk_drewN ?_ _ | refine blk_drew ?_ | refine blk_alloc ?_ _)); refine blk_put (cs := #[.bool false, .int .i64 0, .string (⟨#[]⟩ : ByteArray)]) ?_ 0 _ rfl; (with_reducible repeat (first | refine blk_drewN ?_ _ | refine blk_drew ?_ | refine blk_alloc ?_ _)); exact BK407.out⟩, ⟨by (with_reducible repeat (first | refine blk_drewN ?_ _ | refine blk_drew ?_ | refine blk_alloc ?_ _)); refine blk_far ?_ NB408_407.out _; (with_reducible repeat (first | refine blk_drewN ?_ _ | refine blk_drew ?_ | refine blk_alloc ?_ _)); refine blk_far ?_ NB408_407.out _; (with_reducible repeat (first | refine blk_drewN ?_ _ | refine blk_drew ?_ | refine blk_alloc ?_ _)); refine blk_far ?_ NB408_407.out _; (with_reducible repeat (first | refine blk_drewN ?_ _ | refine blk_drew ?_ | refine blk_alloc ?_ _)); refine blk_put (cs := #[.bool false, .int .i64 0, .string (⟨#[]⟩ : ByteArray)]) ?_ 2 _ rfl; (with_reducible repeat (first | refine blk_drewN ?_ _ | refine blk_drew ?_ | refine blk_alloc ?_ _)); refine blk_put (cs := #[.bool false, .int .i64 0, .string (⟨#[]⟩ : ByteArray)]) ?_ 1 _ rfl; (with_reducible repeat (first | refine blk_drewN ?_ _ | refine blk_drew ?_ | refine blk_alloc ?_ _)); refine blk_put (cs := #[.bool false, .int .i64 0, .string (⟨#[]⟩ : ByteArray)]) ?_ 0 _ rfl; (with_reducible repeat (first | refine blk_drewN ?_ _ | refine blk_drew ?_ | refine blk_alloc ?_ _)); refine blk_far ?_ NB408_407.out _; (with_reducible repeat (first | refine blk_drewN ?_ _ | refine blk_drew ?_ | refine blk_alloc ?_ _)); refine blk_far ?_ NB408_407.out _; (with_reducible repeat (first | refine blk_drewN ?_ _ | refine blk_drew ?_ | refine blk_alloc ?_ _)); refine blk_far ?_ NB408_407.out _; (with_reducible repeat (first | refine blk_drewN ?_ _ | refine blk_drew ?_ | refine blk_alloc ?_ _)); exact BK408.out⟩, ⟨xb⟩⟩
                · rw [if_neg c33] at H
                  exact absurd H (by simp)
              · rw [if_neg c32] at H
                have c32b0 : decide (1 < (l1.length : Int)) = false := decide_eq_false c32
                have c32b1 : decide (1 < l1.length) = false := decide_eq_false (by omega)
                clear c32
                (first | rw [c32b0] | (simp only [i64_w, i32_w]; rw [c32b0]) | skip)
                have H' := Aside0.mk H
                clear H
                go_wp2
                go_meet
                case rel => exact ⟨_, (false), (0), ((⟨#[]⟩ : ByteArray)), H', ⟨by have := HK1.out; first | omega | exact Nat.le_refl _⟩, ⟨by (with_reducible repeat (first | refine blk_drewN ?_ _ | refine blk_drew ?_ | refine blk_alloc ?_ _)); refine blk_far ?_ NB393_408.out _; (with_reducible repeat (first | refine blk_drewN ?_ _ | refine blk_drew ?_ | refine blk_alloc ?_ _)); refine blk_far ?_ NB393_408.out _; (with_reducible repeat (first | refine blk_drewN ?_ _ | refine blk_drew ?_ | refine blk_alloc ?_ _)); refine blk_far ?_ NB393_408.out _; (with_reducible repeat (first | refine blk_drewN ?_ _ | refine blk_drew ?_ | refine blk_alloc ?_ _)); refine blk_far ?_ NB393_407.out _; (with_reducible repeat (first | refine blk_drewN ?_ _ | refine blk_drew ?_ | refine blk_alloc ?_ _)); refine blk_far ?_ NB393_407.out _; (with_reducible repeat (first | refine blk_drewN ?_ _ | refine blk_drew ?_ | refine blk_alloc ?_ _)); refine blk_far ?_ NB393_407.out _; (with_reducible repeat (first | refine blk_drewN ?_ _ | refine blk_drew ?_ | refine blk_alloc ?_ _)); exact BK393.out⟩, ⟨by (with_reducible repeat (first | refine blk_drewN ?_ _ | refine blk_drew ?_ | refine blk_alloc ?_ _)); refine blk_far ?_ NB406_408.out _; (with_reducible repeat (first | refine blk_drewN ?_ _ | refine blk_drew ?_ | refine blk_alloc ?_ _)); refine blk_far ?_ NB406_408.out _; (with_reducible repeat (first | refine blk_drewN ?_ _ | refine blk_drew ?_ | refine blk_alloc ?_ _)); refine blk_far ?_ NB406_408.out _; (with_reducible repeat (first | refine blk_drewN ?_ _ | refine blk_drew ?_ | refine blk_alloc ?_ _)); refine blk_far ?_ NB406_407.out _; (with_reducible repeat (first | refine blk_drewN ?_ _ | refine blk_drew ?_ | refine blk_alloc ?_ _)); refine blk_far ?_ NB406_407.out _; (with_reducible repeat (first | refine blk_drewN ?_ _ | refine blk_drew ?_ | refine blk_alloc ?_ _)); refine blk_far ?_ NB406_407.out _; (with_reducible repeat (first | refine blk_drewN ?_ _ | refine blk_drew ?_ | refine blk_alloc ?_ _)); exact BK406.out⟩, ⟨by (with_reducible repeat (first | refine blk_drewN ?_ _ | refine blk_drew ?_ | refine blk_alloc ?_ _)); refine blk_far ?_ NB407_408.out _; (with_reducible repeat (first | refine blk_drewN ?_ _ | refine blk_drew ?_ | refine blk_alloc ?_ _)); refine blk_far ?_ NB407_408.out _; (with_reducible repeat (first | refine blk_drewN ?_ _ | refine blk_drew ?_ | refine blk_alloc ?_ _)); refine blk_far ?_ NB407_408.out _; (with_reducible repeat (first | refine blk_drewN ?_ _ | refine blk_drew ?_ | refine blk_alloc ?_ _)); refine blk_put (cs := #[.bool false, .int .i64 0, .string (⟨#[]⟩ : ByteArray)]) ?_ 2 _ rfl; (with_reducible repeat (first | refine blk_drewN ?_ _ | refine blk_drew ?_ | refine blk_alloc ?_ _)); refine blk_put (cs := #[.bool false, .int .i64 0, .string (⟨#[]⟩ : ByteArray)]) ?_ 1 _ rfl; (with_reducible repeat (first | refine blk_drewN ?_ _ | refine blk_drew ?_ | refine blk_alloc ?_ _)); refine blk_put (cs := #[.bool false, .int .i64 0, .string (⟨#[]⟩ : ByteArray)]) ?_ 0 _ rfl; (with_reducible repeat (first | refine blk_drewN ?_ _ | refine blk_drew ?_ | refine blk_alloc ?_ _)); exact BK407.out⟩, ⟨by (with_reducible repeat (first | refine blk_drewN ?_ _ | refine blk_drew ?_ | refine blk_alloc ?_ _)); refine blk_put (cs := #[.bool false, .int .i64 0, .string (⟨#[]⟩ : ByteArray)]) ?_ 2 _ rfl; (with_reducible repeat (first | refine blk_drewN ?_ _ | refine blk_drew ?_ | refine blk_alloc ?_ _)); refine blk_put (cs := #[.bool false, .int .i64 0, .string (⟨#[]⟩ : ByteArray)]) ?_ 1 _ rfl; (with_reducible repeat (first | refine blk_drewN ?_ _ | refine blk_drew ?_ | refine blk_alloc ?_ _)); refine blk_put (cs := #[.bool false, .int .i64 0, .string (⟨#[]⟩ : ByteArray)]) ?_ 0 _ rfl; (with_reducible repeat (first | refine blk_drewN ?_ _ | refine blk_drew ?_ | refine blk_alloc ?_ _)); refine blk_far ?_ NB408_407.out _; (with_reducible repeat (first | refine blk_drewN ?_ _ | refine blk_drew ?_ | refine blk_alloc ?_ _)); refine blk_far ?_ NB408_407.out _; (with_reducible repeat (first | refine blk_drewN ?_ _ | refine blk_drew ?_ | refine blk_alloc ?_ _)); refine blk_far ?_ NB408_407.out _; (with_reducible repeat (first | refine blk_drewN ?_ _ | refine blk_drew ?_ | refine blk_alloc ?_ _)); exact BK408.out⟩, ⟨xb⟩⟩
            case rest =>
              clear HC18
              try clear c1
              try clear c2
              try clear p2
              try clear c3
              try clear p3
              try clear q3
              try clear hx3
              try clear p4
              try clear q4
              try clear hx4
              try clear qi4
              try clear c6
              try clear c6b0
              try clear p6
              try clear c7
              try clear c7b0
              try clear c9
              try clear c10
              try clear c12
              try clear c16
              try clear c16b0
              try clear c16b1
              try clear c17
              try clear c17b0
              try clear c17b1
              try clear c21
              try clear c25
              try clear c26
              try clear c27
              try clear c29
              try clear c30
              try clear c31
              try clear c32
              try clear c32b0
              try clear c32b1
              try clear c33
              try clear c33b0
              try clear c33b1
              try clear c34
              try clear c35
              try clear c36
              try clear hcz14_0
              try clear hcz14_1
              try clear hcz14_2
              try clear hcz22_0
              try clear hcz22_1
              try clear hcz22_2
              try clear hcz28_0
              try clear hcz28_1
              try clear hcz28_2
              try clear hcz31_0
              try clear hcz31_1
              try clear hcz31_2
              try clear hcz37_0
              try clear hcz37_1
              try clear hcz37_2
              try clear hfz14_0
              try clear hfz14_1
              try clear hfz14_2
              try clear hfz22_0
              try clear hfz22_1
              try clear hfz22_2
              try clear hfz28_0
              try clear hfz28_1
              try clear hfz28_2
              try clear hfz31_0
              try clear hfz31_1
              try clear hfz31_2
              try clear hfz37_0
              try clear hfz37_1
              try clear hfz37_2
              try clear hx397_0
              try clear hx397_1
              try clear hx397_2
              try clear hx399_0
              try clear hx399_1
              try clear hx399_2
              try clear hx405_0
              try clear hx405_1
              try clear hx405_2
              try clear hx409_0
              try clear hx409_1
              try clear hx409_2
              try clear p2
              try clear p397
              try clear p399
              try clear p405
              try clear p409
              try clear q397
              try clear q399
              try clear q405
              try clear q409
              obtain ⟨kq, x408000_17, x408001_17, x408002_17, HA, HJ17, BK393, BK406, BK407, BK408, HB⟩ := hcut
              cases kq with
              | zero => exact absurd HA.out (by simp [threshingref13_Do.j1])
              | succ kj17 =>
                have H := HA.out
                clear HA
                simp only [threshingref13_Do.j1] at H
                have HC38 := Aside0.mk H
                clear H
                go_upto_if 58 with (fail)
                go_cut [] (fun wc => ∃ (kq : Nat) (x409000_37 : Bool) (x409001_37 : Int) (x409002_37 : ByteArray), Aside0 (threshingref13_Do.j2 kq a0 ((rd_T27 l1 0).f0) ((rd_T27 l1 0).f1) ((rd_T27 l1 0).f2) x408000_17 x408001_17 x408002_17 x409000_37 x409001_37 x409002_37 = some (r1, r2, r3, r4)) ∧ Aside0 (kq ≤ kj17) ∧ Aside0 (wc.heap[gb393]? = some (.cells #[.bool x394000_1, .int .i64 x394001_1, .string x394002_1] 27 (0, 0))) ∧ Aside0 (wc.heap[gb406]? = some (.cells #[.bool ((rd_T27 l1 0).f0), .int .i64 ((rd_T27 l1 0).f1), .string ((rd_T27 l1 0).f2)] 27 (0, 0))) ∧ Aside0 (wc.heap[gb407]? = some (.cells #[.bool x408000_17, .int .i64 x408001_17, .string x408002_17] 27 (0, 0))) ∧ Aside0 (wc.heap[gb408]? = some (.cells #[.bool x409000_37, .int .i64 x409001_37, .string x409002_37] 27 (0, 0))) ∧ Aside0 (Below w.heap.size w wc))
                case first =>
                  have H := HC38.out
                  clear HC38
                  by_cases c39 : (l1.length : Int) > 2
                  · rw [if_pos c39] at H
                    have c39b0 : decide (2 < (l1.length : Int)) = true := decide_eq_true c39
                    have c39b1 : decide (2 < l1.length) = true := decide_eq_true (by omega)
                    clear c39
                    (first | rw [c39b0] | (simp only [i64_w, i32_w]; rw [c39b0]) | skip)
                    by_cases c40 : 2 < (l1.length : Int)
                    · rw [if_pos c40] at H
                      have c40b0 : decide (2 < (l1.length : Int)) = true := decide_eq_true c40
                      have c40b1 : decide (2 < l1.length) = true := decide_eq_true (by omega)
                      clear c40
                      have H' := Aside0.mk H
                      clear H
                      have p410 : 0 ≤ (2 : Int) := (by omega)
                      have q410 : 2 < (l1.length : Int) := of_decide_eq_true (by first | (with_reducible assumption) | assumption)
                      obtain ⟨ad410, e410, hx410_0, hx410_1, hx410_2⟩ := at_T27 HR1.out 2 p410 q410
                      obtain rfl : ad405 = ad410 := (by injection e410)
                      (try simp only [show (2 : Int).toNat = 2 from rfl, Nat.reduceMul, Nat.reduceEqDiff, Go.Addr.add, ↓reduceIte] at hx410_0)
                      (try simp only [show (2 : Int).toNat = 2 from rfl, Nat.reduceMul, Nat.reduceEqDiff, Go.Addr.add, ↓reduceIte] at hx410_1)
                      (try simp only [show (2 : Int).toNat = 2 from rfl, Nat.reduceMul, Nat.reduceEqDiff, Go.Addr.add, ↓reduceIte] at hx410_2)
                      have qi410 : (2 < l1.length) = True := eq_true (by omega)
                      (try rw [show ((2 : Int)).toNat = 2 from rfl] at hx410_0)
                      (try rw [show 2 * 3 = 6 from rfl] at hx410_0)
                      (try rw [show ((2 : Int)).toNat = 2 from rfl] at hx410_1)
                      (try rw [show 2 * 3 = 6 from rfl] at hx410_1)
                      (try rw [show ((2 : Int)).toNat = 2 from rfl] at hx410_2)
                      (try rw [show 2 * 3 = 6 from rfl] at hx410_2)
                      replace hx410_0 := (HB.out.cell (World.block_lt_of_cell? w _ hx410_0)).trans hx410_0
                      replace hx410_1 := (HB.out.cell (World.block_lt_of_cell? w _ hx410_1)).trans hx410_1
                      replace hx410_2 := (HB.out.cell (World.block_lt_of_cell? w _ hx410_2)).trans hx410_2
                      replace p410 := eq_true p410
                      replace q410 := eq_true q410
                      have hnb41 := NB408_393.out
                      have hnc41 := NB393_408.out
                      have hnb42 := NB408_406.out
                      have hnc42 := NB406_408.out
                      have hnb43 := NB408_407.out
                      have hnc43 := NB407_408.out
                      have hcz44_0 : wc.cell? ⟨gb408, 0, none⟩ = some (.bool false) := (blk_cell BK408.out 0).trans rfl
                      have hcz44_1 : wc.cell? ⟨gb408, 1, none⟩ = some (.int .i64 0) := (blk_cell BK408.out 1).trans rfl
                      have hcz44_2 : wc.cell? ⟨gb408, 2, none⟩ = some (.string (⟨#[]⟩ : ByteArray)) := (blk_cell BK408.out 2).trans rfl
                      have hfz44_0 := blk_frozen BK408.out 0
                      have hfz44_1 := blk_frozen BK408.out 1
                      have hfz44_2 := blk_frozen BK408.out 2
                      go_wp2
                      go_meet
                      case rel => exact ⟨_, ((rd_T27 l1 2).f0), ((rd_T27 l1 2).f1), ((rd_T27 l1 2).f2), H', ⟨by have := HK1.out; have := HJ17.out; first | omega | exact Nat.le_refl _⟩, ⟨by (with_reducible repeat (first | refine blk_drewN ?_ _ | refine blk_drew ?_ | refine blk_alloc ?_ _)); refine blk_far ?_ NB393_408.out _; (with_reducible repeat (first | refine blk_drewN ?_ _ | refine blk_drew ?_ | refine blk_alloc ?_ _)); refine blk_far ?_ NB393_408.out _; (with_reducible repeat (first | refine blk_drewN ?_ _ | refine blk_drew ?_ | refine blk_alloc ?_ _)); refine blk_far ?_ NB393_408.out _; (with_reducible repeat (first | refine blk_drewN ?_ _ | refine blk_drew ?_ | refine blk_alloc ?_ _)); exact BK393.out⟩, ⟨by (with_reducible repeat (first | refine blk_drewN ?_ _ | refine blk_drew ?_ | refine blk_alloc ?_ _)); refine blk_far ?_ NB406_408.out _; (with_reducible repeat (first | refine blk_drewN ?_ _ | refine blk_drew ?_ | refine blk_alloc ?_ _)); refine blk_far ?_ NB406_408.out _; (with_reducible repeat (first | refine blk_drewN ?_ _ | refine blk_drew ?_ | refine blk_alloc ?_ _)); refine blk_far ?_ NB406_408.out _; (with_reducible repeat (first | refine blk_drewN ?_ _ | refine blk_drew ?_ | refine blk_alloc ?_ _)); exact BK406.out⟩, ⟨by (with_reducible repeat (first | refine blk_drewN ?_ _ | refine blk_drew ?_ | refine blk_alloc ?_ _)); refine blk_far ?_ NB407_408.out _; (with_reducible repeat (first | refine blk_drewN ?_ _ | refine blk_drew ?_ | refine blk_alloc ?_ _)); refine blk_far ?_ NB407_408.out _; (with_reducible repeat (first | refine blk_drewN ?_ _ | refine blk_drew ?_ | refine blk_alloc ?_ _)); refine blk_far ?_ NB407_408.out _; (with_reducible repeat (first | refine blk_drewN ?_ _ | refine blk_drew ?_ | refine blk_alloc ?_ _)); exact BK407.out⟩, ⟨by (with_reducible repeat (first | refine blk_drewN ?_ _ | refine blk_drew ?_ | refine blk_alloc ?_ _)); refine blk_put (cs := #[.bool ((rd_T27 l1 2).f0), .int .i64 ((rd_T27 l1 2).f1), .string (⟨#[]⟩ : ByteArray)]) ?_ 2 _ rfl; (with_reducible repeat (first | refine blk_drewN ?_ _ | refine blk_drew ?_ | refine blk_alloc ?_ _)); refine blk_put (cs := #[.bool ((rd_T27 l1 2).f0), .int .i64 0, .string (⟨#[]⟩ : ByteArray)]) ?_ 1 _ rfl; (with_reducible repeat (first | refine blk_drewN ?_ _ | refine blk_drew ?_ | refine blk_alloc ?_ _)); refine blk_put (cs := #[.bool false, .int .i64 0, .string (⟨#[]⟩ : ByteArray)]) ?_ 0 _ rfl; (with_reducible repeat (first | refine blk_drewN ?_ _ | refine blk_drew ?_ | refine blk_alloc ?_ _)); exact BK408.out⟩, ⟨xb⟩⟩
                    · rw [if_neg c40] at H
                      exact absurd H (by simp)
                  · rw [if_neg c39] at H
                    have c39b0 : decide (2 < (l1.length : Int)) = false := decide_eq_false c39
                    have c39b1 : decide (2 < l1.length) = false := decide_eq_false (by omega)
                    clear c39
                    (first | rw [c39b0] | (simp only [i64_w, i32_w]; rw [c39b0]) | skip)
                    have H' := Aside0.mk H
                    clear H
                    go_wp2
                    go_meet
                    case rel => exact ⟨_, (false), (0), ((⟨#[]⟩ : ByteArray)), H', ⟨by have := HK1.out; have := HJ17.out; first | omega | exact Nat.le_refl _⟩, ⟨by (with_reducible repeat (first | refine blk_drewN ?_ _ | refine blk_drew ?_ | refine blk_alloc ?_ _)); exact BK393.out⟩, ⟨by (with_reducible repeat (first | refine blk_drewN ?_ _ | refine blk_drew ?_ | refine blk_alloc ?_ _)); exact BK406.out⟩, ⟨by (with_reducible repeat (first | refine blk_drewN ?_ _ | refine blk_drew ?_ | refine blk_alloc ?_ _)); exact BK407.out⟩, ⟨by (with_reducible repeat (first | refine blk_drewN ?_ _ | refine blk_drew ?_ | refine blk_alloc ?_ _)); exact BK408.out⟩, ⟨xb⟩⟩
                case rest =>
                  clear HC38
                  try clear c1
                  try clear c2
                  try clear p2
                  try clear c3
                  try clear p3
                  try clear q3
                  try clear hx3
                  try clear c4
                  try clear p4
                  try clear q4
                  try clear hx4
                  try clear qi4
                  try clear c6
                  try clear c6b0
                  try clear p6
                  try clear c7
                  try clear c7b0
                  try clear c9
                  try clear c10
                  try clear c12
                  try clear c16
                  try clear c16b0
                  try clear c16b1
                  try clear c17
                  try clear c17b0
                  try clear c17b1
                  try clear c21
                  try clear c25
                  try clear c26
                  try clear c27
                  try clear c29
                  try clear c30
                  try clear c31
                  try clear c32
                  try clear c32b0
                  try clear c32b1
                  try clear c33
                  try clear c33b0
                  try clear c33b1
                  try clear c34
                  try clear c35
                  try clear c36
                  try clear c39
                  try clear c39b0
                  try clear c39b1
                  try clear p39
                  try clear q39
                  try clear hx39
                  try clear c40
                  try clear c40b0
                  try clear c40b1
                  try clear p40
                  try clear q40
                  try clear hx40
                  try clear qi40
                  try clear c41
                  try clear p41
                  try clear q41
                  try clear hx41
                  try clear qi41
                  try clear c42
                  try clear c43
                  try clear hcz14_0
                  try clear hcz14_1
                  try clear hcz14_2
                  try clear hcz22_0
                  try clear hcz22_1
                  try clear hcz22_2
                  try clear hcz28_0
                  try clear hcz28_1
                  try clear hcz28_2
                  try clear hcz31_0
                  try clear hcz31_1
                  try clear hcz31_2
                  try clear hcz37_0
                  try clear hcz37_1
                  try clear hcz37_2
                  try clear hcz44_0
                  try clear hcz44_1
                  try clear hcz44_2
                  try clear hfz14_0
                  try clear hfz14_1
                  try clear hfz14_2
                  try clear hfz22_0
                  try clear hfz22_1
                  try clear hfz22_2
                  try clear hfz28_0
                  try clear hfz28_1
                  try clear hfz28_2
                  try clear hfz31_0
                  try clear hfz31_1
                  try clear hfz31_2
                  try clear hfz37_0
                  try clear hfz37_1
                  try clear hfz37_2
                  try clear hfz44_0
                  try clear hfz44_1
                  try clear hfz44_2
                  try clear hx397_0
                  try clear hx397_1
                  try clear hx397_2
                  try clear hx399_0
                  try clear hx399_1
                  try clear hx399_2
                  try clear hx405_0
                  try clear hx405_1
                  try clear hx405_2
                  try clear hx409_0
                  try clear hx409_1
                  try clear hx409_2
                  try clear hx410_0
                  try clear hx410_1
                  try clear hx410_2
                  try clear p2
                  try clear p3
                  try clear p397
                  try clear p399
                  try clear p4
                  try clear p405
                  try clear p409
                  try clear p410
                  try clear p6
                  try clear q3
                  try clear q397
                  try clear q399
                  try clear q4
                  try clear q405
                  try clear q409
                  try clear q410
                  obtain ⟨kq, x409000_37, x409001_37, x409002_37, HA, HJ37, BK393, BK406, BK407, BK408, HB⟩ := hcut
                  cases kq with
                  | zero => exact absurd HA.out (by simp [threshingref13_Do.j2])
                  | succ kj37 =>
                    have H := HA.out
                    clear HA
                    simp only [threshingref13_Do.j2] at H
                    have HC45 := Aside0.mk H
                    clear H
                    go_upto_region 17 with (fail)
                    go_cut [71] (fun v71 wc => ∃ (kq : Nat) (x71_44 : Bool), v71 = .bool x71_44 ∧ Aside0 (threshingref13_Do.j3 kq a0 x71_44 ((rd_T27 l1 0).f0) ((rd_T27 l1 0).f1) ((rd_T27 l1 0).f2) x408000_17 x408001_17 x408002_17 x409000_37 x409001_37 x409002_37 = some (r1, r2, r3, r4)) ∧ Aside0 (kq ≤ kj37) ∧ Aside0 (wc.heap[gb393]? = some (.cells #[.bool x394000_1, .int .i64 x394001_1, .string x394002_1] 27 (0, 0))) ∧ Aside0 (wc.heap[gb406]? = some (.cells #[.bool ((rd_T27 l1 0).f0), .int .i64 ((rd_T27 l1 0).f1), .string ((rd_T27 l1 0).f2)] 27 (0, 0))) ∧ Aside0 (wc.heap[gb407]? = some (.cells #[.bool x408000_17, .int .i64 x408001_17, .string x408002_17] 27 (0, 0))) ∧ Aside0 (wc.heap[gb408]? = some (.cells #[.bool x409000_37, .int .i64 x409001_37, .string x409002_37] 27 (0, 0))) ∧ Aside0 (Below w.heap.size w wc))
                    case first =>
                      have H := HC45.out
                      clear HC45
                      by_cases c46 : a0 ≤ 8
                      · rw [if_pos c46] at H
                        have c46b0 : decide (a0 ≤ 8) = true := decide_eq_true c46
                        clear c46
                        (first | rw [c46b0] | (simp only [i64_w, i32_w]; rw [c46b0]) | skip)
                        have H' := Aside0.mk H
                        clear H
                        go_wp2
                        go_meet
                        case rel => exact ⟨_, (true), (by first | rfl | (simp; done) | (simp [*]; done) | exact congrArg Value.bool (xm_ne_nil _) | exact congrArg Value.bool (xm_ne_nil _).symm), H', ⟨by have := HK1.out; have := HJ17.out; have := HJ37.out; first | omega | exact Nat.le_refl _⟩, ⟨by (with_reducible repeat (first | refine blk_drewN ?_ _ | refine blk_drew ?_ | refine blk_alloc ?_ _)); exact BK393.out⟩, ⟨by (with_reducible repeat (first | refine blk_drewN ?_ _ | refine blk_drew ?_ | refine blk_alloc ?_ _)); exact BK406.out⟩, ⟨by (with_reducible repeat (first | refine blk_drewN ?_ _ | refine blk_drew ?_ | refine blk_alloc ?_ _)); exact BK407.out⟩, ⟨by (with_reducible repeat (first | refine blk_drewN ?_ _ | refine blk_drew ?_ | refine blk_alloc ?_ _)); exact BK408.out⟩, ⟨xb⟩⟩
                      · rw [if_neg c46] at H
                        have c46b0 : decide (a0 ≤ 8) = false := decide_eq_false c46
                        clear c46
                        (first | rw [c46b0] | (simp only [i64_w, i32_w]; rw [c46b0]) | skip)
                        by_cases c47 : a0 ≥ 14
                        · rw [if_pos c47] at H
                          have c47b0 : decide (14 ≤ a0) = true := decide_eq_true c47
                          clear c47
                          have H' := Aside0.mk H
                          clear H
                          go_wp2
                          go_meet
                          case rel => exact ⟨_, (decide (a0 ≤ 17)), (by first | rfl | (simp; done) | (simp [*]; done) | exact congrArg Value.bool (xm_ne_nil _) | exact congrArg Value.bool (xm_ne_nil _).symm), H', ⟨by have := HK1.out; have := HJ17.out; have := HJ37.out; first | omega | exact Nat.le_refl _⟩, ⟨by (with_reducible repeat (first | refine blk_drewN ?_ _ | refine blk_drew ?_ | refine blk_alloc ?_ _)); exact BK393.out⟩, ⟨by (with_reducible repeat (first | refine blk_drewN ?_ _ | refine blk_drew ?_ | refine blk_alloc ?_ _)); exact BK406.out⟩, ⟨by (with_reducible repeat (first | refine blk_drewN ?_ _ | refine blk_drew ?_ | refine blk_alloc ?_ _)); exact BK407.out⟩, ⟨by (with_reducible repeat (first | refine blk_drewN ?_ _ | refine blk_drew ?_ | refine blk_alloc ?_ _)); exact BK408.out⟩, ⟨xb⟩⟩
                        · rw [if_neg c47] at H
                          have c47b0 : decide (14 ≤ a0) = false := decide_eq_false c47
                          clear c47
                          have H' := Aside0.mk H
                          clear H
                          go_wp2
                          go_meet
                          case rel => exact ⟨_, (false), (by first | rfl | (simp; done) | (simp [*]; done) | exact congrArg Value.bool (xm_ne_nil _) | exact congrArg Value.bool (xm_ne_nil _).symm), H', ⟨by have := HK1.out; have := HJ17.out; have := HJ37.out; first | omega | exact Nat.le_refl _⟩, ⟨by (with_reducible repeat (first | refine blk_drewN ?_ _ | refine blk_drew ?_ | refine blk_alloc ?_ _)); exact BK393.out⟩, ⟨by (with_reducible repeat (first | refine blk_drewN ?_ _ | refine blk_drew ?_ | refine blk_alloc ?_ _)); exact BK406.out⟩, ⟨by (with_reducible repeat (first | refine blk_drewN ?_ _ | refine blk_drew ?_ | refine blk_alloc ?_ _)); exact BK407.out⟩, ⟨by (with_reducible repeat (first | refine blk_drewN ?_ _ | refine blk_drew ?_ | refine blk_alloc ?_ _)); exact BK408.out⟩, ⟨xb⟩⟩
                    case rest =>
                      clear HC45
                      try clear c1
                      try clear c2
                      try clear p2
                      try clear c3
                      try clear p3
                      try clear q3
                      try clear hx3
                      try clear c4
                      try clear p4
                      try clear q4
                      try clear hx4
                      try clear qi4
                      try clear c6
                      try clear c6b0
                      try clear p6
                      try clear c7
                      try clear c7b0
                      try clear c9
                      try clear c10
                      try clear c12
                      try clear c16
                      try clear c16b0
                      try clear c16b1
                      try clear c17
                      try clear c17b0
                      try clear c17b1
                      try clear c21
                      try clear c25
                      try clear c26
                      try clear c27
                      try clear c29
                      try clear c30
                      try clear c31
                      try clear c32
                      try clear c32b0
                      try clear c32b1
                      try clear c33
                      try clear c33b0
                      try clear c33b1
                      try clear c34
                      try clear c35
                      try clear c36
                      try clear c39
                      try clear c39b0
                      try clear c39b1
                      try clear p39
                      try clear q39
                      try clear hx39
                      try clear c40
                      try clear c40b0
                      try clear c40b1
                      try clear p40
                      try clear q40
                      try clear hx40
                      try clear qi40
                      try clear c41
                      try clear p41
                      try clear q41
                      try clear hx41
                      try clear qi41
                      try clear c42
                      try clear c43
                      try clear c46
                      try clear c46b0
                      try clear c47
                      try clear c47b0
                      try clear hcz14_0
                      try clear hcz14_1
                      try clear hcz14_2
                      try clear hcz22_0
                      try clear hcz22_1
                      try clear hcz22_2
                      try clear hcz28_0
                      try clear hcz28_1
                      try clear hcz28_2
                      try clear hcz31_0
                      try clear hcz31_1
                      try clear hcz31_2
                      try clear hcz37_0
                      try clear hcz37_1
                      try clear hcz37_2
                      try clear hcz44_0
                      try clear hcz44_1
                      try clear hcz44_2
                      try clear hfz14_0
                      try clear hfz14_1
                      try clear hfz14_2
                      try clear hfz22_0
                      try clear hfz22_1
                      try clear hfz22_2
                      try clear hfz28_0
                      try clear hfz28_1
                      try clear hfz28_2
                      try clear hfz31_0
                      try clear hfz31_1
                      try clear hfz31_2
                      try clear hfz37_0
                      try clear hfz37_1
                      try clear hfz37_2
                      try clear hfz44_0
                      try clear hfz44_1
                      try clear hfz44_2
                      try clear hx397_0
                      try clear hx397_1
                      try clear hx397_2
                      try clear hx399_0
                      try clear hx399_1
                      try clear hx399_2
                      try clear hx405_0
                      try clear hx405_1
                      try clear hx405_2
                      try clear hx409_0
                      try clear hx409_1
                      try clear hx409_2
                      try clear hx410_0
                      try clear hx410_1
                      try clear hx410_2
                      try clear p2
                      try clear p3
                      try clear p39
                      try clear p397
                      try clear p399
                      try clear p4
                      try clear p40
                      try clear p405
                      try clear p409
                      try clear p41
                      try clear p410
                      try clear p6
                      try clear q3
                      try clear q39
                      try clear q397
                      try clear q399
                      try clear q4
                      try clear q40
                      try clear q405
                      try clear q409
                      try clear q41
                      try clear q410
                      obtain ⟨kq, x71_44, rfl, HA, HJ44, BK393, BK406, BK407, BK408, HB⟩ := hcut
                      cases kq with
                      | zero => exact absurd HA.out (by simp [threshingref13_Do.j3])
                      | succ kj44 =>
                        have H := HA.out
                        clear HA
                        simp only [threshingref13_Do.j3] at H
                        by_cases c48 : x71_44 = true
                        · subst c48
                          have H1 : ((threshingref13_reckoned.f kj44 a0 ((rd_T27 l1 0).f0) ((rd_T27 l1 0).f1) ((rd_T27 l1 0).f2) x408000_17 x408001_17 x408002_17 x409000_37 x409001_37 x409002_37).bind fun bt411 => (some (bt411.1, bt411.2.1, bt411.2.2, 0))) = some (r1, r2, r3, r4) := by rw [if_pos rfl] at H; exact H
                          clear H
                          have H := H1
                          clear H1
                          replace H := Option.bind_eq_some_iff.mp H
                          obtain ⟨⟨t411, t412, t413⟩, A490, H⟩ := H
                          replace H : (some (t411, t412, t413, 0)) = some (r1, r2, r3, r4) := H
                          have A49 := Aside0.mk A490
                          clear A490
                          simp only [Option.some.injEq, Prod.mk.injEq] at H
                          obtain ⟨rfl, rfl, rfl, rfl⟩ := H
                          have hnb50 := NB406_393.out
                          have hnc50 := NB393_406.out
                          have hnb51 := NB406_407.out
                          have hnc51 := NB407_406.out
                          have hnb52 := NB406_408.out
                          have hnc52 := NB408_406.out
                          have hcz53_0 : wc.cell? ⟨gb406, 0, none⟩ = some (.bool ((rd_T27 l1 0).f0)) := (blk_cell BK406.out 0).trans rfl
                          have hcz53_1 : wc.cell? ⟨gb406, 1, none⟩ = some (.int .i64 ((rd_T27 l1 0).f1)) := (blk_cell BK406.out 1).trans rfl
                          have hcz53_2 : wc.cell? ⟨gb406, 2, none⟩ = some (.string ((rd_T27 l1 0).f2)) := (blk_cell BK406.out 2).trans rfl
                          have hfz53_0 := blk_frozen BK406.out 0
                          have hfz53_1 := blk_frozen BK406.out 1
                          have hfz53_2 := blk_frozen BK406.out 2
                          have hnb54 := NB407_393.out
                          have hnc54 := NB393_407.out
                          have hnb55 := NB407_408.out
                          have hnc55 := NB408_407.out
                          have hcz56_0 : wc.cell? ⟨gb407, 0, none⟩ = some (.bool x408000_17) := (blk_cell BK407.out 0).trans rfl
                          have hcz56_1 : wc.cell? ⟨gb407, 1, none⟩ = some (.int .i64 x408001_17) := (blk_cell BK407.out 1).trans rfl
                          have hcz56_2 : wc.cell? ⟨gb407, 2, none⟩ = some (.string x408002_17) := (blk_cell BK407.out 2).trans rfl
                          have hfz56_0 := blk_frozen BK407.out 0
                          have hfz56_1 := blk_frozen BK407.out 1
                          have hfz56_2 := blk_frozen BK407.out 2
                          have hnb57 := NB408_393.out
                          have hnc57 := NB393_408.out
                          have hcz58_0 : wc.cell? ⟨gb408, 0, none⟩ = some (.bool x409000_37) := (blk_cell BK408.out 0).trans rfl
                          have hcz58_1 : wc.cell? ⟨gb408, 1, none⟩ = some (.int .i64 x409001_37) := (blk_cell BK408.out 1).trans rfl
                          have hcz58_2 : wc.cell? ⟨gb408, 2, none⟩ = some (.string x409002_37) := (blk_cell BK408.out 2).trans rfl
                          have hfz58_0 := blk_frozen BK408.out 0
                          have hfz58_1 := blk_frozen BK408.out 1
                          have hfz58_2 := blk_frozen BK408.out 2
                          go_wp2_with (first | ((with_reducible refine gate_callee (f := 32) rfl ?_); refine goesL_ (some 76) rfl rfl Tryz.func32 (by kernel_rfl) rfl #[.int .i64 a0, .agg #[.bool ((rd_T27 l1 0).f0), .int .i64 ((rd_T27 l1 0).f1), .string ((rd_T27 l1 0).f2)], .agg #[.bool x408000_17, .int .i64 x408001_17, .string x408002_17], .agg #[.bool x409000_37, .int .i64 x409001_37, .string x409002_37]] rfl xr ?_; (with_reducible refine (threshingref13_reckoned.calls kj44 a0 ((rd_T27 l1 0).f0) ((rd_T27 l1 0).f1) ((rd_T27 l1 0).f2) x408000_17 x408001_17 x408002_17 x409000_37 x409001_37 x409002_37 t411 t412 t413 _ (Tabs.below hT xf) A49.out).mono ?_); rintro e w59 ⟨rfl, hb⟩; refine ⟨_, rfl, ?_⟩; have n0_ := xd BK393.out hb; have n1_ := xd BK406.out hb; have n2_ := xd BK407.out hb; have n3_ := xd BK408.out hb; have n4_ := Aside0.mk (below_step xb hb); clear BK393; clear BK406; clear BK407; clear BK408; clear HB; have BK393 := n0_; have BK406 := n1_; have BK407 := n2_; have BK408 := n3_; have HB := n4_; clear n0_ n1_ n2_ n3_ n4_; (try clear hb); (try clear hb2); (try clear hk); (try clear hi); have hcz60_0 : w59.cell? ⟨gb393, 0, none⟩ = some (.bool x394000_1) := (blk_cell BK393.out 0).trans rfl; have hcz60_1 : w59.cell? ⟨gb393, 1, none⟩ = some (.int .i64 x394001_1) := (blk_cell BK393.out 1).trans rfl; have hcz60_2 : w59.cell? ⟨gb393, 2, none⟩ = some (.string x394002_1) := (blk_cell BK393.out 2).trans rfl; have hfz60_0 := blk_frozen BK393.out 0; have hfz60_1 := blk_frozen BK393.out 1; have hfz60_2 := blk_frozen BK393.out 2))
                          refine bodyPost_ret (results_ct rfl _ _ gb393 27 #[.bool t411, .int .i64 t412, .string t413] (0, 0) _ rfl (by (with_reducible repeat (first | refine blk_drewN ?_ _ | refine blk_drew ?_ | refine blk_alloc ?_ _)); refine blk_put (cs := #[.bool t411, .int .i64 t412, .string x394002_1]) ?_ 2 _ rfl; (with_reducible repeat (first | refine blk_drewN ?_ _ | refine blk_drew ?_ | refine blk_alloc ?_ _)); refine blk_put (cs := #[.bool t411, .int .i64 x394001_1, .string x394002_1]) ?_ 1 _ rfl; (with_reducible repeat (first | refine blk_drewN ?_ _ | refine blk_drew ?_ | refine blk_alloc ?_ _)); refine blk_put (cs := #[.bool x394000_1, .int .i64 x394001_1, .string x394002_1]) ?_ 0 _ rfl; (with_reducible repeat (first | refine blk_drewN ?_ _ | refine blk_drew ?_ | refine blk_alloc ?_ _)); exact BK393.out) Tryz.underlying27 rfl (by kernel_rfl)) rfl ?_
                          exact ⟨by first | rfl | (simp [errW_none, errW_some] <;> rfl) | (simp [*, errW_none, errW_some] <;> rfl), xb⟩
                        · replace c48 := Bool.eq_false_iff.mpr c48
                          subst c48
                          have H1 : ((threshingref13_texted.f kj44 a0 ((rd_T27 l1 0).f0) ((rd_T27 l1 0).f1) ((rd_T27 l1 0).f2) x408000_17 x408001_17 x408002_17 x409000_37 x409001_37 x409002_37).bind fun bt414 => (some (bt414.1, bt414.2.1, bt414.2.2, 0))) = some (r1, r2, r3, r4) := by rw [if_neg (show ¬ (false = true) by decide)] at H; exact H
                          clear H
                          have H := H1
                          clear H1
                          replace H := Option.bind_eq_some_iff.mp H
                          obtain ⟨⟨t414, t415, t416⟩, A610, H⟩ := H
                          replace H : (some (t414, t415, t416, 0)) = some (r1, r2, r3, r4) := H
                          have A61 := Aside0.mk A610
                          clear A610
                          simp only [Option.some.injEq, Prod.mk.injEq] at H
                          obtain ⟨rfl, rfl, rfl, rfl⟩ := H
                          have hnb62 := NB406_393.out
                          have hnc62 := NB393_406.out
                          have hnb63 := NB406_407.out
                          have hnc63 := NB407_406.out
                          have hnb64 := NB406_408.out
                          have hnc64 := NB408_406.out
                          have hcz65_0 : wc.cell? ⟨gb406, 0, none⟩ = some (.bool ((rd_T27 l1 0).f0)) := (blk_cell BK406.out 0).trans rfl
                          have hcz65_1 : wc.cell? ⟨gb406, 1, none⟩ = some (.int .i64 ((rd_T27 l1 0).f1)) := (blk_cell BK406.out 1).trans rfl
                          have hcz65_2 : wc.cell? ⟨gb406, 2, none⟩ = some (.string ((rd_T27 l1 0).f2)) := (blk_cell BK406.out 2).trans rfl
                          have hfz65_0 := blk_frozen BK406.out 0
                          have hfz65_1 := blk_frozen BK406.out 1
                          have hfz65_2 := blk_frozen BK406.out 2
                          have hnb66 := NB407_393.out
                          have hnc66 := NB393_407.out
                          have hnb67 := NB407_408.out
                          have hnc67 := NB408_407.out
                          have hcz68_0 : wc.cell? ⟨gb407, 0, none⟩ = some (.bool x408000_17) := (blk_cell BK407.out 0).trans rfl
                          have hcz68_1 : wc.cell? ⟨gb407, 1, none⟩ = some (.int .i64 x408001_17) := (blk_cell BK407.out 1).trans rfl
                          have hcz68_2 : wc.cell? ⟨gb407, 2, none⟩ = some (.string x408002_17) := (blk_cell BK407.out 2).trans rfl
                          have hfz68_0 := blk_frozen BK407.out 0
                          have hfz68_1 := blk_frozen BK407.out 1
                          have hfz68_2 := blk_frozen BK407.out 2
                          have hnb69 := NB408_393.out
                          have hnc69 := NB393_408.out
                          have hcz70_0 : wc.cell? ⟨gb408, 0, none⟩ = some (.bool x409000_37) := (blk_cell BK408.out 0).trans rfl
                          have hcz70_1 : wc.cell? ⟨gb408, 1, none⟩ = some (.int .i64 x409001_37) := (blk_cell BK408.out 1).trans rfl
                          have hcz70_2 : wc.cell? ⟨gb408, 2, none⟩ = some (.string x409002_37) := (blk_cell BK408.out 2).trans rfl
                          have hfz70_0 := blk_frozen BK408.out 0
                          have hfz70_1 := blk_frozen BK408.out 1
                          have hfz70_2 := blk_frozen BK408.out 2
                          go_wp2_with (first | ((with_reducible refine gate_callee (f := 33) rfl ?_); refine goesL_ (some 81) rfl rfl Tryz.func33 (by kernel_rfl) rfl #[.int .i64 a0, .agg #[.bool ((rd_T27 l1 0).f0), .int .i64 ((rd_T27 l1 0).f1), .string ((rd_T27 l1 0).f2)], .agg #[.bool x408000_17, .int .i64 x408001_17, .string x408002_17], .agg #[.bool x409000_37, .int .i64 x409001_37, .string x409002_37]] rfl xr ?_; (with_reducible refine (threshingref13_texted.calls kj44 a0 ((rd_T27 l1 0).f0) ((rd_T27 l1 0).f1) ((rd_T27 l1 0).f2) x408000_17 x408001_17 x408002_17 x409000_37 x409001_37 x409002_37 t414 t415 t416 _ (Tabs.below hT xf) A61.out).mono ?_); rintro e w71 ⟨rfl, hb⟩; refine ⟨_, rfl, ?_⟩; have n0_ := xd BK393.out hb; have n1_ := xd BK406.out hb; have n2_ := xd BK407.out hb; have n3_ := xd BK408.out hb; have n4_ := Aside0.mk (below_step xb hb); clear BK393; clear BK406; clear BK407; clear BK408; clear HB; have BK393 := n0_; have BK406 := n1_; have BK407 := n2_; have BK408 := n3_; have HB := n4_; clear n0_ n1_ n2_ n3_ n4_; (try clear hb); (try clear hb2); (try clear hk); (try clear hi); have hcz72_0 : w71.cell? ⟨gb393, 0, none⟩ = some (.bool x394000_1) := (blk_cell BK393.out 0).trans rfl; have hcz72_1 : w71.cell? ⟨gb393, 1, none⟩ = some (.int .i64 x394001_1) := (blk_cell BK393.out 1).trans rfl; have hcz72_2 : w71.cell? ⟨gb393, 2, none⟩ = some (.string x394002_1) := (blk_cell BK393.out 2).trans rfl; have hfz72_0 := blk_frozen BK393.out 0; have hfz72_1 := blk_frozen BK393.out 1; have hfz72_2 := blk_frozen BK393.out 2))
                          refine bodyPost_ret (results_ct rfl _ _ gb393 27 #[.bool t414, .int .i64 t415, .string t416] (0, 0) _ rfl (by (with_reducible repeat (first | refine blk_drewN ?_ _ | refine blk_drew ?_ | refine blk_alloc ?_ _)); refine blk_put (cs := #[.bool t414, .int .i64 t415, .string x394002_1]) ?_ 2 _ rfl; (with_reducible repeat (first | refine blk_drewN ?_ _ | refine blk_drew ?_ | refine blk_alloc ?_ _)); refine blk_put (cs := #[.bool t414, .int .i64 x394001_1, .string x394002_1]) ?_ 1 _ rfl; (with_reducible repeat (first | refine blk_drewN ?_ _ | refine blk_drew ?_ | refine blk_alloc ?_ _)); refine blk_put (cs := #[.bool x394000_1, .int .i64 x394001_1, .string x394002_1]) ?_ 0 _ rfl; (with_reducible repeat (first | refine blk_drewN ?_ _ | refine blk_drew ?_ | refine blk_alloc ?_ _)); exact BK393.out) Tryz.underlying27 rfl (by kernel_rfl)) rfl ?_
                          exact ⟨by first | rfl | (simp [errW_none, errW_some] <;> rfl) | (simp [*, errW_none, errW_some] <;> rfl), xb⟩
          · rw [if_neg c17] at H
            exact absurd H (by simp)
        · rw [if_neg c16] at H
          have c16b0 : (t404 == 0) = false := beq_eq_false_iff_ne.mpr c16
          have c16b1 : (t404 != 0) = true := bne_iff_ne.mpr c16
          simp only [Option.some.injEq, Prod.mk.injEq] at H
          obtain ⟨rfl, rfl, rfl, rfl⟩ := H
          obtain ⟨Ao73, co73, eo73⟩ := Kd.R_slice HO_6.out
          subst eo73
          go_wp2_with (first | ((with_reducible refine gate_callee (f := 12) rfl ?_); refine goesL_ (some 38) rfl rfl Tryz.func12 (by kernel_rfl) rfl #[.int .i64 a0, .slice Ao73 x6_1.length co73] rfl xr ?_; (with_reducible refine (threshingref13_Result.calls k1 a0 _ _ x6_1 t403 t404 _ (Tabs.below hT xf) ?side1 ?side2 A15.out).mono ?_); (case side1 => repeat (first | exact (Kd.R_reads' HO_6.out).2.2 | (with_reducible refine Kd.C_alloc ?_ _) | (with_reducible refine Kd.C_drewN ?_ _) | (with_reducible refine Kd.C_drew ?_))); (case side2 => exact (Kd.R_reads' HO_6.out).2.1); rintro e w' ⟨rfl, ⟨nd, rfl⟩⟩; refine ⟨_, rfl, ?_⟩; (try (rw [drewN_self wr]; generalize hq_ : World.drewN wr _ = wr; have n0_ : Aside0 (Kd.R Kd.bool 4 wr w.heap.size (fun _ => True) (.slice Ao73 x6_1.length co73) x6_1) := ⟨by rw [← hq_]; exact (by (with_reducible repeat (first | apply Kd.R_alloc | apply Kd.R_drewN | apply Kd.R_drew)); exact HO_6.out)⟩; have n1_ : Aside0 (wr.heap[gb393]? = some (.cells #[.bool x394000_1, .int .i64 x394001_1, .string x394002_1] 27 (0, 0))) := ⟨by rw [← hq_]; exact (xk BK393.out)⟩; have n2_ : Aside0 (Below w.heap.size w wr) := ⟨by rw [← hq_]; exact xb⟩; clear HO_6 BK393 HB hq_; have HO_6 := n0_; have BK393 := n1_; have HB := n2_; clear n0_ n1_ n2_)); have hcz74_0 : wr.cell? ⟨gb393, 0, none⟩ = some (.bool x394000_1) := (blk_cell BK393.out 0).trans rfl; have hcz74_1 : wr.cell? ⟨gb393, 1, none⟩ = some (.int .i64 x394001_1) := (blk_cell BK393.out 1).trans rfl; have hcz74_2 : wr.cell? ⟨gb393, 2, none⟩ = some (.string x394002_1) := (blk_cell BK393.out 2).trans rfl; have hfz74_0 := blk_frozen BK393.out 0; have hfz74_1 := blk_frozen BK393.out 1; have hfz74_2 := blk_frozen BK393.out 2))
          refine bodyPost_ret (results_ct rfl _ _ gb393 27 #[.bool false, .int .i64 0, .string (⟨#[]⟩ : ByteArray)] (0, 0) _ rfl (by (with_reducible repeat (first | refine blk_drewN ?_ _ | refine blk_drew ?_ | refine blk_alloc ?_ _)); refine blk_put (cs := #[.bool false, .int .i64 0, .string x394002_1]) ?_ 2 _ rfl; (with_reducible repeat (first | refine blk_drewN ?_ _ | refine blk_drew ?_ | refine blk_alloc ?_ _)); refine blk_put (cs := #[.bool false, .int .i64 x394001_1, .string x394002_1]) ?_ 1 _ rfl; (with_reducible repeat (first | refine blk_drewN ?_ _ | refine blk_drew ?_ | refine blk_alloc ?_ _)); refine blk_put (cs := #[.bool x394000_1, .int .i64 x394001_1, .string x394002_1]) ?_ 0 _ rfl; (with_reducible repeat (first | refine blk_drewN ?_ _ | refine blk_drew ?_ | refine blk_alloc ?_ _)); exact BK393.out) Tryz.underlying27 rfl (by kernel_rfl)) rfl ?_
          exact ⟨by first | rfl | (simp [errW_none, errW_some] <;> rfl) | (simp [*, errW_none, errW_some] <;> rfl), xb⟩

end Go.Proofs.YtpgddpkljbgjpaaGreatDoor.PX
