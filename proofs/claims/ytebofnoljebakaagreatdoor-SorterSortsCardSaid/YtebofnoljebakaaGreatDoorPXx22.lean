/- Walked functions, by this session's program over the kit's print. -/
import Derived.Test.YtebofnoljebakaaGreatDoorPXx0
import Derived.Test.YtebofnoljebakaaGreatDoorXSorts19
import Derived.Test.YtebofnoljebakaaGreatDoorPXx2
import Derived.Test.YtebofnoljebakaaGreatDoorPXx8
import Derived.Test.YtebofnoljebakaaGreatDoorPXx18
import Derived.Test.YtebofnoljebakaaGreatDoorPXx20
namespace Go.Proofs.YtebofnoljebakaaGreatDoor.PX
open Go.RowKit Go.Proofs.YtebofnoljebakaaGreatDoorW.PrintWords Go.Proofs.YtebofnoljebakaaGreatDoorW.PrintLast Go.Proofs.YtebofnoljebakaaGreatDoorW.PrintMore
attribute [local go_sem] xm_gtr max2_int min2_int max_two min_two max_three min_three max_four min_four
set_option linter.unusedVariables false
set_option linter.unusedSimpArgs false
/- Walked functions, by this session's program over the kit's print. -/
mutual
def r19_Groups.l0 : Nat → List (S74) → List (S52) → Int → Option ((List (S52)))
 | 0, _, _, _ => none
 | k + 1, x0, x3, x4 => if x4 < (x0.length : Int) then (if x4 > 0 then (if 0 ≤ x4 then (if 0 ≤ (wrap64 (x4 - 1)) then (if (wrap64 (x4 - 1)) < (x0.length : Int) then (r19_Groups.j1 k x0 x3 x4 (((rd_T74 x0 x4).f0).toList == ((rd_T74 x0 (wrap64 (x4 - 1))).f0).toList)) else (none)) else (none)) else (none)) else (r19_Groups.j1 k x0 x3 x4 false)) else (some x3)
def r19_Groups.j1 : Nat → List (S74) → List (S52) → Int → Bool → Option ((List (S52)))
 | 0, _, _, _, _ => none
 | k + 1, x0, x3, x4, x29 => if x29 = true then (r19_Groups.l0 k x0 x3 (wrap64 (x4 + 1))) else (if 0 ≤ x4 then (if x4 < (x0.length : Int) then (r19_Groups.l1 k x0 x3 x4 x4 ((rd_T74 x0 x4).f0) ([] : List (S24))) else (none)) else (none))
def r19_Groups.l1 : Nat → List (S74) → List (S52) → Int → Int → ByteArray → List (S24) → Option ((List (S52)))
 | 0, _, _, _, _, _, _ => none
 | k + 1, x0, x3, x4, x6, x486000, x486001 => if x6 < (x0.length : Int) then (if 0 ≤ x6 then (if 0 ≤ x4 then (if x4 < (x0.length : Int) then (if ((rd_T74 x0 x6).f0).toList = ((rd_T74 x0 x4).f0).toList then (if x486001.length < 4398046511104 then (r19_Groups.l1 k x0 x3 x4 (wrap64 (x6 + 1)) x486000 (x486001 ++ [(⟨(rd_T74 x0 x6).f1.f0, (rd_T74 x0 x6).f1.f1, (rd_T74 x0 x6).f1.f2⟩ : S24)])) else (none)) else (if x3.length < 3518437208883 then (r19_Groups.l0 k x0 (x3 ++ [(⟨x486000, x486001⟩ : S52)]) (wrap64 (x4 + 1))) else (none))) else (none)) else (none)) else (none)) else (if x3.length < 3518437208883 then (r19_Groups.l0 k x0 (x3 ++ [(⟨x486000, x486001⟩ : S52)]) (wrap64 (x4 + 1))) else (none))
end
def r19_Groups.f (k : Nat) (l0 : List (S74)) : Option ((List (S52))) := r19_Groups.l0 k l0 (([] : List (S52))) 0
theorem r19_Groups.mono_l : ∀ k, (∀ y0 y1 y2, LeO (r19_Groups.l0 k y0 y1 y2) (r19_Groups.l0 (k + 1) y0 y1 y2)) ∧ (∀ y0 y1 y2 y3, LeO (r19_Groups.j1 k y0 y1 y2 y3) (r19_Groups.j1 (k + 1) y0 y1 y2 y3)) ∧ (∀ y0 y1 y2 y3 y4 y5, LeO (r19_Groups.l1 k y0 y1 y2 y3 y4 y5) (r19_Groups.l1 (k + 1) y0 y1 y2 y3 y4 y5))
 | 0 => ⟨fun _ _ _ r h => by simp [r19_Groups.l0] at h, fun _ _ _ _ r h => by simp [r19_Groups.j1] at h, fun _ _ _ _ _ _ r h => by simp [r19_Groups.l1] at h⟩
 | k + 1 => by
  obtain ⟨ih0, ih1, ih2⟩ := r19_Groups.mono_l k
  refine ⟨?_, ?_, ?_⟩
  ·intro y0 y1 y2
   unfold r19_Groups.l0
   repeat' (with_reducible first | exact ih0 _ _ _ | exact ih1 _ _ _ _ | exact ih2 _ _ _ _ _ _ | exact LeO.refl _ | exact LeO.none _ | refine LeO.ite ?_ ?_ | refine LeO.bind ?_ (fun _ => ?_))
  ·intro y0 y1 y2 y3
   unfold r19_Groups.j1
   repeat' (with_reducible first | exact ih0 _ _ _ | exact ih1 _ _ _ _ | exact ih2 _ _ _ _ _ _ | exact LeO.refl _ | exact LeO.none _ | refine LeO.ite ?_ ?_ | refine LeO.bind ?_ (fun _ => ?_))
  ·intro y0 y1 y2 y3 y4 y5
   unfold r19_Groups.l1
   repeat' (with_reducible first | exact ih0 _ _ _ | exact ih1 _ _ _ _ | exact ih2 _ _ _ _ _ _ | exact LeO.refl _ | exact LeO.none _ | refine LeO.ite ?_ ?_ | refine LeO.bind ?_ (fun _ => ?_))
theorem r19_Groups.mono : ∀ a0 k, LeO (r19_Groups.f k a0) (r19_Groups.f (k + 1) a0) := by
 intro a0 k
 obtain ⟨ih0, ih1, ih2⟩ := r19_Groups.mono_l k
 unfold r19_Groups.f
 repeat' (with_reducible first | exact ih0 _ _ _ | exact ih1 _ _ _ _ | exact ih2 _ _ _ _ _ _ | exact LeO.refl _ | exact LeO.none _ | refine LeO.ite ?_ ?_ | refine LeO.bind ?_ (fun _ => ?_))
def r19_Groups.T5 : Bool × List (List Nat × List Nat) := (true, [([], []), ([0], [0]), ([1], [1]), ([2], [2]), ([2], [2]), ([3, 4, 2], [2, 3, 4]), ([5, 2], [2, 5]), ([6, 2], [2, 6]), ([2], [2]), ([2], [2]), ([9, 2], [2, 9]), ([8, 10, 2], [2, 8, 10]), ([11, 2], [2, 11]), ([12, 2], [2, 12]), ([7, 13, 2], [2, 7, 13]), ([2, 14], [2, 14])])
def r19_Groups.B5 : List Nat := [0, 1, 3, 7, 7, 31, 63, 127, 7, 7, 519, 1799, 3847, 7943, 16383, 32767]
theorem r19_Groups.tab5 : rtab .any (opsOf Tryz.f21 5) = r19_Groups.T5 := by kernel_rfl
theorem r19_Groups.bits5 : waitsOk r19_Groups.T5.2 r19_Groups.B5 = true := by kernel_rfl
def r19_Groups.T8 : Bool × List (List Nat × List Nat) := (true, [([], []), ([], []), ([1], [1]), ([0, 2], [0, 2]), ([3], [3]), ([4], [4]), ([4], [4]), ([5, 6, 4], [4, 5, 6]), ([7, 4], [4, 7]), ([8, 4], [4, 8]), ([4], [4]), ([4], [4]), ([10, 11, 4], [4, 10, 11]), ([12, 4], [4, 12]), ([13, 4], [4, 13]), ([9, 14, 4], [4, 9, 14]), ([4, 15], [4, 15])])
def r19_Groups.B8 : List Nat := [0, 0, 2, 7, 15, 31, 31, 127, 255, 511, 31, 31, 3103, 7199, 15391, 32767, 65535]
theorem r19_Groups.tab8 : rtab .any (opsOf Tryz.f21 8) = r19_Groups.T8 := by kernel_rfl
theorem r19_Groups.bits8 : waitsOk r19_Groups.T8.2 r19_Groups.B8 = true := by kernel_rfl
def r19_Groups.T10 : Bool × List (List Nat × List Nat) := (true, [([], []), ([0], [0]), ([], []), ([], []), ([2, 3], [2, 3]), ([4], [4]), ([5], [5]), ([6], [6]), ([1, 7], [1, 7]), ([0, 1, 2, 3, 4, 5, 6, 7, 8], []), ([9, 8, 8, 0, 1, 2, 3, 4, 5, 6, 7, 8], [8, 9])])
def r19_Groups.B10 : List Nat := [0, 1, 0, 0, 12, 28, 60, 124, 255, 511, 1023]
theorem r19_Groups.tab10 : rtab .any (opsOf Tryz.f21 10) = r19_Groups.T10 := by kernel_rfl
theorem r19_Groups.bits10 : waitsOk r19_Groups.T10.2 r19_Groups.B10 = true := by kernel_rfl
set_option maxHeartbeats 8000000 in
set_option maxRecDepth 100000 in
theorem r19_Groups.calls (k : Nat) (A0 : Option Addr) (c0 : Nat) (l0 : List (S74)) (r : List (S52)) (w : World) (hT : Tabs w) (hr0 : Kd.C k74 w A0 l0.length l0) (hc0 : l0.length ≤ c0) (h : r19_Groups.f k l0 = some r) :
  Calls Tryz.prog 21 #[.slice A0 l0.length c0] w fun e w' => ∃ v0_ : Value, e = .returned (v0_) ∧ Kd.S k52 52 w' w.heap.size (fun _ => True) v0_ r ∧ Below w.heap.size w w' := by
 have hu52 := Tryz.underlying52
 have hu24 := Tryz.underlying24
 have HR0 := xy hr0
 have HC0 := xy hc0
 clear hr0 hc0
 have HB := xy (Below.refl w.heap.size w)
 unfold r19_Groups.f at h
 have H := h
 clear h
 obtain ⟨y479, hy479⟩ : ∃ y_ : List (S52), y_ = (([] : List (S52))) := ⟨_, rfl⟩
 replace H : (r19_Groups.l0 k l0 y479 0) = some r := by first | (rw [hy479]; with_reducible exact H) | (have H2_ := (Option.bind_some _ _).symm.trans H; rw [hy479]; with_reducible exact H2_) | (have H2_ := (Option.bind_some _ _).symm.trans H; with_reducible exact H2_) | with_reducible exact H | (rw [hy479]; exact H) | exact H
 have Ny479 := xy hy479
 clear hy479
 have H' := xy H
 clear H
 go_enter Tryz.func21, Tryz.ntmps21
 go_wp2_with (((with_reducible refine gate_dst (N := 7) rfl ?_); refine Kd.S_lit k52 _ 52 ?hg (N := 7) ?hd (xs := ([] : List (S52))) (inner := []) (ok := fun _ => True) (okp := fun _ => True) ?hr ?hp (fun _ hk => hk) trivial (Below.refl _ _) (Nat.le_refl _) (by simp) ?_; (case hd => rfl); (case hg => rfl); (case hr => exact xh); (case hp => exact (Reps.none _ _)); intro v480 w2 ho3 hb hg_ hnew_; clear hg_ hnew_; (first | rw [← Ny479.out] at ho3 | (simp only [Int.reduceToNat] at ho3; rw [← Ny479.out] at ho3)); have HO481 := xy (Kd.S_lower ho3 (below_size xb)); replace HB := xy (below_step xb hb); clear hb ho3))
 go_loopg [3, 4] k (fun kq v3 v4 w' => ∃ (x3_1 : List (S52)) (x4_1 : Int), v4 = .int .i64 x4_1 ∧ Aside0 (r19_Groups.l0 kq l0 x3_1 x4_1 = some r) ∧ Aside0 (kq ≤ k) ∧ Aside0 (Kd.S k52 52 w' w.heap.size (fun _ => True) v3 x3_1) ∧ Aside0 (Below w.heap.size w w'))
 case atStart => exact ⟨(y479), (0), xg, H', ⟨Nat.le_refl _⟩, ⟨by (with_reducible repeat (first | apply Kd.S_alloc | apply Kd.S_drewN | apply Kd.S_drew)); exact HO481.out⟩, ⟨xb⟩⟩
 case round =>
  clear H'
  try clear c2
  try clear p2
  obtain ⟨x3_1, x4_1, rfl, HA, HK1, HO_3, HB⟩ := hrel
  cases gk with
  | zero => exact absurd HA.out (by simp [r19_Groups.l0])
  | succ k1 =>
   have H := HA.out
   clear HA
   simp only [r19_Groups.l0] at H
   by_cases c4 : x4_1 < (l0.length : Int)
   ·rw [if_pos c4] at H
    have c4b0 : decide (x4_1 < (l0.length : Int)) = true := decide_eq_true c4
    clear c4
    have HC5 := xy H
    clear H
    go_upto_region 5 with (fail)
    go_cut [29] (fun v29 wc => ∃ (kq : Nat) (x29_4 : Bool), v29 = .bool x29_4 ∧ Aside0 (r19_Groups.j1 kq l0 x3_1 x4_1 x29_4 = some r) ∧ Aside0 (kq ≤ k1) ∧ Aside0 (Kd.S k52 52 wc w.heap.size (fun _ => True) u3 x3_1) ∧ Aside0 (Below w.heap.size w wc))
    case first =>
     have H := HC5.out
     clear HC5
     by_cases c6 : x4_1 > 0
     ·rw [if_pos c6] at H
      have c6b0 : decide (0 < x4_1) = true := decide_eq_true c6
      clear c6
      (first | rw [c6b0] | (simp only [i64_w, i32_w]; rw [c6b0]) | skip)
      by_cases c7 : 0 ≤ x4_1
      ·rw [if_pos c7] at H
       have c7b0 : decide (0 ≤ x4_1) = true := decide_eq_true c7
       clear c7
       obtain ⟨ji8, hji8⟩ : ∃ j_ : Int, (wrap64 (x4_1 - 1)) = j_ := ⟨_, rfl⟩
       replace H : (if 0 ≤ (ji8) then (if (ji8) < (l0.length : Int) then (r19_Groups.j1 k1 l0 x3_1 x4_1 (((rd_T74 l0 x4_1).f0).toList == ((rd_T74 l0 (ji8)).f0).toList)) else (none)) else (none)) = some r := by first | (rw [hji8] at H; exact H) | (simp only [hji8] at H ⊢; exact H)
       have hji8w : (IntKind.i64.wrap (x4_1 - 1)) = ji8 := (i64_w _).trans hji8
       by_cases c9 : 0 ≤ (ji8)
       ·rw [if_pos c9] at H
        have c9b0 : decide (0 ≤ (ji8)) = true := decide_eq_true c9
        clear c9
        by_cases c10 : (ji8) < (l0.length : Int)
        ·rw [if_pos c10] at H
         have c10b0 : decide ((ji8) < (l0.length : Int)) = true := decide_eq_true c10
         clear c10
         have H' := xy H
         clear H
         try go_wp2
         replace HO_3 := xy (Kd.S_drew HO_3.out)
         replace HB := xy (below_drew1 HB.out)
         have p482 : 0 ≤ (x4_1 : Int) := xi
         have q482 : x4_1 < (l0.length : Int) := xi
         obtain ⟨ad482, e482, hx482_0, hx482_1, hx482_2, hx482_3⟩ := at_T74 HR0.out x4_1 p482 q482
         have hw482_3 := hx482_3
         have hw482_2 := hx482_2
         have hw482_1 := hx482_1
         have hw482_0 := hx482_0
         cases e482
         replace hx482_0 := (HB.out.cell (World.block_lt_of_cell? w _ hx482_0)).trans hx482_0
         replace hx482_1 := (HB.out.cell (World.block_lt_of_cell? w _ hx482_1)).trans hx482_1
         replace hx482_2 := (HB.out.cell (World.block_lt_of_cell? w _ hx482_2)).trans hx482_2
         replace hx482_3 := (HB.out.cell (World.block_lt_of_cell? w _ hx482_3)).trans hx482_3
         replace p482 := eq_true p482
         replace q482 := eq_true q482
         have p483 : 0 ≤ ((ji8) : Int) := xi
         have q483 : (ji8) < (l0.length : Int) := xi
         obtain ⟨ad483, e483, hx483_0, hx483_1, hx483_2, hx483_3⟩ := at_T74 HR0.out (ji8) p483 q483
         have hw483_3 := hx483_3
         have hw483_2 := hx483_2
         have hw483_1 := hx483_1
         have hw483_0 := hx483_0
         obtain rfl : ad482 = ad483 := (by injection e483)
         replace hx483_0 := (HB.out.cell (World.block_lt_of_cell? w _ hx483_0)).trans hx483_0
         replace hx483_1 := (HB.out.cell (World.block_lt_of_cell? w _ hx483_1)).trans hx483_1
         replace hx483_2 := (HB.out.cell (World.block_lt_of_cell? w _ hx483_2)).trans hx483_2
         replace hx483_3 := (HB.out.cell (World.block_lt_of_cell? w _ hx483_3)).trans hx483_3
         replace p483 := eq_true p483
         replace q483 := eq_true q483
         refine start_ (n := 16) (S := fun w' => w'.cell? (ad482.add ((x4_1).toNat * 4)) = some (.string ((rd_T74 l0 x4_1).f0)) ∧ w'.cell? ⟨(ad482.add ((x4_1).toNat * 4)).block, (ad482.add ((x4_1).toNat * 4)).off + 1, none⟩ = some (.bool ((rd_T74 l0 x4_1).f1.f0)) ∧ w'.cell? ⟨(ad482.add ((x4_1).toNat * 4)).block, (ad482.add ((x4_1).toNat * 4)).off + 2, none⟩ = some (.int .i64 ((rd_T74 l0 x4_1).f1.f1)) ∧ w'.cell? ⟨(ad482.add ((x4_1).toNat * 4)).block, (ad482.add ((x4_1).toNat * 4)).off + 3, none⟩ = some (.string ((rd_T74 l0 x4_1).f1.f2)) ∧ w'.cell? (ad482.add (((ji8)).toNat * 4)) = some (.string ((rd_T74 l0 (ji8)).f0)) ∧ w'.cell? ⟨(ad482.add (((ji8)).toNat * 4)).block, (ad482.add (((ji8)).toNat * 4)).off + 1, none⟩ = some (.bool ((rd_T74 l0 (ji8)).f1.f0)) ∧ w'.cell? ⟨(ad482.add (((ji8)).toNat * 4)).block, (ad482.add (((ji8)).toNat * 4)).off + 2, none⟩ = some (.int .i64 ((rd_T74 l0 (ji8)).f1.f1)) ∧ w'.cell? ⟨(ad482.add (((ji8)).toNat * 4)).block, (ad482.add (((ji8)).toNat * 4)).off + 3, none⟩ = some (.string ((rd_T74 l0 (ji8)).f1.f2))) (ds := []) #[false, false, false, false, false, false, false, false, false, false, false, false, false, false, false, false] (by kernel_rfl) rfl rfl ⟨((HB.out.cell (World.block_lt_of_cell? w _ hw482_0)).trans hw482_0), ((HB.out.cell (World.block_lt_of_cell? w _ hw482_1)).trans hw482_1), ((HB.out.cell (World.block_lt_of_cell? w _ hw482_2)).trans hw482_2), ((HB.out.cell (World.block_lt_of_cell? w _ hw482_3)).trans hw482_3), ((HB.out.cell (World.block_lt_of_cell? w _ hw483_0)).trans hw483_0), ((HB.out.cell (World.block_lt_of_cell? w _ hw483_1)).trans hw483_1), ((HB.out.cell (World.block_lt_of_cell? w _ hw483_2)).trans hw483_2), ((HB.out.cell (World.block_lt_of_cell? w _ hw483_3)).trans hw483_3)⟩ (fun hHeld => ?_); refine with_tabW r19_Groups.tab5 r19_Groups.bits5 (fun HT_ HW_ => ?_)
         generalize wr.drew = w11 at HO_3 HB hx482_0 hx482_1 hx482_2 hx482_3 hx483_0 hx483_1 hx483_2 hx483_3 hHeld ⊢
         refine yz 0 (some 14) (bs 16 1) HT_.out (h := ?_)
         refine yz 1 (some 15) (bs 16 3) HT_.out (h := ?_)
         refine yz 2 (some 16) (bs 16 7) HT_.out (h := ?_)
         refine yz 3 (some 17) (bs 16 15) HT_.out (h := ?_)
         refine yz 4 (some 18) (bs 16 31) HT_.out (h := ?_)
         refine yz 5 (some 19) (bs 16 63) HT_.out (h := ?_)
         refine yz 6 (some 20) (bs 16 127) HT_.out (h := ?_)
         refine yz 8 (some 22) (bs 16 383) HT_.out (h := ?_)
         refine yz 9 (some 23) (bs 16 895) HT_.out (h := ?_)
         refine yz 10 (some 24) (bs 16 1919) HT_.out (h := ?_)
         refine yz 11 (some 25) (bs 16 3967) HT_.out (h := ?_)
         refine yz 12 (some 26) (bs 16 8063) HT_.out (h := ?_)
         refine yt 7 (some 21) (bs 16 8191) HT_.out HW_.out hHeld (h := ?_)
         refine yt 13 (some 27) (bs 16 16383) HT_.out HW_.out hHeld (h := ?_)
         refine yz 14 (some 28) (bs 16 32767) HT_.out (h := ?_)
         refine yz 15 (some 29) (bs 16 65535) HT_.out (h := ?_)
         refine done_ (done_of HT_.out (by kernel_rfl)) ?_
         try go_wp2
         go_meet
         case rel => exact ⟨_, ((((rd_T74 l0 x4_1).f0).toList == ((rd_T74 l0 (ji8)).f0).toList)), (by first | rfl | (simp; done) | (simp only [← hji8] <;> (first | rfl | simp)) | (simp [*]; done)), H', ⟨by have := HK1.out; first | omega | exact Nat.le_refl _⟩, ⟨by (with_reducible repeat (first | apply Kd.S_alloc | apply Kd.S_drewN | apply Kd.S_drew)); exact HO_3.out⟩, ⟨xb⟩⟩
        ·rw [if_neg c10] at H
         exact absurd H (by simp)
       ·rw [if_neg c9] at H
        exact absurd H (by simp)
      ·rw [if_neg c7] at H
       exact absurd H (by simp)
     ·rw [if_neg c6] at H
      have c6b0 : decide (0 < x4_1) = false := decide_eq_false c6
      clear c6
      (first | rw [c6b0] | (simp only [i64_w, i32_w]; rw [c6b0]) | skip)
      have H' := xy H
      clear H
      try go_wp2
      replace HO_3 := xy (Kd.S_drew HO_3.out)
      replace HB := xy (below_drew1 HB.out)
      refine start_ (n := 16) (S := fun w' => True) (ds := []) #[false, false, false, false, false, false, false, false, false, false, false, false, false, false, false, false] (by kernel_rfl) rfl rfl trivial (fun hHeld => ?_); refine with_tabW r19_Groups.tab5 r19_Groups.bits5 (fun HT_ HW_ => ?_)
      generalize wr.drew = w12 at HO_3 HB hHeld ⊢
      refine yz 0 (some 14) (bs 16 1) HT_.out (h := ?_)
      refine yz 1 (some 15) (bs 16 3) HT_.out (h := ?_)
      refine yz 2 (some 16) (bs 16 7) HT_.out (h := ?_)
      refine yu 3 (some 17) (bs 16 15) HT_.out (h := ?_)
      refine yu 4 (some 18) (bs 16 31) HT_.out (h := ?_)
      refine yu 5 (some 19) (bs 16 63) HT_.out (h := ?_)
      refine yu 6 (some 20) (bs 16 127) HT_.out (h := ?_)
      refine yu 7 (some 21) (bs 16 255) HT_.out (h := ?_)
      refine yu 8 (some 22) (bs 16 511) HT_.out (h := ?_)
      refine yu 9 (some 23) (bs 16 1023) HT_.out (h := ?_)
      refine yu 10 (some 24) (bs 16 2047) HT_.out (h := ?_)
      refine yu 11 (some 25) (bs 16 4095) HT_.out (h := ?_)
      refine yu 12 (some 26) (bs 16 8191) HT_.out (h := ?_)
      refine yu 13 (some 27) (bs 16 16383) HT_.out (h := ?_)
      refine yu 14 (some 28) (bs 16 32767) HT_.out (h := ?_)
      refine yz 15 (some 29) (bs 16 65535) HT_.out (h := ?_)
      refine done_ (done_of HT_.out (by kernel_rfl)) ?_
      try go_wp2
      go_meet
      case rel => exact ⟨_, (false), xg, H', ⟨by have := HK1.out; first | omega | exact Nat.le_refl _⟩, ⟨by (with_reducible repeat (first | apply Kd.S_alloc | apply Kd.S_drewN | apply Kd.S_drew)); exact HO_3.out⟩, ⟨xb⟩⟩
    case rest =>
     clear HC5
     try clear c1
     try clear c2
     try clear p2
     try clear c4
     try clear c4b0
     try clear p4
     try clear q4
     try clear hx4
     try clear c6
     try clear c6b0
     try clear p6
     try clear c7
     try clear c7b0
     try clear c9
     try clear c9b0
     try clear c10
     try clear c10b0
     try clear hx482_0
     try clear hx482_1
     try clear hx482_2
     try clear hx482_3
     try clear hx483_0
     try clear hx483_1
     try clear hx483_2
     try clear hx483_3
     try clear p2
     try clear p482
     try clear p483
     try clear q482
     try clear q483
     obtain ⟨kq, x29_4, rfl, HA, HJ4, HO_3, HB⟩ := hcut
     cases kq with
     | zero => exact absurd HA.out (by simp [r19_Groups.j1])
     | succ kj4 =>
      have H := HA.out
      clear HA
      simp only [r19_Groups.j1] at H
      by_cases c13 : x29_4 = true
      ·subst c13
       rw [if_pos rfl] at H
       have H' := xy H
       clear H
       go_wp2
       go_roundg kj4
       case measure => have := HK1.out; have := HJ4.out; omega
       case rel => exact ⟨(x3_1), (wrap64 (x4_1 + 1)), xg, H', ⟨by have := HK1.out; have := HJ4.out; omega⟩, ⟨by (with_reducible repeat (first | apply Kd.S_alloc | apply Kd.S_drewN | apply Kd.S_drew)); exact HO_3.out⟩, ⟨xb⟩⟩
      ·replace c13 := Bool.eq_false_iff.mpr c13
       subst c13
       rw [if_neg (show ¬ (false = true) by decide)] at H
       by_cases c14 : 0 ≤ x4_1
       ·rw [if_pos c14] at H
        have c14b0 : decide (0 ≤ x4_1) = true := decide_eq_true c14
        clear c14
        by_cases c15 : x4_1 < (l0.length : Int)
        ·rw [if_pos c15] at H
         have c15b0 : decide (x4_1 < (l0.length : Int)) = true := decide_eq_true c15
         clear c15
         have H' := xy H
         clear H
         have p484 : 0 ≤ (x4_1 : Int) := xi
         have q484 : x4_1 < (l0.length : Int) := xi
         obtain ⟨ad484, e484, hx484_0, hx484_1, hx484_2, hx484_3⟩ := at_T74 HR0.out x4_1 p484 q484
         cases e484
         replace hx484_0 := (HB.out.cell (World.block_lt_of_cell? w _ hx484_0)).trans hx484_0
         replace hx484_1 := (HB.out.cell (World.block_lt_of_cell? w _ hx484_1)).trans hx484_1
         replace hx484_2 := (HB.out.cell (World.block_lt_of_cell? w _ hx484_2)).trans hx484_2
         replace hx484_3 := (HB.out.cell (World.block_lt_of_cell? w _ hx484_3)).trans hx484_3
         replace p484 := eq_true p484
         replace q484 := eq_true q484
         go_wp2_with (((with_reducible refine gate_dst (N := 5) rfl ?_); refine xq (N := 5) (cs := #[.string (⟨#[]⟩ : ByteArray), .slice none 0 0]) (t := 52) ?_; intro gb485 hg w16 hbox hb; replace HO_3 := xy (Kd.S_below (Kd.S_elderB (by (with_reducible repeat (first | apply Kd.S_alloc | apply Kd.S_drewN | apply Kd.S_drew)); exact HO_3.out) gb485 (Nat.le_of_eq hg.symm)) hb); have BK485 := xy (hbox); have GW485 := xs w hg; have GE485 := xs w hg; replace HB := xy (below_step xb hb); clear hb hbox hg; have hcz17_0 : w16.cell? ⟨gb485, 0, none⟩ = some (.string (⟨#[]⟩ : ByteArray)) := (kc BK485.out 0).trans rfl; have hcz17_1 : w16.cell? ⟨gb485, 1, none⟩ = some (.slice none 0 0) := (kc BK485.out 1).trans rfl; have hfz17_0 := kf BK485.out 0; have hfz17_1 := kf BK485.out 1))
         go_loopg [6] kj4 (fun kq v6 w' => ∃ (x6_3 : Int) (x486001_3 : List (S24)) (u486001 : Value), v6 = .int .i64 x6_3 ∧ Aside0 (r19_Groups.l1 kq l0 x3_1 x4_1 x6_3 ((rd_T74 l0 x4_1).f0) x486001_3 = some r) ∧ Aside0 (kq ≤ kj4) ∧ Aside0 (Kd.S k52 52 w' w.heap.size (fun k_ => some k_ ≠ (u486001 : Value).ownBlock ∧ k_ ≠ gb485) u3 x3_1) ∧ Aside0 (Kd.R k24 24 w' w.heap.size (fun _ => True) u486001 x486001_3) ∧ Aside0 (w'.heap[gb485]? = some (.cells #[.string ((rd_T74 l0 x4_1).f0), u486001] 52 (0, 0))) ∧ Aside0 (Below w.heap.size w w'))
         case atStart => exact ⟨(x4_1), (([] : List (S24))), (.slice none 0 0), xg, H', ⟨Nat.le_refl _⟩, ⟨by (with_reducible repeat (first | apply Kd.S_alloc | apply Kd.S_drewN | apply Kd.S_drew)); exact Kd.S_mono (Kd.S_far (p := ⟨gb485, 1, none⟩) (Kd.S_far (p := ⟨gb485, 0, none⟩) (Kd.S_mono HO_3.out (fun k_ hk => (⟨hk, hk.2⟩ : _ ∧ k_ ≠ gb485))) (fun _ hk => hk.2) (.string ((rd_T74 l0 x4_1).f0))) (fun _ hk => hk.2) (.slice none 0 0)) (fun _ hk => ⟨(by simp [Value.ownBlock]), hk.1.2⟩)⟩, ⟨by first | exact Kd.R_nil _ _ _ _ _ | exact Kd.N_nil _ _ _ _ _ | exact Kd.V_nil _ _ _ _ _ | exact Kd.Q_nil _ _ _ _ _ | exact Kd.S_nil _ _ _ _ _⟩, ⟨by (with_reducible repeat (first | refine blk_drewN ?_ _ | refine blk_drew ?_ | refine blk_alloc ?_ _)); refine blk_put (cs := #[.string ((rd_T74 l0 x4_1).f0), .slice none 0 0]) ?_ 1 _ rfl; (with_reducible repeat (first | refine blk_drewN ?_ _ | refine blk_drew ?_ | refine blk_alloc ?_ _)); refine blk_put (cs := #[.string (⟨#[]⟩ : ByteArray), .slice none 0 0]) ?_ 0 _ rfl; (with_reducible repeat (first | refine blk_drewN ?_ _ | refine blk_drew ?_ | refine blk_alloc ?_ _)); exact BK485.out⟩, ⟨xb⟩⟩
         case round =>
          clear H'
          try clear c1
          try clear c2
          try clear p2
          try clear c4
          try clear c4b0
          try clear p4
          try clear q4
          try clear hx4
          try clear c6
          try clear c6b0
          try clear p6
          try clear c7
          try clear c7b0
          try clear c9
          try clear c9b0
          try clear c10
          try clear c10b0
          try clear c13
          try clear c14
          try clear c14b0
          try clear c15
          try clear c15b0
          try clear hcz17_0
          try clear hcz17_1
          try clear hfz17_0
          try clear hfz17_1
          try clear hx482_0
          try clear hx482_1
          try clear hx482_2
          try clear hx482_3
          try clear hx483_0
          try clear hx483_1
          try clear hx483_2
          try clear hx483_3
          try clear hx484_0
          try clear hx484_1
          try clear hx484_2
          try clear hx484_3
          try clear p2
          try clear p4
          try clear p482
          try clear p483
          try clear p484
          try clear p6
          try clear q4
          try clear q482
          try clear q483
          try clear q484
          obtain ⟨x6_3, x486001_3, u486001, rfl, HA, HK3, HO_3, HO_486001, BK485, HB⟩ := hrel
          cases gk with
          | zero => exact absurd HA.out (by simp [r19_Groups.l1])
          | succ k3 =>
           have H := HA.out
           clear HA
           simp only [r19_Groups.l1] at H
           by_cases c18 : x6_3 < (l0.length : Int)
           ·rw [if_pos c18] at H
            have c18b0 : decide (x6_3 < (l0.length : Int)) = true := decide_eq_true c18
            clear c18
            by_cases c19 : 0 ≤ x6_3
            ·rw [if_pos c19] at H
             have c19b0 : decide (0 ≤ x6_3) = true := decide_eq_true c19
             clear c19
             by_cases c20 : 0 ≤ x4_1
             ·rw [if_pos c20] at H
              have c20b0 : decide (0 ≤ x4_1) = true := decide_eq_true c20
              clear c20
              by_cases c21 : x4_1 < (l0.length : Int)
              ·rw [if_pos c21] at H
               have c21b0 : decide (x4_1 < (l0.length : Int)) = true := decide_eq_true c21
               clear c21
               by_cases c22 : ((rd_T74 l0 x6_3).f0).toList = ((rd_T74 l0 x4_1).f0).toList
               ·rw [if_pos c22] at H
                have c22b0 : (((rd_T74 l0 x6_3).f0).toList == ((rd_T74 l0 x4_1).f0).toList) = true := beq_iff_eq.mpr c22
                have c22b1 : (((rd_T74 l0 x6_3).f0).toList != ((rd_T74 l0 x4_1).f0).toList) = false := bne_eq_false_iff_eq.mpr c22
                clear c22
                by_cases c23 : x486001_3.length < 4398046511104
                ·rw [if_pos c23] at H
                 have LMc23 := xy c23
                 clear c23
                 obtain ⟨y489, hy489⟩ : ∃ y_ : List (S24), y_ = (x486001_3 ++ [(⟨(rd_T74 l0 x6_3).f1.f0, (rd_T74 l0 x6_3).f1.f1, (rd_T74 l0 x6_3).f1.f2⟩ : S24)]) := ⟨_, rfl⟩
                 replace H : (r19_Groups.l1 k3 l0 x3_1 x4_1 (wrap64 (x6_3 + 1)) ((rd_T74 l0 x4_1).f0) y489) = some r := by first | (rw [hy489]; with_reducible exact H) | (have H2_ := (Option.bind_some _ _).symm.trans H; rw [hy489]; with_reducible exact H2_) | (have H2_ := (Option.bind_some _ _).symm.trans H; with_reducible exact H2_) | with_reducible exact H | (rw [hy489]; exact H) | exact H
                 have Ny489 := xy hy489
                 clear hy489
                 have H' := xy H
                 clear H
                 try go_wp2
                 replace HO_3 := xy (Kd.S_drew HO_3.out)
                 replace HO_486001 := xy (Kd.R_drew HO_486001.out)
                 replace BK485 := xy (blk_drew BK485.out)
                 replace HB := xy (below_drew1 HB.out)
                 have p486 : 0 ≤ (x6_3 : Int) := xi
                 have q486 : x6_3 < (l0.length : Int) := xi
                 obtain ⟨ad486, e486, hx486_0, hx486_1, hx486_2, hx486_3⟩ := at_T74 HR0.out x6_3 p486 q486
                 have hw486_3 := hx486_3
                 have hw486_2 := hx486_2
                 have hw486_1 := hx486_1
                 have hw486_0 := hx486_0
                 obtain rfl : ad484 = ad486 := (by injection e486)
                 replace hx486_0 := (HB.out.cell (World.block_lt_of_cell? w _ hx486_0)).trans hx486_0
                 replace hx486_1 := (HB.out.cell (World.block_lt_of_cell? w _ hx486_1)).trans hx486_1
                 replace hx486_2 := (HB.out.cell (World.block_lt_of_cell? w _ hx486_2)).trans hx486_2
                 replace hx486_3 := (HB.out.cell (World.block_lt_of_cell? w _ hx486_3)).trans hx486_3
                 replace p486 := eq_true p486
                 replace q486 := eq_true q486
                 have p487 : 0 ≤ (x4_1 : Int) := xi
                 have q487 : x4_1 < (l0.length : Int) := xi
                 obtain ⟨ad487, e487, hx487_0, hx487_1, hx487_2, hx487_3⟩ := at_T74 HR0.out x4_1 p487 q487
                 have hw487_3 := hx487_3
                 have hw487_2 := hx487_2
                 have hw487_1 := hx487_1
                 have hw487_0 := hx487_0
                 obtain rfl : ad484 = ad487 := (by injection e487)
                 replace hx487_0 := (HB.out.cell (World.block_lt_of_cell? w _ hx487_0)).trans hx487_0
                 replace hx487_1 := (HB.out.cell (World.block_lt_of_cell? w _ hx487_1)).trans hx487_1
                 replace hx487_2 := (HB.out.cell (World.block_lt_of_cell? w _ hx487_2)).trans hx487_2
                 replace hx487_3 := (HB.out.cell (World.block_lt_of_cell? w _ hx487_3)).trans hx487_3
                 replace p487 := eq_true p487
                 replace q487 := eq_true q487
                 refine start_ (n := 17) (S := fun w' => w'.cell? (ad484.add ((x6_3).toNat * 4)) = some (.string ((rd_T74 l0 x6_3).f0)) ∧ w'.cell? ⟨(ad484.add ((x6_3).toNat * 4)).block, (ad484.add ((x6_3).toNat * 4)).off + 1, none⟩ = some (.bool ((rd_T74 l0 x6_3).f1.f0)) ∧ w'.cell? ⟨(ad484.add ((x6_3).toNat * 4)).block, (ad484.add ((x6_3).toNat * 4)).off + 2, none⟩ = some (.int .i64 ((rd_T74 l0 x6_3).f1.f1)) ∧ w'.cell? ⟨(ad484.add ((x6_3).toNat * 4)).block, (ad484.add ((x6_3).toNat * 4)).off + 3, none⟩ = some (.string ((rd_T74 l0 x6_3).f1.f2)) ∧ w'.cell? (ad484.add ((x4_1).toNat * 4)) = some (.string ((rd_T74 l0 x4_1).f0)) ∧ w'.cell? ⟨(ad484.add ((x4_1).toNat * 4)).block, (ad484.add ((x4_1).toNat * 4)).off + 1, none⟩ = some (.bool ((rd_T74 l0 x4_1).f1.f0)) ∧ w'.cell? ⟨(ad484.add ((x4_1).toNat * 4)).block, (ad484.add ((x4_1).toNat * 4)).off + 2, none⟩ = some (.int .i64 ((rd_T74 l0 x4_1).f1.f1)) ∧ w'.cell? ⟨(ad484.add ((x4_1).toNat * 4)).block, (ad484.add ((x4_1).toNat * 4)).off + 3, none⟩ = some (.string ((rd_T74 l0 x4_1).f1.f2))) (ds := []) #[false, false, false, false, false, false, false, false, false, false, false, false, false, false, false, false, false] (by kernel_rfl) rfl rfl ⟨((HB.out.cell (World.block_lt_of_cell? w _ hw486_0)).trans hw486_0), ((HB.out.cell (World.block_lt_of_cell? w _ hw486_1)).trans hw486_1), ((HB.out.cell (World.block_lt_of_cell? w _ hw486_2)).trans hw486_2), ((HB.out.cell (World.block_lt_of_cell? w _ hw486_3)).trans hw486_3), ((HB.out.cell (World.block_lt_of_cell? w _ hw487_0)).trans hw487_0), ((HB.out.cell (World.block_lt_of_cell? w _ hw487_1)).trans hw487_1), ((HB.out.cell (World.block_lt_of_cell? w _ hw487_2)).trans hw487_2), ((HB.out.cell (World.block_lt_of_cell? w _ hw487_3)).trans hw487_3)⟩ (fun hHeld => ?_); refine with_tabW r19_Groups.tab8 r19_Groups.bits8 (fun HT_ HW_ => ?_)
                 generalize wr.drew = w24 at HO_3 HO_486001 BK485 HB hx486_0 hx486_1 hx486_2 hx486_3 hx487_0 hx487_1 hx487_2 hx487_3 hHeld ⊢
                 refine yz 0 (some 37) (bs 17 1) HT_.out (h := ?_)
                 refine yz 1 (some 38) (bs 17 3) HT_.out (h := ?_)
                 refine yz 2 (some 39) (bs 17 7) HT_.out (h := ?_)
                 refine yz 3 (some 40) (bs 17 15) HT_.out (h := ?_)
                 refine yz 4 (some 41) (bs 17 31) HT_.out (h := ?_)
                 refine yz 5 (some 42) (bs 17 63) HT_.out (h := ?_)
                 refine yz 6 (some 43) (bs 17 127) HT_.out (h := ?_)
                 refine yz 7 (some 44) (bs 17 255) HT_.out (h := ?_)
                 refine yz 8 (some 45) (bs 17 511) HT_.out (h := ?_)
                 refine yz 10 (some 47) (bs 17 1535) HT_.out (h := ?_)
                 refine yz 11 (some 48) (bs 17 3583) HT_.out (h := ?_)
                 refine yz 12 (some 49) (bs 17 7679) HT_.out (h := ?_)
                 refine yz 13 (some 50) (bs 17 15871) HT_.out (h := ?_)
                 refine yt 9 (some 46) (bs 17 16383) HT_.out HW_.out hHeld (h := ?_)
                 refine yt 14 (some 51) (bs 17 32767) HT_.out HW_.out hHeld (h := ?_)
                 refine yz 15 (some 52) (bs 17 65535) HT_.out (h := ?_)
                 refine yz 16 (some 53) (bs 17 131071) HT_.out (h := ?_)
                 refine done_ (done_of HT_.out (by kernel_rfl)) ?_
                 try go_wp2
                 replace HO_3 := xy (Kd.S_drew HO_3.out)
                 replace HO_486001 := xy (Kd.R_drew HO_486001.out)
                 replace BK485 := xy (blk_drew BK485.out)
                 replace HB := xy (below_drew1 HB.out)
                 have p488 : 0 ≤ (x6_3 : Int) := xi
                 have q488 : x6_3 < (l0.length : Int) := xi
                 obtain ⟨ad488, e488, hx488_0, hx488_1, hx488_2, hx488_3⟩ := at_T74 HR0.out x6_3 p488 q488
                 have hw488_3 := hx488_3
                 have hw488_2 := hx488_2
                 have hw488_1 := hx488_1
                 have hw488_0 := hx488_0
                 obtain rfl : ad484 = ad488 := (by injection e488)
                 replace hx488_0 := (HB.out.cell (World.block_lt_of_cell? w _ hx488_0)).trans hx488_0
                 replace hx488_1 := (HB.out.cell (World.block_lt_of_cell? w _ hx488_1)).trans hx488_1
                 replace hx488_2 := (HB.out.cell (World.block_lt_of_cell? w _ hx488_2)).trans hx488_2
                 replace hx488_3 := (HB.out.cell (World.block_lt_of_cell? w _ hx488_3)).trans hx488_3
                 replace p488 := eq_true p488
                 replace q488 := eq_true q488
                 refine start_ (n := 11) (S := fun w' => w'.cell? ⟨gb485, 0, none⟩ = some (.string ((rd_T74 l0 x4_1).f0)) ∧ w'.cell? ⟨gb485, 1, none⟩ = some (u486001) ∧ w'.cell? (ad484.add ((x6_3).toNat * 4)) = some (.string ((rd_T74 l0 x6_3).f0)) ∧ w'.cell? ⟨(ad484.add ((x6_3).toNat * 4)).block, (ad484.add ((x6_3).toNat * 4)).off + 1, none⟩ = some (.bool ((rd_T74 l0 x6_3).f1.f0)) ∧ w'.cell? ⟨(ad484.add ((x6_3).toNat * 4)).block, (ad484.add ((x6_3).toNat * 4)).off + 2, none⟩ = some (.int .i64 ((rd_T74 l0 x6_3).f1.f1)) ∧ w'.cell? ⟨(ad484.add ((x6_3).toNat * 4)).block, (ad484.add ((x6_3).toNat * 4)).off + 3, none⟩ = some (.string ((rd_T74 l0 x6_3).f1.f2))) (ds := [10]) #[false, false, false, false, false, false, false, false, false, false, false] (by kernel_rfl) rfl rfl ⟨(kc BK485.out 0).trans rfl, (kc BK485.out 1).trans rfl, ((HB.out.cell (World.block_lt_of_cell? w _ hw488_0)).trans hw488_0), ((HB.out.cell (World.block_lt_of_cell? w _ hw488_1)).trans hw488_1), ((HB.out.cell (World.block_lt_of_cell? w _ hw488_2)).trans hw488_2), ((HB.out.cell (World.block_lt_of_cell? w _ hw488_3)).trans hw488_3)⟩ (fun hHeld => ?_); refine with_tabW r19_Groups.tab10 r19_Groups.bits10 (fun HT_ HW_ => ?_)
                 generalize w24.drew = w25 at HO_3 HO_486001 BK485 HB hx488_0 hx488_1 hx488_2 hx488_3 hHeld ⊢
                 refine yz 0 (some 56) (bs 11 1) HT_.out (h := ?_)
                 refine yz 2 (some 58) (bs 11 5) HT_.out (h := ?_)
                 refine yz 3 (some 59) (bs 11 13) HT_.out (h := ?_)
                 refine yz 4 (some 60) (bs 11 29) HT_.out (h := ?_)
                 refine yz 5 (some 61) (bs 11 61) HT_.out (h := ?_)
                 refine yt 1 (some 57) (bs 11 63) HT_.out HW_.out hHeld (h := ?_)
                 refine yt 6 (some 62) (bs 11 127) HT_.out HW_.out hHeld (h := ?_)
                 refine one_ (i := 7) (N := some 63) #[true, true, true, true, true, true, true, true, false, false, false] rfl rfl (one_of HT_.out (by kernel_rfl)) (by decide) (fun K hK => ?_)
                 refine value_ (w1 := ?_) (v := ?_) (by rfl) rfl ?_ ?_
                 rotate_left 2
                 ·go_simp
                  constructor
                  ·rfl
                  ·rfl
                 refine hK.out _ _ ⟨(blk_cell (blk_alloc BK485.out _) 0).trans rfl, (blk_cell (blk_alloc BK485.out _) 1).trans rfl, (World.cell?_alloc_lt _ _ _ (World.block_lt_of_cell? _ _ (((HB.out.cell (World.block_lt_of_cell? w _ hw488_0)).trans hw488_0)))).trans (((HB.out.cell (World.block_lt_of_cell? w _ hw488_0)).trans hw488_0)), (World.cell?_alloc_lt _ _ _ (World.block_lt_of_cell? _ _ (((HB.out.cell (World.block_lt_of_cell? w _ hw488_1)).trans hw488_1)))).trans (((HB.out.cell (World.block_lt_of_cell? w _ hw488_1)).trans hw488_1)), (World.cell?_alloc_lt _ _ _ (World.block_lt_of_cell? _ _ (((HB.out.cell (World.block_lt_of_cell? w _ hw488_2)).trans hw488_2)))).trans (((HB.out.cell (World.block_lt_of_cell? w _ hw488_2)).trans hw488_2)), (World.cell?_alloc_lt _ _ _ (World.block_lt_of_cell? _ _ (((HB.out.cell (World.block_lt_of_cell? w _ hw488_3)).trans hw488_3)))).trans (((HB.out.cell (World.block_lt_of_cell? w _ hw488_3)).trans hw488_3))⟩ (fun hHeld => ?_)
                 clear hK K
                 refine norm_ (a' := ?_) ?_ ?_
                 rotate_left
                 ·show Act.put _ (some 63) _ = _
                  simp only [Act.put, List.setIfInBounds_toArray, List.set_cons_zero, List.set_cons_succ, i64_w, i32_w]
                  rfl
                 refine one_ (i := 8) (N := some 64) #[true, true, true, true, true, true, true, true, true, false, false] rfl rfl (one_of HT_.out (by kernel_rfl)) (by decide) (fun K hK => ?_)
                 refine Kd.R_append_step k24 (w0 := w) w.heap.size (by rfl) (.tmp 57) (.tmp 63) 41 24 (.agg #[(.bool false), (.int .i64 0), (.string ⟨#[]⟩)]) 32 rfl Tryz.underlying41 info24 rfl (by decide) (by omega) u486001 x486001_3 (⟨(rd_T74 l0 x6_3).f1.f0, (rd_T74 l0 x6_3).f1.f1, (rd_T74 l0 x6_3).f1.f2⟩ : S24) [.bool ((rd_T74 l0 x6_3).f1.f0), .int .i64 ((rd_T74 l0 x6_3).f1.f1), .string ((rd_T74 l0 x6_3).f1.f2)] (fun _ => True) (fun _ => False) rfl rfl ?aP (fun _ hk => hk.elim) ?aF ?aO ?aB ?aS ?aL ?_
                 (case aP => exact k24_mkM _ _ _ (⟨(rd_T74 l0 x6_3).f1.f0, (rd_T74 l0 x6_3).f1.f1, (rd_T74 l0 x6_3).f1.f2⟩ : S24))
                 (case aB => exact xb)
                 (case aF => exact (fun _ _ => trivial))
                 (case aO => exact (xo HO_486001.out))
                 (case aS => exact (below_size xb))
                 (case aL => have := LMc23.out; omega)
                 intro v490 w26 ho hb hg hat
                 rw [← Ny489.out] at ho
                 replace HO_3 := xy (Kd.S_after (ok := (fun k_ => k_ ≠ gb485)) (by (with_reducible repeat (first | apply Kd.S_alloc | apply Kd.S_drewN | apply Kd.S_drew)); exact Kd.S_mono HO_3.out (fun _ hk => ⟨hk.2, hk.1⟩)) hg hat)
                 replace BK485 := xy (blk_grown (g := gb485) (o := .cells #[.string ((rd_T74 l0 x4_1).f0), u486001] 52 (0, 0)) (xk BK485.out) hg (Kd.R_ne HO_486001.out BK485.out (by decide)))
                 replace HB := xy (hb)
                 have HO491 := xy (ho)
                 clear HO_486001
                 clear ho hb hg hat
                 obtain ⟨Ao27, co27, eo27⟩ := Kd.R_slice HO491.out
                 (first | subst eo27 | (injection eo27 with f1_ f2_ f3_; have f4_ := f1_.symm; have f5_ := f3_.symm; clear f1_ f2_ f3_; subst f4_; subst f5_))
                 refine hK.out _ _ ⟨(kc BK485.out 0).trans rfl, (kc BK485.out 1).trans rfl, ((HB.out.cell (World.block_lt_of_cell? w _ hw488_0)).trans hw488_0), ((HB.out.cell (World.block_lt_of_cell? w _ hw488_1)).trans hw488_1), ((HB.out.cell (World.block_lt_of_cell? w _ hw488_2)).trans hw488_2), ((HB.out.cell (World.block_lt_of_cell? w _ hw488_3)).trans hw488_3)⟩ (fun hHeld => ?_)
                 clear hK K
                 refine norm_ (a' := ?_) ?_ ?_
                 rotate_left
                 ·show Act.put _ (some 64) _ = _
                  simp only [Act.put, List.setIfInBounds_toArray, List.set_cons_zero, List.set_cons_succ, i64_w, i32_w]
                  rfl
                 refine yz 9 (some 65) (bs 11 1023) HT_.out (h := ?_)
                 refine last_ (i := 10) (N := none) #[true, true, true, true, true, true, true, true, true, true, true] rfl rfl (one_of HT_.out (by kernel_rfl)) (by decide) (fun K hK => ?_)
                 have hs28 : w26.cell? ⟨gb485, 1, none⟩ = some (u486001) := (kc BK485.out 1).trans rfl
                 have hfs28 := kf BK485.out 1
                 refine skip_ (w1 := ?_) (by rfl) rfl ?_ ?_
                 rotate_left
                 ·go_simp
                  rfl
                 refine hK.out _ _ ?_
                 clear hK K
                 refine done_ (done_of HT_.out (by kernel_rfl)) ?_
                 try go_wp2
                 go_roundg k3
                 case measure => have := HK1.out; have := HJ4.out; have := HK3.out; omega
                 case rel => exact ⟨(wrap64 (x6_3 + 1)), (y489), (.slice Ao27 y489.length co27), xg, H', ⟨by have := HK1.out; have := HJ4.out; have := HK3.out; omega⟩, ⟨by (with_reducible repeat (first | apply Kd.S_alloc | apply Kd.S_drewN | apply Kd.S_drew)); exact Kd.S_mono (Kd.S_far (p := ⟨gb485, 1, none⟩) (Kd.S_mono HO_3.out (fun k_ hk => (⟨hk, hk.1⟩ : _ ∧ k_ ≠ gb485))) (fun _ hk => hk.2) (.slice Ao27 y489.length co27)) (fun _ hk => ⟨hk.1.2, hk.1.1⟩)⟩, ⟨by (with_reducible repeat (first | apply Kd.R_alloc | apply Kd.R_drewN | apply Kd.R_drew)); exact Kd.R_mono (Kd.R_far (p := ⟨gb485, 1, none⟩) (Kd.R_types HO491.out BK485.out (by decide)) (fun _ hk => hk.2) (.slice Ao27 y489.length co27)) (fun _ hk => trivial)⟩, ⟨by (with_reducible repeat (first | refine blk_drewN ?_ _ | refine blk_drew ?_ | refine blk_alloc ?_ _)); refine blk_put (cs := #[.string ((rd_T74 l0 x4_1).f0), u486001]) ?_ 1 _ rfl; (with_reducible repeat (first | refine blk_drewN ?_ _ | refine blk_drew ?_ | refine blk_alloc ?_ _)); exact BK485.out⟩, ⟨xb⟩⟩
                ·rw [if_neg c23] at H
                 exact absurd H (by simp)
               ·rw [if_neg c22] at H
                have c22b0 : (((rd_T74 l0 x6_3).f0).toList == ((rd_T74 l0 x4_1).f0).toList) = false := beq_eq_false_iff_ne.mpr c22
                have c22b1 : (((rd_T74 l0 x6_3).f0).toList != ((rd_T74 l0 x4_1).f0).toList) = true := bne_iff_ne.mpr c22
                by_cases c29 : x3_1.length < 3518437208883
                ·rw [if_pos c29] at H
                 have LMc29 := xy c29
                 clear c29
                 obtain ⟨y492, hy492⟩ : ∃ y_ : List (S52), y_ = (x3_1 ++ [(⟨((rd_T74 l0 x4_1).f0), x486001_3⟩ : S52)]) := ⟨_, rfl⟩
                 replace H : (r19_Groups.l0 k3 l0 y492 (wrap64 (x4_1 + 1))) = some r := by first | (rw [hy492]; with_reducible exact H) | (have H2_ := (Option.bind_some _ _).symm.trans H; rw [hy492]; with_reducible exact H2_) | (have H2_ := (Option.bind_some _ _).symm.trans H; with_reducible exact H2_) | with_reducible exact H | (rw [hy492]; exact H) | exact H
                 have Ny492 := xy hy492
                 clear hy492
                 have H' := xy H
                 clear H
                 try go_wp2
                 replace HO_3 := xy (Kd.S_drew HO_3.out)
                 replace HO_486001 := xy (Kd.R_drew HO_486001.out)
                 replace BK485 := xy (blk_drew BK485.out)
                 replace HB := xy (below_drew1 HB.out)
                 have p486 : 0 ≤ (x6_3 : Int) := xi
                 have q486 : x6_3 < (l0.length : Int) := xi
                 obtain ⟨ad486, e486, hx486_0, hx486_1, hx486_2, hx486_3⟩ := at_T74 HR0.out x6_3 p486 q486
                 have hw486_3 := hx486_3
                 have hw486_2 := hx486_2
                 have hw486_1 := hx486_1
                 have hw486_0 := hx486_0
                 obtain rfl : ad484 = ad486 := (by injection e486)
                 replace hx486_0 := (HB.out.cell (World.block_lt_of_cell? w _ hx486_0)).trans hx486_0
                 replace hx486_1 := (HB.out.cell (World.block_lt_of_cell? w _ hx486_1)).trans hx486_1
                 replace hx486_2 := (HB.out.cell (World.block_lt_of_cell? w _ hx486_2)).trans hx486_2
                 replace hx486_3 := (HB.out.cell (World.block_lt_of_cell? w _ hx486_3)).trans hx486_3
                 replace p486 := eq_true p486
                 replace q486 := eq_true q486
                 have p487 : 0 ≤ (x4_1 : Int) := xi
                 have q487 : x4_1 < (l0.length : Int) := xi
                 obtain ⟨ad487, e487, hx487_0, hx487_1, hx487_2, hx487_3⟩ := at_T74 HR0.out x4_1 p487 q487
                 have hw487_3 := hx487_3
                 have hw487_2 := hx487_2
                 have hw487_1 := hx487_1
                 have hw487_0 := hx487_0
                 obtain rfl : ad484 = ad487 := (by injection e487)
                 replace hx487_0 := (HB.out.cell (World.block_lt_of_cell? w _ hx487_0)).trans hx487_0
                 replace hx487_1 := (HB.out.cell (World.block_lt_of_cell? w _ hx487_1)).trans hx487_1
                 replace hx487_2 := (HB.out.cell (World.block_lt_of_cell? w _ hx487_2)).trans hx487_2
                 replace hx487_3 := (HB.out.cell (World.block_lt_of_cell? w _ hx487_3)).trans hx487_3
                 replace p487 := eq_true p487
                 replace q487 := eq_true q487
                 refine start_ (n := 17) (S := fun w' => w'.cell? (ad484.add ((x6_3).toNat * 4)) = some (.string ((rd_T74 l0 x6_3).f0)) ∧ w'.cell? ⟨(ad484.add ((x6_3).toNat * 4)).block, (ad484.add ((x6_3).toNat * 4)).off + 1, none⟩ = some (.bool ((rd_T74 l0 x6_3).f1.f0)) ∧ w'.cell? ⟨(ad484.add ((x6_3).toNat * 4)).block, (ad484.add ((x6_3).toNat * 4)).off + 2, none⟩ = some (.int .i64 ((rd_T74 l0 x6_3).f1.f1)) ∧ w'.cell? ⟨(ad484.add ((x6_3).toNat * 4)).block, (ad484.add ((x6_3).toNat * 4)).off + 3, none⟩ = some (.string ((rd_T74 l0 x6_3).f1.f2)) ∧ w'.cell? (ad484.add ((x4_1).toNat * 4)) = some (.string ((rd_T74 l0 x4_1).f0)) ∧ w'.cell? ⟨(ad484.add ((x4_1).toNat * 4)).block, (ad484.add ((x4_1).toNat * 4)).off + 1, none⟩ = some (.bool ((rd_T74 l0 x4_1).f1.f0)) ∧ w'.cell? ⟨(ad484.add ((x4_1).toNat * 4)).block, (ad484.add ((x4_1).toNat * 4)).off + 2, none⟩ = some (.int .i64 ((rd_T74 l0 x4_1).f1.f1)) ∧ w'.cell? ⟨(ad484.add ((x4_1).toNat * 4)).block, (ad484.add ((x4_1).toNat * 4)).off + 3, none⟩ = some (.string ((rd_T74 l0 x4_1).f1.f2))) (ds := []) #[false, false, false, false, false, false, false, false, false, false, false, false, false, false, false, false, false] (by kernel_rfl) rfl rfl ⟨((HB.out.cell (World.block_lt_of_cell? w _ hw486_0)).trans hw486_0), ((HB.out.cell (World.block_lt_of_cell? w _ hw486_1)).trans hw486_1), ((HB.out.cell (World.block_lt_of_cell? w _ hw486_2)).trans hw486_2), ((HB.out.cell (World.block_lt_of_cell? w _ hw486_3)).trans hw486_3), ((HB.out.cell (World.block_lt_of_cell? w _ hw487_0)).trans hw487_0), ((HB.out.cell (World.block_lt_of_cell? w _ hw487_1)).trans hw487_1), ((HB.out.cell (World.block_lt_of_cell? w _ hw487_2)).trans hw487_2), ((HB.out.cell (World.block_lt_of_cell? w _ hw487_3)).trans hw487_3)⟩ (fun hHeld => ?_); refine with_tabW r19_Groups.tab8 r19_Groups.bits8 (fun HT_ HW_ => ?_)
                 generalize wr.drew = w30 at HO_3 HO_486001 BK485 HB hx486_0 hx486_1 hx486_2 hx486_3 hx487_0 hx487_1 hx487_2 hx487_3 hHeld ⊢
                 refine yz 0 (some 37) (bs 17 1) HT_.out (h := ?_)
                 refine yz 1 (some 38) (bs 17 3) HT_.out (h := ?_)
                 refine yz 2 (some 39) (bs 17 7) HT_.out (h := ?_)
                 refine yz 3 (some 40) (bs 17 15) HT_.out (h := ?_)
                 refine yz 4 (some 41) (bs 17 31) HT_.out (h := ?_)
                 refine yz 5 (some 42) (bs 17 63) HT_.out (h := ?_)
                 refine yz 6 (some 43) (bs 17 127) HT_.out (h := ?_)
                 refine yz 7 (some 44) (bs 17 255) HT_.out (h := ?_)
                 refine yz 8 (some 45) (bs 17 511) HT_.out (h := ?_)
                 refine yz 10 (some 47) (bs 17 1535) HT_.out (h := ?_)
                 refine yz 11 (some 48) (bs 17 3583) HT_.out (h := ?_)
                 refine yz 12 (some 49) (bs 17 7679) HT_.out (h := ?_)
                 refine yz 13 (some 50) (bs 17 15871) HT_.out (h := ?_)
                 refine yt 9 (some 46) (bs 17 16383) HT_.out HW_.out hHeld (h := ?_)
                 refine yt 14 (some 51) (bs 17 32767) HT_.out HW_.out hHeld (h := ?_)
                 refine yz 15 (some 52) (bs 17 65535) HT_.out (h := ?_)
                 refine yz 16 (some 53) (bs 17 131071) HT_.out (h := ?_)
                 refine done_ (done_of HT_.out (by kernel_rfl)) ?_
                 have hcz31_0 : w30.cell? ⟨gb485, 0, none⟩ = some (.string ((rd_T74 l0 x4_1).f0)) := (kc BK485.out 0).trans rfl
                 have hcz31_1 : w30.cell? ⟨gb485, 1, none⟩ = some (u486001) := (kc BK485.out 1).trans rfl
                 have hfz31_0 := kf BK485.out 0
                 have hfz31_1 := kf BK485.out 1
                 obtain ⟨Ao33, co33, eo33⟩ := Kd.R_slice HO_486001.out
                 subst eo33
                 try go_wp2_with (((with_reducible refine gate_builtin (b := .append) (xs := #[.tmp 66, .tmp 68]) rfl ?_); at_builtin; refine Kd.S_append k52 (w0 := w) w.heap.size rfl (.tmp 66) (.tmp 68) 50 52 (.agg #[(.string ⟨#[]⟩), (.slice none 0 0)]) 40 rfl Tryz.underlying50 info52 rfl (by decide) (by omega) u3 x3_1 (⟨((rd_T74 l0 x4_1).f0), x486001_3⟩ : S52) [.string ((rd_T74 l0 x4_1).f0), .slice Ao33 x486001_3.length co33] (fun k_ => k_ ≠ gb485) (fun k_ => some k_ = (.slice Ao33 x486001_3.length co33 : Value).ownBlock) rfl rfl ?aP (fun k_ hk_ => ((Kd.R_mono (ok' := fun k_ => ((fun k_ => k_ ≠ gb485)) k_ ∧ some k_ ≠ (u3 : Value).ownBlock) (Kd.R_types (Kd.R_apart' (HO_486001.out) (Kd.S_typed HO_3.out) (by decide)) BK485.out (by decide)) (fun k_ hk => ⟨hk.2, hk.1.2⟩))).1 k_ hk_.symm) ?aF ?aO ?aB ?aS ?aL ?_; (case aP => exact k52_mkM _ _ _ (⟨((rd_T74 l0 x4_1).f0), x486001_3⟩ : S52) (Kd.R_mono (Kd.R_tight rfl (Kd.R_mono (ok' := fun k_ => ((fun k_ => k_ ≠ gb485)) k_ ∧ some k_ ≠ (u3 : Value).ownBlock) (Kd.R_types (Kd.R_apart' (HO_486001.out) (Kd.S_typed HO_3.out) (by decide)) BK485.out (by decide)) (fun k_ hk => ⟨hk.2, hk.1.2⟩))) (fun _ h_ => h_))); (case aB => exact xb); (case aF => exact (fun k_ hk => Kd.freshB (g := gb485) (o := .cells #[.string ((rd_T74 l0 x4_1).f0), .slice Ao33 x486001_3.length co33] 52 (0, 0)) (xk BK485.out) k_ hk)); (case aO => exact (by (with_reducible repeat (first | apply Kd.S_alloc | apply Kd.S_drewN | apply Kd.S_drew)); exact Kd.S_mono HO_3.out (fun k_ hk => ⟨hk.2, fun e_ => hk.1 e_⟩))); (case aS => exact (below_size xb)); (case aL => have := LMc29.out; omega); intro v493 w32 ho hb hg hat; rw [← Ny492.out] at ho; replace BK485 := xy (blk_grown (g := gb485) (o := .cells #[.string ((rd_T74 l0 x4_1).f0), .slice Ao33 x486001_3.length co33] 52 (0, 0)) (xk BK485.out) hg (Kd.S_away HO_3.out (fun _ hk => hk.2))); replace HB := xy (hb); have HO494 := xy (ho); clear HO_3 HO_486001; clear ho hb hg hat))
                 go_roundg k3
                 case measure => have := HK1.out; have := HJ4.out; have := HK3.out; omega
                 case rel => exact ⟨(y492), (wrap64 (x4_1 + 1)), xg, H', ⟨by have := HK1.out; have := HJ4.out; have := HK3.out; omega⟩, ⟨by (with_reducible repeat (first | apply Kd.S_alloc | apply Kd.S_drewN | apply Kd.S_drew)); exact Kd.S_mono HO494.out (fun _ hk => trivial)⟩, ⟨xb⟩⟩
                ·rw [if_neg c29] at H
                 exact absurd H (by simp)
              ·rw [if_neg c21] at H
               exact absurd H (by simp)
             ·rw [if_neg c20] at H
              exact absurd H (by simp)
            ·rw [if_neg c19] at H
             exact absurd H (by simp)
           ·rw [if_neg c18] at H
            have c18b0 : decide (x6_3 < (l0.length : Int)) = false := decide_eq_false c18
            clear c18
            by_cases c34 : x3_1.length < 3518437208883
            ·rw [if_pos c34] at H
             have LMc34 := xy c34
             clear c34
             obtain ⟨y495, hy495⟩ : ∃ y_ : List (S52), y_ = (x3_1 ++ [(⟨((rd_T74 l0 x4_1).f0), x486001_3⟩ : S52)]) := ⟨_, rfl⟩
             replace H : (r19_Groups.l0 k3 l0 y495 (wrap64 (x4_1 + 1))) = some r := by first | (rw [hy495]; with_reducible exact H) | (have H2_ := (Option.bind_some _ _).symm.trans H; rw [hy495]; with_reducible exact H2_) | (have H2_ := (Option.bind_some _ _).symm.trans H; with_reducible exact H2_) | with_reducible exact H | (rw [hy495]; exact H) | exact H
             have Ny495 := xy hy495
             clear hy495
             have H' := xy H
             clear H
             try go_wp2
             replace HO_3 := xy (Kd.S_drew HO_3.out)
             replace HO_486001 := xy (Kd.R_drew HO_486001.out)
             replace BK485 := xy (blk_drew BK485.out)
             replace HB := xy (below_drew1 HB.out)
             refine start_ (n := 17) (S := fun w' => True) (ds := []) #[false, false, false, false, false, false, false, false, false, false, false, false, false, false, false, false, false] (by kernel_rfl) rfl rfl trivial (fun hHeld => ?_); refine with_tabW r19_Groups.tab8 r19_Groups.bits8 (fun HT_ HW_ => ?_)
             generalize wr.drew = w35 at HO_3 HO_486001 BK485 HB hHeld ⊢
             refine yz 0 (some 37) (bs 17 1) HT_.out (h := ?_)
             refine yz 1 (some 38) (bs 17 3) HT_.out (h := ?_)
             refine yz 2 (some 39) (bs 17 7) HT_.out (h := ?_)
             refine yz 3 (some 40) (bs 17 15) HT_.out (h := ?_)
             refine yz 4 (some 41) (bs 17 31) HT_.out (h := ?_)
             refine yu 5 (some 42) (bs 17 63) HT_.out (h := ?_)
             refine yu 6 (some 43) (bs 17 127) HT_.out (h := ?_)
             refine yu 7 (some 44) (bs 17 255) HT_.out (h := ?_)
             refine yu 8 (some 45) (bs 17 511) HT_.out (h := ?_)
             refine yu 9 (some 46) (bs 17 1023) HT_.out (h := ?_)
             refine yu 10 (some 47) (bs 17 2047) HT_.out (h := ?_)
             refine yu 11 (some 48) (bs 17 4095) HT_.out (h := ?_)
             refine yu 12 (some 49) (bs 17 8191) HT_.out (h := ?_)
             refine yu 13 (some 50) (bs 17 16383) HT_.out (h := ?_)
             refine yu 14 (some 51) (bs 17 32767) HT_.out (h := ?_)
             refine yu 15 (some 52) (bs 17 65535) HT_.out (h := ?_)
             refine yz 16 (some 53) (bs 17 131071) HT_.out (h := ?_)
             refine done_ (done_of HT_.out (by kernel_rfl)) ?_
             have hcz36_0 : w35.cell? ⟨gb485, 0, none⟩ = some (.string ((rd_T74 l0 x4_1).f0)) := (kc BK485.out 0).trans rfl
             have hcz36_1 : w35.cell? ⟨gb485, 1, none⟩ = some (u486001) := (kc BK485.out 1).trans rfl
             have hfz36_0 := kf BK485.out 0
             have hfz36_1 := kf BK485.out 1
             obtain ⟨Ao38, co38, eo38⟩ := Kd.R_slice HO_486001.out
             subst eo38
             try go_wp2_with (((with_reducible refine gate_builtin (b := .append) (xs := #[.tmp 66, .tmp 68]) rfl ?_); at_builtin; refine Kd.S_append k52 (w0 := w) w.heap.size rfl (.tmp 66) (.tmp 68) 50 52 (.agg #[(.string ⟨#[]⟩), (.slice none 0 0)]) 40 rfl Tryz.underlying50 info52 rfl (by decide) (by omega) u3 x3_1 (⟨((rd_T74 l0 x4_1).f0), x486001_3⟩ : S52) [.string ((rd_T74 l0 x4_1).f0), .slice Ao38 x486001_3.length co38] (fun k_ => k_ ≠ gb485) (fun k_ => some k_ = (.slice Ao38 x486001_3.length co38 : Value).ownBlock) rfl rfl ?aP (fun k_ hk_ => ((Kd.R_mono (ok' := fun k_ => ((fun k_ => k_ ≠ gb485)) k_ ∧ some k_ ≠ (u3 : Value).ownBlock) (Kd.R_types (Kd.R_apart' (HO_486001.out) (Kd.S_typed HO_3.out) (by decide)) BK485.out (by decide)) (fun k_ hk => ⟨hk.2, hk.1.2⟩))).1 k_ hk_.symm) ?aF ?aO ?aB ?aS ?aL ?_; (case aP => exact k52_mkM _ _ _ (⟨((rd_T74 l0 x4_1).f0), x486001_3⟩ : S52) (Kd.R_mono (Kd.R_tight rfl (Kd.R_mono (ok' := fun k_ => ((fun k_ => k_ ≠ gb485)) k_ ∧ some k_ ≠ (u3 : Value).ownBlock) (Kd.R_types (Kd.R_apart' (HO_486001.out) (Kd.S_typed HO_3.out) (by decide)) BK485.out (by decide)) (fun k_ hk => ⟨hk.2, hk.1.2⟩))) (fun _ h_ => h_))); (case aB => exact xb); (case aF => exact (fun k_ hk => Kd.freshB (g := gb485) (o := .cells #[.string ((rd_T74 l0 x4_1).f0), .slice Ao38 x486001_3.length co38] 52 (0, 0)) (xk BK485.out) k_ hk)); (case aO => exact (by (with_reducible repeat (first | apply Kd.S_alloc | apply Kd.S_drewN | apply Kd.S_drew)); exact Kd.S_mono HO_3.out (fun k_ hk => ⟨hk.2, fun e_ => hk.1 e_⟩))); (case aS => exact (below_size xb)); (case aL => have := LMc34.out; omega); intro v496 w37 ho hb hg hat; rw [← Ny495.out] at ho; replace BK485 := xy (blk_grown (g := gb485) (o := .cells #[.string ((rd_T74 l0 x4_1).f0), .slice Ao38 x486001_3.length co38] 52 (0, 0)) (xk BK485.out) hg (Kd.S_away HO_3.out (fun _ hk => hk.2))); replace HB := xy (hb); have HO497 := xy (ho); clear HO_3 HO_486001; clear ho hb hg hat))
             go_roundg k3
             case measure => have := HK1.out; have := HJ4.out; have := HK3.out; omega
             case rel => exact ⟨(y495), (wrap64 (x4_1 + 1)), xg, H', ⟨by have := HK1.out; have := HJ4.out; have := HK3.out; omega⟩, ⟨by (with_reducible repeat (first | apply Kd.S_alloc | apply Kd.S_drewN | apply Kd.S_drew)); exact Kd.S_mono HO497.out (fun _ hk => trivial)⟩, ⟨xb⟩⟩
            ·rw [if_neg c34] at H
             exact absurd H (by simp)
        ·rw [if_neg c15] at H
         exact absurd H (by simp)
       ·rw [if_neg c14] at H
        exact absurd H (by simp)
   ·rw [if_neg c4] at H
    have c4b0 : decide (x4_1 < (l0.length : Int)) = false := decide_eq_false c4
    clear c4
    obtain rfl := Option.some.inj H
    go_wp2
    go_ret
    exact ⟨_, by first | rfl | (simp [errW_none, errW_some] <;> rfl) | (simp [*, errW_none, errW_some] <;> rfl), by (with_reducible repeat (first | apply Kd.S_alloc | apply Kd.S_drewN | apply Kd.S_drew)); exact HO_3.out, xb⟩
/- Walked functions, by this session's program over the kit's print. -/
def w19_SorterSorts.f (k : Nat) (a0_0 : Bool) (l0_1 : List (S81)) (l0_2 : List (S81)) (l0_3 : List (S81)) (a0_4 : Int) (l0_5 : List (S81)) (a0_6 : Bool) (a0_7 : Int) (a0_8 : ByteArray) (a0_9 : Bool) (a0_10 : Int) (a0_11 : Bool) (a0_12 : Bool) (a0_13 : Int) (l1 : List (S38)) : Option (Bool) :=
 (w19_little.f k a0_0 l0_1 l0_2 l0_3 a0_4 l0_5 a0_6 a0_7 a0_8 a0_9 a0_10 a0_11 a0_12 a0_13).bind fun b => if b = true then ((w19_few.f k l1).bind fun c => if c = true then (
 (w19_items.f k l1).bind fun was =>
 (sorter_Sort.f k a0_0 l0_1 l0_2 l0_3 a0_4 l0_5 a0_6 a0_7 a0_8 a0_9 a0_10 a0_11 a0_12 a0_13 l1).bind fun s =>
 (w19_items.f k s).bind fun s8 =>
 (r19_Sort.f k a0_0 l0_1 l0_2 l0_3 a0_4 l0_5 a0_6 a0_7 a0_8 a0_9 a0_10 a0_11 a0_12 a0_13 was).bind fun r8 =>
 (r18_Same.f k s8 s8).bind fun b1 =>
 (r18_Same.f k was was).bind fun b2 =>
 (sorter_InOrder.f k a0_0 l0_1 l0_2 l0_3 a0_4 l0_5 a0_6 a0_7 a0_8 a0_9 a0_10 a0_11 a0_12 a0_13 l1).bind fun o1 =>
 (r19_InOrder.f k a0_0 l0_1 l0_2 l0_3 a0_4 l0_5 a0_6 a0_7 a0_8 a0_9 a0_10 a0_11 a0_12 a0_13 was).bind fun o2 =>
 (sorter_Weight.f k l1).bind fun w1 =>
 (r19_Weight.f k was).bind fun w2 =>
 (sorter_Groups.f a0_0 l0_1 l0_2 l0_3 a0_4 l0_5 a0_6 a0_7 a0_8 a0_9 a0_10 a0_11 a0_12 a0_13 l1).bind fun g =>
 (r19_Groups.f k was).bind fun h =>
 if b1 = true ∧ b2 = true ∧ o1 = o2 ∧ w1 = w2 ∧ was.length < 1000000000000 ∧ s.length < 1000000000000 ∧ g.length < 1000000000000 ∧ (g.all fun x => decide (x.f1.length < 1000000000000)) = true ∧ s8.map XSort.encR = r8.map XSort.encR ∧ h.map XSort.encH = g.map XSort.encG then some true else none) else some true) else some true
set_option maxHeartbeats 2000000 in
theorem w19_SorterSorts.calls (k : Nat) (a0_0 : Bool) (A0_1 : Option Addr) (c0_1 : Nat) (l0_1 : List (S81)) (A0_2 : Option Addr) (c0_2 : Nat) (l0_2 : List (S81)) (A0_3 : Option Addr) (c0_3 : Nat) (l0_3 : List (S81)) (a0_4 : Int) (A0_5 : Option Addr) (c0_5 : Nat) (l0_5 : List (S81)) (a0_6 : Bool) (a0_7 : Int) (a0_8 : ByteArray) (a0_9 : Bool) (a0_10 : Int) (a0_11 : Bool) (a0_12 : Bool) (a0_13 : Int) (A1 : Option Addr) (c1 : Nat) (l1 : List (S38)) (r : Bool) (w : World) (hT : Tabs w) (hr0_1 : Kd.C k81 w A0_1 l0_1.length l0_1) (hc0_1 : l0_1.length ≤ c0_1) (hr0_2 : Kd.C k81 w A0_2 l0_2.length l0_2) (hc0_2 : l0_2.length ≤ c0_2) (hr0_3 : Kd.C k81 w A0_3 l0_3.length l0_3) (hc0_3 : l0_3.length ≤ c0_3) (hr0_5 : Kd.C k81 w A0_5 l0_5.length l0_5) (hc0_5 : l0_5.length ≤ c0_5) (hr1 : Kd.C k38 w A1 l1.length l1) (hc1 : l1.length ≤ c1) (h : w19_SorterSorts.f k a0_0 l0_1 l0_2 l0_3 a0_4 l0_5 a0_6 a0_7 a0_8 a0_9 a0_10 a0_11 a0_12 a0_13 l1 = some r) (hr_ : r = true := by rfl) :
  Calls Tryz.prog 4 #[.agg #[.bool a0_0, .slice A0_1 l0_1.length c0_1, .slice A0_2 l0_2.length c0_2, .slice A0_3 l0_3.length c0_3, .int .i64 a0_4, .slice A0_5 l0_5.length c0_5, .bool a0_6, .int .i64 a0_7, .string a0_8, .bool a0_9, .int .i64 a0_10, .bool a0_11, .bool a0_12, .int .i64 a0_13], .slice A1 l1.length c1] w fun e w' => e = .returned (.bool r) ∧ Below w.heap.size w w' := by
 unfold w19_SorterSorts.f at h
 have hAl : ∀ W', Below w.heap.size w W' → Calls Tryz.prog 9 #[] W' fun e w' => e = .returned (.bool true) ∧ Below W'.heap.size W' w' := fun W' hb => w19_alive.calls true W' (hT.below hb) rfl
 obtain ⟨b, hb, h⟩ := Option.bind_eq_some_iff.1 h
 have hLi : ∀ W', Below w.heap.size w W' → Calls Tryz.prog 7 #[.agg #[.bool a0_0, .slice A0_1 l0_1.length c0_1, .slice A0_2 l0_2.length c0_2, .slice A0_3 l0_3.length c0_3, .int .i64 a0_4, .slice A0_5 l0_5.length c0_5, .bool a0_6, .int .i64 a0_7, .string a0_8, .bool a0_9, .int .i64 a0_10, .bool a0_11, .bool a0_12, .int .i64 a0_13]] W' fun e w' => e = .returned (.bool b) ∧ Below W'.heap.size W' w' := fun W' hB =>
  w19_little.calls k a0_0 A0_1 c0_1 l0_1 A0_2 c0_2 l0_2 A0_3 c0_3 l0_3 a0_4 A0_5 c0_5 l0_5 a0_6 a0_7 a0_8 a0_9 a0_10 a0_11 a0_12 a0_13 b W' (hT.below hB) (Kd.C_below hr0_1 hB) hc0_1 (Kd.C_below hr0_2 hB) hc0_2 (Kd.C_below hr0_3 hB) hc0_3 (Kd.C_below hr0_5 hB) hc0_5 hb
 cases b with
 | false =>
  obtain rfl : true = r := by simpa using h
  exact XSort.sorts_dead1 rfl _ w hLi hAl
 | true =>
 simp only [if_true] at h
 obtain ⟨c, hc, h⟩ := Option.bind_eq_some_iff.1 h
 have hFe : ∀ W', Below w.heap.size w W' → Calls Tryz.prog 8 #[.slice A1 l1.length c1] W' fun e w' => e = .returned (.bool c) ∧ Below W'.heap.size W' w' := fun W' hB =>
  (w19_few.calls k A1 c1 l1 c W' (hT.below hB) (Kd.C_below hr1 hB) hc1 hc).mono fun e w' ⟨h1, h2⟩ => ⟨h1, by first | exact h2 | exact h2.below⟩
 cases c with
 | false =>
  obtain rfl : true = r := by simpa using h
  exact XSort.sorts_dead2 rfl _ w hLi hFe hAl
 | true =>
 simp only [if_true] at h
 obtain ⟨was, h1, h⟩ := Option.bind_eq_some_iff.1 h
 obtain ⟨s, h2, h⟩ := Option.bind_eq_some_iff.1 h
 obtain ⟨s8, h3, h⟩ := Option.bind_eq_some_iff.1 h
 obtain ⟨r8, h4, h⟩ := Option.bind_eq_some_iff.1 h
 obtain ⟨b1, h5, h⟩ := Option.bind_eq_some_iff.1 h
 obtain ⟨b2, h6, h⟩ := Option.bind_eq_some_iff.1 h
 obtain ⟨o1, h7, h⟩ := Option.bind_eq_some_iff.1 h
 obtain ⟨o2, h8, h⟩ := Option.bind_eq_some_iff.1 h
 obtain ⟨w1, h9, h⟩ := Option.bind_eq_some_iff.1 h
 obtain ⟨w2, h10, h⟩ := Option.bind_eq_some_iff.1 h
 obtain ⟨g, h11, h⟩ := Option.bind_eq_some_iff.1 h
 obtain ⟨hh, h12, h⟩ := Option.bind_eq_some_iff.1 h
 by_cases cc : b1 = true ∧ b2 = true ∧ o1 = o2 ∧ w1 = w2 ∧ was.length < 1000000000000 ∧ s.length < 1000000000000 ∧ g.length < 1000000000000 ∧ (g.all fun x => decide (x.f1.length < 1000000000000)) = true ∧ s8.map XSort.encR = r8.map XSort.encR ∧ hh.map XSort.encH = g.map XSort.encG
 ·rw [if_pos cc] at h
  obtain rfl := Option.some.inj h
  obtain ⟨rfl, rfl, rfl, rfl, q1, q2, q3, q4, q5, q6⟩ := cc
  obtain rfl := XSort.encs_inj XSort.encR_inj _ _ q5
  obtain ⟨e1, e2⟩ := XSort.encs_groups q6
  have q4 : ∀ x ∈ g, x.f1.length < 1000000000000 := fun x hx => of_decide_eq_true (List.all_eq_true.1 q4 x hx)
  refine XSort.sorts_walk rfl A1 c1 l1 was s8 s o1 w1 g hh w hr1 hc1 q1 q2 q3 q4 e1 e2 hLi hFe hAl ?_ ?_ ?_ ?_ ?_ ?_ ?_ ?_ ?_ ?_ ?_ ?_
  ·exact fun W' hB => w19_items.calls k A1 c1 l1 was W' (hT.below hB) (Kd.C_below hr1 hB) hc1 h1
  ·exact fun W' hB => sorter_Sort.calls k a0_0 A0_1 c0_1 l0_1 A0_2 c0_2 l0_2 A0_3 c0_3 l0_3 a0_4 A0_5 c0_5 l0_5 a0_6 a0_7 a0_8 a0_9 a0_10 a0_11 a0_12 a0_13 A1 c1 l1 s W' (hT.below hB) (Kd.C_below hr0_1 hB) hc0_1 (Kd.C_below hr0_2 hB) hc0_2 (Kd.C_below hr0_3 hB) hc0_3 (Kd.C_below hr0_5 hB) hc0_5 (Kd.C_below hr1 hB) hc1 h2
  ·exact fun W' A' c' hB hr hc => w19_items.calls k A' c' s s8 W' (hT.below hB) hr hc h3
  ·exact fun W' => XSort.plain_calls _ _ _ _ _ _ _ _ _ _ _ _ _ _ _ _ _ _ _ _ _ _ W'
  ·exact fun W' A' c' hB hr hc => r19_Sort.calls k a0_0 A0_1 c0_1 l0_1 A0_2 c0_2 l0_2 A0_3 c0_3 l0_3 a0_4 A0_5 c0_5 l0_5 a0_6 a0_7 a0_8 a0_9 a0_10 a0_11 a0_12 a0_13 A' c' was s8 W' (hT.below hB) (Kd.C_below hr0_1 hB) hc0_1 (Kd.C_below hr0_2 hB) hc0_2 (Kd.C_below hr0_3 hB) hc0_3 (Kd.C_below hr0_5 hB) hc0_5 hr hc h4
  ·intro W' A2 c2 A3 c3 a ha hB r2 l2 r3 l3
   have e : r18_Same.f k a a = some true := by rcases ha with rfl | rfl; exact h5; exact h6
   exact (r18_Same.calls k A2 c2 a A3 c3 a true W' (hT.below hB) r2 l2 r3 l3 e).mono fun e w' ⟨h1, h2⟩ => ⟨h1, by first | exact h2 | exact h2.below⟩
  ·exact fun W' hB => sorter_InOrder.calls k a0_0 A0_1 c0_1 l0_1 A0_2 c0_2 l0_2 A0_3 c0_3 l0_3 a0_4 A0_5 c0_5 l0_5 a0_6 a0_7 a0_8 a0_9 a0_10 a0_11 a0_12 a0_13 A1 c1 l1 o1 W' (hT.below hB) (Kd.C_below hr0_1 hB) hc0_1 (Kd.C_below hr0_2 hB) hc0_2 (Kd.C_below hr0_3 hB) hc0_3 (Kd.C_below hr0_5 hB) hc0_5 (Kd.C_below hr1 hB) hc1 h7
  ·exact fun W' A' c' hB hr hc => r19_InOrder.calls k a0_0 A0_1 c0_1 l0_1 A0_2 c0_2 l0_2 A0_3 c0_3 l0_3 a0_4 A0_5 c0_5 l0_5 a0_6 a0_7 a0_8 a0_9 a0_10 a0_11 a0_12 a0_13 A' c' was o1 W' (hT.below hB) (Kd.C_below hr0_1 hB) hc0_1 (Kd.C_below hr0_2 hB) hc0_2 (Kd.C_below hr0_3 hB) hc0_3 (Kd.C_below hr0_5 hB) hc0_5 hr hc h8
  ·exact fun W' hB => sorter_Weight.calls k A1 c1 l1 w1 W' (hT.below hB) (Kd.C_below hr1 hB) hc1 h9
  ·exact fun W' A' c' hB hr hc => (r19_Weight.calls k A' c' was w1 W' (hT.below hB) hr hc h10).mono fun e w' ⟨h1, h2⟩ => ⟨h1, by first | exact h2 | exact h2.below⟩
  ·exact fun W' hB => sorter_Groups.calls a0_0 A0_1 c0_1 l0_1 A0_2 c0_2 l0_2 A0_3 c0_3 l0_3 a0_4 A0_5 c0_5 l0_5 a0_6 a0_7 a0_8 a0_9 a0_10 a0_11 a0_12 a0_13 A1 c1 l1 g W' (hT.below hB) (Kd.C_below hr0_1 hB) hc0_1 (Kd.C_below hr0_2 hB) hc0_2 (Kd.C_below hr0_3 hB) hc0_3 (Kd.C_below hr0_5 hB) hc0_5 (Kd.C_below hr1 hB) hc1 h11
  ·exact fun W' A' c' hB hr hc => r19_Groups.calls k A' c' was hh W' (hT.below hB) hr hc h12
 ·rw [if_neg cc] at h; cases h
def w19_SorterSorts.Pure : Prop := ∀ (x0 : S26) (x1 : List (S38)), (True ∧ (x0.f1.length * 32 ≤ 140737488351232 ∧ ∀ q0_ ∈ x0.f1, ((Lit.int .i64 q0_.f0).wf = true ∧ (Lit.int .i64 q0_.f1).wf = true ∧ q0_.f2.size ≤ 140737488351232)) ∧ (x0.f2.length * 32 ≤ 140737488351232 ∧ ∀ q0_ ∈ x0.f2, ((Lit.int .i64 q0_.f0).wf = true ∧ (Lit.int .i64 q0_.f1).wf = true ∧ q0_.f2.size ≤ 140737488351232)) ∧ (x0.f3.length * 32 ≤ 140737488351232 ∧ ∀ q0_ ∈ x0.f3, ((Lit.int .i64 q0_.f0).wf = true ∧ (Lit.int .i64 q0_.f1).wf = true ∧ q0_.f2.size ≤ 140737488351232)) ∧ (Lit.int .i64 x0.f4).wf = true ∧ (x0.f5.length * 32 ≤ 140737488351232 ∧ ∀ q0_ ∈ x0.f5, ((Lit.int .i64 q0_.f0).wf = true ∧ (Lit.int .i64 q0_.f1).wf = true ∧ q0_.f2.size ≤ 140737488351232)) ∧ (True ∧ (Lit.int .i64 x0.f6.f1).wf = true ∧ x0.f6.f2.size ≤ 140737488351232) ∧ True ∧ (Lit.int .i64 x0.f8).wf = true ∧ True ∧ True ∧ (Lit.int .i64 x0.f11).wf = true) → (x1.length * 48 ≤ 140737488351232 ∧ ∀ q0_ ∈ x1, (q0_.f0.size ≤ 140737488351232 ∧ (True ∧ (Lit.int .i64 q0_.f1.f1).wf = true ∧ q0_.f1.f2.size ≤ 140737488351232))) → ∃ k, w19_SorterSorts.f k x0.f0 x0.f1 x0.f2 x0.f3 x0.f4 x0.f5 x0.f6.f0 x0.f6.f1 x0.f6.f2 x0.f7 x0.f8 x0.f9 x0.f10 x0.f11 x1 = some true
end Go.Proofs.YtebofnoljebakaaGreatDoor.PX
