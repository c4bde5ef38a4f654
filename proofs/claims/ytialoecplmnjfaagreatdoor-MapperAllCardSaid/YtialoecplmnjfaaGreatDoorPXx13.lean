/- Walked functions, by this session's program over the kit's print. -/
import Derived.Test.YtialoecplmnjfaaGreatDoorPXx0
import Derived.Test.YtialoecplmnjfaaGreatDoorPXx11
import Derived.Test.YtialoecplmnjfaaGreatDoorPXx3
import Derived.Test.YtialoecplmnjfaaGreatDoorPXx6
namespace Go.Proofs.YtialoecplmnjfaaGreatDoor.PX
open Go.RowKit Go.Proofs.YtialoecplmnjfaaGreatDoorW.PrintWords Go.Proofs.YtialoecplmnjfaaGreatDoorW.PrintLast Go.Proofs.YtialoecplmnjfaaGreatDoorW.PrintMore
attribute [local go_sem] xm_gtr max2_int min2_int max_two min_two max_three min_three max_four min_four
set_option linter.unusedVariables false
set_option linter.unusedSimpArgs false
/- Walked functions, by this session's program over the kit's print. -/
mutual
def value_Compare.j0 : Nat → Int → Bool → Bool → Int → ByteArray → Bool → Int → ByteArray → Option (Int)
 | 0, _, _, _, _, _, _, _, _ => none
 | k + 1, x5, x6, x285000, x285001, x285002, x286000, x286001, x286002 => if x6 = true then ((cmp_Compare_int.f x285001 x286001).bind fun t286 => ((cmp_Compare_string.f x285002 x286002).bind fun t287 => ((cmp_Or_int.f k (([1, t286, t287] : List Int))).bind fun t291 => (some t291)))) else (if x285000 = true then (value_Compare.j1 k x5 false x285000 x285001 x285002 x286000 x286001 x286002) else (value_Compare.j1 k x5 x286000 x285000 x285001 x285002 x286000 x286001 x286002))
def value_Compare.j1 : Nat → Int → Bool → Bool → Int → ByteArray → Bool → Int → ByteArray → Option (Int)
 | 0, _, _, _, _, _, _, _, _ => none
 | k + 1, x5, x14, x285000, x285001, x285002, x286000, x286001, x286002 => if x14 = true then ((cmp_Compare_int.f x285001 x286001).bind fun t292 => ((cmp_Compare_string.f x285002 x286002).bind fun t293 => ((cmp_Or_int.f k (([(-1), t292, t293] : List Int))).bind fun t297 => (some t297)))) else ((cmp_Compare_int.f x285001 x286001).bind fun t298 => ((cmp_Compare_string.f x285002 x286002).bind fun t299 => ((cmp_Or_int.f k (([x5, t298, t299] : List Int))).bind fun t303 => (some t303))))
end
def value_Compare.f (k : Nat) (a0_0 : Bool) (a0_1 : Int) (a0_2 : ByteArray) (a1_0 : Bool) (a1_1 : Int) (a1_2 : ByteArray) : Option (Int) := if a0_0 = true then (value_Compare.j0 k 0 (!a1_0) a0_0 a0_1 a0_2 a1_0 a1_1 a1_2) else (value_Compare.j0 k 0 false a0_0 a0_1 a0_2 a1_0 a1_1 a1_2)
theorem value_Compare.mono_l : ∀ k, (∀ y0 y1 y2 y3 y4 y5 y6 y7, LeO (value_Compare.j0 k y0 y1 y2 y3 y4 y5 y6 y7) (value_Compare.j0 (k + 1) y0 y1 y2 y3 y4 y5 y6 y7)) ∧ (∀ y0 y1 y2 y3 y4 y5 y6 y7, LeO (value_Compare.j1 k y0 y1 y2 y3 y4 y5 y6 y7) (value_Compare.j1 (k + 1) y0 y1 y2 y3 y4 y5 y6 y7))
 | 0 => ⟨fun _ _ _ _ _ _ _ _ r h => by simp [value_Compare.j0] at h, fun _ _ _ _ _ _ _ _ r h => by simp [value_Compare.j1] at h⟩
 | k + 1 => by
  obtain ⟨ih0, ih1⟩ := value_Compare.mono_l k
  refine ⟨?_, ?_⟩
  ·intro y0 y1 y2 y3 y4 y5 y6 y7
   unfold value_Compare.j0
   repeat' (with_reducible first | exact ih0 _ _ _ _ _ _ _ _ | exact ih1 _ _ _ _ _ _ _ _ | exact cmp_Or_int.mono _ _ | exact LeO.refl _ | exact LeO.none _ | refine LeO.ite ?_ ?_ | refine LeO.bind ?_ (fun _ => ?_))
  ·intro y0 y1 y2 y3 y4 y5 y6 y7
   unfold value_Compare.j1
   repeat' (with_reducible first | exact ih0 _ _ _ _ _ _ _ _ | exact ih1 _ _ _ _ _ _ _ _ | exact cmp_Or_int.mono _ _ | exact LeO.refl _ | exact LeO.none _ | refine LeO.ite ?_ ?_ | refine LeO.bind ?_ (fun _ => ?_))
theorem value_Compare.mono : ∀ a0 a1 a2 a3 a4 a5 k, LeO (value_Compare.f k a0 a1 a2 a3 a4 a5) (value_Compare.f (k + 1) a0 a1 a2 a3 a4 a5) := by
 intro a0 a1 a2 a3 a4 a5 k
 obtain ⟨ih0, ih1⟩ := value_Compare.mono_l k
 unfold value_Compare.f
 repeat' (with_reducible first | exact ih0 _ _ _ _ _ _ _ _ | exact ih1 _ _ _ _ _ _ _ _ | exact cmp_Or_int.mono _ _ | exact LeO.refl _ | exact LeO.none _ | refine LeO.ite ?_ ?_ | refine LeO.bind ?_ (fun _ => ?_))
def value_Compare.T6 : Bool × List (List Nat × List Nat) := (true, [([], []), ([], []), ([1], [1]), ([], []), ([3], [3]), ([2, 4], [2, 4]), ([], []), ([6], [6]), ([], []), ([8], [8]), ([7, 9, 5], [7, 9]), ([0, 5, 10], [0, 5, 10]), ([11, 10], [11]), ([12, 12, 0, 1, 2, 3, 4, 5, 6, 7, 8, 9, 10, 11, 12], [12])])
def value_Compare.B6 : List Nat := [0, 0, 2, 0, 8, 30, 0, 64, 0, 256, 1022, 2047, 4095, 8191]
theorem value_Compare.tab6 : rtab .any (opsOf Tryz.f97 6) = value_Compare.T6 := by kernel_rfl
theorem value_Compare.bits6 : waitsOk value_Compare.T6.2 value_Compare.B6 = true := by kernel_rfl
set_option maxHeartbeats 8000000 in
set_option maxRecDepth 100000 in
theorem value_Compare.calls (k : Nat) (a0_0 : Bool) (a0_1 : Int) (a0_2 : ByteArray) (a1_0 : Bool) (a1_1 : Int) (a1_2 : ByteArray) (r : Int) (w : World) (hT : Tabs w) (h : value_Compare.f k a0_0 a0_1 a0_2 a1_0 a1_1 a1_2 = some r) :
  Calls Tryz.prog 97 #[.agg #[.bool a0_0, .int .i64 a0_1, .string a0_2], .agg #[.bool a1_0, .int .i64 a1_1, .string a1_2]] w fun e w' => e = .returned (.int .i64 r) ∧ Below w.heap.size w w' := by
 have hu24 := Tryz.underlying24
 have HB := xy (Below.refl w.heap.size w)
 unfold value_Compare.f at h
 have H := h
 clear h
 have HC3 := xy H
 clear H
 go_enter Tryz.func97, Tryz.ntmps97
 go_upto_region 2 with (first | ((with_reducible refine gate_dst (N := 2) rfl ?_); refine xq (N := 2) (cs := #[.bool a0_0, .int .i64 a0_1, .string a0_2]) (t := 24) ?_; intro gb284 hg w4 hbox hb; have BK284 := xy (hbox); have GW284 := xs w hg; have GE284 := xs w hg; replace HB := xy (below_step xb hb); clear hb hbox hg) | ((with_reducible refine gate_dst (N := 3) rfl ?_); refine xq (N := 3) (cs := #[.bool a1_0, .int .i64 a1_1, .string a1_2]) (t := 24) ?_; intro gb285 hg w5 hbox hb; have BK285 := xy (hbox); have GW285 := xs w hg; have GE285 := xs w hg; replace HB := xy (below_step xb hb); have NB284_285 := xn hg BK284.out; have NB285_284 := xp hg BK284.out; replace BK284 := xd BK284.out hb; clear hb hbox hg))
 (try simp only [Act.put, List.setIfInBounds_toArray, List.set_cons_zero, List.set_cons_succ])
 go_cut [6] (fun v6 wc => ∃ (kq : Nat) (x6_2 : Bool), v6 = .bool x6_2 ∧ Aside0 (value_Compare.j0 kq 0 x6_2 a0_0 a0_1 a0_2 a1_0 a1_1 a1_2 = some r) ∧ Aside0 (kq ≤ k) ∧ Aside0 (wc.heap[gb284]? = some (.cells #[.bool a0_0, .int .i64 a0_1, .string a0_2] 24 (0, 0))) ∧ Aside0 (wc.heap[gb285]? = some (.cells #[.bool a1_0, .int .i64 a1_1, .string a1_2] 24 (0, 0))) ∧ Aside0 (Below w.heap.size w wc))
 case first =>
  have H := HC3.out
  clear HC3
  by_cases c6 : a0_0 = true
  ·subst c6
   rw [if_pos rfl] at H
   have H' := xy H
   clear H
   have hnb7 := NB284_285.out
   have hnc7 := NB285_284.out
   obtain ⟨hcz8_0, hcz8_1, hcz8_2⟩ := kt3 BK284.out
   obtain ⟨hcz9_0, hcz9_1, hcz9_2⟩ := kt3 BK285.out
   go_wp2
   go_meet
   case rel => exact ⟨_, (!a1_0), xg, H', ⟨by first | omega | exact Nat.le_refl _⟩, ⟨by (with_reducible repeat (first | refine blk_drewN ?_ _ | refine blk_drew ?_ | refine blk_alloc ?_ _)); exact BK284.out⟩, ⟨by (with_reducible repeat (first | refine blk_drewN ?_ _ | refine blk_drew ?_ | refine blk_alloc ?_ _)); exact BK285.out⟩, ⟨xb⟩⟩
  ·replace c6 := Bool.eq_false_iff.mpr c6
   subst c6
   rw [if_neg (show ¬ (false = true) by decide)] at H
   have H' := xy H
   clear H
   have hnb10 := NB284_285.out
   have hnc10 := NB285_284.out
   obtain ⟨hcz11_0, hcz11_1, hcz11_2⟩ := kt3 BK284.out
   go_wp2
   go_meet
   case rel => exact ⟨_, (false), xg, H', ⟨by first | omega | exact Nat.le_refl _⟩, ⟨by (with_reducible repeat (first | refine blk_drewN ?_ _ | refine blk_drew ?_ | refine blk_alloc ?_ _)); exact BK284.out⟩, ⟨by (with_reducible repeat (first | refine blk_drewN ?_ _ | refine blk_drew ?_ | refine blk_alloc ?_ _)); exact BK285.out⟩, ⟨xb⟩⟩
 case rest =>
  clear HC3
  try clear c1
  try clear p2
  try clear c6
  try clear c7
  try clear c9
  try clear c10
  try clear hcz11_0 hcz11_1 hcz11_2
  try clear hcz8_0 hcz8_1 hcz8_2
  try clear hcz9_0 hcz9_1 hcz9_2
  obtain ⟨kq, x6_2, rfl, HA, HJ2, BK284, BK285, HB⟩ := hcut
  cases kq with
  | zero => exact absurd HA.out (by simp [value_Compare.j0])
  | succ kj2 =>
   have H := HA.out
   clear HA
   simp only [value_Compare.j0] at H
   by_cases c12 : x6_2 = true
   ·subst c12
    rw [if_pos rfl] at H
    replace H := xj H
    obtain ⟨t286, A130, H⟩ := H
    try dsimp only at H
    have A13 := xy A130
    clear A130
    replace H := xj H
    obtain ⟨t287, A140, H⟩ := H
    try dsimp only at H
    have A14 := xy A140
    clear A140
    obtain ⟨y288, hy288⟩ : ∃ y_ : List Int, y_ = (([1, t286, t287] : List Int)) := ⟨_, rfl⟩
    replace H : ((cmp_Or_int.f kj2 y288).bind fun t291 => (some t291)) = some r := by first | (rw [hy288]; with_reducible exact H) | (have H2_ := (Option.bind_some _ _).symm.trans H; rw [hy288]; with_reducible exact H2_) | (have H2_ := (Option.bind_some _ _).symm.trans H; with_reducible exact H2_) | with_reducible exact H | (rw [hy288]; exact H) | exact H
    have Ny288 := xy hy288
    clear hy288
    replace H := xj H
    obtain ⟨t291, A150, H⟩ := H
    try dsimp only at H
    have A15 := xy A150
    clear A150
    obtain rfl := Option.some.inj H
    try go_wp2
    replace BK284 := xy (blk_drew BK284.out)
    replace BK285 := xy (blk_drew BK285.out)
    replace HB := xy (below_drew1 HB.out)
    refine start_ (n := 14) (S := fun w' => w'.cell? ⟨gb284, 0, none⟩ = some (.bool a0_0) ∧ w'.cell? ⟨gb284, 1, none⟩ = some (.int .i64 a0_1) ∧ w'.cell? ⟨gb284, 2, none⟩ = some (.string a0_2) ∧ w'.cell? ⟨gb285, 0, none⟩ = some (.bool a1_0) ∧ w'.cell? ⟨gb285, 1, none⟩ = some (.int .i64 a1_1) ∧ w'.cell? ⟨gb285, 2, none⟩ = some (.string a1_2)) (ds := []) #[false, false, false, false, false, false, false, false, false, false, false, false, false, false] (by kernel_rfl) rfl rfl ⟨(kc BK284.out 0).trans rfl, (kc BK284.out 1).trans rfl, (kc BK284.out 2).trans rfl, (kc BK285.out 0).trans rfl, (kc BK285.out 1).trans rfl, (kc BK285.out 2).trans rfl⟩ (fun hHeld => ?_); refine with_tabW value_Compare.tab6 value_Compare.bits6 (fun HT_ HW_ => ?_)
    generalize wc.drew = w16 at BK284 BK285 HB hHeld ⊢
    refine yz 0 (some 22) (bs 14 1) HT_.out (h := ?_)
    refine yz 1 (some 23) (bs 14 3) HT_.out (h := ?_)
    refine yz 3 (some 25) (bs 14 11) HT_.out (h := ?_)
    refine yz 6 (some 28) (bs 14 75) HT_.out (h := ?_)
    refine yz 8 (some 30) (bs 14 331) HT_.out (h := ?_)
    refine yt 2 (some 24) (bs 14 335) HT_.out HW_.out hHeld (h := ?_)
    refine yt 4 (some 26) (bs 14 351) HT_.out HW_.out hHeld (h := ?_)
    refine yt 7 (some 29) (bs 14 479) HT_.out HW_.out hHeld (h := ?_)
    refine yt 9 (some 31) (bs 14 991) HT_.out HW_.out hHeld (h := ?_)
    refine one_ (i := 5) (N := some 27) #[true, true, true, true, true, true, true, true, true, true, false, false, false, false] rfl rfl (one_of HT_.out (by kernel_rfl)) (by decide) (fun K hK => ?_)
    refine goes_ Tryz.func103 (by kernel_rfl) rfl #[.int .i64 a0_1, .int .i64 a1_1] (by rfl) rfl rfl xr ?_
    with_reducible refine (cmp_Compare_int.calls a0_1 a1_1 t286 _ (Tabs.below hT xf) A13.out).mono ?_
    rintro e w' ⟨rfl, ⟨nd, rfl⟩⟩
    refine ⟨_, rfl, ?_⟩
    refine hK.out _ _ ⟨(kc BK284.out 0).trans rfl, (kc BK284.out 1).trans rfl, (kc BK284.out 2).trans rfl, (kc BK285.out 0).trans rfl, (kc BK285.out 1).trans rfl, (kc BK285.out 2).trans rfl⟩ (fun hHeld => ?_)
    clear hK K
    refine norm_ (a' := ?_) ?_ ?_
    rotate_left
    ·show Act.put _ (some 27) _ = _
     simp only [Act.put, List.setIfInBounds_toArray, List.set_cons_zero, List.set_cons_succ, i64_w, i32_w]
     rfl
    refine one_ (i := 10) (N := some 32) #[true, true, true, true, true, true, true, true, true, true, true, false, false, false] rfl rfl (one_of HT_.out (by kernel_rfl)) (by decide) (fun K hK => ?_)
    refine goes_ Tryz.func104 (by kernel_rfl) rfl #[.string a0_2, .string a1_2] (by rfl) rfl rfl xr ?_
    with_reducible refine (cmp_Compare_string.calls a0_2 a1_2 t287 _ (Tabs.below hT xf) A14.out).mono ?_
    rintro e w' ⟨rfl, ⟨nd, rfl⟩⟩
    refine ⟨_, rfl, ?_⟩
    refine hK.out _ _ ⟨(kc BK284.out 0).trans rfl, (kc BK284.out 1).trans rfl, (kc BK284.out 2).trans rfl, (kc BK285.out 0).trans rfl, (kc BK285.out 1).trans rfl, (kc BK285.out 2).trans rfl⟩ (fun hHeld => ?_)
    clear hK K
    refine norm_ (a' := ?_) ?_ ?_
    rotate_left
    ·show Act.put _ (some 32) _ = _
     simp only [Act.put, List.setIfInBounds_toArray, List.set_cons_zero, List.set_cons_succ, i64_w, i32_w]
     rfl
    refine one_ (i := 11) (N := some 33) #[true, true, true, true, true, true, true, true, true, true, true, true, false, false] rfl rfl (one_of HT_.out (by kernel_rfl)) (by decide) (fun K hK => ?_)
    refine Kd.R_lit_step (Kd.int .i64) _ 3 ?hg (N := 33) ?hd (xs := ([1, t286, t287] : List Int)) (inner := [.int .i64 1, .int .i64 t286, .int .i64 t287]) (ok := fun _ => True) (okp := fun _ => True) ?hr ?hp (fun _ hk => hk) trivial (Below.refl _ _) (Nat.le_refl _) (by simp) ?_; (case hd => rfl); (case hg => rfl); (case hr => exact xh); (case hp => exact (Reps.one (show Kd.M (Kd.int .i64) _ _ _ 1 [.int .i64 1] from rfl) (Reps.one (show Kd.M (Kd.int .i64) _ _ _ t286 [.int .i64 t286] from rfl) (Reps.one (show Kd.M (Kd.int .i64) _ _ _ t287 [.int .i64 t287] from rfl) (Reps.none _ _)))))
    intro v289 w17 ho18 hb hg_ hnew_
    clear hg_ hnew_
    (first | rw [← Ny288.out] at ho18 | (simp only [Int.reduceToNat] at ho18; rw [← Ny288.out] at ho18))
    have HO290 := xy (Kd.R_lower ho18 (below_size xb))
    replace BK284 := xd BK284.out hb
    replace BK285 := xd BK285.out hb
    replace HB := xy (below_step xb hb)
    clear hb ho18
    obtain ⟨Ao19, co19, eo19⟩ := Kd.R_slice HO290.out
    (first | subst eo19 | (injection eo19 with f1_ f2_ f3_; have f4_ := f1_.symm; have f5_ := f3_.symm; clear f1_ f2_ f3_; subst f4_; subst f5_))
    refine hK.out _ _ ⟨(kc BK284.out 0).trans rfl, (kc BK284.out 1).trans rfl, (kc BK284.out 2).trans rfl, (kc BK285.out 0).trans rfl, (kc BK285.out 1).trans rfl, (kc BK285.out 2).trans rfl⟩ (fun hHeld => ?_)
    clear hK K
    refine norm_ (a' := ?_) ?_ ?_
    rotate_left
    ·show Act.put _ (some 33) _ = _
     simp only [Act.put, List.setIfInBounds_toArray, List.set_cons_zero, List.set_cons_succ, i64_w, i32_w]
     rfl
    refine one_ (i := 12) (N := some 34) #[true, true, true, true, true, true, true, true, true, true, true, true, true, false] rfl rfl (one_of HT_.out (by kernel_rfl)) (by decide) (fun K hK => ?_)
    refine goes_ Tryz.func102 (by kernel_rfl) rfl #[.slice Ao19 y288.length co19] (by rfl) rfl rfl xr ?_
    with_reducible refine (cmp_Or_int.calls kj2 _ _ y288 t291 _ (Tabs.below hT xf) ?side1 ?side2 A15.out).mono ?_
    (case side1 => repeat (first | exact (Kd.R_reads' HO290.out).2.2 | (with_reducible refine Kd.C_alloc ?_ _) | (with_reducible refine Kd.C_drewN ?_ _) | (with_reducible refine Kd.C_drew ?_)))
    (case side2 => exact (Kd.R_reads' HO290.out).2.1)
    rintro e w' ⟨rfl, ⟨nd, rfl⟩⟩
    refine ⟨_, rfl, ?_⟩
    refine hK.out _ _ ⟨(kc BK284.out 0).trans rfl, (kc BK284.out 1).trans rfl, (kc BK284.out 2).trans rfl, (kc BK285.out 0).trans rfl, (kc BK285.out 1).trans rfl, (kc BK285.out 2).trans rfl⟩ (fun hHeld => ?_)
    clear hK K
    refine norm_ (a' := ?_) ?_ ?_
    rotate_left
    ·show Act.put _ (some 34) _ = _
     simp only [Act.put, List.setIfInBounds_toArray, List.set_cons_zero, List.set_cons_succ, i64_w, i32_w]
     rfl
    refine yz 13 (some 4) (bs 14 16383) HT_.out (h := ?_)
    refine done_ (done_of HT_.out (by kernel_rfl)) ?_
    try go_wp2
    go_ret
    exact ⟨xe, xb⟩
   ·replace c12 := Bool.eq_false_iff.mpr c12
    subst c12
    rw [if_neg (show ¬ (false = true) by decide)] at H
    have HC20 := xy H
    clear H
    go_upto_region 4 with (fail)
    go_cut [14] (fun v14 wc => ∃ (kq : Nat) (x14_19 : Bool), v14 = .bool x14_19 ∧ Aside0 (value_Compare.j1 kq 0 x14_19 a0_0 a0_1 a0_2 a1_0 a1_1 a1_2 = some r) ∧ Aside0 (kq ≤ kj2) ∧ Aside0 (wc.heap[gb284]? = some (.cells #[.bool a0_0, .int .i64 a0_1, .string a0_2] 24 (0, 0))) ∧ Aside0 (wc.heap[gb285]? = some (.cells #[.bool a1_0, .int .i64 a1_1, .string a1_2] 24 (0, 0))) ∧ Aside0 (Below w.heap.size w wc))
    case first =>
     have H := HC20.out
     clear HC20
     by_cases c21 : a0_0 = true
     ·subst c21
      rw [if_pos rfl] at H
      have H' := xy H
      clear H
      have hnb22 := NB284_285.out
      have hnc22 := NB285_284.out
      obtain ⟨hcz23_0, hcz23_1, hcz23_2⟩ := kt3 BK284.out
      go_wp2
      go_meet
      case rel => exact ⟨_, (false), xg, H', ⟨by have := HJ2.out; first | omega | exact Nat.le_refl _⟩, ⟨by (with_reducible repeat (first | refine blk_drewN ?_ _ | refine blk_drew ?_ | refine blk_alloc ?_ _)); exact BK284.out⟩, ⟨by (with_reducible repeat (first | refine blk_drewN ?_ _ | refine blk_drew ?_ | refine blk_alloc ?_ _)); exact BK285.out⟩, ⟨xb⟩⟩
     ·replace c21 := Bool.eq_false_iff.mpr c21
      subst c21
      rw [if_neg (show ¬ (false = true) by decide)] at H
      have H' := xy H
      clear H
      have hnb24 := NB284_285.out
      have hnc24 := NB285_284.out
      obtain ⟨hcz25_0, hcz25_1, hcz25_2⟩ := kt3 BK284.out
      obtain ⟨hcz26_0, hcz26_1, hcz26_2⟩ := kt3 BK285.out
      go_wp2
      go_meet
      case rel => exact ⟨_, (a1_0), xg, H', ⟨by have := HJ2.out; first | omega | exact Nat.le_refl _⟩, ⟨by (with_reducible repeat (first | refine blk_drewN ?_ _ | refine blk_drew ?_ | refine blk_alloc ?_ _)); exact BK284.out⟩, ⟨by (with_reducible repeat (first | refine blk_drewN ?_ _ | refine blk_drew ?_ | refine blk_alloc ?_ _)); exact BK285.out⟩, ⟨xb⟩⟩
    case rest =>
     clear HC20
     try clear c1
     try clear c2
     try clear p2
     try clear c6
     try clear c7
     try clear c9
     try clear c10
     try clear c12
     try clear c21
     try clear c22
     try clear c24
     try clear hcz11_0 hcz11_1 hcz11_2
     try clear hcz23_0 hcz23_1 hcz23_2
     try clear hcz25_0 hcz25_1 hcz25_2
     try clear hcz26_0 hcz26_1 hcz26_2
     try clear hcz8_0 hcz8_1 hcz8_2
     try clear hcz9_0 hcz9_1 hcz9_2
     try clear p2
     obtain ⟨kq, x14_19, rfl, HA, HJ19, BK284, BK285, HB⟩ := hcut
     cases kq with
     | zero => exact absurd HA.out (by simp [value_Compare.j1])
     | succ kj19 =>
      have H := HA.out
      clear HA
      simp only [value_Compare.j1] at H
      by_cases c27 : x14_19 = true
      ·subst c27
       rw [if_pos rfl] at H
       replace H := xj H
       obtain ⟨t292, A280, H⟩ := H
       try dsimp only at H
       have A28 := xy A280
       clear A280
       replace H := xj H
       obtain ⟨t293, A290, H⟩ := H
       try dsimp only at H
       have A29 := xy A290
       clear A290
       obtain ⟨y294, hy294⟩ : ∃ y_ : List Int, y_ = (([(-1), t292, t293] : List Int)) := ⟨_, rfl⟩
       replace H : ((cmp_Or_int.f kj19 y294).bind fun t297 => (some t297)) = some r := by first | (rw [hy294]; with_reducible exact H) | (have H2_ := (Option.bind_some _ _).symm.trans H; rw [hy294]; with_reducible exact H2_) | (have H2_ := (Option.bind_some _ _).symm.trans H; with_reducible exact H2_) | with_reducible exact H | (rw [hy294]; exact H) | exact H
       have Ny294 := xy hy294
       clear hy294
       replace H := xj H
       obtain ⟨t297, A300, H⟩ := H
       try dsimp only at H
       have A30 := xy A300
       clear A300
       obtain rfl := Option.some.inj H
       try go_wp2
       replace BK284 := xy (blk_drew BK284.out)
       replace BK285 := xy (blk_drew BK285.out)
       replace HB := xy (below_drew1 HB.out)
       refine start_ (n := 14) (S := fun w' => w'.cell? ⟨gb284, 0, none⟩ = some (.bool a0_0) ∧ w'.cell? ⟨gb284, 1, none⟩ = some (.int .i64 a0_1) ∧ w'.cell? ⟨gb284, 2, none⟩ = some (.string a0_2) ∧ w'.cell? ⟨gb285, 0, none⟩ = some (.bool a1_0) ∧ w'.cell? ⟨gb285, 1, none⟩ = some (.int .i64 a1_1) ∧ w'.cell? ⟨gb285, 2, none⟩ = some (.string a1_2)) (ds := []) #[false, false, false, false, false, false, false, false, false, false, false, false, false, false] (by kernel_rfl) rfl rfl ⟨(kc BK284.out 0).trans rfl, (kc BK284.out 1).trans rfl, (kc BK284.out 2).trans rfl, (kc BK285.out 0).trans rfl, (kc BK285.out 1).trans rfl, (kc BK285.out 2).trans rfl⟩ (fun hHeld => ?_); refine with_tabW value_Compare.tab6 value_Compare.bits6 (fun HT_ HW_ => ?_)
       generalize wc.drew = w31 at BK284 BK285 HB hHeld ⊢
       refine yz 0 (some 22) (bs 14 1) HT_.out (h := ?_)
       refine yz 1 (some 23) (bs 14 3) HT_.out (h := ?_)
       refine yz 3 (some 25) (bs 14 11) HT_.out (h := ?_)
       refine yz 6 (some 28) (bs 14 75) HT_.out (h := ?_)
       refine yz 8 (some 30) (bs 14 331) HT_.out (h := ?_)
       refine yt 2 (some 24) (bs 14 335) HT_.out HW_.out hHeld (h := ?_)
       refine yt 4 (some 26) (bs 14 351) HT_.out HW_.out hHeld (h := ?_)
       refine yt 7 (some 29) (bs 14 479) HT_.out HW_.out hHeld (h := ?_)
       refine yt 9 (some 31) (bs 14 991) HT_.out HW_.out hHeld (h := ?_)
       refine one_ (i := 5) (N := some 27) #[true, true, true, true, true, true, true, true, true, true, false, false, false, false] rfl rfl (one_of HT_.out (by kernel_rfl)) (by decide) (fun K hK => ?_)
       refine goes_ Tryz.func103 (by kernel_rfl) rfl #[.int .i64 a0_1, .int .i64 a1_1] (by rfl) rfl rfl xr ?_
       with_reducible refine (cmp_Compare_int.calls a0_1 a1_1 t292 _ (Tabs.below hT xf) A28.out).mono ?_
       rintro e w' ⟨rfl, ⟨nd, rfl⟩⟩
       refine ⟨_, rfl, ?_⟩
       refine hK.out _ _ ⟨(kc BK284.out 0).trans rfl, (kc BK284.out 1).trans rfl, (kc BK284.out 2).trans rfl, (kc BK285.out 0).trans rfl, (kc BK285.out 1).trans rfl, (kc BK285.out 2).trans rfl⟩ (fun hHeld => ?_)
       clear hK K
       refine norm_ (a' := ?_) ?_ ?_
       rotate_left
       ·show Act.put _ (some 27) _ = _
        simp only [Act.put, List.setIfInBounds_toArray, List.set_cons_zero, List.set_cons_succ, i64_w, i32_w]
        rfl
       refine one_ (i := 10) (N := some 32) #[true, true, true, true, true, true, true, true, true, true, true, false, false, false] rfl rfl (one_of HT_.out (by kernel_rfl)) (by decide) (fun K hK => ?_)
       refine goes_ Tryz.func104 (by kernel_rfl) rfl #[.string a0_2, .string a1_2] (by rfl) rfl rfl xr ?_
       with_reducible refine (cmp_Compare_string.calls a0_2 a1_2 t293 _ (Tabs.below hT xf) A29.out).mono ?_
       rintro e w' ⟨rfl, ⟨nd, rfl⟩⟩
       refine ⟨_, rfl, ?_⟩
       refine hK.out _ _ ⟨(kc BK284.out 0).trans rfl, (kc BK284.out 1).trans rfl, (kc BK284.out 2).trans rfl, (kc BK285.out 0).trans rfl, (kc BK285.out 1).trans rfl, (kc BK285.out 2).trans rfl⟩ (fun hHeld => ?_)
       clear hK K
       refine norm_ (a' := ?_) ?_ ?_
       rotate_left
       ·show Act.put _ (some 32) _ = _
        simp only [Act.put, List.setIfInBounds_toArray, List.set_cons_zero, List.set_cons_succ, i64_w, i32_w]
        rfl
       refine one_ (i := 11) (N := some 33) #[true, true, true, true, true, true, true, true, true, true, true, true, false, false] rfl rfl (one_of HT_.out (by kernel_rfl)) (by decide) (fun K hK => ?_)
       refine Kd.R_lit_step (Kd.int .i64) _ 3 ?hg (N := 33) ?hd (xs := ([(-1), t292, t293] : List Int)) (inner := [.int .i64 (-1), .int .i64 t292, .int .i64 t293]) (ok := fun _ => True) (okp := fun _ => True) ?hr ?hp (fun _ hk => hk) trivial (Below.refl _ _) (Nat.le_refl _) (by simp) ?_; (case hd => rfl); (case hg => rfl); (case hr => exact xh); (case hp => exact (Reps.one (show Kd.M (Kd.int .i64) _ _ _ (-1) [.int .i64 (-1)] from rfl) (Reps.one (show Kd.M (Kd.int .i64) _ _ _ t292 [.int .i64 t292] from rfl) (Reps.one (show Kd.M (Kd.int .i64) _ _ _ t293 [.int .i64 t293] from rfl) (Reps.none _ _)))))
       intro v295 w32 ho33 hb hg_ hnew_
       clear hg_ hnew_
       (first | rw [← Ny294.out] at ho33 | (simp only [Int.reduceToNat] at ho33; rw [← Ny294.out] at ho33))
       have HO296 := xy (Kd.R_lower ho33 (below_size xb))
       replace BK284 := xd BK284.out hb
       replace BK285 := xd BK285.out hb
       replace HB := xy (below_step xb hb)
       clear hb ho33
       obtain ⟨Ao34, co34, eo34⟩ := Kd.R_slice HO296.out
       (first | subst eo34 | (injection eo34 with f1_ f2_ f3_; have f4_ := f1_.symm; have f5_ := f3_.symm; clear f1_ f2_ f3_; subst f4_; subst f5_))
       refine hK.out _ _ ⟨(kc BK284.out 0).trans rfl, (kc BK284.out 1).trans rfl, (kc BK284.out 2).trans rfl, (kc BK285.out 0).trans rfl, (kc BK285.out 1).trans rfl, (kc BK285.out 2).trans rfl⟩ (fun hHeld => ?_)
       clear hK K
       refine norm_ (a' := ?_) ?_ ?_
       rotate_left
       ·show Act.put _ (some 33) _ = _
        simp only [Act.put, List.setIfInBounds_toArray, List.set_cons_zero, List.set_cons_succ, i64_w, i32_w]
        rfl
       refine one_ (i := 12) (N := some 34) #[true, true, true, true, true, true, true, true, true, true, true, true, true, false] rfl rfl (one_of HT_.out (by kernel_rfl)) (by decide) (fun K hK => ?_)
       refine goes_ Tryz.func102 (by kernel_rfl) rfl #[.slice Ao34 y294.length co34] (by rfl) rfl rfl xr ?_
       with_reducible refine (cmp_Or_int.calls kj19 _ _ y294 t297 _ (Tabs.below hT xf) ?side1 ?side2 A30.out).mono ?_
       (case side1 => repeat (first | exact (Kd.R_reads' HO296.out).2.2 | (with_reducible refine Kd.C_alloc ?_ _) | (with_reducible refine Kd.C_drewN ?_ _) | (with_reducible refine Kd.C_drew ?_)))
       (case side2 => exact (Kd.R_reads' HO296.out).2.1)
       rintro e w' ⟨rfl, ⟨nd, rfl⟩⟩
       refine ⟨_, rfl, ?_⟩
       refine hK.out _ _ ⟨(kc BK284.out 0).trans rfl, (kc BK284.out 1).trans rfl, (kc BK284.out 2).trans rfl, (kc BK285.out 0).trans rfl, (kc BK285.out 1).trans rfl, (kc BK285.out 2).trans rfl⟩ (fun hHeld => ?_)
       clear hK K
       refine norm_ (a' := ?_) ?_ ?_
       rotate_left
       ·show Act.put _ (some 34) _ = _
        simp only [Act.put, List.setIfInBounds_toArray, List.set_cons_zero, List.set_cons_succ, i64_w, i32_w]
        rfl
       refine yz 13 (some 4) (bs 14 16383) HT_.out (h := ?_)
       refine done_ (done_of HT_.out (by kernel_rfl)) ?_
       try go_wp2
       go_ret
       exact ⟨xe, xb⟩
      ·replace c27 := Bool.eq_false_iff.mpr c27
       subst c27
       rw [if_neg (show ¬ (false = true) by decide)] at H
       replace H := xj H
       obtain ⟨t298, A350, H⟩ := H
       try dsimp only at H
       have A35 := xy A350
       clear A350
       replace H := xj H
       obtain ⟨t299, A360, H⟩ := H
       try dsimp only at H
       have A36 := xy A360
       clear A360
       obtain ⟨y300, hy300⟩ : ∃ y_ : List Int, y_ = (([0, t298, t299] : List Int)) := ⟨_, rfl⟩
       replace H : ((cmp_Or_int.f kj19 y300).bind fun t303 => (some t303)) = some r := by first | (rw [hy300]; with_reducible exact H) | (have H2_ := (Option.bind_some _ _).symm.trans H; rw [hy300]; with_reducible exact H2_) | (have H2_ := (Option.bind_some _ _).symm.trans H; with_reducible exact H2_) | with_reducible exact H | (rw [hy300]; exact H) | exact H
       have Ny300 := xy hy300
       clear hy300
       replace H := xj H
       obtain ⟨t303, A370, H⟩ := H
       try dsimp only at H
       have A37 := xy A370
       clear A370
       obtain rfl := Option.some.inj H
       try go_wp2
       replace BK284 := xy (blk_drew BK284.out)
       replace BK285 := xy (blk_drew BK285.out)
       replace HB := xy (below_drew1 HB.out)
       refine start_ (n := 14) (S := fun w' => w'.cell? ⟨gb284, 0, none⟩ = some (.bool a0_0) ∧ w'.cell? ⟨gb284, 1, none⟩ = some (.int .i64 a0_1) ∧ w'.cell? ⟨gb284, 2, none⟩ = some (.string a0_2) ∧ w'.cell? ⟨gb285, 0, none⟩ = some (.bool a1_0) ∧ w'.cell? ⟨gb285, 1, none⟩ = some (.int .i64 a1_1) ∧ w'.cell? ⟨gb285, 2, none⟩ = some (.string a1_2)) (ds := []) #[false, false, false, false, false, false, false, false, false, false, false, false, false, false] (by kernel_rfl) rfl rfl ⟨(kc BK284.out 0).trans rfl, (kc BK284.out 1).trans rfl, (kc BK284.out 2).trans rfl, (kc BK285.out 0).trans rfl, (kc BK285.out 1).trans rfl, (kc BK285.out 2).trans rfl⟩ (fun hHeld => ?_); refine with_tabW value_Compare.tab6 value_Compare.bits6 (fun HT_ HW_ => ?_)
       generalize wc.drew = w38 at BK284 BK285 HB hHeld ⊢
       refine yz 0 (some 22) (bs 14 1) HT_.out (h := ?_)
       refine yz 1 (some 23) (bs 14 3) HT_.out (h := ?_)
       refine yz 3 (some 25) (bs 14 11) HT_.out (h := ?_)
       refine yz 6 (some 28) (bs 14 75) HT_.out (h := ?_)
       refine yz 8 (some 30) (bs 14 331) HT_.out (h := ?_)
       refine yt 2 (some 24) (bs 14 335) HT_.out HW_.out hHeld (h := ?_)
       refine yt 4 (some 26) (bs 14 351) HT_.out HW_.out hHeld (h := ?_)
       refine yt 7 (some 29) (bs 14 479) HT_.out HW_.out hHeld (h := ?_)
       refine yt 9 (some 31) (bs 14 991) HT_.out HW_.out hHeld (h := ?_)
       refine one_ (i := 5) (N := some 27) #[true, true, true, true, true, true, true, true, true, true, false, false, false, false] rfl rfl (one_of HT_.out (by kernel_rfl)) (by decide) (fun K hK => ?_)
       refine goes_ Tryz.func103 (by kernel_rfl) rfl #[.int .i64 a0_1, .int .i64 a1_1] (by rfl) rfl rfl xr ?_
       with_reducible refine (cmp_Compare_int.calls a0_1 a1_1 t298 _ (Tabs.below hT xf) A35.out).mono ?_
       rintro e w' ⟨rfl, ⟨nd, rfl⟩⟩
       refine ⟨_, rfl, ?_⟩
       refine hK.out _ _ ⟨(kc BK284.out 0).trans rfl, (kc BK284.out 1).trans rfl, (kc BK284.out 2).trans rfl, (kc BK285.out 0).trans rfl, (kc BK285.out 1).trans rfl, (kc BK285.out 2).trans rfl⟩ (fun hHeld => ?_)
       clear hK K
       refine norm_ (a' := ?_) ?_ ?_
       rotate_left
       ·show Act.put _ (some 27) _ = _
        simp only [Act.put, List.setIfInBounds_toArray, List.set_cons_zero, List.set_cons_succ, i64_w, i32_w]
        rfl
       refine one_ (i := 10) (N := some 32) #[true, true, true, true, true, true, true, true, true, true, true, false, false, false] rfl rfl (one_of HT_.out (by kernel_rfl)) (by decide) (fun K hK => ?_)
       refine goes_ Tryz.func104 (by kernel_rfl) rfl #[.string a0_2, .string a1_2] (by rfl) rfl rfl xr ?_
       with_reducible refine (cmp_Compare_string.calls a0_2 a1_2 t299 _ (Tabs.below hT xf) A36.out).mono ?_
       rintro e w' ⟨rfl, ⟨nd, rfl⟩⟩
       refine ⟨_, rfl, ?_⟩
       refine hK.out _ _ ⟨(kc BK284.out 0).trans rfl, (kc BK284.out 1).trans rfl, (kc BK284.out 2).trans rfl, (kc BK285.out 0).trans rfl, (kc BK285.out 1).trans rfl, (kc BK285.out 2).trans rfl⟩ (fun hHeld => ?_)
       clear hK K
       refine norm_ (a' := ?_) ?_ ?_
       rotate_left
       ·show Act.put _ (some 32) _ = _
        simp only [Act.put, List.setIfInBounds_toArray, List.set_cons_zero, List.set_cons_succ, i64_w, i32_w]
        rfl
       refine one_ (i := 11) (N := some 33) #[true, true, true, true, true, true, true, true, true, true, true, true, false, false] rfl rfl (one_of HT_.out (by kernel_rfl)) (by decide) (fun K hK => ?_)
       refine Kd.R_lit_step (Kd.int .i64) _ 3 ?hg (N := 33) ?hd (xs := ([0, t298, t299] : List Int)) (inner := [.int .i64 0, .int .i64 t298, .int .i64 t299]) (ok := fun _ => True) (okp := fun _ => True) ?hr ?hp (fun _ hk => hk) trivial (Below.refl _ _) (Nat.le_refl _) (by simp) ?_; (case hd => rfl); (case hg => rfl); (case hr => exact xh); (case hp => exact (Reps.one (show Kd.M (Kd.int .i64) _ _ _ 0 [.int .i64 0] from rfl) (Reps.one (show Kd.M (Kd.int .i64) _ _ _ t298 [.int .i64 t298] from rfl) (Reps.one (show Kd.M (Kd.int .i64) _ _ _ t299 [.int .i64 t299] from rfl) (Reps.none _ _)))))
       intro v301 w39 ho40 hb hg_ hnew_
       clear hg_ hnew_
       (first | rw [← Ny300.out] at ho40 | (simp only [Int.reduceToNat] at ho40; rw [← Ny300.out] at ho40))
       have HO302 := xy (Kd.R_lower ho40 (below_size xb))
       replace BK284 := xd BK284.out hb
       replace BK285 := xd BK285.out hb
       replace HB := xy (below_step xb hb)
       clear hb ho40
       obtain ⟨Ao41, co41, eo41⟩ := Kd.R_slice HO302.out
       (first | subst eo41 | (injection eo41 with f1_ f2_ f3_; have f4_ := f1_.symm; have f5_ := f3_.symm; clear f1_ f2_ f3_; subst f4_; subst f5_))
       refine hK.out _ _ ⟨(kc BK284.out 0).trans rfl, (kc BK284.out 1).trans rfl, (kc BK284.out 2).trans rfl, (kc BK285.out 0).trans rfl, (kc BK285.out 1).trans rfl, (kc BK285.out 2).trans rfl⟩ (fun hHeld => ?_)
       clear hK K
       refine norm_ (a' := ?_) ?_ ?_
       rotate_left
       ·show Act.put _ (some 33) _ = _
        simp only [Act.put, List.setIfInBounds_toArray, List.set_cons_zero, List.set_cons_succ, i64_w, i32_w]
        rfl
       refine one_ (i := 12) (N := some 34) #[true, true, true, true, true, true, true, true, true, true, true, true, true, false] rfl rfl (one_of HT_.out (by kernel_rfl)) (by decide) (fun K hK => ?_)
       refine goes_ Tryz.func102 (by kernel_rfl) rfl #[.slice Ao41 y300.length co41] (by rfl) rfl rfl xr ?_
       with_reducible refine (cmp_Or_int.calls kj19 _ _ y300 t303 _ (Tabs.below hT xf) ?side1 ?side2 A37.out).mono ?_
       (case side1 => repeat (first | exact (Kd.R_reads' HO302.out).2.2 | (with_reducible refine Kd.C_alloc ?_ _) | (with_reducible refine Kd.C_drewN ?_ _) | (with_reducible refine Kd.C_drew ?_)))
       (case side2 => exact (Kd.R_reads' HO302.out).2.1)
       rintro e w' ⟨rfl, ⟨nd, rfl⟩⟩
       refine ⟨_, rfl, ?_⟩
       refine hK.out _ _ ⟨(kc BK284.out 0).trans rfl, (kc BK284.out 1).trans rfl, (kc BK284.out 2).trans rfl, (kc BK285.out 0).trans rfl, (kc BK285.out 1).trans rfl, (kc BK285.out 2).trans rfl⟩ (fun hHeld => ?_)
       clear hK K
       refine norm_ (a' := ?_) ?_ ?_
       rotate_left
       ·show Act.put _ (some 34) _ = _
        simp only [Act.put, List.setIfInBounds_toArray, List.set_cons_zero, List.set_cons_succ, i64_w, i32_w]
        rfl
       refine yz 13 (some 4) (bs 14 16383) HT_.out (h := ?_)
       refine done_ (done_of HT_.out (by kernel_rfl)) ?_
       try go_wp2
       go_ret
       exact ⟨xe, xb⟩
/- Walked functions, by this session's program over the kit's print. -/
def value_val_eq.f (k : Nat) (a0_0 : Bool) (a0_1 : Int) (a0_2 : ByteArray) (a1_0 : Bool) (a1_1 : Int) (a1_2 : ByteArray) (a2_0 : Bool) (a2_1 : Int) (a2_2 : ByteArray) : Option (Bool × Int × ByteArray) := (value_Compare.f k a0_0 a0_1 a0_2 a1_0 a1_1 a1_2).bind fun t308 => ((value_yes.f (t308 == 0)).bind fun bt309 => (some (bt309.1, bt309.2.1, bt309.2.2)))
theorem value_val_eq.mono : ∀ a0 a1 a2 a3 a4 a5 a6 a7 a8 k, LeO (value_val_eq.f k a0 a1 a2 a3 a4 a5 a6 a7 a8) (value_val_eq.f (k + 1) a0 a1 a2 a3 a4 a5 a6 a7 a8) := by
 intro a0 a1 a2 a3 a4 a5 a6 a7 a8 k
 unfold value_val_eq.f
 repeat' (with_reducible first | exact value_Compare.mono _ _ _ _ _ _ _ | exact LeO.refl _ | exact LeO.none _ | refine LeO.ite ?_ ?_ | refine LeO.bind ?_ (fun _ => ?_))
set_option maxHeartbeats 8000000 in
set_option maxRecDepth 100000 in
theorem value_val_eq.calls (k : Nat) (a0_0 : Bool) (a0_1 : Int) (a0_2 : ByteArray) (a1_0 : Bool) (a1_1 : Int) (a1_2 : ByteArray) (a2_0 : Bool) (a2_1 : Int) (a2_2 : ByteArray) (r1 : Bool) (r2 : Int) (r3 : ByteArray) (w : World) (hT : Tabs w) (h : value_val_eq.f k a0_0 a0_1 a0_2 a1_0 a1_1 a1_2 a2_0 a2_1 a2_2 = some (r1, r2, r3)) :
  Calls Tryz.prog 86 #[.agg #[.bool a0_0, .int .i64 a0_1, .string a0_2], .agg #[.bool a1_0, .int .i64 a1_1, .string a1_2], .agg #[.bool a2_0, .int .i64 a2_1, .string a2_2]] w fun e w' => e = .returned (.agg #[.bool r1, .int .i64 r2, .string r3]) ∧ Below w.heap.size w w' := by
 have hu137 := Tryz.underlying137
 have hu24 := Tryz.underlying24
 have HB := xy (Below.refl w.heap.size w)
 unfold value_val_eq.f at h
 have H := h
 clear h
 replace H := xj H
 obtain ⟨t308, A40, H⟩ := H
 try dsimp only at H
 have A4 := xy A40
 clear A40
 replace H := xj H
 obtain ⟨⟨t309, t310, t311⟩, A50, H⟩ := H
 try dsimp only at H
 have A5 := xy A50
 clear A50
 simp only [Option.some.injEq, Prod.mk.injEq] at H
 obtain ⟨rfl, rfl, rfl⟩ := H
 go_enter Tryz.func86, Tryz.ntmps86
 go_wp2_with (first | ((with_reducible refine gate_dst (N := 3) rfl ?_); refine xq (N := 3) (cs := #[.bool a0_0, .int .i64 a0_1, .string a0_2]) (t := 137) ?_; intro gb304 hg w6 hbox hb; have BK304 := xy (hbox); have GW304 := xs w hg; have GE304 := xs w hg; replace HB := xy (below_step xb hb); clear hb hbox hg) | ((with_reducible refine gate_dst (N := 4) rfl ?_); refine xq (N := 4) (cs := #[.bool a1_0, .int .i64 a1_1, .string a1_2]) (t := 137) ?_; intro gb305 hg w7 hbox hb; have BK305 := xy (hbox); have GW305 := xs w hg; have GE305 := xs w hg; replace HB := xy (below_step xb hb); have NB304_305 := xn hg BK304.out; have NB305_304 := xp hg BK304.out; replace BK304 := xd BK304.out hb; clear hb hbox hg) | ((with_reducible refine gate_dst (N := 5) rfl ?_); refine xq (N := 5) (cs := #[.bool a2_0, .int .i64 a2_1, .string a2_2]) (t := 137) ?_; intro gb306 hg w8 hbox hb; have BK306 := xy (hbox); have GW306 := xs w hg; have GE306 := xs w hg; replace HB := xy (below_step xb hb); have NB304_306 := xn hg BK304.out; have NB306_304 := xp hg BK304.out; replace BK304 := xd BK304.out hb; have NB305_306 := xn hg BK305.out; have NB306_305 := xp hg BK305.out; replace BK305 := xd BK305.out hb; clear hb hbox hg) | ((with_reducible refine gate_dst (N := 6) rfl ?_); refine xq (N := 6) (cs := #[.bool false, .int .i64 0, .string (⟨#[]⟩ : ByteArray)]) (t := 24) ?_; intro gb307 hg w9 hbox hb; have BK307 := xy (hbox); have GW307 := xs w hg; have GE307 := xs w hg; replace HB := xy (below_step xb hb); have NB304_307 := xn hg BK304.out; have NB307_304 := xp hg BK304.out; replace BK304 := xd BK304.out hb; have NB305_307 := xn hg BK305.out; have NB307_305 := xp hg BK305.out; replace BK305 := xd BK305.out hb; have NB306_307 := xn hg BK306.out; have NB307_306 := xp hg BK306.out; replace BK306 := xd BK306.out hb; clear hb hbox hg; have hnb10 := NB304_305.out; have hnc10 := NB305_304.out; have hnb11 := NB304_306.out; have hnc11 := NB306_304.out; have hnb12 := NB304_307.out; have hnc12 := NB307_304.out; obtain ⟨hcz13_0, hcz13_1, hcz13_2⟩ := kt3 BK304.out; obtain ⟨hfz13_0, hfz13_1, hfz13_2⟩ := kz3 BK304.out; have hnb14 := NB305_306.out; have hnc14 := NB306_305.out; have hnb15 := NB305_307.out; have hnc15 := NB307_305.out; obtain ⟨hcz16_0, hcz16_1, hcz16_2⟩ := kt3 BK305.out; obtain ⟨hfz16_0, hfz16_1, hfz16_2⟩ := kz3 BK305.out) | ((with_reducible refine gate_callee (f := 97) rfl ?_); refine goesL_ (some 9) rfl rfl Tryz.func97 (by kernel_rfl) rfl #[.agg #[.bool a0_0, .int .i64 a0_1, .string a0_2], .agg #[.bool a1_0, .int .i64 a1_1, .string a1_2]] rfl xr ?_; (with_reducible refine (value_Compare.calls k a0_0 a0_1 a0_2 a1_0 a1_1 a1_2 t308 _ (Tabs.below hT xf) A4.out).mono ?_); rintro e w17 ⟨rfl, hb⟩; refine ⟨_, rfl, ?_⟩; replace BK304 := xd BK304.out hb; replace BK305 := xd BK305.out hb; replace BK306 := xd BK306.out hb; replace BK307 := xd BK307.out hb; replace HB := xy (below_step xb hb); (try clear hb); (try clear hb2); (try clear hk); (try clear hi)) | ((with_reducible refine gate_callee (f := 96) rfl ?_); refine goesL_ (some 11) rfl rfl Tryz.func96 (by kernel_rfl) rfl #[.bool (t308 == 0)] rfl xr ?_; (with_reducible refine (value_yes.calls (t308 == 0) t309 t310 t311 _ (Tabs.below hT xf) A5.out).mono ?_); rintro e w18 ⟨rfl, hb⟩; refine ⟨_, rfl, ?_⟩; replace BK304 := xd BK304.out hb; replace BK305 := xd BK305.out hb; replace BK306 := xd BK306.out hb; replace BK307 := xd BK307.out hb; replace HB := xy (below_step xb hb); (try clear hb); (try clear hb2); (try clear hk); (try clear hi); have hnb19 := NB307_306.out; have hnc19 := NB306_307.out; obtain ⟨hcz20_0, hcz20_1, hcz20_2⟩ := kt3 BK307.out; obtain ⟨hfz20_0, hfz20_1, hfz20_2⟩ := kz3 BK307.out))
 refine bodyPost_ret (results_cell_row rfl _ _ gb307 24 #[.bool t309, .int .i64 t310, .string t311] (0, 0) _ rfl (kp BK307.out) Tryz.underlying24 rfl (by kernel_rfl)) rfl ?_
 exact ⟨xe, xb⟩
def value_val_less.f (k : Nat) (a0_0 : Bool) (a0_1 : Int) (a0_2 : ByteArray) (a1_0 : Bool) (a1_1 : Int) (a1_2 : ByteArray) (a2_0 : Bool) (a2_1 : Int) (a2_2 : ByteArray) : Option (Bool × Int × ByteArray) := (value_Compare.f k a0_0 a0_1 a0_2 a1_0 a1_1 a1_2).bind fun t316 => ((value_yes.f (decide (t316 < 0))).bind fun bt317 => (some (bt317.1, bt317.2.1, bt317.2.2)))
theorem value_val_less.mono : ∀ a0 a1 a2 a3 a4 a5 a6 a7 a8 k, LeO (value_val_less.f k a0 a1 a2 a3 a4 a5 a6 a7 a8) (value_val_less.f (k + 1) a0 a1 a2 a3 a4 a5 a6 a7 a8) := by
 intro a0 a1 a2 a3 a4 a5 a6 a7 a8 k
 unfold value_val_less.f
 repeat' (with_reducible first | exact value_Compare.mono _ _ _ _ _ _ _ | exact LeO.refl _ | exact LeO.none _ | refine LeO.ite ?_ ?_ | refine LeO.bind ?_ (fun _ => ?_))
set_option maxHeartbeats 8000000 in
set_option maxRecDepth 100000 in
theorem value_val_less.calls (k : Nat) (a0_0 : Bool) (a0_1 : Int) (a0_2 : ByteArray) (a1_0 : Bool) (a1_1 : Int) (a1_2 : ByteArray) (a2_0 : Bool) (a2_1 : Int) (a2_2 : ByteArray) (r1 : Bool) (r2 : Int) (r3 : ByteArray) (w : World) (hT : Tabs w) (h : value_val_less.f k a0_0 a0_1 a0_2 a1_0 a1_1 a1_2 a2_0 a2_1 a2_2 = some (r1, r2, r3)) :
  Calls Tryz.prog 87 #[.agg #[.bool a0_0, .int .i64 a0_1, .string a0_2], .agg #[.bool a1_0, .int .i64 a1_1, .string a1_2], .agg #[.bool a2_0, .int .i64 a2_1, .string a2_2]] w fun e w' => e = .returned (.agg #[.bool r1, .int .i64 r2, .string r3]) ∧ Below w.heap.size w w' := by
 have hu137 := Tryz.underlying137
 have hu24 := Tryz.underlying24
 have HB := xy (Below.refl w.heap.size w)
 unfold value_val_less.f at h
 have H := h
 clear h
 replace H := xj H
 obtain ⟨t316, A40, H⟩ := H
 try dsimp only at H
 have A4 := xy A40
 clear A40
 replace H := xj H
 obtain ⟨⟨t317, t318, t319⟩, A50, H⟩ := H
 try dsimp only at H
 have A5 := xy A50
 clear A50
 simp only [Option.some.injEq, Prod.mk.injEq] at H
 obtain ⟨rfl, rfl, rfl⟩ := H
 go_enter Tryz.func87, Tryz.ntmps87
 go_wp2_with (first | ((with_reducible refine gate_dst (N := 3) rfl ?_); refine xq (N := 3) (cs := #[.bool a0_0, .int .i64 a0_1, .string a0_2]) (t := 137) ?_; intro gb312 hg w6 hbox hb; have BK312 := xy (hbox); have GW312 := xs w hg; have GE312 := xs w hg; replace HB := xy (below_step xb hb); clear hb hbox hg) | ((with_reducible refine gate_dst (N := 4) rfl ?_); refine xq (N := 4) (cs := #[.bool a1_0, .int .i64 a1_1, .string a1_2]) (t := 137) ?_; intro gb313 hg w7 hbox hb; have BK313 := xy (hbox); have GW313 := xs w hg; have GE313 := xs w hg; replace HB := xy (below_step xb hb); have NB312_313 := xn hg BK312.out; have NB313_312 := xp hg BK312.out; replace BK312 := xd BK312.out hb; clear hb hbox hg) | ((with_reducible refine gate_dst (N := 5) rfl ?_); refine xq (N := 5) (cs := #[.bool a2_0, .int .i64 a2_1, .string a2_2]) (t := 137) ?_; intro gb314 hg w8 hbox hb; have BK314 := xy (hbox); have GW314 := xs w hg; have GE314 := xs w hg; replace HB := xy (below_step xb hb); have NB312_314 := xn hg BK312.out; have NB314_312 := xp hg BK312.out; replace BK312 := xd BK312.out hb; have NB313_314 := xn hg BK313.out; have NB314_313 := xp hg BK313.out; replace BK313 := xd BK313.out hb; clear hb hbox hg) | ((with_reducible refine gate_dst (N := 6) rfl ?_); refine xq (N := 6) (cs := #[.bool false, .int .i64 0, .string (⟨#[]⟩ : ByteArray)]) (t := 24) ?_; intro gb315 hg w9 hbox hb; have BK315 := xy (hbox); have GW315 := xs w hg; have GE315 := xs w hg; replace HB := xy (below_step xb hb); have NB312_315 := xn hg BK312.out; have NB315_312 := xp hg BK312.out; replace BK312 := xd BK312.out hb; have NB313_315 := xn hg BK313.out; have NB315_313 := xp hg BK313.out; replace BK313 := xd BK313.out hb; have NB314_315 := xn hg BK314.out; have NB315_314 := xp hg BK314.out; replace BK314 := xd BK314.out hb; clear hb hbox hg; have hnb10 := NB312_313.out; have hnc10 := NB313_312.out; have hnb11 := NB312_314.out; have hnc11 := NB314_312.out; have hnb12 := NB312_315.out; have hnc12 := NB315_312.out; obtain ⟨hcz13_0, hcz13_1, hcz13_2⟩ := kt3 BK312.out; obtain ⟨hfz13_0, hfz13_1, hfz13_2⟩ := kz3 BK312.out; have hnb14 := NB313_314.out; have hnc14 := NB314_313.out; have hnb15 := NB313_315.out; have hnc15 := NB315_313.out; obtain ⟨hcz16_0, hcz16_1, hcz16_2⟩ := kt3 BK313.out; obtain ⟨hfz16_0, hfz16_1, hfz16_2⟩ := kz3 BK313.out) | ((with_reducible refine gate_callee (f := 97) rfl ?_); refine goesL_ (some 9) rfl rfl Tryz.func97 (by kernel_rfl) rfl #[.agg #[.bool a0_0, .int .i64 a0_1, .string a0_2], .agg #[.bool a1_0, .int .i64 a1_1, .string a1_2]] rfl xr ?_; (with_reducible refine (value_Compare.calls k a0_0 a0_1 a0_2 a1_0 a1_1 a1_2 t316 _ (Tabs.below hT xf) A4.out).mono ?_); rintro e w17 ⟨rfl, hb⟩; refine ⟨_, rfl, ?_⟩; replace BK312 := xd BK312.out hb; replace BK313 := xd BK313.out hb; replace BK314 := xd BK314.out hb; replace BK315 := xd BK315.out hb; replace HB := xy (below_step xb hb); (try clear hb); (try clear hb2); (try clear hk); (try clear hi)) | ((with_reducible refine gate_callee (f := 96) rfl ?_); refine goesL_ (some 11) rfl rfl Tryz.func96 (by kernel_rfl) rfl #[.bool (decide (t316 < 0))] rfl xr ?_; (with_reducible refine (value_yes.calls (decide (t316 < 0)) t317 t318 t319 _ (Tabs.below hT xf) A5.out).mono ?_); rintro e w18 ⟨rfl, hb⟩; refine ⟨_, rfl, ?_⟩; replace BK312 := xd BK312.out hb; replace BK313 := xd BK313.out hb; replace BK314 := xd BK314.out hb; replace BK315 := xd BK315.out hb; replace HB := xy (below_step xb hb); (try clear hb); (try clear hb2); (try clear hk); (try clear hi); have hnb19 := NB315_314.out; have hnc19 := NB314_315.out; obtain ⟨hcz20_0, hcz20_1, hcz20_2⟩ := kt3 BK315.out; obtain ⟨hfz20_0, hfz20_1, hfz20_2⟩ := kz3 BK315.out))
 refine bodyPost_ret (results_cell_row rfl _ _ gb315 24 #[.bool t317, .int .i64 t318, .string t319] (0, 0) _ rfl (kp BK315.out) Tryz.underlying24 rfl (by kernel_rfl)) rfl ?_
 exact ⟨xe, xb⟩
def value_val_not.f (a0_0 : Bool) (a0_1 : Int) (a0_2 : ByteArray) (a1_0 : Bool) (a1_1 : Int) (a1_2 : ByteArray) (a2_0 : Bool) (a2_1 : Int) (a2_2 : ByteArray) : Option (Bool × Int × ByteArray) := (value_yes.f (a0_1 == 0)).bind fun bt324 => (some (bt324.1, bt324.2.1, bt324.2.2))
set_option maxHeartbeats 8000000 in
set_option maxRecDepth 100000 in
theorem value_val_not.calls (a0_0 : Bool) (a0_1 : Int) (a0_2 : ByteArray) (a1_0 : Bool) (a1_1 : Int) (a1_2 : ByteArray) (a2_0 : Bool) (a2_1 : Int) (a2_2 : ByteArray) (r1 : Bool) (r2 : Int) (r3 : ByteArray) (w : World) (hT : Tabs w) (h : value_val_not.f a0_0 a0_1 a0_2 a1_0 a1_1 a1_2 a2_0 a2_1 a2_2 = some (r1, r2, r3)) :
  Calls Tryz.prog 88 #[.agg #[.bool a0_0, .int .i64 a0_1, .string a0_2], .agg #[.bool a1_0, .int .i64 a1_1, .string a1_2], .agg #[.bool a2_0, .int .i64 a2_1, .string a2_2]] w fun e w' => e = .returned (.agg #[.bool r1, .int .i64 r2, .string r3]) ∧ Below w.heap.size w w' := by
 have hu137 := Tryz.underlying137
 have hu24 := Tryz.underlying24
 have HB := xy (Below.refl w.heap.size w)
 unfold value_val_not.f at h
 have H := h
 clear h
 replace H := xj H
 obtain ⟨⟨t324, t325, t326⟩, A40, H⟩ := H
 try dsimp only at H
 have A4 := xy A40
 clear A40
 simp only [Option.some.injEq, Prod.mk.injEq] at H
 obtain ⟨rfl, rfl, rfl⟩ := H
 go_enter Tryz.func88, Tryz.ntmps88
 go_wp2_with (first | ((with_reducible refine gate_dst (N := 3) rfl ?_); refine xq (N := 3) (cs := #[.bool a0_0, .int .i64 a0_1, .string a0_2]) (t := 137) ?_; intro gb320 hg w5 hbox hb; have BK320 := xy (hbox); have GW320 := xs w hg; have GE320 := xs w hg; replace HB := xy (below_step xb hb); clear hb hbox hg) | ((with_reducible refine gate_dst (N := 4) rfl ?_); refine xq (N := 4) (cs := #[.bool a1_0, .int .i64 a1_1, .string a1_2]) (t := 137) ?_; intro gb321 hg w6 hbox hb; have BK321 := xy (hbox); have GW321 := xs w hg; have GE321 := xs w hg; replace HB := xy (below_step xb hb); have NB320_321 := xn hg BK320.out; have NB321_320 := xp hg BK320.out; replace BK320 := xd BK320.out hb; clear hb hbox hg) | ((with_reducible refine gate_dst (N := 5) rfl ?_); refine xq (N := 5) (cs := #[.bool a2_0, .int .i64 a2_1, .string a2_2]) (t := 137) ?_; intro gb322 hg w7 hbox hb; have BK322 := xy (hbox); have GW322 := xs w hg; have GE322 := xs w hg; replace HB := xy (below_step xb hb); have NB320_322 := xn hg BK320.out; have NB322_320 := xp hg BK320.out; replace BK320 := xd BK320.out hb; have NB321_322 := xn hg BK321.out; have NB322_321 := xp hg BK321.out; replace BK321 := xd BK321.out hb; clear hb hbox hg) | ((with_reducible refine gate_dst (N := 6) rfl ?_); refine xq (N := 6) (cs := #[.bool false, .int .i64 0, .string (⟨#[]⟩ : ByteArray)]) (t := 24) ?_; intro gb323 hg w8 hbox hb; have BK323 := xy (hbox); have GW323 := xs w hg; have GE323 := xs w hg; replace HB := xy (below_step xb hb); have NB320_323 := xn hg BK320.out; have NB323_320 := xp hg BK320.out; replace BK320 := xd BK320.out hb; have NB321_323 := xn hg BK321.out; have NB323_321 := xp hg BK321.out; replace BK321 := xd BK321.out hb; have NB322_323 := xn hg BK322.out; have NB323_322 := xp hg BK322.out; replace BK322 := xd BK322.out hb; clear hb hbox hg; have hnb9 := NB320_321.out; have hnc9 := NB321_320.out; have hnb10 := NB320_322.out; have hnc10 := NB322_320.out; have hnb11 := NB320_323.out; have hnc11 := NB323_320.out; obtain ⟨hcz12_0, hcz12_1, hcz12_2⟩ := kt3 BK320.out; obtain ⟨hfz12_0, hfz12_1, hfz12_2⟩ := kz3 BK320.out) | ((with_reducible refine gate_callee (f := 96) rfl ?_); refine goesL_ (some 10) rfl rfl Tryz.func96 (by kernel_rfl) rfl #[.bool (a0_1 == 0)] rfl xr ?_; (with_reducible refine (value_yes.calls (a0_1 == 0) t324 t325 t326 _ (Tabs.below hT xf) A4.out).mono ?_); rintro e w13 ⟨rfl, hb⟩; refine ⟨_, rfl, ?_⟩; replace BK320 := xd BK320.out hb; replace BK321 := xd BK321.out hb; replace BK322 := xd BK322.out hb; replace BK323 := xd BK323.out hb; replace HB := xy (below_step xb hb); (try clear hb); (try clear hb2); (try clear hk); (try clear hi); have hnb14 := NB323_321.out; have hnc14 := NB321_323.out; have hnb15 := NB323_322.out; have hnc15 := NB322_323.out; obtain ⟨hcz16_0, hcz16_1, hcz16_2⟩ := kt3 BK323.out; obtain ⟨hfz16_0, hfz16_1, hfz16_2⟩ := kz3 BK323.out))
 refine bodyPost_ret (results_cell_row rfl _ _ gb323 24 #[.bool t324, .int .i64 t325, .string t326] (0, 0) _ rfl (kp BK323.out) Tryz.underlying24 rfl (by kernel_rfl)) rfl ?_
 exact ⟨xe, xb⟩
def value_val_choose.f (a0_0 : Bool) (a0_1 : Int) (a0_2 : ByteArray) (a1_0 : Bool) (a1_1 : Int) (a1_2 : ByteArray) (a2_0 : Bool) (a2_1 : Int) (a2_2 : ByteArray) : Option (Bool × Int × ByteArray) := if a0_1 = 0 then (some (a2_0, a2_1, a2_2)) else (some (a1_0, a1_1, a1_2))
set_option maxHeartbeats 8000000 in
set_option maxRecDepth 100000 in
theorem value_val_choose.calls (a0_0 : Bool) (a0_1 : Int) (a0_2 : ByteArray) (a1_0 : Bool) (a1_1 : Int) (a1_2 : ByteArray) (a2_0 : Bool) (a2_1 : Int) (a2_2 : ByteArray) (r1 : Bool) (r2 : Int) (r3 : ByteArray) (w : World) (hT : Tabs w) (h : value_val_choose.f a0_0 a0_1 a0_2 a1_0 a1_1 a1_2 a2_0 a2_1 a2_2 = some (r1, r2, r3)) :
  Calls Tryz.prog 89 #[.agg #[.bool a0_0, .int .i64 a0_1, .string a0_2], .agg #[.bool a1_0, .int .i64 a1_1, .string a1_2], .agg #[.bool a2_0, .int .i64 a2_1, .string a2_2]] w fun e w' => e = .returned (.agg #[.bool r1, .int .i64 r2, .string r3]) ∧ Below w.heap.size w w' := by
 have hu137 := Tryz.underlying137
 have hu24 := Tryz.underlying24
 have HB := xy (Below.refl w.heap.size w)
 unfold value_val_choose.f at h
 have H := h
 clear h
 by_cases c4 : a0_1 = 0
 ·rw [if_pos c4] at H
  have c4b0 : (a0_1 == 0) = true := beq_iff_eq.mpr c4
  have c4b1 : (a0_1 != 0) = false := bne_eq_false_iff_eq.mpr c4
  clear c4
  simp only [Option.some.injEq, Prod.mk.injEq] at H
  obtain ⟨rfl, rfl, rfl⟩ := H
  go_enter Tryz.func89, Tryz.ntmps89
  go_wp2_with (first | ((with_reducible refine gate_dst (N := 3) rfl ?_); refine xq (N := 3) (cs := #[.bool a0_0, .int .i64 a0_1, .string a0_2]) (t := 137) ?_; intro gb327 hg w5 hbox hb; have BK327 := xy (hbox); have GW327 := xs w hg; have GE327 := xs w hg; replace HB := xy (below_step xb hb); clear hb hbox hg) | ((with_reducible refine gate_dst (N := 4) rfl ?_); refine xq (N := 4) (cs := #[.bool a1_0, .int .i64 a1_1, .string a1_2]) (t := 137) ?_; intro gb328 hg w6 hbox hb; have BK328 := xy (hbox); have GW328 := xs w hg; have GE328 := xs w hg; replace HB := xy (below_step xb hb); have NB327_328 := xn hg BK327.out; have NB328_327 := xp hg BK327.out; replace BK327 := xd BK327.out hb; clear hb hbox hg) | ((with_reducible refine gate_dst (N := 5) rfl ?_); refine xq (N := 5) (cs := #[.bool a2_0, .int .i64 a2_1, .string a2_2]) (t := 137) ?_; intro gb329 hg w7 hbox hb; have BK329 := xy (hbox); have GW329 := xs w hg; have GE329 := xs w hg; replace HB := xy (below_step xb hb); have NB327_329 := xn hg BK327.out; have NB329_327 := xp hg BK327.out; replace BK327 := xd BK327.out hb; have NB328_329 := xn hg BK328.out; have NB329_328 := xp hg BK328.out; replace BK328 := xd BK328.out hb; clear hb hbox hg) | ((with_reducible refine gate_dst (N := 6) rfl ?_); refine xq (N := 6) (cs := #[.bool false, .int .i64 0, .string (⟨#[]⟩ : ByteArray)]) (t := 24) ?_; intro gb330 hg w8 hbox hb; have BK330 := xy (hbox); have GW330 := xs w hg; have GE330 := xs w hg; replace HB := xy (below_step xb hb); have NB327_330 := xn hg BK327.out; have NB330_327 := xp hg BK327.out; replace BK327 := xd BK327.out hb; have NB328_330 := xn hg BK328.out; have NB330_328 := xp hg BK328.out; replace BK328 := xd BK328.out hb; have NB329_330 := xn hg BK329.out; have NB330_329 := xp hg BK329.out; replace BK329 := xd BK329.out hb; clear hb hbox hg; have hnb9 := NB327_328.out; have hnc9 := NB328_327.out; have hnb10 := NB327_329.out; have hnc10 := NB329_327.out; have hnb11 := NB327_330.out; have hnc11 := NB330_327.out; obtain ⟨hcz12_0, hcz12_1, hcz12_2⟩ := kt3 BK327.out; obtain ⟨hfz12_0, hfz12_1, hfz12_2⟩ := kz3 BK327.out; have hnb13 := NB329_328.out; have hnc13 := NB328_329.out; have hnb14 := NB329_330.out; have hnc14 := NB330_329.out; obtain ⟨hcz15_0, hcz15_1, hcz15_2⟩ := kt3 BK329.out; obtain ⟨hfz15_0, hfz15_1, hfz15_2⟩ := kz3 BK329.out; have hnb16 := NB330_328.out; have hnc16 := NB328_330.out; obtain ⟨hcz17_0, hcz17_1, hcz17_2⟩ := kt3 BK330.out; obtain ⟨hfz17_0, hfz17_1, hfz17_2⟩ := kz3 BK330.out))
  refine bodyPost_ret (results_cell_row rfl _ _ gb330 24 #[.bool a2_0, .int .i64 a2_1, .string a2_2] (0, 0) _ rfl (kp BK330.out) Tryz.underlying24 rfl (by kernel_rfl)) rfl ?_
  exact ⟨xe, xb⟩
 ·rw [if_neg c4] at H
  have c4b0 : (a0_1 == 0) = false := beq_eq_false_iff_ne.mpr c4
  have c4b1 : (a0_1 != 0) = true := bne_iff_ne.mpr c4
  simp only [Option.some.injEq, Prod.mk.injEq] at H
  obtain ⟨rfl, rfl, rfl⟩ := H
  go_enter Tryz.func89, Tryz.ntmps89
  go_wp2_with (first | ((with_reducible refine gate_dst (N := 3) rfl ?_); refine xq (N := 3) (cs := #[.bool a0_0, .int .i64 a0_1, .string a0_2]) (t := 137) ?_; intro gb327 hg w18 hbox hb; have BK327 := xy (hbox); have GW327 := xs w hg; have GE327 := xs w hg; replace HB := xy (below_step xb hb); clear hb hbox hg) | ((with_reducible refine gate_dst (N := 4) rfl ?_); refine xq (N := 4) (cs := #[.bool a1_0, .int .i64 a1_1, .string a1_2]) (t := 137) ?_; intro gb328 hg w19 hbox hb; have BK328 := xy (hbox); have GW328 := xs w hg; have GE328 := xs w hg; replace HB := xy (below_step xb hb); have NB327_328 := xn hg BK327.out; have NB328_327 := xp hg BK327.out; replace BK327 := xd BK327.out hb; clear hb hbox hg) | ((with_reducible refine gate_dst (N := 5) rfl ?_); refine xq (N := 5) (cs := #[.bool a2_0, .int .i64 a2_1, .string a2_2]) (t := 137) ?_; intro gb329 hg w20 hbox hb; have BK329 := xy (hbox); have GW329 := xs w hg; have GE329 := xs w hg; replace HB := xy (below_step xb hb); have NB327_329 := xn hg BK327.out; have NB329_327 := xp hg BK327.out; replace BK327 := xd BK327.out hb; have NB328_329 := xn hg BK328.out; have NB329_328 := xp hg BK328.out; replace BK328 := xd BK328.out hb; clear hb hbox hg) | ((with_reducible refine gate_dst (N := 6) rfl ?_); refine xq (N := 6) (cs := #[.bool false, .int .i64 0, .string (⟨#[]⟩ : ByteArray)]) (t := 24) ?_; intro gb330 hg w21 hbox hb; have BK330 := xy (hbox); have GW330 := xs w hg; have GE330 := xs w hg; replace HB := xy (below_step xb hb); have NB327_330 := xn hg BK327.out; have NB330_327 := xp hg BK327.out; replace BK327 := xd BK327.out hb; have NB328_330 := xn hg BK328.out; have NB330_328 := xp hg BK328.out; replace BK328 := xd BK328.out hb; have NB329_330 := xn hg BK329.out; have NB330_329 := xp hg BK329.out; replace BK329 := xd BK329.out hb; clear hb hbox hg; have hnb22 := NB327_328.out; have hnc22 := NB328_327.out; have hnb23 := NB327_329.out; have hnc23 := NB329_327.out; have hnb24 := NB327_330.out; have hnc24 := NB330_327.out; obtain ⟨hcz25_0, hcz25_1, hcz25_2⟩ := kt3 BK327.out; obtain ⟨hfz25_0, hfz25_1, hfz25_2⟩ := kz3 BK327.out; have hnb26 := NB328_329.out; have hnc26 := NB329_328.out; have hnb27 := NB328_330.out; have hnc27 := NB330_328.out; obtain ⟨hcz28_0, hcz28_1, hcz28_2⟩ := kt3 BK328.out; obtain ⟨hfz28_0, hfz28_1, hfz28_2⟩ := kz3 BK328.out; have hnb29 := NB330_329.out; have hnc29 := NB329_330.out; obtain ⟨hcz30_0, hcz30_1, hcz30_2⟩ := kt3 BK330.out; obtain ⟨hfz30_0, hfz30_1, hfz30_2⟩ := kz3 BK330.out))
  refine bodyPost_ret (results_cell_row rfl _ _ gb330 24 #[.bool a1_0, .int .i64 a1_1, .string a1_2] (0, 0) _ rfl (kp BK330.out) Tryz.underlying24 rfl (by kernel_rfl)) rfl ?_
  exact ⟨xe, xb⟩
def stringslite_HasPrefix.f (a0 : ByteArray) (a1 : ByteArray) : Option (Bool) := if (a0.size : Int) ≥ (a1.size : Int) then (if 0 ≤ (a1.size : Int) then (if (a1.size : Int) ≤ (a0.size : Int) then (some ((a0.extract 0 ((a1.size : Int) : Int).toNat).toList == a1.toList)) else (none)) else (none)) else (some false)
set_option maxHeartbeats 8000000 in
set_option maxRecDepth 100000 in
theorem stringslite_HasPrefix.calls (a0 : ByteArray) (a1 : ByteArray) (r : Bool) (w : World) (hT : Tabs w) (h : stringslite_HasPrefix.f a0 a1 = some r) :
  Calls Tryz.prog 118 #[.string a0, .string a1] w fun e w' => e = .returned (.bool r) ∧ Drawn0 w w' := by
 unfold stringslite_HasPrefix.f at h
 have H := h
 clear h
 by_cases c3 : (a0.size : Int) ≥ (a1.size : Int)
 ·rw [if_pos c3] at H
  have c3b0 : decide ((a1.size : Int) ≤ (a0.size : Int)) = true := decide_eq_true c3
  have c3b1 : decide (a1.size ≤ a0.size) = true := decide_eq_true (Int.ofNat_le.mp c3)
  clear c3
  by_cases c4 : 0 ≤ (a1.size : Int)
  ·rw [if_pos c4] at H
   have c4b0 := eq_true c4
   have c4b1 : decide (0 ≤ (a1.size : Int)) = true := decide_eq_true c4
   clear c4
   by_cases c5 : (a1.size : Int) ≤ (a0.size : Int)
   ·rw [if_pos c5] at H
    have c5b0 := eq_true c5
    have c5b1 : decide ((a1.size : Int) ≤ (a0.size : Int)) = true := decide_eq_true c5
    clear c5
    obtain rfl := Option.some.inj H
    go_enter Tryz.func118, Tryz.ntmps118
    go_wp2
    go_ret
    exact ⟨xg, xz⟩
   ·rw [if_neg c5] at H
    exact absurd H (by simp)
  ·rw [if_neg c4] at H
   exact absurd H (by simp)
 ·rw [if_neg c3] at H
  have c3b0 : decide ((a1.size : Int) ≤ (a0.size : Int)) = false := decide_eq_false c3
  have c3b1 : decide (a1.size ≤ a0.size) = false := decide_eq_false (fun h => c3 (Int.ofNat_le.mpr h))
  clear c3
  obtain rfl := Option.some.inj H
  go_enter Tryz.func118, Tryz.ntmps118
  go_wp2
  go_ret
  exact ⟨xg, xz⟩
def stringslite_TrimPrefix.f (a0 : ByteArray) (a1 : ByteArray) : Option (ByteArray) := (stringslite_HasPrefix.f a0 a1).bind fun t331 => (if t331 = true then (if 0 ≤ (a1.size : Int) then (if (a1.size : Int) ≤ (a0.size : Int) then (some (a0.extract ((a1.size : Int) : Int).toNat a0.size)) else (none)) else (none)) else (some a0))
set_option maxHeartbeats 8000000 in
set_option maxRecDepth 100000 in
theorem stringslite_TrimPrefix.calls (a0 : ByteArray) (a1 : ByteArray) (r : ByteArray) (w : World) (hT : Tabs w) (h : stringslite_TrimPrefix.f a0 a1 = some r) :
  Calls Tryz.prog 105 #[.string a0, .string a1] w fun e w' => e = .returned (.string r) ∧ Drawn0 w w' := by
 unfold stringslite_TrimPrefix.f at h
 have H := h
 clear h
 replace H := xj H
 obtain ⟨t331, A30, H⟩ := H
 try dsimp only at H
 have A3 := xy A30
 clear A30
 by_cases c4 : t331 = true
 ·subst c4
  rw [if_pos rfl] at H
  by_cases c5 : 0 ≤ (a1.size : Int)
  ·rw [if_pos c5] at H
   have c5b0 := eq_true c5
   have c5b1 : decide (0 ≤ (a1.size : Int)) = true := decide_eq_true c5
   clear c5
   by_cases c6 : (a1.size : Int) ≤ (a0.size : Int)
   ·rw [if_pos c6] at H
    have c6b0 := eq_true c6
    have c6b1 : decide ((a1.size : Int) ≤ (a0.size : Int)) = true := decide_eq_true c6
    clear c6
    obtain rfl := Option.some.inj H
    go_enter Tryz.func105, Tryz.ntmps105
    go_wp2_with (((with_reducible refine gate_callee (f := 118) rfl ?_); refine goesL_ (some 7) rfl rfl Tryz.func118 (by kernel_rfl) rfl #[.string a0, .string a1] rfl xr ?_; (with_reducible refine (stringslite_HasPrefix.calls a0 a1 true _ (Tabs.below hT xf) A3.out).mono ?_); rintro e w' ⟨rfl, ⟨nd, rfl⟩⟩; refine ⟨_, rfl, ?_⟩))
    go_ret
    exact ⟨xg, xz⟩
   ·rw [if_neg c6] at H
    exact absurd H (by simp)
  ·rw [if_neg c5] at H
   exact absurd H (by simp)
 ·replace c4 := Bool.eq_false_iff.mpr c4
  subst c4
  rw [if_neg (show ¬ (false = true) by decide)] at H
  obtain rfl := Option.some.inj H
  go_enter Tryz.func105, Tryz.ntmps105
  go_wp2_with (((with_reducible refine gate_callee (f := 118) rfl ?_); refine goesL_ (some 7) rfl rfl Tryz.func118 (by kernel_rfl) rfl #[.string a0, .string a1] rfl xr ?_; (with_reducible refine (stringslite_HasPrefix.calls a0 a1 false _ (Tabs.below hT xf) A3.out).mono ?_); rintro e w' ⟨rfl, ⟨nd, rfl⟩⟩; refine ⟨_, rfl, ?_⟩))
  go_ret
  exact ⟨xg, xz⟩
def strings_TrimPrefix.f (a0 : ByteArray) (a1 : ByteArray) : Option (ByteArray) := (stringslite_TrimPrefix.f a0 a1).bind fun t332 => (some t332)
set_option maxHeartbeats 8000000 in
set_option maxRecDepth 100000 in
theorem strings_TrimPrefix.calls (a0 : ByteArray) (a1 : ByteArray) (r : ByteArray) (w : World) (hT : Tabs w) (h : strings_TrimPrefix.f a0 a1 = some r) :
  Calls Tryz.prog 98 #[.string a0, .string a1] w fun e w' => e = .returned (.string r) ∧ Drawn0 w w' := by
 unfold strings_TrimPrefix.f at h
 have H := h
 clear h
 replace H := xj H
 obtain ⟨t332, A30, H⟩ := H
 try dsimp only at H
 have A3 := xy A30
 clear A30
 obtain rfl := Option.some.inj H
 go_enter Tryz.func98, Tryz.ntmps98
 go_wp2_with (((with_reducible refine gate_callee (f := 105) rfl ?_); refine goesL_ (some 7) rfl rfl Tryz.func105 (by kernel_rfl) rfl #[.string a0, .string a1] rfl xr ?_; (with_reducible refine (stringslite_TrimPrefix.calls a0 a1 t332 _ (Tabs.below hT xf) A3.out).mono ?_); rintro e w' ⟨rfl, ⟨nd, rfl⟩⟩; refine ⟨_, rfl, ?_⟩))
 go_ret
 exact ⟨xg, xz⟩
def strings_Trim.f (a0 : ByteArray) (a1 : ByteArray) : Option (ByteArray) := if a0.size ≤ 9223372036854775807 ∧ a1.size < 4294967281 ∧ (a1.data.toList.all fun b => decide (b.toNat < 128)) = true then some ⟨(Lib.trimS a0.data.toList a1.data.toList).toArray⟩ else none
theorem strings_Trim.calls (a0 : ByteArray) (a1 : ByteArray) (r : ByteArray) (w : World) (hT : Tabs w) (h : strings_Trim.f a0 a1 = some r) :
  Calls Tryz.prog 99 #[.string a0, .string a1] w fun e w' => e = .returned (.string r) ∧ Below w.heap.size w w' := by
 unfold strings_Trim.f at h
 by_cases hq : a0.size ≤ 9223372036854775807 ∧ a1.size < 4294967281 ∧ (a1.data.toList.all fun b => decide (b.toNat < 128)) = true
 ·rw [if_pos hq] at h
  obtain ⟨h1, h2, h3⟩ := hq
  obtain rfl := Option.some.inj h
  refine (Any.strings_Trim_laid Tryz.lays160 (by kernel_rfl) a0 a1 w h1 h2 (fun j b hj => ?_)).mono ?_
  ·have := List.all_eq_true.1 h3 b (List.mem_of_getElem? hj)
   simpa using this
  ·rintro e w' ⟨rfl, hb⟩
   exact ⟨rfl, hb⟩
 ·rw [if_neg hq] at h
  cases h
def strconv_Atoi.f (a0 : ByteArray) : Option (Int × Option Int) := if a0.size ≤ 9223372036854775806 then (match Lib.atoiAll a0.data.toList with | .ok n => some (n, none) | _ => none) else none
theorem strconv_Atoi.calls (a0 : ByteArray) (r1 : Int) (r2 : Option Int) (w : World) (hT : Tabs w) (h : strconv_Atoi.f a0 = some (r1, r2)) :
  Calls Tryz.prog 100 #[.string a0] w fun e w' => e = .returned (.tuple #[.int .i64 r1, errW r2]) ∧ Below w.heap.size w w' := by
 unfold strconv_Atoi.f at h
 split at h
 ·split at h
  ·simp only [Option.some.injEq, Prod.mk.injEq] at h
   obtain ⟨rfl, rfl⟩ := h
   refine (Any.strconv_Atoi_ok Tryz.laysC172 a0 (by assumption) _ (by assumption) w).mono ?_
   rintro e w' ⟨rfl, hw⟩
   refine ⟨rfl, ?_⟩
   rcases hw with rfl | ⟨t, rfl⟩
   ·exact Below.refl _ _
   ·exact bytes_below (Below.refl _ _) (Nat.le_refl _) _ t
  ·cases h
 ·cases h
def value_val_number.j0 : Nat → Bool → Bool → Int → ByteArray → Option (Bool × Int × ByteArray)
 | 0, _, _, _, _ => none
 | k + 1, x24, x334000, x334001, x334002 => if x24 = true then ((value_Num.f 0).bind fun bt339 => (some (bt339.1, bt339.2.1, bt339.2.2))) else ((strconv_Atoi.f x334002).bind fun bt342 => ((value_Num.f bt342.1).bind fun bt344 => (some (bt344.1, bt344.2.1, bt344.2.2))))
def value_val_number.f (k : Nat) (a0_0 : Bool) (a0_1 : Int) (a0_2 : ByteArray) (a1_0 : Bool) (a1_1 : Int) (a1_2 : ByteArray) (a2_0 : Bool) (a2_1 : Int) (a2_2 : ByteArray) : Option (Bool × Int × ByteArray) := (strings_TrimPrefix.f a0_2 (⟨#[45]⟩ : ByteArray)).bind fun t337 => (if t337.toList = ([] : List UInt8) then (value_val_number.j0 k true a0_0 a0_1 a0_2) else (if (t337.size : Int) > 18 then (value_val_number.j0 k true a0_0 a0_1 a0_2) else ((strings_Trim.f t337 (⟨#[48, 49, 50, 51, 52, 53, 54, 55, 56, 57]⟩ : ByteArray)).bind fun t338 => (value_val_number.j0 k (t338.toList != ([] : List UInt8)) a0_0 a0_1 a0_2))))
theorem value_val_number.mono_l : ∀ k, (∀ y0 y1 y2 y3, LeO (value_val_number.j0 k y0 y1 y2 y3) (value_val_number.j0 (k + 1) y0 y1 y2 y3))
 | 0 => fun _ _ _ _ r h => by simp [value_val_number.j0] at h
 | k + 1 => by
  have ih0 := value_val_number.mono_l k
  ·intro y0 y1 y2 y3
   unfold value_val_number.j0
   repeat' (with_reducible first | exact ih0 _ _ _ _ | exact LeO.refl _ | exact LeO.none _ | refine LeO.ite ?_ ?_ | refine LeO.bind ?_ (fun _ => ?_))
theorem value_val_number.mono : ∀ a0 a1 a2 a3 a4 a5 a6 a7 a8 k, LeO (value_val_number.f k a0 a1 a2 a3 a4 a5 a6 a7 a8) (value_val_number.f (k + 1) a0 a1 a2 a3 a4 a5 a6 a7 a8) := by
 intro a0 a1 a2 a3 a4 a5 a6 a7 a8 k
 have ih0 := value_val_number.mono_l k
 unfold value_val_number.f
 repeat' (with_reducible first | exact ih0 _ _ _ _ | exact LeO.refl _ | exact LeO.none _ | refine LeO.ite ?_ ?_ | refine LeO.bind ?_ (fun _ => ?_))
set_option maxHeartbeats 8000000 in
set_option maxRecDepth 100000 in
theorem value_val_number.calls (k : Nat) (a0_0 : Bool) (a0_1 : Int) (a0_2 : ByteArray) (a1_0 : Bool) (a1_1 : Int) (a1_2 : ByteArray) (a2_0 : Bool) (a2_1 : Int) (a2_2 : ByteArray) (r1 : Bool) (r2 : Int) (r3 : ByteArray) (w : World) (hT : Tabs w) (h : value_val_number.f k a0_0 a0_1 a0_2 a1_0 a1_1 a1_2 a2_0 a2_1 a2_2 = some (r1, r2, r3)) :
  Calls Tryz.prog 90 #[.agg #[.bool a0_0, .int .i64 a0_1, .string a0_2], .agg #[.bool a1_0, .int .i64 a1_1, .string a1_2], .agg #[.bool a2_0, .int .i64 a2_1, .string a2_2]] w fun e w' => e = .returned (.agg #[.bool r1, .int .i64 r2, .string r3]) ∧ Below w.heap.size w w' := by
 have hu137 := Tryz.underlying137
 have hu24 := Tryz.underlying24
 have HB := xy (Below.refl w.heap.size w)
 unfold value_val_number.f at h
 have H := h
 clear h
 replace H := xj H
 obtain ⟨t337, A40, H⟩ := H
 try dsimp only at H
 have A4 := xy A40
 clear A40
 have HC5 := xy H
 clear H
 go_enter Tryz.func90, Tryz.ntmps90
 go_upto_region 2 with (first | ((with_reducible refine gate_dst (N := 3) rfl ?_); (try (refine gate_guard (by rfl) ?_; dsimp only)); refine xq (N := 3) (cs := #[.bool a0_0, .int .i64 a0_1, .string a0_2]) (t := 137) ?_; intro gb333 hg w6 hbox hb; have BK333 := xy (hbox); have GW333 := xs w hg; have GE333 := xs w hg; replace HB := xy (below_step xb hb); clear hb hbox hg) | ((with_reducible refine gate_dst (N := 4) rfl ?_); (try (refine gate_guard (by rfl) ?_; dsimp only)); refine xq (N := 4) (cs := #[.bool a1_0, .int .i64 a1_1, .string a1_2]) (t := 137) ?_; intro gb334 hg w7 hbox hb; have BK334 := xy (hbox); have GW334 := xs w hg; have GE334 := xs w hg; replace HB := xy (below_step xb hb); have NB333_334 := xn hg BK333.out; have NB334_333 := xp hg BK333.out; replace BK333 := xd BK333.out hb; clear hb hbox hg) | ((with_reducible refine gate_dst (N := 5) rfl ?_); (try (refine gate_guard (by rfl) ?_; dsimp only)); refine xq (N := 5) (cs := #[.bool a2_0, .int .i64 a2_1, .string a2_2]) (t := 137) ?_; intro gb335 hg w8 hbox hb; have BK335 := xy (hbox); have GW335 := xs w hg; have GE335 := xs w hg; replace HB := xy (below_step xb hb); have NB333_335 := xn hg BK333.out; have NB335_333 := xp hg BK333.out; replace BK333 := xd BK333.out hb; have NB334_335 := xn hg BK334.out; have NB335_334 := xp hg BK334.out; replace BK334 := xd BK334.out hb; clear hb hbox hg) | ((with_reducible refine gate_dst (N := 6) rfl ?_); (try (refine gate_guard (by rfl) ?_; dsimp only)); refine xq (N := 6) (cs := #[.bool false, .int .i64 0, .string (⟨#[]⟩ : ByteArray)]) (t := 24) ?_; intro gb336 hg w9 hbox hb; have BK336 := xy (hbox); have GW336 := xs w hg; have GE336 := xs w hg; replace HB := xy (below_step xb hb); have NB333_336 := xn hg BK333.out; have NB336_333 := xp hg BK333.out; replace BK333 := xd BK333.out hb; have NB334_336 := xn hg BK334.out; have NB336_334 := xp hg BK334.out; replace BK334 := xd BK334.out hb; have NB335_336 := xn hg BK335.out; have NB336_335 := xp hg BK335.out; replace BK335 := xd BK335.out hb; clear hb hbox hg; have hnb10 := NB333_334.out; have hnc10 := NB334_333.out; have hnb11 := NB333_335.out; have hnc11 := NB335_333.out; have hnb12 := NB333_336.out; have hnc12 := NB336_333.out; obtain ⟨hcz13_0, hcz13_1, hcz13_2⟩ := kt3 BK333.out; obtain ⟨hfz13_0, hfz13_1, hfz13_2⟩ := kz3 BK333.out) | ((with_reducible refine gate_callee (f := 98) rfl ?_); refine goesL_ (some 12) rfl rfl Tryz.func98 (by kernel_rfl) rfl #[.string a0_2, .string (⟨#[45]⟩ : ByteArray)] rfl xr ?_; (with_reducible refine (strings_TrimPrefix.calls a0_2 (⟨#[45]⟩ : ByteArray) t337 _ (Tabs.below hT xf) A4.out).mono ?_); rintro e w' ⟨rfl, ⟨nd, rfl⟩⟩; refine ⟨_, rfl, ?_⟩))
 (try simp only [Act.put, List.setIfInBounds_toArray, List.set_cons_zero, List.set_cons_succ])
 go_cut [24] (fun v24 wc => ∃ (kq : Nat) (x24_4 : Bool), v24 = .bool x24_4 ∧ Aside0 (value_val_number.j0 kq x24_4 a0_0 a0_1 a0_2 = some (r1, r2, r3)) ∧ Aside0 (kq ≤ k) ∧ Aside0 (wc.heap[gb333]? = some (.cells #[.bool a0_0, .int .i64 a0_1, .string a0_2] 137 (0, 0))) ∧ Aside0 (wc.heap[gb334]? = some (.cells #[.bool a1_0, .int .i64 a1_1, .string a1_2] 137 (0, 0))) ∧ Aside0 (wc.heap[gb335]? = some (.cells #[.bool a2_0, .int .i64 a2_1, .string a2_2] 137 (0, 0))) ∧ Aside0 (wc.heap[gb336]? = some (.cells #[.bool false, .int .i64 0, .string (⟨#[]⟩ : ByteArray)] 24 (0, 0))) ∧ Aside0 (Below w.heap.size w wc))
 case first =>
  have H := HC5.out
  clear HC5
  by_cases c14 : t337.toList = ([] : List UInt8)
  ·rw [if_pos c14] at H
   have c14b0 : (t337.toList == ([] : List UInt8)) = true := beq_iff_eq.mpr c14
   have c14b1 : (t337.toList != ([] : List UInt8)) = false := bne_eq_false_iff_eq.mpr c14
   clear c14
   (first | rw [c14b0] | (simp only [i64_w, i32_w]; rw [c14b0]) | skip)
   have H' := xy H
   clear H
   go_wp2
   go_meet
   case rel => exact ⟨_, (true), xg, H', ⟨by first | omega | exact Nat.le_refl _⟩, ⟨by (with_reducible repeat (first | refine blk_drewN ?_ _ | refine blk_drew ?_ | refine blk_alloc ?_ _)); exact BK333.out⟩, ⟨by (with_reducible repeat (first | refine blk_drewN ?_ _ | refine blk_drew ?_ | refine blk_alloc ?_ _)); exact BK334.out⟩, ⟨by (with_reducible repeat (first | refine blk_drewN ?_ _ | refine blk_drew ?_ | refine blk_alloc ?_ _)); exact BK335.out⟩, ⟨by (with_reducible repeat (first | refine blk_drewN ?_ _ | refine blk_drew ?_ | refine blk_alloc ?_ _)); exact BK336.out⟩, ⟨xb⟩⟩
  ·rw [if_neg c14] at H
   have c14b0 : (t337.toList == ([] : List UInt8)) = false := beq_eq_false_iff_ne.mpr c14
   have c14b1 : (t337.toList != ([] : List UInt8)) = true := bne_iff_ne.mpr c14
   (first | rw [c14b0] | (simp only [i64_w, i32_w]; rw [c14b0]) | skip)
   by_cases c15 : (t337.size : Int) > 18
   ·rw [if_pos c15] at H
    have c15b0 : decide (18 < (t337.size : Int)) = true := decide_eq_true c15
    have c15b1 : decide (18 < t337.size) = true := decide_eq_true (by omega)
    clear c15
    have H' := xy H
    clear H
    go_wp2
    go_meet
    case rel => exact ⟨_, (true), xg, H', ⟨by first | omega | exact Nat.le_refl _⟩, ⟨by (with_reducible repeat (first | refine blk_drewN ?_ _ | refine blk_drew ?_ | refine blk_alloc ?_ _)); exact BK333.out⟩, ⟨by (with_reducible repeat (first | refine blk_drewN ?_ _ | refine blk_drew ?_ | refine blk_alloc ?_ _)); exact BK334.out⟩, ⟨by (with_reducible repeat (first | refine blk_drewN ?_ _ | refine blk_drew ?_ | refine blk_alloc ?_ _)); exact BK335.out⟩, ⟨by (with_reducible repeat (first | refine blk_drewN ?_ _ | refine blk_drew ?_ | refine blk_alloc ?_ _)); exact BK336.out⟩, ⟨xb⟩⟩
   ·rw [if_neg c15] at H
    have c15b0 : decide (18 < (t337.size : Int)) = false := decide_eq_false c15
    have c15b1 : decide (18 < t337.size) = false := decide_eq_false (by omega)
    clear c15
    replace H := xj H
    obtain ⟨t338, A160, H⟩ := H
    try dsimp only at H
    have A16 := xy A160
    clear A160
    have H' := xy H
    clear H
    go_wp2_with ((go_at_call 99; (with_reducible refine (strings_Trim.calls t337 (⟨#[48, 49, 50, 51, 52, 53, 54, 55, 56, 57]⟩ : ByteArray) t338 _ (Tabs.below hT xf) A16.out).mono ?_); rintro e w17 ⟨rfl, hb⟩; replace BK333 := xd BK333.out hb; replace BK334 := xd BK334.out hb; replace BK335 := xd BK335.out hb; replace BK336 := xd BK336.out hb; replace HB := xy (below_step xb hb); (try clear hb); (try clear hb2); (try clear hk); (try clear hi)))
    go_meet
    case rel => exact ⟨_, ((t338.toList != ([] : List UInt8))), xg, H', ⟨by first | omega | exact Nat.le_refl _⟩, ⟨by (with_reducible repeat (first | refine blk_drewN ?_ _ | refine blk_drew ?_ | refine blk_alloc ?_ _)); exact BK333.out⟩, ⟨by (with_reducible repeat (first | refine blk_drewN ?_ _ | refine blk_drew ?_ | refine blk_alloc ?_ _)); exact BK334.out⟩, ⟨by (with_reducible repeat (first | refine blk_drewN ?_ _ | refine blk_drew ?_ | refine blk_alloc ?_ _)); exact BK335.out⟩, ⟨by (with_reducible repeat (first | refine blk_drewN ?_ _ | refine blk_drew ?_ | refine blk_alloc ?_ _)); exact BK336.out⟩, ⟨xb⟩⟩
 case rest =>
  clear HC5
  try clear c1
  try clear p2
  try clear c9
  try clear c10
  try clear c11
  try clear c12
  try clear c14
  try clear c14b0
  try clear c14b1
  try clear c15
  try clear c15b0
  try clear c15b1
  try clear hcz13_0 hcz13_1 hcz13_2
  try clear hfz13_0 hfz13_1 hfz13_2
  obtain ⟨kq, x24_4, rfl, HA, HJ4, BK333, BK334, BK335, BK336, HB⟩ := hcut
  cases kq with
  | zero => exact absurd HA.out (by simp [value_val_number.j0])
  | succ kj4 =>
   have H := HA.out
   clear HA
   simp only [value_val_number.j0] at H
   by_cases c18 : x24_4 = true
   ·subst c18
    rw [if_pos rfl] at H
    replace H := xj H
    obtain ⟨⟨t339, t340, t341⟩, A190, H⟩ := H
    try dsimp only at H
    have A19 := xy A190
    clear A190
    simp only [Option.some.injEq, Prod.mk.injEq] at H
    obtain ⟨rfl, rfl, rfl⟩ := H
    go_wp2_with (((with_reducible refine gate_callee (f := 31) rfl ?_); refine goesL_ (some 25) rfl rfl Tryz.func31 (by kernel_rfl) rfl #[.int .i64 0] rfl xr ?_; (with_reducible refine (value_Num.calls 0 t339 t340 t341 _ (Tabs.below hT xf) A19.out).mono ?_); rintro e w20 ⟨rfl, hb⟩; refine ⟨_, rfl, ?_⟩; replace BK333 := xd BK333.out hb; replace BK334 := xd BK334.out hb; replace BK335 := xd BK335.out hb; replace BK336 := xd BK336.out hb; replace HB := xy (below_step xb hb); (try clear hb); (try clear hb2); (try clear hk); (try clear hi); have hnb21 := NB336_333.out; have hnc21 := NB333_336.out; have hnb22 := NB336_334.out; have hnc22 := NB334_336.out; have hnb23 := NB336_335.out; have hnc23 := NB335_336.out; obtain ⟨hcz24_0, hcz24_1, hcz24_2⟩ := kt3 BK336.out; obtain ⟨hfz24_0, hfz24_1, hfz24_2⟩ := kz3 BK336.out))
    refine bodyPost_ret (results_cell_row rfl _ _ gb336 24 #[.bool t339, .int .i64 t340, .string t341] (0, 0) _ rfl (kp BK336.out) Tryz.underlying24 rfl (by kernel_rfl)) rfl ?_
    exact ⟨xe, xb⟩
   ·replace c18 := Bool.eq_false_iff.mpr c18
    subst c18
    rw [if_neg (show ¬ (false = true) by decide)] at H
    replace H := xj H
    obtain ⟨⟨t342, t343⟩, A250, H⟩ := H
    try dsimp only at H
    have A25 := xy A250
    clear A250
    replace H := xj H
    obtain ⟨⟨t344, t345, t346⟩, A260, H⟩ := H
    try dsimp only at H
    have A26 := xy A260
    clear A260
    simp only [Option.some.injEq, Prod.mk.injEq] at H
    obtain ⟨rfl, rfl, rfl⟩ := H
    have hnb27 := NB333_334.out
    have hnc27 := NB334_333.out
    have hnb28 := NB333_335.out
    have hnc28 := NB335_333.out
    have hnb29 := NB333_336.out
    have hnc29 := NB336_333.out
    obtain ⟨hcz30_0, hcz30_1, hcz30_2⟩ := kt3 BK333.out
    obtain ⟨hfz30_0, hfz30_1, hfz30_2⟩ := kz3 BK333.out
    go_wp2_with (first | ((with_reducible refine gate_callee (f := 100) rfl ?_); refine goesL_ (some 29) rfl rfl Tryz.func100 (by kernel_rfl) rfl #[.string a0_2] rfl xr ?_; (with_reducible refine (strconv_Atoi.calls a0_2 t342 t343 _ (Tabs.below hT xf) A25.out).mono ?_); rintro e w31 ⟨rfl, hb⟩; refine ⟨_, rfl, ?_⟩; replace BK333 := xd BK333.out hb; replace BK334 := xd BK334.out hb; replace BK335 := xd BK335.out hb; replace BK336 := xd BK336.out hb; replace HB := xy (below_step xb hb); (try clear hb); (try clear hb2); (try clear hk); (try clear hi); (try simp only [errW_none, errW_some])) | ((with_reducible refine gate_callee (f := 31) rfl ?_); refine goesL_ (some 33) rfl rfl Tryz.func31 (by kernel_rfl) rfl #[.int .i64 t342] rfl xr ?_; (with_reducible refine (value_Num.calls t342 t344 t345 t346 _ (Tabs.below hT xf) A26.out).mono ?_); rintro e w32 ⟨rfl, hb⟩; refine ⟨_, rfl, ?_⟩; replace BK333 := xd BK333.out hb; replace BK334 := xd BK334.out hb; replace BK335 := xd BK335.out hb; replace BK336 := xd BK336.out hb; replace HB := xy (below_step xb hb); (try clear hb); (try clear hb2); (try clear hk); (try clear hi); have hnb33 := NB336_334.out; have hnc33 := NB334_336.out; have hnb34 := NB336_335.out; have hnc34 := NB335_336.out; obtain ⟨hcz35_0, hcz35_1, hcz35_2⟩ := kt3 BK336.out; obtain ⟨hfz35_0, hfz35_1, hfz35_2⟩ := kz3 BK336.out))
    refine bodyPost_ret (results_cell_row rfl _ _ gb336 24 #[.bool t344, .int .i64 t345, .string t346] (0, 0) _ rfl (kp BK336.out) Tryz.underlying24 rfl (by kernel_rfl)) rfl ?_
    exact ⟨xe, xb⟩
def value_val_text.f (a0_0 : Bool) (a0_1 : Int) (a0_2 : ByteArray) (a1_0 : Bool) (a1_1 : Int) (a1_2 : ByteArray) (a2_0 : Bool) (a2_1 : Int) (a2_2 : ByteArray) : Option (Bool × Int × ByteArray) := (strconv_Itoa.f a0_1).bind fun t351 => ((value_Text.f t351).bind fun bt352 => (some (bt352.1, bt352.2.1, bt352.2.2)))
set_option maxHeartbeats 8000000 in
set_option maxRecDepth 100000 in
theorem value_val_text.calls (a0_0 : Bool) (a0_1 : Int) (a0_2 : ByteArray) (a1_0 : Bool) (a1_1 : Int) (a1_2 : ByteArray) (a2_0 : Bool) (a2_1 : Int) (a2_2 : ByteArray) (r1 : Bool) (r2 : Int) (r3 : ByteArray) (w : World) (hT : Tabs w) (h : value_val_text.f a0_0 a0_1 a0_2 a1_0 a1_1 a1_2 a2_0 a2_1 a2_2 = some (r1, r2, r3)) :
  Calls Tryz.prog 91 #[.agg #[.bool a0_0, .int .i64 a0_1, .string a0_2], .agg #[.bool a1_0, .int .i64 a1_1, .string a1_2], .agg #[.bool a2_0, .int .i64 a2_1, .string a2_2]] w fun e w' => e = .returned (.agg #[.bool r1, .int .i64 r2, .string r3]) ∧ Below w.heap.size w w' := by
 have hu137 := Tryz.underlying137
 have hu24 := Tryz.underlying24
 have HB := xy (Below.refl w.heap.size w)
 unfold value_val_text.f at h
 have H := h
 clear h
 replace H := xj H
 obtain ⟨t351, A40, H⟩ := H
 try dsimp only at H
 have A4 := xy A40
 clear A40
 replace H := xj H
 obtain ⟨⟨t352, t353, t354⟩, A50, H⟩ := H
 try dsimp only at H
 have A5 := xy A50
 clear A50
 simp only [Option.some.injEq, Prod.mk.injEq] at H
 obtain ⟨rfl, rfl, rfl⟩ := H
 go_enter Tryz.func91, Tryz.ntmps91
 go_wp2_with (first | ((with_reducible refine gate_dst (N := 3) rfl ?_); refine xq (N := 3) (cs := #[.bool a0_0, .int .i64 a0_1, .string a0_2]) (t := 137) ?_; intro gb347 hg w6 hbox hb; have BK347 := xy (hbox); have GW347 := xs w hg; have GE347 := xs w hg; replace HB := xy (below_step xb hb); clear hb hbox hg) | ((with_reducible refine gate_dst (N := 4) rfl ?_); refine xq (N := 4) (cs := #[.bool a1_0, .int .i64 a1_1, .string a1_2]) (t := 137) ?_; intro gb348 hg w7 hbox hb; have BK348 := xy (hbox); have GW348 := xs w hg; have GE348 := xs w hg; replace HB := xy (below_step xb hb); have NB347_348 := xn hg BK347.out; have NB348_347 := xp hg BK347.out; replace BK347 := xd BK347.out hb; clear hb hbox hg) | ((with_reducible refine gate_dst (N := 5) rfl ?_); refine xq (N := 5) (cs := #[.bool a2_0, .int .i64 a2_1, .string a2_2]) (t := 137) ?_; intro gb349 hg w8 hbox hb; have BK349 := xy (hbox); have GW349 := xs w hg; have GE349 := xs w hg; replace HB := xy (below_step xb hb); have NB347_349 := xn hg BK347.out; have NB349_347 := xp hg BK347.out; replace BK347 := xd BK347.out hb; have NB348_349 := xn hg BK348.out; have NB349_348 := xp hg BK348.out; replace BK348 := xd BK348.out hb; clear hb hbox hg) | ((with_reducible refine gate_dst (N := 6) rfl ?_); refine xq (N := 6) (cs := #[.bool false, .int .i64 0, .string (⟨#[]⟩ : ByteArray)]) (t := 24) ?_; intro gb350 hg w9 hbox hb; have BK350 := xy (hbox); have GW350 := xs w hg; have GE350 := xs w hg; replace HB := xy (below_step xb hb); have NB347_350 := xn hg BK347.out; have NB350_347 := xp hg BK347.out; replace BK347 := xd BK347.out hb; have NB348_350 := xn hg BK348.out; have NB350_348 := xp hg BK348.out; replace BK348 := xd BK348.out hb; have NB349_350 := xn hg BK349.out; have NB350_349 := xp hg BK349.out; replace BK349 := xd BK349.out hb; clear hb hbox hg; have hnb10 := NB347_348.out; have hnc10 := NB348_347.out; have hnb11 := NB347_349.out; have hnc11 := NB349_347.out; have hnb12 := NB347_350.out; have hnc12 := NB350_347.out; obtain ⟨hcz13_0, hcz13_1, hcz13_2⟩ := kt3 BK347.out; obtain ⟨hfz13_0, hfz13_1, hfz13_2⟩ := kz3 BK347.out) | ((with_reducible refine gate_callee (f := 22) rfl ?_); refine goesL_ (some 9) rfl rfl Tryz.func22 (by kernel_rfl) rfl #[.int .i64 a0_1] rfl xr ?_; (with_reducible refine (strconv_Itoa.calls a0_1 t351 _ (Tabs.below hT xf) A4.out).mono ?_); rintro e w14 ⟨rfl, hb⟩; refine ⟨_, rfl, ?_⟩; replace BK347 := xd BK347.out hb; replace BK348 := xd BK348.out hb; replace BK349 := xd BK349.out hb; replace BK350 := xd BK350.out hb; replace HB := xy (below_step xb hb); (try clear hb); (try clear hb2); (try clear hk); (try clear hi)) | ((with_reducible refine gate_callee (f := 39) rfl ?_); refine goesL_ (some 10) rfl rfl Tryz.func39 (by kernel_rfl) rfl #[.string t351] rfl xr ?_; (with_reducible refine (value_Text.calls t351 t352 t353 t354 _ (Tabs.below hT xf) A5.out).mono ?_); rintro e w15 ⟨rfl, hb⟩; refine ⟨_, rfl, ?_⟩; replace BK347 := xd BK347.out hb; replace BK348 := xd BK348.out hb; replace BK349 := xd BK349.out hb; replace BK350 := xd BK350.out hb; replace HB := xy (below_step xb hb); (try clear hb); (try clear hb2); (try clear hk); (try clear hi); have hnb16 := NB350_348.out; have hnc16 := NB348_350.out; have hnb17 := NB350_349.out; have hnc17 := NB349_350.out; obtain ⟨hcz18_0, hcz18_1, hcz18_2⟩ := kt3 BK350.out; obtain ⟨hfz18_0, hfz18_1, hfz18_2⟩ := kz3 BK350.out))
 refine bodyPost_ret (results_cell_row rfl _ _ gb350 24 #[.bool t352, .int .i64 t353, .string t354] (0, 0) _ rfl (kp BK350.out) Tryz.underlying24 rfl (by kernel_rfl)) rfl ?_
 exact ⟨xe, xb⟩
end Go.Proofs.YtialoecplmnjfaaGreatDoor.PX
