/- Walked functions, by this session's program over the kit's print. -/
import Derived.Test.YtnodgcakmolleaaGreatDoorPXx0
import Derived.Test.YtnodgcakmolleaaGreatDoorPXx4
namespace Go.Proofs.YtnodgcakmolleaaGreatDoor.PX
open Go.RowKit Go.Proofs.YtnodgcakmolleaaGreatDoorW.PrintWords Go.Proofs.YtnodgcakmolleaaGreatDoorW.PrintLast Go.Proofs.YtnodgcakmolleaaGreatDoorW.PrintMore
attribute [local go_sem] xm_gtr max2_int min2_int max_two min_two max_three min_three max_four min_four
set_option linter.unusedVariables false
set_option linter.unusedSimpArgs false
/- Walked functions, by this session's program over the kit's print. -/
mutual
def value_Compare.j0 : Nat → Int → Bool → Bool → Int → ByteArray → Bool → Int → ByteArray → Option (Int)
 | 0, _, _, _, _, _, _, _, _ => none
 | k + 1, x5, x6, x208000, x208001, x208002, x209000, x209001, x209002 => if x6 = true then ((cmp_Compare_int.f x208001 x209001).bind fun t209 => ((cmp_Compare_string.f x208002 x209002).bind fun t210 => ((cmp_Or_int.f k (([1, t209, t210] : List Int))).bind fun t214 => (some t214)))) else (if x208000 = true then (value_Compare.j1 k x5 false x208000 x208001 x208002 x209000 x209001 x209002) else (value_Compare.j1 k x5 x209000 x208000 x208001 x208002 x209000 x209001 x209002))
def value_Compare.j1 : Nat → Int → Bool → Bool → Int → ByteArray → Bool → Int → ByteArray → Option (Int)
 | 0, _, _, _, _, _, _, _, _ => none
 | k + 1, x5, x14, x208000, x208001, x208002, x209000, x209001, x209002 => if x14 = true then ((cmp_Compare_int.f x208001 x209001).bind fun t215 => ((cmp_Compare_string.f x208002 x209002).bind fun t216 => ((cmp_Or_int.f k (([(-1), t215, t216] : List Int))).bind fun t220 => (some t220)))) else ((cmp_Compare_int.f x208001 x209001).bind fun t221 => ((cmp_Compare_string.f x208002 x209002).bind fun t222 => ((cmp_Or_int.f k (([x5, t221, t222] : List Int))).bind fun t226 => (some t226))))
end
def value_Compare.f (k : Nat) (a0_0 : Bool) (a0_1 : Int) (a0_2 : ByteArray) (a1_0 : Bool) (a1_1 : Int) (a1_2 : ByteArray) : Option (Int) := if a0_0 = true then (value_Compare.j0 k 0 (!a1_0) a0_0 a0_1 a0_2 a1_0 a1_1 a1_2) else (value_Compare.j0 k 0 false a0_0 a0_1 a0_2 a1_0 a1_1 a1_2)
theorem value_Compare.mono_l : ∀ k, (∀ y0 y1 y2 y3 y4 y5 y6 y7, LeO (value_Compare.j0 k y0 y1 y2 y3 y4 y5 y6 y7) (value_Compare.j0 (k + 1) y0 y1 y2 y3 y4 y5 y6 y7)) ∧ (∀ y0 y1 y2 y3 y4 y5 y6 y7, LeO (value_Compare.j1 k y0 y1 y2 y3 y4 y5 y6 y7) (value_Compare.j1 (k + 1) y0 y1 y2 y3 y4 y5 y6 y7))
 | 0 => ⟨fun _ _ _ _ _ _ _ _ r h => by simp [value_Compare.j0] at h, fun _ _ _ _ _ _ _ _ r h => by simp [value_Compare.j1] at h⟩
 | k + 1 => by
  obtain ⟨ih0, ih1⟩ := value_Compare.mono_l k
  refine ⟨?_, ?_⟩
  ·intro y0 y1 y2 y3 y4 y5 y6 y7
   unfold value_Compare.j0
   repeat' (with_reducible first | exact ih0 _ _ _ _ _ _ _ _ | exact ih1 _ _ _ _ _ _ _ _ | exact cmp_Or_int.mono _ _ | exact LeO.refl _ | exact LeO.none _ | refine LeO.ite ?_ ?_ | refine LeO.bind ?_ (fun _ => ?_))
  ·intro y0 y1 y2 y3 y4 y5 y6 y7
   unfold value_Compare.j1
   repeat' (with_reducible first | exact ih0 _ _ _ _ _ _ _ _ | exact ih1 _ _ _ _ _ _ _ _ | exact cmp_Or_int.mono _ _ | exact LeO.refl _ | exact LeO.none _ | refine LeO.ite ?_ ?_ | refine LeO.bind ?_ (fun _ => ?_))
theorem value_Compare.mono : ∀ a0 a1 a2 a3 a4 a5 k, LeO (value_Compare.f k a0 a1 a2 a3 a4 a5) (value_Compare.f (k + 1) a0 a1 a2 a3 a4 a5) := by
 intro a0 a1 a2 a3 a4 a5 k
 obtain ⟨ih0, ih1⟩ := value_Compare.mono_l k
 unfold value_Compare.f
 repeat' (with_reducible first | exact ih0 _ _ _ _ _ _ _ _ | exact ih1 _ _ _ _ _ _ _ _ | exact cmp_Or_int.mono _ _ | exact LeO.refl _ | exact LeO.none _ | refine LeO.ite ?_ ?_ | refine LeO.bind ?_ (fun _ => ?_))
def value_Compare.T6 : Bool × List (List Nat × List Nat) := (true, [([], []), ([], []), ([1], [1]), ([], []), ([3], [3]), ([2, 4], [2, 4]), ([], []), ([6], [6]), ([], []), ([8], [8]), ([7, 9, 5], [7, 9]), ([0, 5, 10], [0, 5, 10]), ([11, 10], [11]), ([12, 12, 0, 1, 2, 3, 4, 5, 6, 7, 8, 9, 10, 11, 12], [12])])
def value_Compare.B6 : List Nat := [0, 0, 2, 0, 8, 30, 0, 64, 0, 256, 1022, 2047, 4095, 8191]
theorem value_Compare.tab6 : rtab .any (opsOf Tryz.f92 6) = value_Compare.T6 := by kernel_rfl
theorem value_Compare.bits6 : waitsOk value_Compare.T6.2 value_Compare.B6 = true := by kernel_rfl
set_option maxHeartbeats 8000000 in
set_option maxRecDepth 100000 in
theorem value_Compare.calls (k : Nat) (a0_0 : Bool) (a0_1 : Int) (a0_2 : ByteArray) (a1_0 : Bool) (a1_1 : Int) (a1_2 : ByteArray) (r : Int) (w : World) (hT : Tabs w) (h : value_Compare.f k a0_0 a0_1 a0_2 a1_0 a1_1 a1_2 = some r) :
  Calls Tryz.prog 92 #[.agg #[.bool a0_0, .int .i64 a0_1, .string a0_2], .agg #[.bool a1_0, .int .i64 a1_1, .string a1_2]] w fun e w' => e = .returned (.int .i64 r) ∧ Below w.heap.size w w' := by
 have hu32 := Tryz.underlying32
 have HB := xy (Below.refl w.heap.size w)
 unfold value_Compare.f at h
 have H := h
 clear h
 have HC3 := xy H
 clear H
 go_enter Tryz.func92, Tryz.ntmps92
 go_upto_region 2 with (first | ((with_reducible refine gate_dst (N := 2) rfl ?_); refine xq (N := 2) (cs := #[.bool a0_0, .int .i64 a0_1, .string a0_2]) (t := 32) ?_; intro gb207 hg w4 hbox hb; have BK207 := xy (hbox); have GW207 := xs w hg; have GE207 := xs w hg; replace HB := xy (below_step xb hb); clear hb hbox hg) | ((with_reducible refine gate_dst (N := 3) rfl ?_); refine xq (N := 3) (cs := #[.bool a1_0, .int .i64 a1_1, .string a1_2]) (t := 32) ?_; intro gb208 hg w5 hbox hb; have BK208 := xy (hbox); have GW208 := xs w hg; have GE208 := xs w hg; replace HB := xy (below_step xb hb); have NB207_208 := xn hg BK207.out; have NB208_207 := xp hg BK207.out; replace BK207 := xd BK207.out hb; clear hb hbox hg))
 (try simp only [Act.put, List.setIfInBounds_toArray, List.set_cons_zero, List.set_cons_succ])
 go_cut [6] (fun v6 wc => ∃ (kq : Nat) (x6_2 : Bool), v6 = .bool x6_2 ∧ Aside0 (value_Compare.j0 kq 0 x6_2 a0_0 a0_1 a0_2 a1_0 a1_1 a1_2 = some r) ∧ Aside0 (kq ≤ k) ∧ Aside0 (wc.heap[gb207]? = some (.cells #[.bool a0_0, .int .i64 a0_1, .string a0_2] 32 (0, 0))) ∧ Aside0 (wc.heap[gb208]? = some (.cells #[.bool a1_0, .int .i64 a1_1, .string a1_2] 32 (0, 0))) ∧ Aside0 (Below w.heap.size w wc))
 case first =>
  have H := HC3.out
  clear HC3
  by_cases c6 : a0_0 = true
  ·subst c6
   rw [if_pos rfl] at H
   have H' := xy H
   clear H
   have hnb7 := NB207_208.out
   have hnc7 := NB208_207.out
   have hcz8_0 : w5.cell? ⟨gb207, 0, none⟩ = some (.bool true) := (kc BK207.out 0).trans rfl
   have hcz8_1 : w5.cell? ⟨gb207, 1, none⟩ = some (.int .i64 a0_1) := (kc BK207.out 1).trans rfl
   have hcz8_2 : w5.cell? ⟨gb207, 2, none⟩ = some (.string a0_2) := (kc BK207.out 2).trans rfl
   have hfz8_0 := kf BK207.out 0
   have hfz8_1 := kf BK207.out 1
   have hfz8_2 := kf BK207.out 2
   have hcz9_0 : w5.cell? ⟨gb208, 0, none⟩ = some (.bool a1_0) := (kc BK208.out 0).trans rfl
   have hcz9_1 : w5.cell? ⟨gb208, 1, none⟩ = some (.int .i64 a1_1) := (kc BK208.out 1).trans rfl
   have hcz9_2 : w5.cell? ⟨gb208, 2, none⟩ = some (.string a1_2) := (kc BK208.out 2).trans rfl
   have hfz9_0 := kf BK208.out 0
   have hfz9_1 := kf BK208.out 1
   have hfz9_2 := kf BK208.out 2
   go_wp2
   go_meet
   case rel => exact ⟨_, (!a1_0), xg, H', ⟨by first | omega | exact Nat.le_refl _⟩, ⟨by (with_reducible repeat (first | refine blk_drewN ?_ _ | refine blk_drew ?_ | refine blk_alloc ?_ _)); exact BK207.out⟩, ⟨by (with_reducible repeat (first | refine blk_drewN ?_ _ | refine blk_drew ?_ | refine blk_alloc ?_ _)); exact BK208.out⟩, ⟨xb⟩⟩
  ·replace c6 := Bool.eq_false_iff.mpr c6
   subst c6
   rw [if_neg (show ¬ (false = true) by decide)] at H
   have H' := xy H
   clear H
   have hnb10 := NB207_208.out
   have hnc10 := NB208_207.out
   have hcz11_0 : w5.cell? ⟨gb207, 0, none⟩ = some (.bool false) := (kc BK207.out 0).trans rfl
   have hcz11_1 : w5.cell? ⟨gb207, 1, none⟩ = some (.int .i64 a0_1) := (kc BK207.out 1).trans rfl
   have hcz11_2 : w5.cell? ⟨gb207, 2, none⟩ = some (.string a0_2) := (kc BK207.out 2).trans rfl
   have hfz11_0 := kf BK207.out 0
   have hfz11_1 := kf BK207.out 1
   have hfz11_2 := kf BK207.out 2
   go_wp2
   go_meet
   case rel => exact ⟨_, (false), xg, H', ⟨by first | omega | exact Nat.le_refl _⟩, ⟨by (with_reducible repeat (first | refine blk_drewN ?_ _ | refine blk_drew ?_ | refine blk_alloc ?_ _)); exact BK207.out⟩, ⟨by (with_reducible repeat (first | refine blk_drewN ?_ _ | refine blk_drew ?_ | refine blk_alloc ?_ _)); exact BK208.out⟩, ⟨xb⟩⟩
 case rest =>
  clear HC3
  try clear c1
  try clear p2
  try clear c6
  try clear c7
  try clear c9
  try clear c10
  try clear hcz11_0
  try clear hcz11_1
  try clear hcz11_2
  try clear hcz8_0
  try clear hcz8_1
  try clear hcz8_2
  try clear hcz9_0
  try clear hcz9_1
  try clear hcz9_2
  try clear hfz11_0
  try clear hfz11_1
  try clear hfz11_2
  try clear hfz8_0
  try clear hfz8_1
  try clear hfz8_2
  try clear hfz9_0
  try clear hfz9_1
  try clear hfz9_2
  obtain ⟨kq, x6_2, rfl, HA, HJ2, BK207, BK208, HB⟩ := hcut
  cases kq with
  | zero => exact absurd HA.out (by simp [value_Compare.j0])
  | succ kj2 =>
   have H := HA.out
   clear HA
   simp only [value_Compare.j0] at H
   by_cases c12 : x6_2 = true
   ·subst c12
    rw [if_pos rfl] at H
    replace H := xj H
    obtain ⟨t209, A130, H⟩ := H
    try dsimp only at H
    have A13 := xy A130
    clear A130
    replace H := xj H
    obtain ⟨t210, A140, H⟩ := H
    try dsimp only at H
    have A14 := xy A140
    clear A140
    obtain ⟨y211, hy211⟩ : ∃ y_ : List Int, y_ = (([1, t209, t210] : List Int)) := ⟨_, rfl⟩
    replace H : ((cmp_Or_int.f kj2 y211).bind fun t214 => (some t214)) = some r := by first | (rw [hy211]; with_reducible exact H) | (have H2_ := (Option.bind_some _ _).symm.trans H; rw [hy211]; with_reducible exact H2_) | (have H2_ := (Option.bind_some _ _).symm.trans H; with_reducible exact H2_) | with_reducible exact H | (rw [hy211]; exact H) | exact H
    have Ny211 := xy hy211
    clear hy211
    replace H := xj H
    obtain ⟨t214, A150, H⟩ := H
    try dsimp only at H
    have A15 := xy A150
    clear A150
    obtain rfl := Option.some.inj H
    try go_wp2
    replace BK207 := xy (blk_drew BK207.out)
    replace BK208 := xy (blk_drew BK208.out)
    replace HB := xy (below_drew1 HB.out)
    refine start_ (n := 14) (S := fun w' => w'.cell? ⟨gb207, 0, none⟩ = some (.bool a0_0) ∧ w'.cell? ⟨gb207, 1, none⟩ = some (.int .i64 a0_1) ∧ w'.cell? ⟨gb207, 2, none⟩ = some (.string a0_2) ∧ w'.cell? ⟨gb208, 0, none⟩ = some (.bool a1_0) ∧ w'.cell? ⟨gb208, 1, none⟩ = some (.int .i64 a1_1) ∧ w'.cell? ⟨gb208, 2, none⟩ = some (.string a1_2)) (ds := []) #[false, false, false, false, false, false, false, false, false, false, false, false, false, false] (by kernel_rfl) rfl rfl ⟨(kc BK207.out 0).trans rfl, (kc BK207.out 1).trans rfl, (kc BK207.out 2).trans rfl, (kc BK208.out 0).trans rfl, (kc BK208.out 1).trans rfl, (kc BK208.out 2).trans rfl⟩ (fun hHeld => ?_); refine with_tabW value_Compare.tab6 value_Compare.bits6 (fun HT_ HW_ => ?_)
    generalize wc.drew = w16 at BK207 BK208 HB hHeld ⊢
    refine pure_ (i := 0) (N := some 22) (v := ?_) (a' := ?_) #[true, false, false, false, false, false, false, false, false, false, false, false, false, false] rfl rfl (any_of HT_.out (by kernel_rfl)) (fun _ _ _ h => h) (Or.inl ⟨by rfl, ?_⟩) ?_ ?_
    rotate_left
    ·intro w'
     go_simp
     with_reducible rfl
    rotate_left
    ·simp only [Act.put, List.setIfInBounds_toArray, List.set_cons_zero, List.set_cons_succ, i64_w, i32_w]
     rfl
    refine pure_ (i := 1) (N := some 23) (v := ?_) (a' := ?_) #[true, true, false, false, false, false, false, false, false, false, false, false, false, false] rfl rfl (any_of HT_.out (by kernel_rfl)) (fun _ _ _ h => h) (Or.inl ⟨by rfl, ?_⟩) ?_ ?_
    rotate_left
    ·intro w'
     go_simp
     with_reducible rfl
    rotate_left
    ·simp only [Act.put, List.setIfInBounds_toArray, List.set_cons_zero, List.set_cons_succ, i64_w, i32_w]
     rfl
    refine pure_ (i := 3) (N := some 25) (v := ?_) (a' := ?_) #[true, true, false, true, false, false, false, false, false, false, false, false, false, false] rfl rfl (any_of HT_.out (by kernel_rfl)) (fun _ _ _ h => h) (Or.inl ⟨by rfl, ?_⟩) ?_ ?_
    rotate_left
    ·intro w'
     go_simp
     with_reducible rfl
    rotate_left
    ·simp only [Act.put, List.setIfInBounds_toArray, List.set_cons_zero, List.set_cons_succ, i64_w, i32_w]
     rfl
    refine pure_ (i := 6) (N := some 28) (v := ?_) (a' := ?_) #[true, true, false, true, false, false, true, false, false, false, false, false, false, false] rfl rfl (any_of HT_.out (by kernel_rfl)) (fun _ _ _ h => h) (Or.inl ⟨by rfl, ?_⟩) ?_ ?_
    rotate_left
    ·intro w'
     go_simp
     with_reducible rfl
    rotate_left
    ·simp only [Act.put, List.setIfInBounds_toArray, List.set_cons_zero, List.set_cons_succ, i64_w, i32_w]
     rfl
    refine pure_ (i := 8) (N := some 30) (v := ?_) (a' := ?_) #[true, true, false, true, false, false, true, false, true, false, false, false, false, false] rfl rfl (any_of HT_.out (by kernel_rfl)) (fun _ _ _ h => h) (Or.inl ⟨by rfl, ?_⟩) ?_ ?_
    rotate_left
    ·intro w'
     go_simp
     with_reducible rfl
    rotate_left
    ·simp only [Act.put, List.setIfInBounds_toArray, List.set_cons_zero, List.set_cons_succ, i64_w, i32_w]
     rfl
    refine take_ (i := 2) (N := some 24) (v := ?_) (a' := ?_) #[true, true, true, true, false, false, true, false, true, false, false, false, false, false] rfl rfl (take_ofW HT_.out HW_.out (by kernel_rfl)) (fun _ _ _ h => h) (Or.inl ⟨by rfl, ?_⟩) hHeld ?_ ?_
    rotate_left
    ·rintro w' ⟨s0, s1, s2, s3, s4, s5⟩
     go_simp
     with_reducible rfl
    rotate_left
    ·simp only [Act.put, List.setIfInBounds_toArray, List.set_cons_zero, List.set_cons_succ, i64_w, i32_w]
     rfl
    refine take_ (i := 4) (N := some 26) (v := ?_) (a' := ?_) #[true, true, true, true, true, false, true, false, true, false, false, false, false, false] rfl rfl (take_ofW HT_.out HW_.out (by kernel_rfl)) (fun _ _ _ h => h) (Or.inl ⟨by rfl, ?_⟩) hHeld ?_ ?_
    rotate_left
    ·rintro w' ⟨s0, s1, s2, s3, s4, s5⟩
     go_simp
     with_reducible rfl
    rotate_left
    ·simp only [Act.put, List.setIfInBounds_toArray, List.set_cons_zero, List.set_cons_succ, i64_w, i32_w]
     rfl
    refine take_ (i := 7) (N := some 29) (v := ?_) (a' := ?_) #[true, true, true, true, true, false, true, true, true, false, false, false, false, false] rfl rfl (take_ofW HT_.out HW_.out (by kernel_rfl)) (fun _ _ _ h => h) (Or.inl ⟨by rfl, ?_⟩) hHeld ?_ ?_
    rotate_left
    ·rintro w' ⟨s0, s1, s2, s3, s4, s5⟩
     go_simp
     with_reducible rfl
    rotate_left
    ·simp only [Act.put, List.setIfInBounds_toArray, List.set_cons_zero, List.set_cons_succ, i64_w, i32_w]
     rfl
    refine take_ (i := 9) (N := some 31) (v := ?_) (a' := ?_) #[true, true, true, true, true, false, true, true, true, true, false, false, false, false] rfl rfl (take_ofW HT_.out HW_.out (by kernel_rfl)) (fun _ _ _ h => h) (Or.inl ⟨by rfl, ?_⟩) hHeld ?_ ?_
    rotate_left
    ·rintro w' ⟨s0, s1, s2, s3, s4, s5⟩
     go_simp
     with_reducible rfl
    rotate_left
    ·simp only [Act.put, List.setIfInBounds_toArray, List.set_cons_zero, List.set_cons_succ, i64_w, i32_w]
     rfl
    refine one_ (i := 5) (N := some 27) #[true, true, true, true, true, true, true, true, true, true, false, false, false, false] rfl rfl (one_of HT_.out (by kernel_rfl)) (by decide) (fun K hK => ?_)
    refine goes_ Tryz.func100 (by kernel_rfl) rfl #[.int .i64 a0_1, .int .i64 a1_1] (by rfl) rfl rfl xr ?_
    with_reducible refine (cmp_Compare_int.calls a0_1 a1_1 t209 _ (Tabs.below hT xf) A13.out).mono ?_
    rintro e w' ⟨rfl, ⟨nd, rfl⟩⟩
    refine ⟨_, rfl, ?_⟩
    refine hK.out _ _ ⟨(kc BK207.out 0).trans rfl, (kc BK207.out 1).trans rfl, (kc BK207.out 2).trans rfl, (kc BK208.out 0).trans rfl, (kc BK208.out 1).trans rfl, (kc BK208.out 2).trans rfl⟩ (fun hHeld => ?_)
    clear hK K
    refine norm_ (a' := ?_) ?_ ?_
    rotate_left
    ·show Act.put _ (some 27) _ = _
     simp only [Act.put, List.setIfInBounds_toArray, List.set_cons_zero, List.set_cons_succ, i64_w, i32_w]
     rfl
    refine one_ (i := 10) (N := some 32) #[true, true, true, true, true, true, true, true, true, true, true, false, false, false] rfl rfl (one_of HT_.out (by kernel_rfl)) (by decide) (fun K hK => ?_)
    refine goes_ Tryz.func101 (by kernel_rfl) rfl #[.string a0_2, .string a1_2] (by rfl) rfl rfl xr ?_
    with_reducible refine (cmp_Compare_string.calls a0_2 a1_2 t210 _ (Tabs.below hT xf) A14.out).mono ?_
    rintro e w' ⟨rfl, ⟨nd, rfl⟩⟩
    refine ⟨_, rfl, ?_⟩
    refine hK.out _ _ ⟨(kc BK207.out 0).trans rfl, (kc BK207.out 1).trans rfl, (kc BK207.out 2).trans rfl, (kc BK208.out 0).trans rfl, (kc BK208.out 1).trans rfl, (kc BK208.out 2).trans rfl⟩ (fun hHeld => ?_)
    clear hK K
    refine norm_ (a' := ?_) ?_ ?_
    rotate_left
    ·show Act.put _ (some 32) _ = _
     simp only [Act.put, List.setIfInBounds_toArray, List.set_cons_zero, List.set_cons_succ, i64_w, i32_w]
     rfl
    refine one_ (i := 11) (N := some 33) #[true, true, true, true, true, true, true, true, true, true, true, true, false, false] rfl rfl (one_of HT_.out (by kernel_rfl)) (by decide) (fun K hK => ?_)
    refine Kd.R_lit_step (Kd.int .i64) _ 3 ?hg (N := 33) ?hd (xs := ([1, t209, t210] : List Int)) (inner := [.int .i64 1, .int .i64 t209, .int .i64 t210]) (ok := fun _ => True) (okp := fun _ => True) ?hr ?hp (fun _ hk => hk) trivial (Below.refl _ _) (Nat.le_refl _) (by simp) ?_; (case hd => rfl); (case hg => rfl); (case hr => exact xh); (case hp => exact (Reps.one (show Kd.M (Kd.int .i64) _ _ _ 1 [.int .i64 1] from rfl) (Reps.one (show Kd.M (Kd.int .i64) _ _ _ t209 [.int .i64 t209] from rfl) (Reps.one (show Kd.M (Kd.int .i64) _ _ _ t210 [.int .i64 t210] from rfl) (Reps.none _ _)))))
    intro v212 w17 ho18 hb hg_ hnew_
    clear hg_ hnew_
    (first | rw [← Ny211.out] at ho18 | (simp only [Int.reduceToNat] at ho18; rw [← Ny211.out] at ho18))
    have HO213 := xy (Kd.R_lower ho18 (below_size xb))
    replace BK207 := xd BK207.out hb
    replace BK208 := xd BK208.out hb
    replace HB := xy (below_step xb hb)
    clear hb ho18
    obtain ⟨Ao19, co19, eo19⟩ := Kd.R_slice HO213.out
    (first | subst eo19 | (injection eo19 with f1_ f2_ f3_; have f4_ := f1_.symm; have f5_ := f3_.symm; clear f1_ f2_ f3_; subst f4_; subst f5_))
    refine hK.out _ _ ⟨(kc BK207.out 0).trans rfl, (kc BK207.out 1).trans rfl, (kc BK207.out 2).trans rfl, (kc BK208.out 0).trans rfl, (kc BK208.out 1).trans rfl, (kc BK208.out 2).trans rfl⟩ (fun hHeld => ?_)
    clear hK K
    refine norm_ (a' := ?_) ?_ ?_
    rotate_left
    ·show Act.put _ (some 33) _ = _
     simp only [Act.put, List.setIfInBounds_toArray, List.set_cons_zero, List.set_cons_succ, i64_w, i32_w]
     rfl
    refine one_ (i := 12) (N := some 34) #[true, true, true, true, true, true, true, true, true, true, true, true, true, false] rfl rfl (one_of HT_.out (by kernel_rfl)) (by decide) (fun K hK => ?_)
    refine goes_ Tryz.func99 (by kernel_rfl) rfl #[.slice Ao19 y211.length co19] (by rfl) rfl rfl xr ?_
    with_reducible refine (cmp_Or_int.calls kj2 _ _ y211 t214 _ (Tabs.below hT xf) ?side1 ?side2 A15.out).mono ?_
    (case side1 => repeat (first | exact (Kd.R_reads' HO213.out).2.2 | (with_reducible refine Kd.C_alloc ?_ _) | (with_reducible refine Kd.C_drewN ?_ _) | (with_reducible refine Kd.C_drew ?_)))
    (case side2 => exact (Kd.R_reads' HO213.out).2.1)
    rintro e w' ⟨rfl, ⟨nd, rfl⟩⟩
    refine ⟨_, rfl, ?_⟩
    refine hK.out _ _ ⟨(kc BK207.out 0).trans rfl, (kc BK207.out 1).trans rfl, (kc BK207.out 2).trans rfl, (kc BK208.out 0).trans rfl, (kc BK208.out 1).trans rfl, (kc BK208.out 2).trans rfl⟩ (fun hHeld => ?_)
    clear hK K
    refine norm_ (a' := ?_) ?_ ?_
    rotate_left
    ·show Act.put _ (some 34) _ = _
     simp only [Act.put, List.setIfInBounds_toArray, List.set_cons_zero, List.set_cons_succ, i64_w, i32_w]
     rfl
    refine pure_ (i := 13) (N := some 4) (v := ?_) (a' := ?_) #[true, true, true, true, true, true, true, true, true, true, true, true, true, true] rfl rfl (any_of HT_.out (by kernel_rfl)) (fun _ _ _ h => h) (Or.inl ⟨by rfl, ?_⟩) ?_ ?_
    rotate_left
    ·intro w'
     go_simp
     with_reducible rfl
    rotate_left
    ·simp only [Act.put, List.setIfInBounds_toArray, List.set_cons_zero, List.set_cons_succ, i64_w, i32_w]
     rfl
    refine done_ (done_of HT_.out (by kernel_rfl)) ?_
    try go_wp2
    go_ret
    exact ⟨xe, xb⟩
   ·replace c12 := Bool.eq_false_iff.mpr c12
    subst c12
    rw [if_neg (show ¬ (false = true) by decide)] at H
    have HC20 := xy H
    clear H
    go_upto_region 4 with (fail)
    go_cut [14] (fun v14 wc => ∃ (kq : Nat) (x14_19 : Bool), v14 = .bool x14_19 ∧ Aside0 (value_Compare.j1 kq 0 x14_19 a0_0 a0_1 a0_2 a1_0 a1_1 a1_2 = some r) ∧ Aside0 (kq ≤ kj2) ∧ Aside0 (wc.heap[gb207]? = some (.cells #[.bool a0_0, .int .i64 a0_1, .string a0_2] 32 (0, 0))) ∧ Aside0 (wc.heap[gb208]? = some (.cells #[.bool a1_0, .int .i64 a1_1, .string a1_2] 32 (0, 0))) ∧ Aside0 (Below w.heap.size w wc))
    case first =>
     have H := HC20.out
     clear HC20
     by_cases c21 : a0_0 = true
     ·subst c21
      rw [if_pos rfl] at H
      have H' := xy H
      clear H
      have hnb22 := NB207_208.out
      have hnc22 := NB208_207.out
      have hcz23_0 : wc.cell? ⟨gb207, 0, none⟩ = some (.bool true) := (kc BK207.out 0).trans rfl
      have hcz23_1 : wc.cell? ⟨gb207, 1, none⟩ = some (.int .i64 a0_1) := (kc BK207.out 1).trans rfl
      have hcz23_2 : wc.cell? ⟨gb207, 2, none⟩ = some (.string a0_2) := (kc BK207.out 2).trans rfl
      have hfz23_0 := kf BK207.out 0
      have hfz23_1 := kf BK207.out 1
      have hfz23_2 := kf BK207.out 2
      go_wp2
      go_meet
      case rel => exact ⟨_, (false), xg, H', ⟨by have := HJ2.out; first | omega | exact Nat.le_refl _⟩, ⟨by (with_reducible repeat (first | refine blk_drewN ?_ _ | refine blk_drew ?_ | refine blk_alloc ?_ _)); exact BK207.out⟩, ⟨by (with_reducible repeat (first | refine blk_drewN ?_ _ | refine blk_drew ?_ | refine blk_alloc ?_ _)); exact BK208.out⟩, ⟨xb⟩⟩
     ·replace c21 := Bool.eq_false_iff.mpr c21
      subst c21
      rw [if_neg (show ¬ (false = true) by decide)] at H
      have H' := xy H
      clear H
      have hnb24 := NB207_208.out
      have hnc24 := NB208_207.out
      have hcz25_0 : wc.cell? ⟨gb207, 0, none⟩ = some (.bool false) := (kc BK207.out 0).trans rfl
      have hcz25_1 : wc.cell? ⟨gb207, 1, none⟩ = some (.int .i64 a0_1) := (kc BK207.out 1).trans rfl
      have hcz25_2 : wc.cell? ⟨gb207, 2, none⟩ = some (.string a0_2) := (kc BK207.out 2).trans rfl
      have hfz25_0 := kf BK207.out 0
      have hfz25_1 := kf BK207.out 1
      have hfz25_2 := kf BK207.out 2
      have hcz26_0 : wc.cell? ⟨gb208, 0, none⟩ = some (.bool a1_0) := (kc BK208.out 0).trans rfl
      have hcz26_1 : wc.cell? ⟨gb208, 1, none⟩ = some (.int .i64 a1_1) := (kc BK208.out 1).trans rfl
      have hcz26_2 : wc.cell? ⟨gb208, 2, none⟩ = some (.string a1_2) := (kc BK208.out 2).trans rfl
      have hfz26_0 := kf BK208.out 0
      have hfz26_1 := kf BK208.out 1
      have hfz26_2 := kf BK208.out 2
      go_wp2
      go_meet
      case rel => exact ⟨_, (a1_0), xg, H', ⟨by have := HJ2.out; first | omega | exact Nat.le_refl _⟩, ⟨by (with_reducible repeat (first | refine blk_drewN ?_ _ | refine blk_drew ?_ | refine blk_alloc ?_ _)); exact BK207.out⟩, ⟨by (with_reducible repeat (first | refine blk_drewN ?_ _ | refine blk_drew ?_ | refine blk_alloc ?_ _)); exact BK208.out⟩, ⟨xb⟩⟩
    case rest =>
     clear HC20
     try clear c1
     try clear c2
     try clear p2
     try clear c6
     try clear c7
     try clear c9
     try clear c10
     try clear c12
     try clear c21
     try clear c22
     try clear c24
     try clear hcz11_0
     try clear hcz11_1
     try clear hcz11_2
     try clear hcz23_0
     try clear hcz23_1
     try clear hcz23_2
     try clear hcz25_0
     try clear hcz25_1
     try clear hcz25_2
     try clear hcz26_0
     try clear hcz26_1
     try clear hcz26_2
     try clear hcz8_0
     try clear hcz8_1
     try clear hcz8_2
     try clear hcz9_0
     try clear hcz9_1
     try clear hcz9_2
     try clear hfz11_0
     try clear hfz11_1
     try clear hfz11_2
     try clear hfz23_0
     try clear hfz23_1
     try clear hfz23_2
     try clear hfz25_0
     try clear hfz25_1
     try clear hfz25_2
     try clear hfz26_0
     try clear hfz26_1
     try clear hfz26_2
     try clear hfz8_0
     try clear hfz8_1
     try clear hfz8_2
     try clear hfz9_0
     try clear hfz9_1
     try clear hfz9_2
     try clear p2
     obtain ⟨kq, x14_19, rfl, HA, HJ19, BK207, BK208, HB⟩ := hcut
     cases kq with
     | zero => exact absurd HA.out (by simp [value_Compare.j1])
     | succ kj19 =>
      have H := HA.out
      clear HA
      simp only [value_Compare.j1] at H
      by_cases c27 : x14_19 = true
      ·subst c27
       rw [if_pos rfl] at H
       replace H := xj H
       obtain ⟨t215, A280, H⟩ := H
       try dsimp only at H
       have A28 := xy A280
       clear A280
       replace H := xj H
       obtain ⟨t216, A290, H⟩ := H
       try dsimp only at H
       have A29 := xy A290
       clear A290
       obtain ⟨y217, hy217⟩ : ∃ y_ : List Int, y_ = (([(-1), t215, t216] : List Int)) := ⟨_, rfl⟩
       replace H : ((cmp_Or_int.f kj19 y217).bind fun t220 => (some t220)) = some r := by first | (rw [hy217]; with_reducible exact H) | (have H2_ := (Option.bind_some _ _).symm.trans H; rw [hy217]; with_reducible exact H2_) | (have H2_ := (Option.bind_some _ _).symm.trans H; with_reducible exact H2_) | with_reducible exact H | (rw [hy217]; exact H) | exact H
       have Ny217 := xy hy217
       clear hy217
       replace H := xj H
       obtain ⟨t220, A300, H⟩ := H
       try dsimp only at H
       have A30 := xy A300
       clear A300
       obtain rfl := Option.some.inj H
       try go_wp2
       replace BK207 := xy (blk_drew BK207.out)
       replace BK208 := xy (blk_drew BK208.out)
       replace HB := xy (below_drew1 HB.out)
       refine start_ (n := 14) (S := fun w' => w'.cell? ⟨gb207, 0, none⟩ = some (.bool a0_0) ∧ w'.cell? ⟨gb207, 1, none⟩ = some (.int .i64 a0_1) ∧ w'.cell? ⟨gb207, 2, none⟩ = some (.string a0_2) ∧ w'.cell? ⟨gb208, 0, none⟩ = some (.bool a1_0) ∧ w'.cell? ⟨gb208, 1, none⟩ = some (.int .i64 a1_1) ∧ w'.cell? ⟨gb208, 2, none⟩ = some (.string a1_2)) (ds := []) #[false, false, false, false, false, false, false, false, false, false, false, false, false, false] (by kernel_rfl) rfl rfl ⟨(kc BK207.out 0).trans rfl, (kc BK207.out 1).trans rfl, (kc BK207.out 2).trans rfl, (kc BK208.out 0).trans rfl, (kc BK208.out 1).trans rfl, (kc BK208.out 2).trans rfl⟩ (fun hHeld => ?_); refine with_tabW value_Compare.tab6 value_Compare.bits6 (fun HT_ HW_ => ?_)
       generalize wc.drew = w31 at BK207 BK208 HB hHeld ⊢
       refine pure_ (i := 0) (N := some 22) (v := ?_) (a' := ?_) #[true, false, false, false, false, false, false, false, false, false, false, false, false, false] rfl rfl (any_of HT_.out (by kernel_rfl)) (fun _ _ _ h => h) (Or.inl ⟨by rfl, ?_⟩) ?_ ?_
       rotate_left
       ·intro w'
        go_simp
        with_reducible rfl
       rotate_left
       ·simp only [Act.put, List.setIfInBounds_toArray, List.set_cons_zero, List.set_cons_succ, i64_w, i32_w]
        rfl
       refine pure_ (i := 1) (N := some 23) (v := ?_) (a' := ?_) #[true, true, false, false, false, false, false, false, false, false, false, false, false, false] rfl rfl (any_of HT_.out (by kernel_rfl)) (fun _ _ _ h => h) (Or.inl ⟨by rfl, ?_⟩) ?_ ?_
       rotate_left
       ·intro w'
        go_simp
        with_reducible rfl
       rotate_left
       ·simp only [Act.put, List.setIfInBounds_toArray, List.set_cons_zero, List.set_cons_succ, i64_w, i32_w]
        rfl
       refine pure_ (i := 3) (N := some 25) (v := ?_) (a' := ?_) #[true, true, false, true, false, false, false, false, false, false, false, false, false, false] rfl rfl (any_of HT_.out (by kernel_rfl)) (fun _ _ _ h => h) (Or.inl ⟨by rfl, ?_⟩) ?_ ?_
       rotate_left
       ·intro w'
        go_simp
        with_reducible rfl
       rotate_left
       ·simp only [Act.put, List.setIfInBounds_toArray, List.set_cons_zero, List.set_cons_succ, i64_w, i32_w]
        rfl
       refine pure_ (i := 6) (N := some 28) (v := ?_) (a' := ?_) #[true, true, false, true, false, false, true, false, false, false, false, false, false, false] rfl rfl (any_of HT_.out (by kernel_rfl)) (fun _ _ _ h => h) (Or.inl ⟨by rfl, ?_⟩) ?_ ?_
       rotate_left
       ·intro w'
        go_simp
        with_reducible rfl
       rotate_left
       ·simp only [Act.put, List.setIfInBounds_toArray, List.set_cons_zero, List.set_cons_succ, i64_w, i32_w]
        rfl
       refine pure_ (i := 8) (N := some 30) (v := ?_) (a' := ?_) #[true, true, false, true, false, false, true, false, true, false, false, false, false, false] rfl rfl (any_of HT_.out (by kernel_rfl)) (fun _ _ _ h => h) (Or.inl ⟨by rfl, ?_⟩) ?_ ?_
       rotate_left
       ·intro w'
        go_simp
        with_reducible rfl
       rotate_left
       ·simp only [Act.put, List.setIfInBounds_toArray, List.set_cons_zero, List.set_cons_succ, i64_w, i32_w]
        rfl
       refine take_ (i := 2) (N := some 24) (v := ?_) (a' := ?_) #[true, true, true, true, false, false, true, false, true, false, false, false, false, false] rfl rfl (take_ofW HT_.out HW_.out (by kernel_rfl)) (fun _ _ _ h => h) (Or.inl ⟨by rfl, ?_⟩) hHeld ?_ ?_
       rotate_left
       ·rintro w' ⟨s0, s1, s2, s3, s4, s5⟩
        go_simp
        with_reducible rfl
       rotate_left
       ·simp only [Act.put, List.setIfInBounds_toArray, List.set_cons_zero, List.set_cons_succ, i64_w, i32_w]
        rfl
       refine take_ (i := 4) (N := some 26) (v := ?_) (a' := ?_) #[true, true, true, true, true, false, true, false, true, false, false, false, false, false] rfl rfl (take_ofW HT_.out HW_.out (by kernel_rfl)) (fun _ _ _ h => h) (Or.inl ⟨by rfl, ?_⟩) hHeld ?_ ?_
       rotate_left
       ·rintro w' ⟨s0, s1, s2, s3, s4, s5⟩
        go_simp
        with_reducible rfl
       rotate_left
       ·simp only [Act.put, List.setIfInBounds_toArray, List.set_cons_zero, List.set_cons_succ, i64_w, i32_w]
        rfl
       refine take_ (i := 7) (N := some 29) (v := ?_) (a' := ?_) #[true, true, true, true, true, false, true, true, true, false, false, false, false, false] rfl rfl (take_ofW HT_.out HW_.out (by kernel_rfl)) (fun _ _ _ h => h) (Or.inl ⟨by rfl, ?_⟩) hHeld ?_ ?_
       rotate_left
       ·rintro w' ⟨s0, s1, s2, s3, s4, s5⟩
        go_simp
        with_reducible rfl
       rotate_left
       ·simp only [Act.put, List.setIfInBounds_toArray, List.set_cons_zero, List.set_cons_succ, i64_w, i32_w]
        rfl
       refine take_ (i := 9) (N := some 31) (v := ?_) (a' := ?_) #[true, true, true, true, true, false, true, true, true, true, false, false, false, false] rfl rfl (take_ofW HT_.out HW_.out (by kernel_rfl)) (fun _ _ _ h => h) (Or.inl ⟨by rfl, ?_⟩) hHeld ?_ ?_
       rotate_left
       ·rintro w' ⟨s0, s1, s2, s3, s4, s5⟩
        go_simp
        with_reducible rfl
       rotate_left
       ·simp only [Act.put, List.setIfInBounds_toArray, List.set_cons_zero, List.set_cons_succ, i64_w, i32_w]
        rfl
       refine one_ (i := 5) (N := some 27) #[true, true, true, true, true, true, true, true, true, true, false, false, false, false] rfl rfl (one_of HT_.out (by kernel_rfl)) (by decide) (fun K hK => ?_)
       refine goes_ Tryz.func100 (by kernel_rfl) rfl #[.int .i64 a0_1, .int .i64 a1_1] (by rfl) rfl rfl xr ?_
       with_reducible refine (cmp_Compare_int.calls a0_1 a1_1 t215 _ (Tabs.below hT xf) A28.out).mono ?_
       rintro e w' ⟨rfl, ⟨nd, rfl⟩⟩
       refine ⟨_, rfl, ?_⟩
       refine hK.out _ _ ⟨(kc BK207.out 0).trans rfl, (kc BK207.out 1).trans rfl, (kc BK207.out 2).trans rfl, (kc BK208.out 0).trans rfl, (kc BK208.out 1).trans rfl, (kc BK208.out 2).trans rfl⟩ (fun hHeld => ?_)
       clear hK K
       refine norm_ (a' := ?_) ?_ ?_
       rotate_left
       ·show Act.put _ (some 27) _ = _
        simp only [Act.put, List.setIfInBounds_toArray, List.set_cons_zero, List.set_cons_succ, i64_w, i32_w]
        rfl
       refine one_ (i := 10) (N := some 32) #[true, true, true, true, true, true, true, true, true, true, true, false, false, false] rfl rfl (one_of HT_.out (by kernel_rfl)) (by decide) (fun K hK => ?_)
       refine goes_ Tryz.func101 (by kernel_rfl) rfl #[.string a0_2, .string a1_2] (by rfl) rfl rfl xr ?_
       with_reducible refine (cmp_Compare_string.calls a0_2 a1_2 t216 _ (Tabs.below hT xf) A29.out).mono ?_
       rintro e w' ⟨rfl, ⟨nd, rfl⟩⟩
       refine ⟨_, rfl, ?_⟩
       refine hK.out _ _ ⟨(kc BK207.out 0).trans rfl, (kc BK207.out 1).trans rfl, (kc BK207.out 2).trans rfl, (kc BK208.out 0).trans rfl, (kc BK208.out 1).trans rfl, (kc BK208.out 2).trans rfl⟩ (fun hHeld => ?_)
       clear hK K
       refine norm_ (a' := ?_) ?_ ?_
       rotate_left
       ·show Act.put _ (some 32) _ = _
        simp only [Act.put, List.setIfInBounds_toArray, List.set_cons_zero, List.set_cons_succ, i64_w, i32_w]
        rfl
       refine one_ (i := 11) (N := some 33) #[true, true, true, true, true, true, true, true, true, true, true, true, false, false] rfl rfl (one_of HT_.out (by kernel_rfl)) (by decide) (fun K hK => ?_)
       refine Kd.R_lit_step (Kd.int .i64) _ 3 ?hg (N := 33) ?hd (xs := ([(-1), t215, t216] : List Int)) (inner := [.int .i64 (-1), .int .i64 t215, .int .i64 t216]) (ok := fun _ => True) (okp := fun _ => True) ?hr ?hp (fun _ hk => hk) trivial (Below.refl _ _) (Nat.le_refl _) (by simp) ?_; (case hd => rfl); (case hg => rfl); (case hr => exact xh); (case hp => exact (Reps.one (show Kd.M (Kd.int .i64) _ _ _ (-1) [.int .i64 (-1)] from rfl) (Reps.one (show Kd.M (Kd.int .i64) _ _ _ t215 [.int .i64 t215] from rfl) (Reps.one (show Kd.M (Kd.int .i64) _ _ _ t216 [.int .i64 t216] from rfl) (Reps.none _ _)))))
       intro v218 w32 ho33 hb hg_ hnew_
       clear hg_ hnew_
       (first | rw [← Ny217.out] at ho33 | (simp only [Int.reduceToNat] at ho33; rw [← Ny217.out] at ho33))
       have HO219 := xy (Kd.R_lower ho33 (below_size xb))
       replace BK207 := xd BK207.out hb
       replace BK208 := xd BK208.out hb
       replace HB := xy (below_step xb hb)
       clear hb ho33
       obtain ⟨Ao34, co34, eo34⟩ := Kd.R_slice HO219.out
       (first | subst eo34 | (injection eo34 with f1_ f2_ f3_; have f4_ := f1_.symm; have f5_ := f3_.symm; clear f1_ f2_ f3_; subst f4_; subst f5_))
       refine hK.out _ _ ⟨(kc BK207.out 0).trans rfl, (kc BK207.out 1).trans rfl, (kc BK207.out 2).trans rfl, (kc BK208.out 0).trans rfl, (kc BK208.out 1).trans rfl, (kc BK208.out 2).trans rfl⟩ (fun hHeld => ?_)
       clear hK K
       refine norm_ (a' := ?_) ?_ ?_
       rotate_left
       ·show Act.put _ (some 33) _ = _
        simp only [Act.put, List.setIfInBounds_toArray, List.set_cons_zero, List.set_cons_succ, i64_w, i32_w]
        rfl
       refine one_ (i := 12) (N := some 34) #[true, true, true, true, true, true, true, true, true, true, true, true, true, false] rfl rfl (one_of HT_.out (by kernel_rfl)) (by decide) (fun K hK => ?_)
       refine goes_ Tryz.func99 (by kernel_rfl) rfl #[.slice Ao34 y217.length co34] (by rfl) rfl rfl xr ?_
       with_reducible refine (cmp_Or_int.calls kj19 _ _ y217 t220 _ (Tabs.below hT xf) ?side1 ?side2 A30.out).mono ?_
       (case side1 => repeat (first | exact (Kd.R_reads' HO219.out).2.2 | (with_reducible refine Kd.C_alloc ?_ _) | (with_reducible refine Kd.C_drewN ?_ _) | (with_reducible refine Kd.C_drew ?_)))
       (case side2 => exact (Kd.R_reads' HO219.out).2.1)
       rintro e w' ⟨rfl, ⟨nd, rfl⟩⟩
       refine ⟨_, rfl, ?_⟩
       refine hK.out _ _ ⟨(kc BK207.out 0).trans rfl, (kc BK207.out 1).trans rfl, (kc BK207.out 2).trans rfl, (kc BK208.out 0).trans rfl, (kc BK208.out 1).trans rfl, (kc BK208.out 2).trans rfl⟩ (fun hHeld => ?_)
       clear hK K
       refine norm_ (a' := ?_) ?_ ?_
       rotate_left
       ·show Act.put _ (some 34) _ = _
        simp only [Act.put, List.setIfInBounds_toArray, List.set_cons_zero, List.set_cons_succ, i64_w, i32_w]
        rfl
       refine pure_ (i := 13) (N := some 4) (v := ?_) (a' := ?_) #[true, true, true, true, true, true, true, true, true, true, true, true, true, true] rfl rfl (any_of HT_.out (by kernel_rfl)) (fun _ _ _ h => h) (Or.inl ⟨by rfl, ?_⟩) ?_ ?_
       rotate_left
       ·intro w'
        go_simp
        with_reducible rfl
       rotate_left
       ·simp only [Act.put, List.setIfInBounds_toArray, List.set_cons_zero, List.set_cons_succ, i64_w, i32_w]
        rfl
       refine done_ (done_of HT_.out (by kernel_rfl)) ?_
       try go_wp2
       go_ret
       exact ⟨xe, xb⟩
      ·replace c27 := Bool.eq_false_iff.mpr c27
       subst c27
       rw [if_neg (show ¬ (false = true) by decide)] at H
       replace H := xj H
       obtain ⟨t221, A350, H⟩ := H
       try dsimp only at H
       have A35 := xy A350
       clear A350
       replace H := xj H
       obtain ⟨t222, A360, H⟩ := H
       try dsimp only at H
       have A36 := xy A360
       clear A360
       obtain ⟨y223, hy223⟩ : ∃ y_ : List Int, y_ = (([0, t221, t222] : List Int)) := ⟨_, rfl⟩
       replace H : ((cmp_Or_int.f kj19 y223).bind fun t226 => (some t226)) = some r := by first | (rw [hy223]; with_reducible exact H) | (have H2_ := (Option.bind_some _ _).symm.trans H; rw [hy223]; with_reducible exact H2_) | (have H2_ := (Option.bind_some _ _).symm.trans H; with_reducible exact H2_) | with_reducible exact H | (rw [hy223]; exact H) | exact H
       have Ny223 := xy hy223
       clear hy223
       replace H := xj H
       obtain ⟨t226, A370, H⟩ := H
       try dsimp only at H
       have A37 := xy A370
       clear A370
       obtain rfl := Option.some.inj H
       try go_wp2
       replace BK207 := xy (blk_drew BK207.out)
       replace BK208 := xy (blk_drew BK208.out)
       replace HB := xy (below_drew1 HB.out)
       refine start_ (n := 14) (S := fun w' => w'.cell? ⟨gb207, 0, none⟩ = some (.bool a0_0) ∧ w'.cell? ⟨gb207, 1, none⟩ = some (.int .i64 a0_1) ∧ w'.cell? ⟨gb207, 2, none⟩ = some (.string a0_2) ∧ w'.cell? ⟨gb208, 0, none⟩ = some (.bool a1_0) ∧ w'.cell? ⟨gb208, 1, none⟩ = some (.int .i64 a1_1) ∧ w'.cell? ⟨gb208, 2, none⟩ = some (.string a1_2)) (ds := []) #[false, false, false, false, false, false, false, false, false, false, false, false, false, false] (by kernel_rfl) rfl rfl ⟨(kc BK207.out 0).trans rfl, (kc BK207.out 1).trans rfl, (kc BK207.out 2).trans rfl, (kc BK208.out 0).trans rfl, (kc BK208.out 1).trans rfl, (kc BK208.out 2).trans rfl⟩ (fun hHeld => ?_); refine with_tabW value_Compare.tab6 value_Compare.bits6 (fun HT_ HW_ => ?_)
       generalize wc.drew = w38 at BK207 BK208 HB hHeld ⊢
       refine pure_ (i := 0) (N := some 22) (v := ?_) (a' := ?_) #[true, false, false, false, false, false, false, false, false, false, false, false, false, false] rfl rfl (any_of HT_.out (by kernel_rfl)) (fun _ _ _ h => h) (Or.inl ⟨by rfl, ?_⟩) ?_ ?_
       rotate_left
       ·intro w'
        go_simp
        with_reducible rfl
       rotate_left
       ·simp only [Act.put, List.setIfInBounds_toArray, List.set_cons_zero, List.set_cons_succ, i64_w, i32_w]
        rfl
       refine pure_ (i := 1) (N := some 23) (v := ?_) (a' := ?_) #[true, true, false, false, false, false, false, false, false, false, false, false, false, false] rfl rfl (any_of HT_.out (by kernel_rfl)) (fun _ _ _ h => h) (Or.inl ⟨by rfl, ?_⟩) ?_ ?_
       rotate_left
       ·intro w'
        go_simp
        with_reducible rfl
       rotate_left
       ·simp only [Act.put, List.setIfInBounds_toArray, List.set_cons_zero, List.set_cons_succ, i64_w, i32_w]
        rfl
       refine pure_ (i := 3) (N := some 25) (v := ?_) (a' := ?_) #[true, true, false, true, false, false, false, false, false, false, false, false, false, false] rfl rfl (any_of HT_.out (by kernel_rfl)) (fun _ _ _ h => h) (Or.inl ⟨by rfl, ?_⟩) ?_ ?_
       rotate_left
       ·intro w'
        go_simp
        with_reducible rfl
       rotate_left
       ·simp only [Act.put, List.setIfInBounds_toArray, List.set_cons_zero, List.set_cons_succ, i64_w, i32_w]
        rfl
       refine pure_ (i := 6) (N := some 28) (v := ?_) (a' := ?_) #[true, true, false, true, false, false, true, false, false, false, false, false, false, false] rfl rfl (any_of HT_.out (by kernel_rfl)) (fun _ _ _ h => h) (Or.inl ⟨by rfl, ?_⟩) ?_ ?_
       rotate_left
       ·intro w'
        go_simp
        with_reducible rfl
       rotate_left
       ·simp only [Act.put, List.setIfInBounds_toArray, List.set_cons_zero, List.set_cons_succ, i64_w, i32_w]
        rfl
       refine pure_ (i := 8) (N := some 30) (v := ?_) (a' := ?_) #[true, true, false, true, false, false, true, false, true, false, false, false, false, false] rfl rfl (any_of HT_.out (by kernel_rfl)) (fun _ _ _ h => h) (Or.inl ⟨by rfl, ?_⟩) ?_ ?_
       rotate_left
       ·intro w'
        go_simp
        with_reducible rfl
       rotate_left
       ·simp only [Act.put, List.setIfInBounds_toArray, List.set_cons_zero, List.set_cons_succ, i64_w, i32_w]
        rfl
       refine take_ (i := 2) (N := some 24) (v := ?_) (a' := ?_) #[true, true, true, true, false, false, true, false, true, false, false, false, false, false] rfl rfl (take_ofW HT_.out HW_.out (by kernel_rfl)) (fun _ _ _ h => h) (Or.inl ⟨by rfl, ?_⟩) hHeld ?_ ?_
       rotate_left
       ·rintro w' ⟨s0, s1, s2, s3, s4, s5⟩
        go_simp
        with_reducible rfl
       rotate_left
       ·simp only [Act.put, List.setIfInBounds_toArray, List.set_cons_zero, List.set_cons_succ, i64_w, i32_w]
        rfl
       refine take_ (i := 4) (N := some 26) (v := ?_) (a' := ?_) #[true, true, true, true, true, false, true, false, true, false, false, false, false, false] rfl rfl (take_ofW HT_.out HW_.out (by kernel_rfl)) (fun _ _ _ h => h) (Or.inl ⟨by rfl, ?_⟩) hHeld ?_ ?_
       rotate_left
       ·rintro w' ⟨s0, s1, s2, s3, s4, s5⟩
        go_simp
        with_reducible rfl
       rotate_left
       ·simp only [Act.put, List.setIfInBounds_toArray, List.set_cons_zero, List.set_cons_succ, i64_w, i32_w]
        rfl
       refine take_ (i := 7) (N := some 29) (v := ?_) (a' := ?_) #[true, true, true, true, true, false, true, true, true, false, false, false, false, false] rfl rfl (take_ofW HT_.out HW_.out (by kernel_rfl)) (fun _ _ _ h => h) (Or.inl ⟨by rfl, ?_⟩) hHeld ?_ ?_
       rotate_left
       ·rintro w' ⟨s0, s1, s2, s3, s4, s5⟩
        go_simp
        with_reducible rfl
       rotate_left
       ·simp only [Act.put, List.setIfInBounds_toArray, List.set_cons_zero, List.set_cons_succ, i64_w, i32_w]
        rfl
       refine take_ (i := 9) (N := some 31) (v := ?_) (a' := ?_) #[true, true, true, true, true, false, true, true, true, true, false, false, false, false] rfl rfl (take_ofW HT_.out HW_.out (by kernel_rfl)) (fun _ _ _ h => h) (Or.inl ⟨by rfl, ?_⟩) hHeld ?_ ?_
       rotate_left
       ·rintro w' ⟨s0, s1, s2, s3, s4, s5⟩
        go_simp
        with_reducible rfl
       rotate_left
       ·simp only [Act.put, List.setIfInBounds_toArray, List.set_cons_zero, List.set_cons_succ, i64_w, i32_w]
        rfl
       refine one_ (i := 5) (N := some 27) #[true, true, true, true, true, true, true, true, true, true, false, false, false, false] rfl rfl (one_of HT_.out (by kernel_rfl)) (by decide) (fun K hK => ?_)
       refine goes_ Tryz.func100 (by kernel_rfl) rfl #[.int .i64 a0_1, .int .i64 a1_1] (by rfl) rfl rfl xr ?_
       with_reducible refine (cmp_Compare_int.calls a0_1 a1_1 t221 _ (Tabs.below hT xf) A35.out).mono ?_
       rintro e w' ⟨rfl, ⟨nd, rfl⟩⟩
       refine ⟨_, rfl, ?_⟩
       refine hK.out _ _ ⟨(kc BK207.out 0).trans rfl, (kc BK207.out 1).trans rfl, (kc BK207.out 2).trans rfl, (kc BK208.out 0).trans rfl, (kc BK208.out 1).trans rfl, (kc BK208.out 2).trans rfl⟩ (fun hHeld => ?_)
       clear hK K
       refine norm_ (a' := ?_) ?_ ?_
       rotate_left
       ·show Act.put _ (some 27) _ = _
        simp only [Act.put, List.setIfInBounds_toArray, List.set_cons_zero, List.set_cons_succ, i64_w, i32_w]
        rfl
       refine one_ (i := 10) (N := some 32) #[true, true, true, true, true, true, true, true, true, true, true, false, false, false] rfl rfl (one_of HT_.out (by kernel_rfl)) (by decide) (fun K hK => ?_)
       refine goes_ Tryz.func101 (by kernel_rfl) rfl #[.string a0_2, .string a1_2] (by rfl) rfl rfl xr ?_
       with_reducible refine (cmp_Compare_string.calls a0_2 a1_2 t222 _ (Tabs.below hT xf) A36.out).mono ?_
       rintro e w' ⟨rfl, ⟨nd, rfl⟩⟩
       refine ⟨_, rfl, ?_⟩
       refine hK.out _ _ ⟨(kc BK207.out 0).trans rfl, (kc BK207.out 1).trans rfl, (kc BK207.out 2).trans rfl, (kc BK208.out 0).trans rfl, (kc BK208.out 1).trans rfl, (kc BK208.out 2).trans rfl⟩ (fun hHeld => ?_)
       clear hK K
       refine norm_ (a' := ?_) ?_ ?_
       rotate_left
       ·show Act.put _ (some 32) _ = _
        simp only [Act.put, List.setIfInBounds_toArray, List.set_cons_zero, List.set_cons_succ, i64_w, i32_w]
        rfl
       refine one_ (i := 11) (N := some 33) #[true, true, true, true, true, true, true, true, true, true, true, true, false, false] rfl rfl (one_of HT_.out (by kernel_rfl)) (by decide) (fun K hK => ?_)
       refine Kd.R_lit_step (Kd.int .i64) _ 3 ?hg (N := 33) ?hd (xs := ([0, t221, t222] : List Int)) (inner := [.int .i64 0, .int .i64 t221, .int .i64 t222]) (ok := fun _ => True) (okp := fun _ => True) ?hr ?hp (fun _ hk => hk) trivial (Below.refl _ _) (Nat.le_refl _) (by simp) ?_; (case hd => rfl); (case hg => rfl); (case hr => exact xh); (case hp => exact (Reps.one (show Kd.M (Kd.int .i64) _ _ _ 0 [.int .i64 0] from rfl) (Reps.one (show Kd.M (Kd.int .i64) _ _ _ t221 [.int .i64 t221] from rfl) (Reps.one (show Kd.M (Kd.int .i64) _ _ _ t222 [.int .i64 t222] from rfl) (Reps.none _ _)))))
       intro v224 w39 ho40 hb hg_ hnew_
       clear hg_ hnew_
       (first | rw [← Ny223.out] at ho40 | (simp only [Int.reduceToNat] at ho40; rw [← Ny223.out] at ho40))
       have HO225 := xy (Kd.R_lower ho40 (below_size xb))
       replace BK207 := xd BK207.out hb
       replace BK208 := xd BK208.out hb
       replace HB := xy (below_step xb hb)
       clear hb ho40
       obtain ⟨Ao41, co41, eo41⟩ := Kd.R_slice HO225.out
       (first | subst eo41 | (injection eo41 with f1_ f2_ f3_; have f4_ := f1_.symm; have f5_ := f3_.symm; clear f1_ f2_ f3_; subst f4_; subst f5_))
       refine hK.out _ _ ⟨(kc BK207.out 0).trans rfl, (kc BK207.out 1).trans rfl, (kc BK207.out 2).trans rfl, (kc BK208.out 0).trans rfl, (kc BK208.out 1).trans rfl, (kc BK208.out 2).trans rfl⟩ (fun hHeld => ?_)
       clear hK K
       refine norm_ (a' := ?_) ?_ ?_
       rotate_left
       ·show Act.put _ (some 33) _ = _
        simp only [Act.put, List.setIfInBounds_toArray, List.set_cons_zero, List.set_cons_succ, i64_w, i32_w]
        rfl
       refine one_ (i := 12) (N := some 34) #[true, true, true, true, true, true, true, true, true, true, true, true, true, false] rfl rfl (one_of HT_.out (by kernel_rfl)) (by decide) (fun K hK => ?_)
       refine goes_ Tryz.func99 (by kernel_rfl) rfl #[.slice Ao41 y223.length co41] (by rfl) rfl rfl xr ?_
       with_reducible refine (cmp_Or_int.calls kj19 _ _ y223 t226 _ (Tabs.below hT xf) ?side1 ?side2 A37.out).mono ?_
       (case side1 => repeat (first | exact (Kd.R_reads' HO225.out).2.2 | (with_reducible refine Kd.C_alloc ?_ _) | (with_reducible refine Kd.C_drewN ?_ _) | (with_reducible refine Kd.C_drew ?_)))
       (case side2 => exact (Kd.R_reads' HO225.out).2.1)
       rintro e w' ⟨rfl, ⟨nd, rfl⟩⟩
       refine ⟨_, rfl, ?_⟩
       refine hK.out _ _ ⟨(kc BK207.out 0).trans rfl, (kc BK207.out 1).trans rfl, (kc BK207.out 2).trans rfl, (kc BK208.out 0).trans rfl, (kc BK208.out 1).trans rfl, (kc BK208.out 2).trans rfl⟩ (fun hHeld => ?_)
       clear hK K
       refine norm_ (a' := ?_) ?_ ?_
       rotate_left
       ·show Act.put _ (some 34) _ = _
        simp only [Act.put, List.setIfInBounds_toArray, List.set_cons_zero, List.set_cons_succ, i64_w, i32_w]
        rfl
       refine pure_ (i := 13) (N := some 4) (v := ?_) (a' := ?_) #[true, true, true, true, true, true, true, true, true, true, true, true, true, true] rfl rfl (any_of HT_.out (by kernel_rfl)) (fun _ _ _ h => h) (Or.inl ⟨by rfl, ?_⟩) ?_ ?_
       rotate_left
       ·intro w'
        go_simp
        with_reducible rfl
       rotate_left
       ·simp only [Act.put, List.setIfInBounds_toArray, List.set_cons_zero, List.set_cons_succ, i64_w, i32_w]
        rfl
       refine done_ (done_of HT_.out (by kernel_rfl)) ?_
       try go_wp2
       go_ret
       exact ⟨xe, xb⟩
end Go.Proofs.YtnodgcakmolleaaGreatDoor.PX
