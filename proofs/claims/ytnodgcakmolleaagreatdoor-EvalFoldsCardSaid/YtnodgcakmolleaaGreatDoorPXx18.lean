/- Walked functions, by this session's program over the kit's print. -/
import Derived.Test.YtnodgcakmolleaaGreatDoorPXx0
import Derived.Test.YtnodgcakmolleaaGreatDoorPXx11
import Derived.Test.YtnodgcakmolleaaGreatDoorPXx15
namespace Go.Proofs.YtnodgcakmolleaaGreatDoor.PX
open Go.RowKit Go.Proofs.YtnodgcakmolleaaGreatDoorW.PrintWords Go.Proofs.YtnodgcakmolleaaGreatDoorW.PrintLast Go.Proofs.YtnodgcakmolleaaGreatDoorW.PrintMore
attribute [local go_sem] xm_gtr max2_int min2_int max_two min_two max_three min_three max_four min_four
set_option linter.unusedVariables false
set_option linter.unusedSimpArgs false
/- Walked functions, by this session's program over the kit's print. -/
def r13_figures.f : Nat → Int → Option (ByteArray)
 | 0, _ => none
 | k + 1, a0 => (some (([(IntKind.u64.wrap (48 + (Int.tmod a0 10))) % 256] : List Int) : List Int)).bind fun y378 => (if a0 < 10 then (some (strOfNums y378)) else ((r13_figures.f k (IntKind.u64.wrap (Int.tdiv a0 10))).bind fun t381 => (if t381.size + (strOfNums y378).size ≤ 9223372036854775807 then (some (t381 ++ (strOfNums y378))) else (none))))
theorem r13_figures.mono_l : ∀ k, (∀ y0, LeO (r13_figures.f k y0) (r13_figures.f (k + 1) y0))
 | 0 => fun _ r h => by simp [r13_figures.f] at h
 | k + 1 => by
  have ih0 := r13_figures.mono_l k
  ·intro y0
   unfold r13_figures.f
   repeat' (with_reducible first | exact ih0 _ | exact LeO.refl _ | exact LeO.none _ | refine LeO.ite ?_ ?_ | refine LeO.bind ?_ (fun _ => ?_))
theorem r13_figures.mono : ∀ a0 k, LeO (r13_figures.f k a0) (r13_figures.f (k + 1) a0) := by
 intro a0 k
 have ih0 := r13_figures.mono_l k
 exact ih0 a0
set_option maxHeartbeats 8000000 in
set_option maxRecDepth 100000 in
theorem r13_figures.calls (k : Nat) : ∀ (a0 : Int) (r : ByteArray) (w : World) (hT : Tabs w) (h : r13_figures.f k a0 = some r),
  Calls Tryz.prog 89 #[.int .u64 a0] w fun e w' => e = .returned (.string r) ∧ Below w.heap.size w w' := by
 induction k using Nat.strongRecOn with
 | _ k ih =>
 intro a0 r w hT h
 cases k with
 | zero => exact absurd h (by simp [r13_figures.f])
 | succ k =>
 simp only [r13_figures.f] at h
 have HB := xy (Below.refl w.heap.size w)
 have H : ((some (([(IntKind.u64.wrap (48 + (Int.tmod a0 10))) % 256] : List Int) : List Int)).bind fun y378 => (if a0 < 10 then (some (strOfNums y378)) else ((r13_figures.f k (IntKind.u64.wrap (Int.tdiv a0 10))).bind fun t381 => (if t381.size + (strOfNums y378).size ≤ 9223372036854775807 then (some (t381 ++ (strOfNums y378))) else (none))))) = some r := h
 clear h
 obtain ⟨y378, hy378⟩ : ∃ y_ : List Int, y_ = (([(IntKind.u64.wrap (48 + (Int.tmod a0 10))) % 256] : List Int)) := ⟨_, rfl⟩
 replace H : (if a0 < 10 then (some (strOfNums y378)) else ((r13_figures.f k (IntKind.u64.wrap (Int.tdiv a0 10))).bind fun t381 => (if t381.size + (strOfNums y378).size ≤ 9223372036854775807 then (some (t381 ++ (strOfNums y378))) else (none)))) = some r := by first | (rw [hy378]; with_reducible exact H) | (have H2_ := (Option.bind_some _ _).symm.trans H; rw [hy378]; with_reducible exact H2_) | (have H2_ := (Option.bind_some _ _).symm.trans H; with_reducible exact H2_) | with_reducible exact H | (rw [hy378]; exact H) | exact H
 have Ny378 := xy hy378
 clear hy378
 by_cases c2 : a0 < 10
 ·rw [if_pos c2] at H
  have c2b0 : decide (a0 < 10) = true := decide_eq_true c2
  clear c2
  obtain rfl := Option.some.inj H
  go_enter Tryz.func89, Tryz.ntmps89
  go_wp2_with (((with_reducible refine gate_dst (N := 8) rfl ?_); refine Kd.R_lit (Kd.int .u8) _ 5 ?hg (N := 8) ?hd (xs := ([(IntKind.u64.wrap (48 + (Int.tmod a0 10))) % 256] : List Int)) (inner := [.int .u8 ((IntKind.u64.wrap (48 + (Int.tmod a0 10))) % 256)]) (ok := fun _ => True) (okp := fun _ => True) ?hr ?hp (fun _ hk => hk) trivial (Below.refl _ _) (Nat.le_refl _) (by simp) ?_; (case hd => rfl); (case hg => rfl); (case hr => exact xh); (case hp => exact (Reps.one (show Kd.M (Kd.int .u8) _ _ _ ((IntKind.u64.wrap (48 + (Int.tmod a0 10))) % 256) [.int .u8 ((IntKind.u64.wrap (48 + (Int.tmod a0 10))) % 256)] from rfl) (Reps.none _ _))); intro v379 w3 ho4 hb hg_ hnew_; clear hg_ hnew_; (first | rw [← Ny378.out] at ho4 | (simp only [Int.reduceToNat] at ho4; rw [← Ny378.out] at ho4)); have HO380 := xy (Kd.R_lower ho4 (below_size xb)); replace HB := xy (below_step xb hb); clear hb ho4; have hcv5 := own_string (P := Tryz.prog) Tryz.underlying106 Tryz.underlying5 Tryz.underlying9 (Kd.own_of_R HO380.out); have hcv6 := fun (nq_ : Nat) => own_string (P := Tryz.prog) Tryz.underlying106 Tryz.underlying5 Tryz.underlying9 (Kd.own_of_R (Kd.R_drewN HO380.out nq_))))
  go_ret
  exact ⟨xe, xb⟩
 ·rw [if_neg c2] at H
  have c2b0 : decide (a0 < 10) = false := decide_eq_false c2
  clear c2
  replace H := xj H
  obtain ⟨t381, A70, H⟩ := H
  try dsimp only at H
  have A7 := xy A70
  clear A70
  by_cases c8 : t381.size + (strOfNums y378).size ≤ 9223372036854775807
  ·rw [if_pos c8] at H
   have c8b0 := eq_true c8
   have c8b1 : decide (t381.size + (strOfNums y378).size ≤ 9223372036854775807) = true := decide_eq_true c8
   try have c8b2 : (9223372036854775807 < t381.size + (strOfNums y378).size) = False := eq_false (Nat.not_lt.2 c8)
   obtain rfl := Option.some.inj H
   go_enter Tryz.func89, Tryz.ntmps89
   go_wp2_with (first | ((with_reducible refine gate_dst (N := 8) rfl ?_); refine Kd.R_lit (Kd.int .u8) _ 5 ?hg (N := 8) ?hd (xs := ([(IntKind.u64.wrap (48 + (Int.tmod a0 10))) % 256] : List Int)) (inner := [.int .u8 ((IntKind.u64.wrap (48 + (Int.tmod a0 10))) % 256)]) (ok := fun _ => True) (okp := fun _ => True) ?hr ?hp (fun _ hk => hk) trivial (Below.refl _ _) (Nat.le_refl _) (by simp) ?_; (case hd => rfl); (case hg => rfl); (case hr => exact xh); (case hp => exact (Reps.one (show Kd.M (Kd.int .u8) _ _ _ ((IntKind.u64.wrap (48 + (Int.tmod a0 10))) % 256) [.int .u8 ((IntKind.u64.wrap (48 + (Int.tmod a0 10))) % 256)] from rfl) (Reps.none _ _))); intro v379 w9 ho10 hb hg_ hnew_; clear hg_ hnew_; (first | rw [← Ny378.out] at ho10 | (simp only [Int.reduceToNat] at ho10; rw [← Ny378.out] at ho10)); have HO380 := xy (Kd.R_lower ho10 (below_size xb)); replace HB := xy (below_step xb hb); clear hb ho10; have hcv11 := own_string (P := Tryz.prog) Tryz.underlying106 Tryz.underlying5 Tryz.underlying9 (Kd.own_of_R HO380.out); have hcv12 := fun (nq_ : Nat) => own_string (P := Tryz.prog) Tryz.underlying106 Tryz.underlying5 Tryz.underlying9 (Kd.own_of_R (Kd.R_drewN HO380.out nq_))) | ((with_reducible refine gate_callee (f := 89) rfl ?_); refine goesL_ (some 15) rfl rfl Tryz.func89 (by kernel_rfl) rfl #[.int .u64 (IntKind.u64.wrap (Int.tdiv a0 10))] rfl xr ?_; (with_reducible refine (ih k (by omega) (IntKind.u64.wrap (Int.tdiv a0 10)) t381 _ (Tabs.below hT xf) A7.out).mono ?_); rintro e w13 ⟨rfl, hb⟩; refine ⟨_, rfl, ?_⟩; replace HO380 := xy (Kd.R_below (xo HO380.out) hb); replace HB := xy (below_step xb hb); (try clear hb); (try clear hb2); (try clear hk); (try clear hi)))
   go_ret
   exact ⟨xe, xb⟩
  ·rw [if_neg c8] at H
   exact absurd H (by simp)
def r13_Figures.f (k : Nat) (a0 : Int) : Option (ByteArray) := if a0 < 0 then ((r13_figures.f k (IntKind.u64.wrap (-(IntKind.u64.wrap (a0))))).bind fun t382 => (if 1 + t382.size ≤ 9223372036854775807 then (some ((⟨#[45]⟩ : ByteArray) ++ t382)) else (none))) else ((r13_figures.f k (IntKind.u64.wrap (a0))).bind fun t383 => (some t383))
theorem r13_Figures.mono : ∀ a0 k, LeO (r13_Figures.f k a0) (r13_Figures.f (k + 1) a0) := by
 intro a0 k
 unfold r13_Figures.f
 repeat' (with_reducible first | exact r13_figures.mono _ _ | exact LeO.refl _ | exact LeO.none _ | refine LeO.ite ?_ ?_ | refine LeO.bind ?_ (fun _ => ?_))
set_option maxHeartbeats 8000000 in
set_option maxRecDepth 100000 in
theorem r13_Figures.calls (k : Nat) (a0 : Int) (r : ByteArray) (w : World) (hT : Tabs w) (h : r13_Figures.f k a0 = some r) :
  Calls Tryz.prog 65 #[.int .i64 a0] w fun e w' => e = .returned (.string r) ∧ Below w.heap.size w w' := by
 have HB := xy (Below.refl w.heap.size w)
 unfold r13_Figures.f at h
 have H := h
 clear h
 by_cases c2 : a0 < 0
 ·rw [if_pos c2] at H
  have c2b0 : decide (a0 < 0) = true := decide_eq_true c2
  clear c2
  replace H := xj H
  obtain ⟨t382, A30, H⟩ := H
  try dsimp only at H
  have A3 := xy A30
  clear A30
  by_cases c4 : 1 + t382.size ≤ 9223372036854775807
  ·rw [if_pos c4] at H
   have c4b0 := eq_true c4
   have c4b1 : decide (1 + t382.size ≤ 9223372036854775807) = true := decide_eq_true c4
   try have c4b2 : (9223372036854775807 < 1 + t382.size) = False := eq_false (Nat.not_lt.2 c4)
   obtain rfl := Option.some.inj H
   go_enter Tryz.func65, Tryz.ntmps65
   go_wp2_with (((with_reducible refine gate_callee (f := 89) rfl ?_); refine goesL_ (some 8) rfl rfl Tryz.func89 (by kernel_rfl) rfl #[.int .u64 (IntKind.u64.wrap (-(IntKind.u64.wrap (a0))))] rfl xr ?_; (with_reducible refine (r13_figures.calls k (IntKind.u64.wrap (-(IntKind.u64.wrap (a0)))) t382 _ (Tabs.below hT xf) A3.out).mono ?_); rintro e w5 ⟨rfl, hb⟩; refine ⟨_, rfl, ?_⟩; replace HB := xy (below_step xb hb); (try clear hb); (try clear hb2); (try clear hk); (try clear hi)))
   go_ret
   exact ⟨xe, xb⟩
  ·rw [if_neg c4] at H
   exact absurd H (by simp)
 ·rw [if_neg c2] at H
  have c2b0 : decide (a0 < 0) = false := decide_eq_false c2
  clear c2
  replace H := xj H
  obtain ⟨t383, A60, H⟩ := H
  try dsimp only at H
  have A6 := xy A60
  clear A60
  obtain rfl := Option.some.inj H
  go_enter Tryz.func65, Tryz.ntmps65
  go_wp2_with (((with_reducible refine gate_callee (f := 89) rfl ?_); refine goesL_ (some 12) rfl rfl Tryz.func89 (by kernel_rfl) rfl #[.int .u64 (IntKind.u64.wrap (a0))] rfl xr ?_; (with_reducible refine (r13_figures.calls k (IntKind.u64.wrap (a0)) t383 _ (Tabs.below hT xf) A6.out).mono ?_); rintro e w7 ⟨rfl, hb⟩; refine ⟨_, rfl, ?_⟩; replace HB := xy (below_step xb hb); (try clear hb); (try clear hb2); (try clear hk); (try clear hi)))
  go_ret
  exact ⟨xe, xb⟩
def r13_Hash.l0 : Nat → ByteArray → Int → Int → Option (Int)
 | 0, _, _, _ => none
 | k + 1, x0, x3, x4 => if x4 < (x0.size : Int) then (if 0 ≤ x4 then (r13_Hash.l0 k x0 (((Go.bits .xor .u32 x3 ((bt x0 x4) % 4294967296)) * 16777619) % 4294967296) (wrap64 (x4 + 1))) else (none)) else (some (wrap64 (Int.tmod x3 2147483648)))
def r13_Hash.f (k : Nat) (a0 : ByteArray) : Option (Int) := r13_Hash.l0 k a0 2166136261 0
theorem r13_Hash.mono_l : ∀ k, (∀ y0 y1 y2, LeO (r13_Hash.l0 k y0 y1 y2) (r13_Hash.l0 (k + 1) y0 y1 y2))
 | 0 => fun _ _ _ r h => by simp [r13_Hash.l0] at h
 | k + 1 => by
  have ih0 := r13_Hash.mono_l k
  ·intro y0 y1 y2
   unfold r13_Hash.l0
   repeat' (with_reducible first | exact ih0 _ _ _ | exact LeO.refl _ | exact LeO.none _ | refine LeO.ite ?_ ?_ | refine LeO.bind ?_ (fun _ => ?_))
theorem r13_Hash.mono : ∀ a0 k, LeO (r13_Hash.f k a0) (r13_Hash.f (k + 1) a0) := by
 intro a0 k
 have ih0 := r13_Hash.mono_l k
 unfold r13_Hash.f
 repeat' (with_reducible first | exact ih0 _ _ _ | exact LeO.refl _ | exact LeO.none _ | refine LeO.ite ?_ ?_ | refine LeO.bind ?_ (fun _ => ?_))
set_option maxHeartbeats 8000000 in
set_option maxRecDepth 100000 in
theorem r13_Hash.calls (k : Nat) (a0 : ByteArray) (r : Int) (w : World) (hT : Tabs w) (h : r13_Hash.f k a0 = some r) :
  Calls Tryz.prog 66 #[.string a0] w fun e w' => e = .returned (.int .i64 r) ∧ Drawn0 w w' := by
 unfold r13_Hash.f at h
 have H := h
 clear h
 have H' := xy H
 clear H
 go_enter Tryz.func66, Tryz.ntmps66
 go_wp2
 go_loopg [3, 4] k (fun kq v3 v4 w' => ∃ (x3_1 : Int) (x4_1 : Int), v3 = .int .u32 x3_1 ∧ v4 = .int .i64 x4_1 ∧ Aside0 (r13_Hash.l0 kq a0 x3_1 x4_1 = some r) ∧ Aside0 (kq ≤ k) ∧ Drawn0 w w')
 case atStart => exact ⟨(2166136261), (0), xg, xg, H', ⟨Nat.le_refl _⟩, by repeat (first | exact Drawn0.refl _ | apply Drawn0.step)⟩
 case round =>
  clear H'
  obtain ⟨x3_1, x4_1, rfl, rfl, HA, HK1, ⟨m1, rfl⟩⟩ := hrel
  cases gk with
  | zero => exact absurd HA.out (by simp [r13_Hash.l0])
  | succ k1 =>
   have H := HA.out
   clear HA
   simp only [r13_Hash.l0] at H
   by_cases c2 : x4_1 < (a0.size : Int)
   ·rw [if_pos c2] at H
    have c2b0 : decide (x4_1 < (a0.size : Int)) = true := decide_eq_true c2
    clear c2
    by_cases c3 : 0 ≤ x4_1
    ·rw [if_pos c3] at H
     have c3b0 : decide (0 ≤ x4_1) = true := decide_eq_true c3
     clear c3
     have H' := xy H
     clear H
     have p4 : 0 ≤ (x4_1 : Int) := xi
     have q4 : x4_1 < (a0.size : Int) := xi
     have hx4 := bt_at a0 x4_1
     replace p4 := eq_true p4
     replace q4 := eq_true q4
     go_wp2
     go_roundg k1
     case measure => have := HK1.out; omega
     case rel => exact ⟨(((Go.bits .xor .u32 x3_1 ((bt a0 x4_1) % 4294967296)) * 16777619) % 4294967296), (wrap64 (x4_1 + 1)), xg, xg, H', ⟨by have := HK1.out; omega⟩, by repeat (first | exact Drawn0.refl _ | apply Drawn0.step)⟩
    ·rw [if_neg c3] at H
     exact absurd H (by simp)
   ·rw [if_neg c2] at H
    have c2b0 : decide (x4_1 < (a0.size : Int)) = false := decide_eq_false c2
    clear c2
    obtain rfl := Option.some.inj H
    go_wp2
    go_ret
    exact ⟨xg, xz⟩
def r13_find.l0 : Nat → ByteArray → ByteArray → Int → Option (Int)
 | 0, _, _, _ => none
 | k + 1, x0, x1, x5 => if (wrap64 (x5 + (x1.size : Int))) ≤ (x0.size : Int) then (if 0 ≤ x5 then (if x5 ≤ (wrap64 (x5 + (x1.size : Int))) then (if (x0.extract (x5 : Int).toNat ((wrap64 (x5 + (x1.size : Int))) : Int).toNat).toList = x1.toList then (some x5) else (r13_find.l0 k x0 x1 (wrap64 (x5 + 1)))) else (none)) else (none)) else (some (-1))
def r13_find.f (k : Nat) (a0 : ByteArray) (a1 : ByteArray) : Option (Int) := r13_find.l0 k a0 a1 0
theorem r13_find.mono_l : ∀ k, (∀ y0 y1 y2, LeO (r13_find.l0 k y0 y1 y2) (r13_find.l0 (k + 1) y0 y1 y2))
 | 0 => fun _ _ _ r h => by simp [r13_find.l0] at h
 | k + 1 => by
  have ih0 := r13_find.mono_l k
  ·intro y0 y1 y2
   unfold r13_find.l0
   repeat' (with_reducible first | exact ih0 _ _ _ | exact LeO.refl _ | exact LeO.none _ | refine LeO.ite ?_ ?_ | refine LeO.bind ?_ (fun _ => ?_))
theorem r13_find.mono : ∀ a0 a1 k, LeO (r13_find.f k a0 a1) (r13_find.f (k + 1) a0 a1) := by
 intro a0 a1 k
 have ih0 := r13_find.mono_l k
 unfold r13_find.f
 repeat' (with_reducible first | exact ih0 _ _ _ | exact LeO.refl _ | exact LeO.none _ | refine LeO.ite ?_ ?_ | refine LeO.bind ?_ (fun _ => ?_))
set_option maxHeartbeats 8000000 in
set_option maxRecDepth 100000 in
theorem r13_find.calls (k : Nat) (a0 : ByteArray) (a1 : ByteArray) (r : Int) (w : World) (hT : Tabs w) (h : r13_find.f k a0 a1 = some r) :
  Calls Tryz.prog 67 #[.string a0, .string a1] w fun e w' => e = .returned (.int .i64 r) ∧ Drawn0 w w' := by
 unfold r13_find.f at h
 have H := h
 clear h
 have H' := xy H
 clear H
 go_enter Tryz.func67, Tryz.ntmps67
 go_wp2
 go_loopg [5] k (fun kq v5 w' => ∃ (x5_1 : Int), v5 = .int .i64 x5_1 ∧ Aside0 (r13_find.l0 kq a0 a1 x5_1 = some r) ∧ Aside0 (kq ≤ k) ∧ Drawn0 w w')
 case atStart => exact ⟨(0), xg, H', ⟨Nat.le_refl _⟩, by repeat (first | exact Drawn0.refl _ | apply Drawn0.step)⟩
 case round =>
  clear H'
  try clear p2
  obtain ⟨x5_1, rfl, HA, HK1, ⟨m1, rfl⟩⟩ := hrel
  cases gk with
  | zero => exact absurd HA.out (by simp [r13_find.l0])
  | succ k1 =>
   have H := HA.out
   clear HA
   simp only [r13_find.l0] at H
   by_cases c3 : (wrap64 (x5_1 + (a1.size : Int))) ≤ (a0.size : Int)
   ·rw [if_pos c3] at H
    have c3b0 : decide ((wrap64 (x5_1 + (a1.size : Int))) ≤ (a0.size : Int)) = true := decide_eq_true c3
    clear c3
    by_cases c4 : 0 ≤ x5_1
    ·rw [if_pos c4] at H
     have c4b0 := eq_true c4
     have c4b1 : decide (0 ≤ x5_1) = true := decide_eq_true c4
     clear c4
     by_cases c5 : x5_1 ≤ (wrap64 (x5_1 + (a1.size : Int)))
     ·rw [if_pos c5] at H
      have c5b0 := eq_true c5
      have c5b1 : decide (x5_1 ≤ (wrap64 (x5_1 + (a1.size : Int)))) = true := decide_eq_true c5
      have c6b0 := eq_true (xi : (wrap64 (x5_1 + (a1.size : Int))) ≤ (a0.size : Int))
      by_cases c7 : (a0.extract (x5_1 : Int).toNat ((wrap64 (x5_1 + (a1.size : Int))) : Int).toNat).toList = a1.toList
      ·rw [if_pos c7] at H
       have c7b0 : ((a0.extract (x5_1 : Int).toNat ((wrap64 (x5_1 + (a1.size : Int))) : Int).toNat).toList == a1.toList) = true := beq_iff_eq.mpr c7
       (try (have c7b0s := c7b0; simp only [ByteArray.size_extract, Nat.min_self] at c7b0s))
       have c7b1 : ((a0.extract (x5_1 : Int).toNat ((wrap64 (x5_1 + (a1.size : Int))) : Int).toNat).toList != a1.toList) = false := bne_eq_false_iff_eq.mpr c7
       (try (have c7b1s := c7b1; simp only [ByteArray.size_extract, Nat.min_self] at c7b1s))
       clear c7
       obtain rfl := Option.some.inj H
       go_wp2
       go_ret
       exact ⟨xg, xz⟩
      ·rw [if_neg c7] at H
       have c7b0 : ((a0.extract (x5_1 : Int).toNat ((wrap64 (x5_1 + (a1.size : Int))) : Int).toNat).toList == a1.toList) = false := beq_eq_false_iff_ne.mpr c7
       (try (have c7b0s := c7b0; simp only [ByteArray.size_extract, Nat.min_self] at c7b0s))
       have c7b1 : ((a0.extract (x5_1 : Int).toNat ((wrap64 (x5_1 + (a1.size : Int))) : Int).toNat).toList != a1.toList) = true := bne_iff_ne.mpr c7
       (try (have c7b1s := c7b1; simp only [ByteArray.size_extract, Nat.min_self] at c7b1s))
       have H' := xy H
       clear H
       go_wp2
       go_roundg k1
       case measure => have := HK1.out; omega
       case rel => exact ⟨(wrap64 (x5_1 + 1)), xg, H', ⟨by have := HK1.out; omega⟩, by repeat (first | exact Drawn0.refl _ | apply Drawn0.step)⟩
     ·rw [if_neg c5] at H
      exact absurd H (by simp)
    ·rw [if_neg c4] at H
     exact absurd H (by simp)
   ·rw [if_neg c3] at H
    have c3b0 : decide ((wrap64 (x5_1 + (a1.size : Int))) ≤ (a0.size : Int)) = false := decide_eq_false c3
    clear c3
    obtain rfl := Option.some.inj H
    go_wp2
    go_ret
    exact ⟨xg, xz⟩
/- Walked functions, by this session's program over the kit's print. -/
def r13_texted.f (k : Nat) (a0 : Int) (a1_0 : Bool) (a1_1 : Int) (a1_2 : ByteArray) (a2_0 : Bool) (a2_1 : Int) (a2_2 : ByteArray) (a3_0 : Bool) (a3_1 : Int) (a3_2 : ByteArray) : Option (Bool × Int × ByteArray) := if a0 = 9 then (if a1_2.size + a2_2.size ≤ 9223372036854775807 then ((r13_Text.f (a1_2 ++ a2_2)).bind fun bt388 => (some (bt388.1, bt388.2.1, bt388.2.2))) else (none)) else (if a0 = 10 then ((r13_Num.f (a1_2.size : Int)).bind fun bt391 => (some (bt391.1, bt391.2.1, bt391.2.2))) else (if a0 = 11 then ((r13_slice.f a1_2 a2_1 a3_1).bind fun t394 => ((r13_Text.f t394).bind fun bt395 => (some (bt395.1, bt395.2.1, bt395.2.2)))) else (if a0 = 12 then ((r13_turned.f k a1_2 97).bind fun t398 => ((r13_Text.f t398).bind fun bt399 => (some (bt399.1, bt399.2.1, bt399.2.2)))) else (if a0 = 13 then ((r13_turned.f k a1_2 65).bind fun t402 => ((r13_Text.f t402).bind fun bt403 => (some (bt403.1, bt403.2.1, bt403.2.2)))) else (if a0 = 18 then ((r13_number.f k a1_2).bind fun t406 => ((r13_Num.f t406).bind fun bt407 => (some (bt407.1, bt407.2.1, bt407.2.2)))) else (if a0 = 19 then ((r13_Figures.f k a1_1).bind fun t410 => ((r13_Text.f t410).bind fun bt411 => (some (bt411.1, bt411.2.1, bt411.2.2)))) else (if a0 = 20 then ((r13_Hash.f k a1_2).bind fun t414 => ((r13_Num.f t414).bind fun bt415 => (some (bt415.1, bt415.2.1, bt415.2.2)))) else ((r13_find.f k a1_2 a2_2).bind fun t418 => ((r13_Num.f t418).bind fun bt419 => (some (bt419.1, bt419.2.1, bt419.2.2)))))))))))
theorem r13_texted.mono : ∀ a0 a1 a2 a3 a4 a5 a6 a7 a8 a9 k, LeO (r13_texted.f k a0 a1 a2 a3 a4 a5 a6 a7 a8 a9) (r13_texted.f (k + 1) a0 a1 a2 a3 a4 a5 a6 a7 a8 a9) := by
 intro a0 a1 a2 a3 a4 a5 a6 a7 a8 a9 k
 unfold r13_texted.f
 repeat' (with_reducible first | exact r13_Figures.mono _ _ | exact r13_Hash.mono _ _ | exact r13_find.mono _ _ _ | exact r13_number.mono _ _ | exact r13_turned.mono _ _ _ | exact LeO.refl _ | exact LeO.none _ | refine LeO.ite ?_ ?_ | refine LeO.bind ?_ (fun _ => ?_))
set_option maxHeartbeats 8000000 in
set_option maxRecDepth 100000 in
theorem r13_texted.calls (k : Nat) (a0 : Int) (a1_0 : Bool) (a1_1 : Int) (a1_2 : ByteArray) (a2_0 : Bool) (a2_1 : Int) (a2_2 : ByteArray) (a3_0 : Bool) (a3_1 : Int) (a3_2 : ByteArray) (r1 : Bool) (r2 : Int) (r3 : ByteArray) (w : World) (hT : Tabs w) (h : r13_texted.f k a0 a1_0 a1_1 a1_2 a2_0 a2_1 a2_2 a3_0 a3_1 a3_2 = some (r1, r2, r3)) :
  Calls Tryz.prog 52 #[.int .i64 a0, .agg #[.bool a1_0, .int .i64 a1_1, .string a1_2], .agg #[.bool a2_0, .int .i64 a2_1, .string a2_2], .agg #[.bool a3_0, .int .i64 a3_1, .string a3_2]] w fun e w' => e = .returned (.agg #[.bool r1, .int .i64 r2, .string r3]) ∧ Below w.heap.size w w' := by
 have hu32 := Tryz.underlying32
 have HB := xy (Below.refl w.heap.size w)
 unfold r13_texted.f at h
 have H := h
 clear h
 by_cases c5 : a0 = 9
 ·rw [if_pos c5] at H
  have c5b0 : (a0 == 9) = true := beq_iff_eq.mpr c5
  have c5b1 : (a0 != 9) = false := bne_eq_false_iff_eq.mpr c5
  clear c5
  by_cases c6 : a1_2.size + a2_2.size ≤ 9223372036854775807
  ·rw [if_pos c6] at H
   have c6b0 := eq_true c6
   have c6b1 : decide (a1_2.size + a2_2.size ≤ 9223372036854775807) = true := decide_eq_true c6
   try have c6b2 : (9223372036854775807 < a1_2.size + a2_2.size) = False := eq_false (Nat.not_lt.2 c6)
   replace H := xj H
   obtain ⟨⟨t388, t389, t390⟩, A70, H⟩ := H
   try dsimp only at H
   have A7 := xy A70
   clear A70
   simp only [Option.some.injEq, Prod.mk.injEq] at H
   obtain ⟨rfl, rfl, rfl⟩ := H
   go_enter Tryz.func52, Tryz.ntmps52
   go_wp2_with (first | ((with_reducible refine gate_dst (N := 5) rfl ?_); refine xq (N := 5) (cs := #[.bool a1_0, .int .i64 a1_1, .string a1_2]) (t := 32) ?_; intro gb384 hg w8 hbox hb; have BK384 := xy (hbox); have GW384 := xs w hg; have GE384 := xs w hg; replace HB := xy (below_step xb hb); clear hb hbox hg) | ((with_reducible refine gate_dst (N := 6) rfl ?_); refine xq (N := 6) (cs := #[.bool a2_0, .int .i64 a2_1, .string a2_2]) (t := 32) ?_; intro gb385 hg w9 hbox hb; have BK385 := xy (hbox); have GW385 := xs w hg; have GE385 := xs w hg; replace HB := xy (below_step xb hb); have NB384_385 := xn hg BK384.out; have NB385_384 := xp hg BK384.out; replace BK384 := xd BK384.out hb; clear hb hbox hg) | ((with_reducible refine gate_dst (N := 7) rfl ?_); refine xq (N := 7) (cs := #[.bool a3_0, .int .i64 a3_1, .string a3_2]) (t := 32) ?_; intro gb386 hg w10 hbox hb; have BK386 := xy (hbox); have GW386 := xs w hg; have GE386 := xs w hg; replace HB := xy (below_step xb hb); have NB384_386 := xn hg BK384.out; have NB386_384 := xp hg BK384.out; replace BK384 := xd BK384.out hb; have NB385_386 := xn hg BK385.out; have NB386_385 := xp hg BK385.out; replace BK385 := xd BK385.out hb; clear hb hbox hg) | ((with_reducible refine gate_dst (N := 8) rfl ?_); refine xq (N := 8) (cs := #[.bool false, .int .i64 0, .string (⟨#[]⟩ : ByteArray)]) (t := 32) ?_; intro gb387 hg w11 hbox hb; have BK387 := xy (hbox); have GW387 := xs w hg; have GE387 := xs w hg; replace HB := xy (below_step xb hb); have NB384_387 := xn hg BK384.out; have NB387_384 := xp hg BK384.out; replace BK384 := xd BK384.out hb; have NB385_387 := xn hg BK385.out; have NB387_385 := xp hg BK385.out; replace BK385 := xd BK385.out hb; have NB386_387 := xn hg BK386.out; have NB387_386 := xp hg BK386.out; replace BK386 := xd BK386.out hb; clear hb hbox hg; have hnb12 := NB384_385.out; have hnc12 := NB385_384.out; have hnb13 := NB384_386.out; have hnc13 := NB386_384.out; have hnb14 := NB384_387.out; have hnc14 := NB387_384.out; have hcz15_0 : w11.cell? ⟨gb384, 0, none⟩ = some (.bool a1_0) := (kc BK384.out 0).trans rfl; have hcz15_1 : w11.cell? ⟨gb384, 1, none⟩ = some (.int .i64 a1_1) := (kc BK384.out 1).trans rfl; have hcz15_2 : w11.cell? ⟨gb384, 2, none⟩ = some (.string a1_2) := (kc BK384.out 2).trans rfl; have hfz15_0 := kf BK384.out 0; have hfz15_1 := kf BK384.out 1; have hfz15_2 := kf BK384.out 2; have hnb16 := NB385_386.out; have hnc16 := NB386_385.out; have hnb17 := NB385_387.out; have hnc17 := NB387_385.out; have hcz18_0 : w11.cell? ⟨gb385, 0, none⟩ = some (.bool a2_0) := (kc BK385.out 0).trans rfl; have hcz18_1 : w11.cell? ⟨gb385, 1, none⟩ = some (.int .i64 a2_1) := (kc BK385.out 1).trans rfl; have hcz18_2 : w11.cell? ⟨gb385, 2, none⟩ = some (.string a2_2) := (kc BK385.out 2).trans rfl; have hfz18_0 := kf BK385.out 0; have hfz18_1 := kf BK385.out 1; have hfz18_2 := kf BK385.out 2) | ((with_reducible refine gate_callee (f := 32) rfl ?_); refine goesL_ (some 17) rfl rfl Tryz.func32 (by kernel_rfl) rfl #[.string (a1_2 ++ a2_2)] rfl xr ?_; (with_reducible refine (r13_Text.calls (a1_2 ++ a2_2) t388 t389 t390 _ (Tabs.below hT xf) A7.out).mono ?_); rintro e w19 ⟨rfl, hb⟩; refine ⟨_, rfl, ?_⟩; replace BK384 := xd BK384.out hb; replace BK385 := xd BK385.out hb; replace BK386 := xd BK386.out hb; replace BK387 := xd BK387.out hb; replace HB := xy (below_step xb hb); (try clear hb); (try clear hb2); (try clear hk); (try clear hi); have hnb20 := NB387_386.out; have hnc20 := NB386_387.out; have hcz21_0 : w19.cell? ⟨gb387, 0, none⟩ = some (.bool false) := (kc BK387.out 0).trans rfl; have hcz21_1 : w19.cell? ⟨gb387, 1, none⟩ = some (.int .i64 0) := (kc BK387.out 1).trans rfl; have hcz21_2 : w19.cell? ⟨gb387, 2, none⟩ = some (.string (⟨#[]⟩ : ByteArray)) := (kc BK387.out 2).trans rfl; have hfz21_0 := kf BK387.out 0; have hfz21_1 := kf BK387.out 1; have hfz21_2 := kf BK387.out 2))
   refine bodyPost_ret (results_cell_row rfl _ _ gb387 32 #[.bool t388, .int .i64 t389, .string t390] (0, 0) _ rfl (kp BK387.out) Tryz.underlying32 rfl (by kernel_rfl)) rfl ?_
   exact ⟨xe, xb⟩
  ·rw [if_neg c6] at H
   exact absurd H (by simp)
 ·rw [if_neg c5] at H
  have c5b0 : (a0 == 9) = false := beq_eq_false_iff_ne.mpr c5
  have c5b1 : (a0 != 9) = true := bne_iff_ne.mpr c5
  by_cases c22 : a0 = 10
  ·rw [if_pos c22] at H
   have c22b0 : (a0 == 10) = true := beq_iff_eq.mpr c22
   have c22b1 : (a0 != 10) = false := bne_eq_false_iff_eq.mpr c22
   clear c22
   replace H := xj H
   obtain ⟨⟨t391, t392, t393⟩, A230, H⟩ := H
   try dsimp only at H
   have A23 := xy A230
   clear A230
   simp only [Option.some.injEq, Prod.mk.injEq] at H
   obtain ⟨rfl, rfl, rfl⟩ := H
   go_enter Tryz.func52, Tryz.ntmps52
   go_wp2_with (first | ((with_reducible refine gate_dst (N := 5) rfl ?_); refine xq (N := 5) (cs := #[.bool a1_0, .int .i64 a1_1, .string a1_2]) (t := 32) ?_; intro gb384 hg w24 hbox hb; have BK384 := xy (hbox); have GW384 := xs w hg; have GE384 := xs w hg; replace HB := xy (below_step xb hb); clear hb hbox hg) | ((with_reducible refine gate_dst (N := 6) rfl ?_); refine xq (N := 6) (cs := #[.bool a2_0, .int .i64 a2_1, .string a2_2]) (t := 32) ?_; intro gb385 hg w25 hbox hb; have BK385 := xy (hbox); have GW385 := xs w hg; have GE385 := xs w hg; replace HB := xy (below_step xb hb); have NB384_385 := xn hg BK384.out; have NB385_384 := xp hg BK384.out; replace BK384 := xd BK384.out hb; clear hb hbox hg) | ((with_reducible refine gate_dst (N := 7) rfl ?_); refine xq (N := 7) (cs := #[.bool a3_0, .int .i64 a3_1, .string a3_2]) (t := 32) ?_; intro gb386 hg w26 hbox hb; have BK386 := xy (hbox); have GW386 := xs w hg; have GE386 := xs w hg; replace HB := xy (below_step xb hb); have NB384_386 := xn hg BK384.out; have NB386_384 := xp hg BK384.out; replace BK384 := xd BK384.out hb; have NB385_386 := xn hg BK385.out; have NB386_385 := xp hg BK385.out; replace BK385 := xd BK385.out hb; clear hb hbox hg) | ((with_reducible refine gate_dst (N := 8) rfl ?_); refine xq (N := 8) (cs := #[.bool false, .int .i64 0, .string (⟨#[]⟩ : ByteArray)]) (t := 32) ?_; intro gb387 hg w27 hbox hb; have BK387 := xy (hbox); have GW387 := xs w hg; have GE387 := xs w hg; replace HB := xy (below_step xb hb); have NB384_387 := xn hg BK384.out; have NB387_384 := xp hg BK384.out; replace BK384 := xd BK384.out hb; have NB385_387 := xn hg BK385.out; have NB387_385 := xp hg BK385.out; replace BK385 := xd BK385.out hb; have NB386_387 := xn hg BK386.out; have NB387_386 := xp hg BK386.out; replace BK386 := xd BK386.out hb; clear hb hbox hg; have hnb28 := NB384_385.out; have hnc28 := NB385_384.out; have hnb29 := NB384_386.out; have hnc29 := NB386_384.out; have hnb30 := NB384_387.out; have hnc30 := NB387_384.out; have hcz31_0 : w27.cell? ⟨gb384, 0, none⟩ = some (.bool a1_0) := (kc BK384.out 0).trans rfl; have hcz31_1 : w27.cell? ⟨gb384, 1, none⟩ = some (.int .i64 a1_1) := (kc BK384.out 1).trans rfl; have hcz31_2 : w27.cell? ⟨gb384, 2, none⟩ = some (.string a1_2) := (kc BK384.out 2).trans rfl; have hfz31_0 := kf BK384.out 0; have hfz31_1 := kf BK384.out 1; have hfz31_2 := kf BK384.out 2) | ((with_reducible refine gate_callee (f := 31) rfl ?_); refine goesL_ (some 23) rfl rfl Tryz.func31 (by kernel_rfl) rfl #[.int .i64 (a1_2.size : Int)] rfl xr ?_; (with_reducible refine (r13_Num.calls (a1_2.size : Int) t391 t392 t393 _ (Tabs.below hT xf) A23.out).mono ?_); rintro e w32 ⟨rfl, hb⟩; refine ⟨_, rfl, ?_⟩; replace BK384 := xd BK384.out hb; replace BK385 := xd BK385.out hb; replace BK386 := xd BK386.out hb; replace BK387 := xd BK387.out hb; replace HB := xy (below_step xb hb); (try clear hb); (try clear hb2); (try clear hk); (try clear hi); have hnb33 := NB387_385.out; have hnc33 := NB385_387.out; have hnb34 := NB387_386.out; have hnc34 := NB386_387.out; have hcz35_0 : w32.cell? ⟨gb387, 0, none⟩ = some (.bool false) := (kc BK387.out 0).trans rfl; have hcz35_1 : w32.cell? ⟨gb387, 1, none⟩ = some (.int .i64 0) := (kc BK387.out 1).trans rfl; have hcz35_2 : w32.cell? ⟨gb387, 2, none⟩ = some (.string (⟨#[]⟩ : ByteArray)) := (kc BK387.out 2).trans rfl; have hfz35_0 := kf BK387.out 0; have hfz35_1 := kf BK387.out 1; have hfz35_2 := kf BK387.out 2))
   refine bodyPost_ret (results_cell_row rfl _ _ gb387 32 #[.bool t391, .int .i64 t392, .string t393] (0, 0) _ rfl (kp BK387.out) Tryz.underlying32 rfl (by kernel_rfl)) rfl ?_
   exact ⟨xe, xb⟩
  ·rw [if_neg c22] at H
   have c22b0 : (a0 == 10) = false := beq_eq_false_iff_ne.mpr c22
   have c22b1 : (a0 != 10) = true := bne_iff_ne.mpr c22
   by_cases c36 : a0 = 11
   ·rw [if_pos c36] at H
    have c36b0 : (a0 == 11) = true := beq_iff_eq.mpr c36
    have c36b1 : (a0 != 11) = false := bne_eq_false_iff_eq.mpr c36
    clear c36
    replace H := xj H
    obtain ⟨t394, A370, H⟩ := H
    try dsimp only at H
    have A37 := xy A370
    clear A370
    replace H := xj H
    obtain ⟨⟨t395, t396, t397⟩, A380, H⟩ := H
    try dsimp only at H
    have A38 := xy A380
    clear A380
    simp only [Option.some.injEq, Prod.mk.injEq] at H
    obtain ⟨rfl, rfl, rfl⟩ := H
    go_enter Tryz.func52, Tryz.ntmps52
    go_wp2_with (first | ((with_reducible refine gate_dst (N := 5) rfl ?_); refine xq (N := 5) (cs := #[.bool a1_0, .int .i64 a1_1, .string a1_2]) (t := 32) ?_; intro gb384 hg w39 hbox hb; have BK384 := xy (hbox); have GW384 := xs w hg; have GE384 := xs w hg; replace HB := xy (below_step xb hb); clear hb hbox hg) | ((with_reducible refine gate_dst (N := 6) rfl ?_); refine xq (N := 6) (cs := #[.bool a2_0, .int .i64 a2_1, .string a2_2]) (t := 32) ?_; intro gb385 hg w40 hbox hb; have BK385 := xy (hbox); have GW385 := xs w hg; have GE385 := xs w hg; replace HB := xy (below_step xb hb); have NB384_385 := xn hg BK384.out; have NB385_384 := xp hg BK384.out; replace BK384 := xd BK384.out hb; clear hb hbox hg) | ((with_reducible refine gate_dst (N := 7) rfl ?_); refine xq (N := 7) (cs := #[.bool a3_0, .int .i64 a3_1, .string a3_2]) (t := 32) ?_; intro gb386 hg w41 hbox hb; have BK386 := xy (hbox); have GW386 := xs w hg; have GE386 := xs w hg; replace HB := xy (below_step xb hb); have NB384_386 := xn hg BK384.out; have NB386_384 := xp hg BK384.out; replace BK384 := xd BK384.out hb; have NB385_386 := xn hg BK385.out; have NB386_385 := xp hg BK385.out; replace BK385 := xd BK385.out hb; clear hb hbox hg) | ((with_reducible refine gate_dst (N := 8) rfl ?_); refine xq (N := 8) (cs := #[.bool false, .int .i64 0, .string (⟨#[]⟩ : ByteArray)]) (t := 32) ?_; intro gb387 hg w42 hbox hb; have BK387 := xy (hbox); have GW387 := xs w hg; have GE387 := xs w hg; replace HB := xy (below_step xb hb); have NB384_387 := xn hg BK384.out; have NB387_384 := xp hg BK384.out; replace BK384 := xd BK384.out hb; have NB385_387 := xn hg BK385.out; have NB387_385 := xp hg BK385.out; replace BK385 := xd BK385.out hb; have NB386_387 := xn hg BK386.out; have NB387_386 := xp hg BK386.out; replace BK386 := xd BK386.out hb; clear hb hbox hg; have hnb43 := NB384_385.out; have hnc43 := NB385_384.out; have hnb44 := NB384_386.out; have hnc44 := NB386_384.out; have hnb45 := NB384_387.out; have hnc45 := NB387_384.out; have hcz46_0 : w42.cell? ⟨gb384, 0, none⟩ = some (.bool a1_0) := (kc BK384.out 0).trans rfl; have hcz46_1 : w42.cell? ⟨gb384, 1, none⟩ = some (.int .i64 a1_1) := (kc BK384.out 1).trans rfl; have hcz46_2 : w42.cell? ⟨gb384, 2, none⟩ = some (.string a1_2) := (kc BK384.out 2).trans rfl; have hfz46_0 := kf BK384.out 0; have hfz46_1 := kf BK384.out 1; have hfz46_2 := kf BK384.out 2; have hnb47 := NB385_386.out; have hnc47 := NB386_385.out; have hnb48 := NB385_387.out; have hnc48 := NB387_385.out; have hcz49_0 : w42.cell? ⟨gb385, 0, none⟩ = some (.bool a2_0) := (kc BK385.out 0).trans rfl; have hcz49_1 : w42.cell? ⟨gb385, 1, none⟩ = some (.int .i64 a2_1) := (kc BK385.out 1).trans rfl; have hcz49_2 : w42.cell? ⟨gb385, 2, none⟩ = some (.string a2_2) := (kc BK385.out 2).trans rfl; have hfz49_0 := kf BK385.out 0; have hfz49_1 := kf BK385.out 1; have hfz49_2 := kf BK385.out 2; have hnb50 := NB386_387.out; have hnc50 := NB387_386.out; have hcz51_0 : w42.cell? ⟨gb386, 0, none⟩ = some (.bool a3_0) := (kc BK386.out 0).trans rfl; have hcz51_1 : w42.cell? ⟨gb386, 1, none⟩ = some (.int .i64 a3_1) := (kc BK386.out 1).trans rfl; have hcz51_2 : w42.cell? ⟨gb386, 2, none⟩ = some (.string a3_2) := (kc BK386.out 2).trans rfl; have hfz51_0 := kf BK386.out 0; have hfz51_1 := kf BK386.out 1; have hfz51_2 := kf BK386.out 2) | ((with_reducible refine gate_callee (f := 62) rfl ?_); refine goesL_ (some 32) rfl rfl Tryz.func62 (by kernel_rfl) rfl #[.string a1_2, .int .i64 a2_1, .int .i64 a3_1] rfl xr ?_; (with_reducible refine (r13_slice.calls a1_2 a2_1 a3_1 t394 _ (Tabs.below hT xf) A37.out).mono ?_); rintro e w52 ⟨rfl, hb⟩; refine ⟨_, rfl, ?_⟩; replace BK384 := xd BK384.out hb; replace BK385 := xd BK385.out hb; replace BK386 := xd BK386.out hb; replace BK387 := xd BK387.out hb; replace HB := xy (below_step xb hb); (try clear hb); (try clear hb2); (try clear hk); (try clear hi)) | ((with_reducible refine gate_callee (f := 32) rfl ?_); refine goesL_ (some 33) rfl rfl Tryz.func32 (by kernel_rfl) rfl #[.string t394] rfl xr ?_; (with_reducible refine (r13_Text.calls t394 t395 t396 t397 _ (Tabs.below hT xf) A38.out).mono ?_); rintro e w53 ⟨rfl, hb⟩; refine ⟨_, rfl, ?_⟩; replace BK384 := xd BK384.out hb; replace BK385 := xd BK385.out hb; replace BK386 := xd BK386.out hb; replace BK387 := xd BK387.out hb; replace HB := xy (below_step xb hb); (try clear hb); (try clear hb2); (try clear hk); (try clear hi); have hcz54_0 : w53.cell? ⟨gb387, 0, none⟩ = some (.bool false) := (kc BK387.out 0).trans rfl; have hcz54_1 : w53.cell? ⟨gb387, 1, none⟩ = some (.int .i64 0) := (kc BK387.out 1).trans rfl; have hcz54_2 : w53.cell? ⟨gb387, 2, none⟩ = some (.string (⟨#[]⟩ : ByteArray)) := (kc BK387.out 2).trans rfl; have hfz54_0 := kf BK387.out 0; have hfz54_1 := kf BK387.out 1; have hfz54_2 := kf BK387.out 2))
    refine bodyPost_ret (results_cell_row rfl _ _ gb387 32 #[.bool t395, .int .i64 t396, .string t397] (0, 0) _ rfl (kp BK387.out) Tryz.underlying32 rfl (by kernel_rfl)) rfl ?_
    exact ⟨xe, xb⟩
   ·rw [if_neg c36] at H
    have c36b0 : (a0 == 11) = false := beq_eq_false_iff_ne.mpr c36
    have c36b1 : (a0 != 11) = true := bne_iff_ne.mpr c36
    by_cases c55 : a0 = 12
    ·rw [if_pos c55] at H
     have c55b0 : (a0 == 12) = true := beq_iff_eq.mpr c55
     have c55b1 : (a0 != 12) = false := bne_eq_false_iff_eq.mpr c55
     clear c55
     replace H := xj H
     obtain ⟨t398, A560, H⟩ := H
     try dsimp only at H
     have A56 := xy A560
     clear A560
     replace H := xj H
     obtain ⟨⟨t399, t400, t401⟩, A570, H⟩ := H
     try dsimp only at H
     have A57 := xy A570
     clear A570
     simp only [Option.some.injEq, Prod.mk.injEq] at H
     obtain ⟨rfl, rfl, rfl⟩ := H
     go_enter Tryz.func52, Tryz.ntmps52
     go_wp2_with (first | ((with_reducible refine gate_dst (N := 5) rfl ?_); refine xq (N := 5) (cs := #[.bool a1_0, .int .i64 a1_1, .string a1_2]) (t := 32) ?_; intro gb384 hg w58 hbox hb; have BK384 := xy (hbox); have GW384 := xs w hg; have GE384 := xs w hg; replace HB := xy (below_step xb hb); clear hb hbox hg) | ((with_reducible refine gate_dst (N := 6) rfl ?_); refine xq (N := 6) (cs := #[.bool a2_0, .int .i64 a2_1, .string a2_2]) (t := 32) ?_; intro gb385 hg w59 hbox hb; have BK385 := xy (hbox); have GW385 := xs w hg; have GE385 := xs w hg; replace HB := xy (below_step xb hb); have NB384_385 := xn hg BK384.out; have NB385_384 := xp hg BK384.out; replace BK384 := xd BK384.out hb; clear hb hbox hg) | ((with_reducible refine gate_dst (N := 7) rfl ?_); refine xq (N := 7) (cs := #[.bool a3_0, .int .i64 a3_1, .string a3_2]) (t := 32) ?_; intro gb386 hg w60 hbox hb; have BK386 := xy (hbox); have GW386 := xs w hg; have GE386 := xs w hg; replace HB := xy (below_step xb hb); have NB384_386 := xn hg BK384.out; have NB386_384 := xp hg BK384.out; replace BK384 := xd BK384.out hb; have NB385_386 := xn hg BK385.out; have NB386_385 := xp hg BK385.out; replace BK385 := xd BK385.out hb; clear hb hbox hg) | ((with_reducible refine gate_dst (N := 8) rfl ?_); refine xq (N := 8) (cs := #[.bool false, .int .i64 0, .string (⟨#[]⟩ : ByteArray)]) (t := 32) ?_; intro gb387 hg w61 hbox hb; have BK387 := xy (hbox); have GW387 := xs w hg; have GE387 := xs w hg; replace HB := xy (below_step xb hb); have NB384_387 := xn hg BK384.out; have NB387_384 := xp hg BK384.out; replace BK384 := xd BK384.out hb; have NB385_387 := xn hg BK385.out; have NB387_385 := xp hg BK385.out; replace BK385 := xd BK385.out hb; have NB386_387 := xn hg BK386.out; have NB387_386 := xp hg BK386.out; replace BK386 := xd BK386.out hb; clear hb hbox hg; have hnb62 := NB384_385.out; have hnc62 := NB385_384.out; have hnb63 := NB384_386.out; have hnc63 := NB386_384.out; have hnb64 := NB384_387.out; have hnc64 := NB387_384.out; have hcz65_0 : w61.cell? ⟨gb384, 0, none⟩ = some (.bool a1_0) := (kc BK384.out 0).trans rfl; have hcz65_1 : w61.cell? ⟨gb384, 1, none⟩ = some (.int .i64 a1_1) := (kc BK384.out 1).trans rfl; have hcz65_2 : w61.cell? ⟨gb384, 2, none⟩ = some (.string a1_2) := (kc BK384.out 2).trans rfl; have hfz65_0 := kf BK384.out 0; have hfz65_1 := kf BK384.out 1; have hfz65_2 := kf BK384.out 2) | ((with_reducible refine gate_callee (f := 63) rfl ?_); refine goesL_ (some 38) rfl rfl Tryz.func63 (by kernel_rfl) rfl #[.string a1_2, .int .u8 97] rfl xr ?_; (with_reducible refine (r13_turned.calls k a1_2 97 t398 _ (Tabs.below hT xf) A56.out).mono ?_); rintro e w66 ⟨rfl, hb⟩; refine ⟨_, rfl, ?_⟩; replace BK384 := xd BK384.out hb; replace BK385 := xd BK385.out hb; replace BK386 := xd BK386.out hb; replace BK387 := xd BK387.out hb; replace HB := xy (below_step xb hb); (try clear hb); (try clear hb2); (try clear hk); (try clear hi)) | ((with_reducible refine gate_callee (f := 32) rfl ?_); refine goesL_ (some 39) rfl rfl Tryz.func32 (by kernel_rfl) rfl #[.string t398] rfl xr ?_; (with_reducible refine (r13_Text.calls t398 t399 t400 t401 _ (Tabs.below hT xf) A57.out).mono ?_); rintro e w67 ⟨rfl, hb⟩; refine ⟨_, rfl, ?_⟩; replace BK384 := xd BK384.out hb; replace BK385 := xd BK385.out hb; replace BK386 := xd BK386.out hb; replace BK387 := xd BK387.out hb; replace HB := xy (below_step xb hb); (try clear hb); (try clear hb2); (try clear hk); (try clear hi); have hnb68 := NB387_385.out; have hnc68 := NB385_387.out; have hnb69 := NB387_386.out; have hnc69 := NB386_387.out; have hcz70_0 : w67.cell? ⟨gb387, 0, none⟩ = some (.bool false) := (kc BK387.out 0).trans rfl; have hcz70_1 : w67.cell? ⟨gb387, 1, none⟩ = some (.int .i64 0) := (kc BK387.out 1).trans rfl; have hcz70_2 : w67.cell? ⟨gb387, 2, none⟩ = some (.string (⟨#[]⟩ : ByteArray)) := (kc BK387.out 2).trans rfl; have hfz70_0 := kf BK387.out 0; have hfz70_1 := kf BK387.out 1; have hfz70_2 := kf BK387.out 2))
     refine bodyPost_ret (results_cell_row rfl _ _ gb387 32 #[.bool t399, .int .i64 t400, .string t401] (0, 0) _ rfl (kp BK387.out) Tryz.underlying32 rfl (by kernel_rfl)) rfl ?_
     exact ⟨xe, xb⟩
    ·rw [if_neg c55] at H
     have c55b0 : (a0 == 12) = false := beq_eq_false_iff_ne.mpr c55
     have c55b1 : (a0 != 12) = true := bne_iff_ne.mpr c55
     by_cases c71 : a0 = 13
     ·rw [if_pos c71] at H
      have c71b0 : (a0 == 13) = true := beq_iff_eq.mpr c71
      have c71b1 : (a0 != 13) = false := bne_eq_false_iff_eq.mpr c71
      clear c71
      replace H := xj H
      obtain ⟨t402, A720, H⟩ := H
      try dsimp only at H
      have A72 := xy A720
      clear A720
      replace H := xj H
      obtain ⟨⟨t403, t404, t405⟩, A730, H⟩ := H
      try dsimp only at H
      have A73 := xy A730
      clear A730
      simp only [Option.some.injEq, Prod.mk.injEq] at H
      obtain ⟨rfl, rfl, rfl⟩ := H
      go_enter Tryz.func52, Tryz.ntmps52
      go_wp2_with (first | ((with_reducible refine gate_dst (N := 5) rfl ?_); refine xq (N := 5) (cs := #[.bool a1_0, .int .i64 a1_1, .string a1_2]) (t := 32) ?_; intro gb384 hg w74 hbox hb; have BK384 := xy (hbox); have GW384 := xs w hg; have GE384 := xs w hg; replace HB := xy (below_step xb hb); clear hb hbox hg) | ((with_reducible refine gate_dst (N := 6) rfl ?_); refine xq (N := 6) (cs := #[.bool a2_0, .int .i64 a2_1, .string a2_2]) (t := 32) ?_; intro gb385 hg w75 hbox hb; have BK385 := xy (hbox); have GW385 := xs w hg; have GE385 := xs w hg; replace HB := xy (below_step xb hb); have NB384_385 := xn hg BK384.out; have NB385_384 := xp hg BK384.out; replace BK384 := xd BK384.out hb; clear hb hbox hg) | ((with_reducible refine gate_dst (N := 7) rfl ?_); refine xq (N := 7) (cs := #[.bool a3_0, .int .i64 a3_1, .string a3_2]) (t := 32) ?_; intro gb386 hg w76 hbox hb; have BK386 := xy (hbox); have GW386 := xs w hg; have GE386 := xs w hg; replace HB := xy (below_step xb hb); have NB384_386 := xn hg BK384.out; have NB386_384 := xp hg BK384.out; replace BK384 := xd BK384.out hb; have NB385_386 := xn hg BK385.out; have NB386_385 := xp hg BK385.out; replace BK385 := xd BK385.out hb; clear hb hbox hg) | ((with_reducible refine gate_dst (N := 8) rfl ?_); refine xq (N := 8) (cs := #[.bool false, .int .i64 0, .string (⟨#[]⟩ : ByteArray)]) (t := 32) ?_; intro gb387 hg w77 hbox hb; have BK387 := xy (hbox); have GW387 := xs w hg; have GE387 := xs w hg; replace HB := xy (below_step xb hb); have NB384_387 := xn hg BK384.out; have NB387_384 := xp hg BK384.out; replace BK384 := xd BK384.out hb; have NB385_387 := xn hg BK385.out; have NB387_385 := xp hg BK385.out; replace BK385 := xd BK385.out hb; have NB386_387 := xn hg BK386.out; have NB387_386 := xp hg BK386.out; replace BK386 := xd BK386.out hb; clear hb hbox hg; have hnb78 := NB384_385.out; have hnc78 := NB385_384.out; have hnb79 := NB384_386.out; have hnc79 := NB386_384.out; have hnb80 := NB384_387.out; have hnc80 := NB387_384.out; have hcz81_0 : w77.cell? ⟨gb384, 0, none⟩ = some (.bool a1_0) := (kc BK384.out 0).trans rfl; have hcz81_1 : w77.cell? ⟨gb384, 1, none⟩ = some (.int .i64 a1_1) := (kc BK384.out 1).trans rfl; have hcz81_2 : w77.cell? ⟨gb384, 2, none⟩ = some (.string a1_2) := (kc BK384.out 2).trans rfl; have hfz81_0 := kf BK384.out 0; have hfz81_1 := kf BK384.out 1; have hfz81_2 := kf BK384.out 2) | ((with_reducible refine gate_callee (f := 63) rfl ?_); refine goesL_ (some 44) rfl rfl Tryz.func63 (by kernel_rfl) rfl #[.string a1_2, .int .u8 65] rfl xr ?_; (with_reducible refine (r13_turned.calls k a1_2 65 t402 _ (Tabs.below hT xf) A72.out).mono ?_); rintro e w82 ⟨rfl, hb⟩; refine ⟨_, rfl, ?_⟩; replace BK384 := xd BK384.out hb; replace BK385 := xd BK385.out hb; replace BK386 := xd BK386.out hb; replace BK387 := xd BK387.out hb; replace HB := xy (below_step xb hb); (try clear hb); (try clear hb2); (try clear hk); (try clear hi)) | ((with_reducible refine gate_callee (f := 32) rfl ?_); refine goesL_ (some 45) rfl rfl Tryz.func32 (by kernel_rfl) rfl #[.string t402] rfl xr ?_; (with_reducible refine (r13_Text.calls t402 t403 t404 t405 _ (Tabs.below hT xf) A73.out).mono ?_); rintro e w83 ⟨rfl, hb⟩; refine ⟨_, rfl, ?_⟩; replace BK384 := xd BK384.out hb; replace BK385 := xd BK385.out hb; replace BK386 := xd BK386.out hb; replace BK387 := xd BK387.out hb; replace HB := xy (below_step xb hb); (try clear hb); (try clear hb2); (try clear hk); (try clear hi); have hnb84 := NB387_385.out; have hnc84 := NB385_387.out; have hnb85 := NB387_386.out; have hnc85 := NB386_387.out; have hcz86_0 : w83.cell? ⟨gb387, 0, none⟩ = some (.bool false) := (kc BK387.out 0).trans rfl; have hcz86_1 : w83.cell? ⟨gb387, 1, none⟩ = some (.int .i64 0) := (kc BK387.out 1).trans rfl; have hcz86_2 : w83.cell? ⟨gb387, 2, none⟩ = some (.string (⟨#[]⟩ : ByteArray)) := (kc BK387.out 2).trans rfl; have hfz86_0 := kf BK387.out 0; have hfz86_1 := kf BK387.out 1; have hfz86_2 := kf BK387.out 2))
      refine bodyPost_ret (results_cell_row rfl _ _ gb387 32 #[.bool t403, .int .i64 t404, .string t405] (0, 0) _ rfl (kp BK387.out) Tryz.underlying32 rfl (by kernel_rfl)) rfl ?_
      exact ⟨xe, xb⟩
     ·rw [if_neg c71] at H
      have c71b0 : (a0 == 13) = false := beq_eq_false_iff_ne.mpr c71
      have c71b1 : (a0 != 13) = true := bne_iff_ne.mpr c71
      by_cases c87 : a0 = 18
      ·rw [if_pos c87] at H
       have c87b0 : (a0 == 18) = true := beq_iff_eq.mpr c87
       have c87b1 : (a0 != 18) = false := bne_eq_false_iff_eq.mpr c87
       clear c87
       replace H := xj H
       obtain ⟨t406, A880, H⟩ := H
       try dsimp only at H
       have A88 := xy A880
       clear A880
       replace H := xj H
       obtain ⟨⟨t407, t408, t409⟩, A890, H⟩ := H
       try dsimp only at H
       have A89 := xy A890
       clear A890
       simp only [Option.some.injEq, Prod.mk.injEq] at H
       obtain ⟨rfl, rfl, rfl⟩ := H
       go_enter Tryz.func52, Tryz.ntmps52
       go_wp2_with (first | ((with_reducible refine gate_dst (N := 5) rfl ?_); refine xq (N := 5) (cs := #[.bool a1_0, .int .i64 a1_1, .string a1_2]) (t := 32) ?_; intro gb384 hg w90 hbox hb; have BK384 := xy (hbox); have GW384 := xs w hg; have GE384 := xs w hg; replace HB := xy (below_step xb hb); clear hb hbox hg) | ((with_reducible refine gate_dst (N := 6) rfl ?_); refine xq (N := 6) (cs := #[.bool a2_0, .int .i64 a2_1, .string a2_2]) (t := 32) ?_; intro gb385 hg w91 hbox hb; have BK385 := xy (hbox); have GW385 := xs w hg; have GE385 := xs w hg; replace HB := xy (below_step xb hb); have NB384_385 := xn hg BK384.out; have NB385_384 := xp hg BK384.out; replace BK384 := xd BK384.out hb; clear hb hbox hg) | ((with_reducible refine gate_dst (N := 7) rfl ?_); refine xq (N := 7) (cs := #[.bool a3_0, .int .i64 a3_1, .string a3_2]) (t := 32) ?_; intro gb386 hg w92 hbox hb; have BK386 := xy (hbox); have GW386 := xs w hg; have GE386 := xs w hg; replace HB := xy (below_step xb hb); have NB384_386 := xn hg BK384.out; have NB386_384 := xp hg BK384.out; replace BK384 := xd BK384.out hb; have NB385_386 := xn hg BK385.out; have NB386_385 := xp hg BK385.out; replace BK385 := xd BK385.out hb; clear hb hbox hg) | ((with_reducible refine gate_dst (N := 8) rfl ?_); refine xq (N := 8) (cs := #[.bool false, .int .i64 0, .string (⟨#[]⟩ : ByteArray)]) (t := 32) ?_; intro gb387 hg w93 hbox hb; have BK387 := xy (hbox); have GW387 := xs w hg; have GE387 := xs w hg; replace HB := xy (below_step xb hb); have NB384_387 := xn hg BK384.out; have NB387_384 := xp hg BK384.out; replace BK384 := xd BK384.out hb; have NB385_387 := xn hg BK385.out; have NB387_385 := xp hg BK385.out; replace BK385 := xd BK385.out hb; have NB386_387 := xn hg BK386.out; have NB387_386 := xp hg BK386.out; replace BK386 := xd BK386.out hb; clear hb hbox hg; have hnb94 := NB384_385.out; have hnc94 := NB385_384.out; have hnb95 := NB384_386.out; have hnc95 := NB386_384.out; have hnb96 := NB384_387.out; have hnc96 := NB387_384.out; have hcz97_0 : w93.cell? ⟨gb384, 0, none⟩ = some (.bool a1_0) := (kc BK384.out 0).trans rfl; have hcz97_1 : w93.cell? ⟨gb384, 1, none⟩ = some (.int .i64 a1_1) := (kc BK384.out 1).trans rfl; have hcz97_2 : w93.cell? ⟨gb384, 2, none⟩ = some (.string a1_2) := (kc BK384.out 2).trans rfl; have hfz97_0 := kf BK384.out 0; have hfz97_1 := kf BK384.out 1; have hfz97_2 := kf BK384.out 2) | ((with_reducible refine gate_callee (f := 64) rfl ?_); refine goesL_ (some 50) rfl rfl Tryz.func64 (by kernel_rfl) rfl #[.string a1_2] rfl xr ?_; (with_reducible refine (r13_number.calls k a1_2 t406 _ (Tabs.below hT xf) A88.out).mono ?_); rintro e w' ⟨rfl, ⟨nd, rfl⟩⟩; refine ⟨_, rfl, ?_⟩; (try (rw [drewN_self w93]; generalize hq_ : World.drewN w93 _ = w93; have n0_ : Aside0 (w93.heap[gb384]? = some (.cells #[.bool a1_0, .int .i64 a1_1, .string a1_2] 32 (0, 0))) := ⟨by rw [← hq_]; exact (xk BK384.out)⟩; have n1_ : Aside0 (w93.heap[gb385]? = some (.cells #[.bool a2_0, .int .i64 a2_1, .string a2_2] 32 (0, 0))) := ⟨by rw [← hq_]; exact (xk BK385.out)⟩; have n2_ : Aside0 (w93.heap[gb386]? = some (.cells #[.bool a3_0, .int .i64 a3_1, .string a3_2] 32 (0, 0))) := ⟨by rw [← hq_]; exact (xk BK386.out)⟩; have n3_ : Aside0 (w93.heap[gb387]? = some (.cells #[.bool false, .int .i64 0, .string (⟨#[]⟩ : ByteArray)] 32 (0, 0))) := ⟨by rw [← hq_]; exact (xk BK387.out)⟩; have n4_ : Aside0 (Below w.heap.size w w93) := ⟨by rw [← hq_]; exact xb⟩; clear BK384 BK385 BK386 BK387 HB hq_; have BK384 := n0_; have BK385 := n1_; have BK386 := n2_; have BK387 := n3_; have HB := n4_; clear n0_ n1_ n2_ n3_ n4_))) | ((with_reducible refine gate_callee (f := 31) rfl ?_); refine goesL_ (some 51) rfl rfl Tryz.func31 (by kernel_rfl) rfl #[.int .i64 t406] rfl xr ?_; (with_reducible refine (r13_Num.calls t406 t407 t408 t409 _ (Tabs.below hT xf) A89.out).mono ?_); rintro e w98 ⟨rfl, hb⟩; refine ⟨_, rfl, ?_⟩; replace BK384 := xd BK384.out hb; replace BK385 := xd BK385.out hb; replace BK386 := xd BK386.out hb; replace BK387 := xd BK387.out hb; replace HB := xy (below_step xb hb); (try clear hb); (try clear hb2); (try clear hk); (try clear hi); have hnb99 := NB387_385.out; have hnc99 := NB385_387.out; have hnb100 := NB387_386.out; have hnc100 := NB386_387.out; have hcz101_0 : w98.cell? ⟨gb387, 0, none⟩ = some (.bool false) := (kc BK387.out 0).trans rfl; have hcz101_1 : w98.cell? ⟨gb387, 1, none⟩ = some (.int .i64 0) := (kc BK387.out 1).trans rfl; have hcz101_2 : w98.cell? ⟨gb387, 2, none⟩ = some (.string (⟨#[]⟩ : ByteArray)) := (kc BK387.out 2).trans rfl; have hfz101_0 := kf BK387.out 0; have hfz101_1 := kf BK387.out 1; have hfz101_2 := kf BK387.out 2))
       refine bodyPost_ret (results_cell_row rfl _ _ gb387 32 #[.bool t407, .int .i64 t408, .string t409] (0, 0) _ rfl (kp BK387.out) Tryz.underlying32 rfl (by kernel_rfl)) rfl ?_
       exact ⟨xe, xb⟩
      ·rw [if_neg c87] at H
       have c87b0 : (a0 == 18) = false := beq_eq_false_iff_ne.mpr c87
       have c87b1 : (a0 != 18) = true := bne_iff_ne.mpr c87
       by_cases c102 : a0 = 19
       ·rw [if_pos c102] at H
        have c102b0 : (a0 == 19) = true := beq_iff_eq.mpr c102
        have c102b1 : (a0 != 19) = false := bne_eq_false_iff_eq.mpr c102
        clear c102
        replace H := xj H
        obtain ⟨t410, A1030, H⟩ := H
        try dsimp only at H
        have A103 := xy A1030
        clear A1030
        replace H := xj H
        obtain ⟨⟨t411, t412, t413⟩, A1040, H⟩ := H
        try dsimp only at H
        have A104 := xy A1040
        clear A1040
        simp only [Option.some.injEq, Prod.mk.injEq] at H
        obtain ⟨rfl, rfl, rfl⟩ := H
        go_enter Tryz.func52, Tryz.ntmps52
        go_wp2_with (first | ((with_reducible refine gate_dst (N := 5) rfl ?_); refine xq (N := 5) (cs := #[.bool a1_0, .int .i64 a1_1, .string a1_2]) (t := 32) ?_; intro gb384 hg w105 hbox hb; have BK384 := xy (hbox); have GW384 := xs w hg; have GE384 := xs w hg; replace HB := xy (below_step xb hb); clear hb hbox hg) | ((with_reducible refine gate_dst (N := 6) rfl ?_); refine xq (N := 6) (cs := #[.bool a2_0, .int .i64 a2_1, .string a2_2]) (t := 32) ?_; intro gb385 hg w106 hbox hb; have BK385 := xy (hbox); have GW385 := xs w hg; have GE385 := xs w hg; replace HB := xy (below_step xb hb); have NB384_385 := xn hg BK384.out; have NB385_384 := xp hg BK384.out; replace BK384 := xd BK384.out hb; clear hb hbox hg) | ((with_reducible refine gate_dst (N := 7) rfl ?_); refine xq (N := 7) (cs := #[.bool a3_0, .int .i64 a3_1, .string a3_2]) (t := 32) ?_; intro gb386 hg w107 hbox hb; have BK386 := xy (hbox); have GW386 := xs w hg; have GE386 := xs w hg; replace HB := xy (below_step xb hb); have NB384_386 := xn hg BK384.out; have NB386_384 := xp hg BK384.out; replace BK384 := xd BK384.out hb; have NB385_386 := xn hg BK385.out; have NB386_385 := xp hg BK385.out; replace BK385 := xd BK385.out hb; clear hb hbox hg) | ((with_reducible refine gate_dst (N := 8) rfl ?_); refine xq (N := 8) (cs := #[.bool false, .int .i64 0, .string (⟨#[]⟩ : ByteArray)]) (t := 32) ?_; intro gb387 hg w108 hbox hb; have BK387 := xy (hbox); have GW387 := xs w hg; have GE387 := xs w hg; replace HB := xy (below_step xb hb); have NB384_387 := xn hg BK384.out; have NB387_384 := xp hg BK384.out; replace BK384 := xd BK384.out hb; have NB385_387 := xn hg BK385.out; have NB387_385 := xp hg BK385.out; replace BK385 := xd BK385.out hb; have NB386_387 := xn hg BK386.out; have NB387_386 := xp hg BK386.out; replace BK386 := xd BK386.out hb; clear hb hbox hg; have hnb109 := NB384_385.out; have hnc109 := NB385_384.out; have hnb110 := NB384_386.out; have hnc110 := NB386_384.out; have hnb111 := NB384_387.out; have hnc111 := NB387_384.out; have hcz112_0 : w108.cell? ⟨gb384, 0, none⟩ = some (.bool a1_0) := (kc BK384.out 0).trans rfl; have hcz112_1 : w108.cell? ⟨gb384, 1, none⟩ = some (.int .i64 a1_1) := (kc BK384.out 1).trans rfl; have hcz112_2 : w108.cell? ⟨gb384, 2, none⟩ = some (.string a1_2) := (kc BK384.out 2).trans rfl; have hfz112_0 := kf BK384.out 0; have hfz112_1 := kf BK384.out 1; have hfz112_2 := kf BK384.out 2) | ((with_reducible refine gate_callee (f := 65) rfl ?_); refine goesL_ (some 56) rfl rfl Tryz.func65 (by kernel_rfl) rfl #[.int .i64 a1_1] rfl xr ?_; (with_reducible refine (r13_Figures.calls k a1_1 t410 _ (Tabs.below hT xf) A103.out).mono ?_); rintro e w113 ⟨rfl, hb⟩; refine ⟨_, rfl, ?_⟩; replace BK384 := xd BK384.out hb; replace BK385 := xd BK385.out hb; replace BK386 := xd BK386.out hb; replace BK387 := xd BK387.out hb; replace HB := xy (below_step xb hb); (try clear hb); (try clear hb2); (try clear hk); (try clear hi)) | ((with_reducible refine gate_callee (f := 32) rfl ?_); refine goesL_ (some 57) rfl rfl Tryz.func32 (by kernel_rfl) rfl #[.string t410] rfl xr ?_; (with_reducible refine (r13_Text.calls t410 t411 t412 t413 _ (Tabs.below hT xf) A104.out).mono ?_); rintro e w114 ⟨rfl, hb⟩; refine ⟨_, rfl, ?_⟩; replace BK384 := xd BK384.out hb; replace BK385 := xd BK385.out hb; replace BK386 := xd BK386.out hb; replace BK387 := xd BK387.out hb; replace HB := xy (below_step xb hb); (try clear hb); (try clear hb2); (try clear hk); (try clear hi); have hnb115 := NB387_385.out; have hnc115 := NB385_387.out; have hnb116 := NB387_386.out; have hnc116 := NB386_387.out; have hcz117_0 : w114.cell? ⟨gb387, 0, none⟩ = some (.bool false) := (kc BK387.out 0).trans rfl; have hcz117_1 : w114.cell? ⟨gb387, 1, none⟩ = some (.int .i64 0) := (kc BK387.out 1).trans rfl; have hcz117_2 : w114.cell? ⟨gb387, 2, none⟩ = some (.string (⟨#[]⟩ : ByteArray)) := (kc BK387.out 2).trans rfl; have hfz117_0 := kf BK387.out 0; have hfz117_1 := kf BK387.out 1; have hfz117_2 := kf BK387.out 2))
        refine bodyPost_ret (results_cell_row rfl _ _ gb387 32 #[.bool t411, .int .i64 t412, .string t413] (0, 0) _ rfl (kp BK387.out) Tryz.underlying32 rfl (by kernel_rfl)) rfl ?_
        exact ⟨xe, xb⟩
       ·rw [if_neg c102] at H
        have c102b0 : (a0 == 19) = false := beq_eq_false_iff_ne.mpr c102
        have c102b1 : (a0 != 19) = true := bne_iff_ne.mpr c102
        by_cases c118 : a0 = 20
        ·rw [if_pos c118] at H
         have c118b0 : (a0 == 20) = true := beq_iff_eq.mpr c118
         have c118b1 : (a0 != 20) = false := bne_eq_false_iff_eq.mpr c118
         clear c118
         replace H := xj H
         obtain ⟨t414, A1190, H⟩ := H
         try dsimp only at H
         have A119 := xy A1190
         clear A1190
         replace H := xj H
         obtain ⟨⟨t415, t416, t417⟩, A1200, H⟩ := H
         try dsimp only at H
         have A120 := xy A1200
         clear A1200
         simp only [Option.some.injEq, Prod.mk.injEq] at H
         obtain ⟨rfl, rfl, rfl⟩ := H
         go_enter Tryz.func52, Tryz.ntmps52
         go_wp2_with (first | ((with_reducible refine gate_dst (N := 5) rfl ?_); refine xq (N := 5) (cs := #[.bool a1_0, .int .i64 a1_1, .string a1_2]) (t := 32) ?_; intro gb384 hg w121 hbox hb; have BK384 := xy (hbox); have GW384 := xs w hg; have GE384 := xs w hg; replace HB := xy (below_step xb hb); clear hb hbox hg) | ((with_reducible refine gate_dst (N := 6) rfl ?_); refine xq (N := 6) (cs := #[.bool a2_0, .int .i64 a2_1, .string a2_2]) (t := 32) ?_; intro gb385 hg w122 hbox hb; have BK385 := xy (hbox); have GW385 := xs w hg; have GE385 := xs w hg; replace HB := xy (below_step xb hb); have NB384_385 := xn hg BK384.out; have NB385_384 := xp hg BK384.out; replace BK384 := xd BK384.out hb; clear hb hbox hg) | ((with_reducible refine gate_dst (N := 7) rfl ?_); refine xq (N := 7) (cs := #[.bool a3_0, .int .i64 a3_1, .string a3_2]) (t := 32) ?_; intro gb386 hg w123 hbox hb; have BK386 := xy (hbox); have GW386 := xs w hg; have GE386 := xs w hg; replace HB := xy (below_step xb hb); have NB384_386 := xn hg BK384.out; have NB386_384 := xp hg BK384.out; replace BK384 := xd BK384.out hb; have NB385_386 := xn hg BK385.out; have NB386_385 := xp hg BK385.out; replace BK385 := xd BK385.out hb; clear hb hbox hg) | ((with_reducible refine gate_dst (N := 8) rfl ?_); refine xq (N := 8) (cs := #[.bool false, .int .i64 0, .string (⟨#[]⟩ : ByteArray)]) (t := 32) ?_; intro gb387 hg w124 hbox hb; have BK387 := xy (hbox); have GW387 := xs w hg; have GE387 := xs w hg; replace HB := xy (below_step xb hb); have NB384_387 := xn hg BK384.out; have NB387_384 := xp hg BK384.out; replace BK384 := xd BK384.out hb; have NB385_387 := xn hg BK385.out; have NB387_385 := xp hg BK385.out; replace BK385 := xd BK385.out hb; have NB386_387 := xn hg BK386.out; have NB387_386 := xp hg BK386.out; replace BK386 := xd BK386.out hb; clear hb hbox hg; have hnb125 := NB384_385.out; have hnc125 := NB385_384.out; have hnb126 := NB384_386.out; have hnc126 := NB386_384.out; have hnb127 := NB384_387.out; have hnc127 := NB387_384.out; have hcz128_0 : w124.cell? ⟨gb384, 0, none⟩ = some (.bool a1_0) := (kc BK384.out 0).trans rfl; have hcz128_1 : w124.cell? ⟨gb384, 1, none⟩ = some (.int .i64 a1_1) := (kc BK384.out 1).trans rfl; have hcz128_2 : w124.cell? ⟨gb384, 2, none⟩ = some (.string a1_2) := (kc BK384.out 2).trans rfl; have hfz128_0 := kf BK384.out 0; have hfz128_1 := kf BK384.out 1; have hfz128_2 := kf BK384.out 2) | ((with_reducible refine gate_callee (f := 66) rfl ?_); refine goesL_ (some 62) rfl rfl Tryz.func66 (by kernel_rfl) rfl #[.string a1_2] rfl xr ?_; (with_reducible refine (r13_Hash.calls k a1_2 t414 _ (Tabs.below hT xf) A119.out).mono ?_); rintro e w' ⟨rfl, ⟨nd, rfl⟩⟩; refine ⟨_, rfl, ?_⟩; (try (rw [drewN_self w124]; generalize hq_ : World.drewN w124 _ = w124; have n0_ : Aside0 (w124.heap[gb384]? = some (.cells #[.bool a1_0, .int .i64 a1_1, .string a1_2] 32 (0, 0))) := ⟨by rw [← hq_]; exact (xk BK384.out)⟩; have n1_ : Aside0 (w124.heap[gb385]? = some (.cells #[.bool a2_0, .int .i64 a2_1, .string a2_2] 32 (0, 0))) := ⟨by rw [← hq_]; exact (xk BK385.out)⟩; have n2_ : Aside0 (w124.heap[gb386]? = some (.cells #[.bool a3_0, .int .i64 a3_1, .string a3_2] 32 (0, 0))) := ⟨by rw [← hq_]; exact (xk BK386.out)⟩; have n3_ : Aside0 (w124.heap[gb387]? = some (.cells #[.bool false, .int .i64 0, .string (⟨#[]⟩ : ByteArray)] 32 (0, 0))) := ⟨by rw [← hq_]; exact (xk BK387.out)⟩; have n4_ : Aside0 (Below w.heap.size w w124) := ⟨by rw [← hq_]; exact xb⟩; clear BK384 BK385 BK386 BK387 HB hq_; have BK384 := n0_; have BK385 := n1_; have BK386 := n2_; have BK387 := n3_; have HB := n4_; clear n0_ n1_ n2_ n3_ n4_))) | ((with_reducible refine gate_callee (f := 31) rfl ?_); refine goesL_ (some 63) rfl rfl Tryz.func31 (by kernel_rfl) rfl #[.int .i64 t414] rfl xr ?_; (with_reducible refine (r13_Num.calls t414 t415 t416 t417 _ (Tabs.below hT xf) A120.out).mono ?_); rintro e w129 ⟨rfl, hb⟩; refine ⟨_, rfl, ?_⟩; replace BK384 := xd BK384.out hb; replace BK385 := xd BK385.out hb; replace BK386 := xd BK386.out hb; replace BK387 := xd BK387.out hb; replace HB := xy (below_step xb hb); (try clear hb); (try clear hb2); (try clear hk); (try clear hi); have hnb130 := NB387_385.out; have hnc130 := NB385_387.out; have hnb131 := NB387_386.out; have hnc131 := NB386_387.out; have hcz132_0 : w129.cell? ⟨gb387, 0, none⟩ = some (.bool false) := (kc BK387.out 0).trans rfl; have hcz132_1 : w129.cell? ⟨gb387, 1, none⟩ = some (.int .i64 0) := (kc BK387.out 1).trans rfl; have hcz132_2 : w129.cell? ⟨gb387, 2, none⟩ = some (.string (⟨#[]⟩ : ByteArray)) := (kc BK387.out 2).trans rfl; have hfz132_0 := kf BK387.out 0; have hfz132_1 := kf BK387.out 1; have hfz132_2 := kf BK387.out 2))
         refine bodyPost_ret (results_cell_row rfl _ _ gb387 32 #[.bool t415, .int .i64 t416, .string t417] (0, 0) _ rfl (kp BK387.out) Tryz.underlying32 rfl (by kernel_rfl)) rfl ?_
         exact ⟨xe, xb⟩
        ·rw [if_neg c118] at H
         have c118b0 : (a0 == 20) = false := beq_eq_false_iff_ne.mpr c118
         have c118b1 : (a0 != 20) = true := bne_iff_ne.mpr c118
         replace H := xj H
         obtain ⟨t418, A1330, H⟩ := H
         try dsimp only at H
         have A133 := xy A1330
         clear A1330
         replace H := xj H
         obtain ⟨⟨t419, t420, t421⟩, A1340, H⟩ := H
         try dsimp only at H
         have A134 := xy A1340
         clear A1340
         simp only [Option.some.injEq, Prod.mk.injEq] at H
         obtain ⟨rfl, rfl, rfl⟩ := H
         go_enter Tryz.func52, Tryz.ntmps52
         go_wp2_with (first | ((with_reducible refine gate_dst (N := 5) rfl ?_); refine xq (N := 5) (cs := #[.bool a1_0, .int .i64 a1_1, .string a1_2]) (t := 32) ?_; intro gb384 hg w135 hbox hb; have BK384 := xy (hbox); have GW384 := xs w hg; have GE384 := xs w hg; replace HB := xy (below_step xb hb); clear hb hbox hg) | ((with_reducible refine gate_dst (N := 6) rfl ?_); refine xq (N := 6) (cs := #[.bool a2_0, .int .i64 a2_1, .string a2_2]) (t := 32) ?_; intro gb385 hg w136 hbox hb; have BK385 := xy (hbox); have GW385 := xs w hg; have GE385 := xs w hg; replace HB := xy (below_step xb hb); have NB384_385 := xn hg BK384.out; have NB385_384 := xp hg BK384.out; replace BK384 := xd BK384.out hb; clear hb hbox hg) | ((with_reducible refine gate_dst (N := 7) rfl ?_); refine xq (N := 7) (cs := #[.bool a3_0, .int .i64 a3_1, .string a3_2]) (t := 32) ?_; intro gb386 hg w137 hbox hb; have BK386 := xy (hbox); have GW386 := xs w hg; have GE386 := xs w hg; replace HB := xy (below_step xb hb); have NB384_386 := xn hg BK384.out; have NB386_384 := xp hg BK384.out; replace BK384 := xd BK384.out hb; have NB385_386 := xn hg BK385.out; have NB386_385 := xp hg BK385.out; replace BK385 := xd BK385.out hb; clear hb hbox hg) | ((with_reducible refine gate_dst (N := 8) rfl ?_); refine xq (N := 8) (cs := #[.bool false, .int .i64 0, .string (⟨#[]⟩ : ByteArray)]) (t := 32) ?_; intro gb387 hg w138 hbox hb; have BK387 := xy (hbox); have GW387 := xs w hg; have GE387 := xs w hg; replace HB := xy (below_step xb hb); have NB384_387 := xn hg BK384.out; have NB387_384 := xp hg BK384.out; replace BK384 := xd BK384.out hb; have NB385_387 := xn hg BK385.out; have NB387_385 := xp hg BK385.out; replace BK385 := xd BK385.out hb; have NB386_387 := xn hg BK386.out; have NB387_386 := xp hg BK386.out; replace BK386 := xd BK386.out hb; clear hb hbox hg; have hnb139 := NB384_385.out; have hnc139 := NB385_384.out; have hnb140 := NB384_386.out; have hnc140 := NB386_384.out; have hnb141 := NB384_387.out; have hnc141 := NB387_384.out; have hcz142_0 : w138.cell? ⟨gb384, 0, none⟩ = some (.bool a1_0) := (kc BK384.out 0).trans rfl; have hcz142_1 : w138.cell? ⟨gb384, 1, none⟩ = some (.int .i64 a1_1) := (kc BK384.out 1).trans rfl; have hcz142_2 : w138.cell? ⟨gb384, 2, none⟩ = some (.string a1_2) := (kc BK384.out 2).trans rfl; have hfz142_0 := kf BK384.out 0; have hfz142_1 := kf BK384.out 1; have hfz142_2 := kf BK384.out 2; have hnb143 := NB385_386.out; have hnc143 := NB386_385.out; have hnb144 := NB385_387.out; have hnc144 := NB387_385.out; have hcz145_0 : w138.cell? ⟨gb385, 0, none⟩ = some (.bool a2_0) := (kc BK385.out 0).trans rfl; have hcz145_1 : w138.cell? ⟨gb385, 1, none⟩ = some (.int .i64 a2_1) := (kc BK385.out 1).trans rfl; have hcz145_2 : w138.cell? ⟨gb385, 2, none⟩ = some (.string a2_2) := (kc BK385.out 2).trans rfl; have hfz145_0 := kf BK385.out 0; have hfz145_1 := kf BK385.out 1; have hfz145_2 := kf BK385.out 2) | ((with_reducible refine gate_callee (f := 67) rfl ?_); refine goesL_ (some 68) rfl rfl Tryz.func67 (by kernel_rfl) rfl #[.string a1_2, .string a2_2] rfl xr ?_; (with_reducible refine (r13_find.calls k a1_2 a2_2 t418 _ (Tabs.below hT xf) A133.out).mono ?_); rintro e w' ⟨rfl, ⟨nd, rfl⟩⟩; refine ⟨_, rfl, ?_⟩; (try (rw [drewN_self w138]; generalize hq_ : World.drewN w138 _ = w138; have n0_ : Aside0 (w138.heap[gb384]? = some (.cells #[.bool a1_0, .int .i64 a1_1, .string a1_2] 32 (0, 0))) := ⟨by rw [← hq_]; exact (xk BK384.out)⟩; have n1_ : Aside0 (w138.heap[gb385]? = some (.cells #[.bool a2_0, .int .i64 a2_1, .string a2_2] 32 (0, 0))) := ⟨by rw [← hq_]; exact (xk BK385.out)⟩; have n2_ : Aside0 (w138.heap[gb386]? = some (.cells #[.bool a3_0, .int .i64 a3_1, .string a3_2] 32 (0, 0))) := ⟨by rw [← hq_]; exact (xk BK386.out)⟩; have n3_ : Aside0 (w138.heap[gb387]? = some (.cells #[.bool false, .int .i64 0, .string (⟨#[]⟩ : ByteArray)] 32 (0, 0))) := ⟨by rw [← hq_]; exact (xk BK387.out)⟩; have n4_ : Aside0 (Below w.heap.size w w138) := ⟨by rw [← hq_]; exact xb⟩; clear BK384 BK385 BK386 BK387 HB hq_; have BK384 := n0_; have BK385 := n1_; have BK386 := n2_; have BK387 := n3_; have HB := n4_; clear n0_ n1_ n2_ n3_ n4_))) | ((with_reducible refine gate_callee (f := 31) rfl ?_); refine goesL_ (some 69) rfl rfl Tryz.func31 (by kernel_rfl) rfl #[.int .i64 t418] rfl xr ?_; (with_reducible refine (r13_Num.calls t418 t419 t420 t421 _ (Tabs.below hT xf) A134.out).mono ?_); rintro e w146 ⟨rfl, hb⟩; refine ⟨_, rfl, ?_⟩; replace BK384 := xd BK384.out hb; replace BK385 := xd BK385.out hb; replace BK386 := xd BK386.out hb; replace BK387 := xd BK387.out hb; replace HB := xy (below_step xb hb); (try clear hb); (try clear hb2); (try clear hk); (try clear hi); have hnb147 := NB387_386.out; have hnc147 := NB386_387.out; have hcz148_0 : w146.cell? ⟨gb387, 0, none⟩ = some (.bool false) := (kc BK387.out 0).trans rfl; have hcz148_1 : w146.cell? ⟨gb387, 1, none⟩ = some (.int .i64 0) := (kc BK387.out 1).trans rfl; have hcz148_2 : w146.cell? ⟨gb387, 2, none⟩ = some (.string (⟨#[]⟩ : ByteArray)) := (kc BK387.out 2).trans rfl; have hfz148_0 := kf BK387.out 0; have hfz148_1 := kf BK387.out 1; have hfz148_2 := kf BK387.out 2))
         refine bodyPost_ret (results_cell_row rfl _ _ gb387 32 #[.bool t419, .int .i64 t420, .string t421] (0, 0) _ rfl (kp BK387.out) Tryz.underlying32 rfl (by kernel_rfl)) rfl ?_
         exact ⟨xe, xb⟩
end Go.Proofs.YtnodgcakmolleaaGreatDoor.PX
