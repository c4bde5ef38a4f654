/- Walked functions, by this session's program over the kit's print. -/
import Derived.Test.YtebofnoljebakaaGreatDoorPXx0
import Derived.Test.YtebofnoljebakaaGreatDoorPXx18
import Derived.Test.YtebofnoljebakaaGreatDoorPXx8
import Derived.Test.YtebofnoljebakaaGreatDoorXBA
import Derived.Test.YtebofnoljebakaaGreatDoorPXx2
namespace Go.Proofs.YtebofnoljebakaaGreatDoor.PX
open Go.RowKit Go.Proofs.YtebofnoljebakaaGreatDoorW.PrintWords Go.Proofs.YtebofnoljebakaaGreatDoorW.PrintLast Go.Proofs.YtebofnoljebakaaGreatDoorW.PrintMore
attribute [local go_sem] xm_gtr max2_int min2_int max_two min_two max_three min_three max_four min_four
set_option linter.unusedVariables false
set_option linter.unusedSimpArgs false
/- Walked functions, by this session's program over the kit's print. -/
def r19_Runs.l0 : Nat → List (S74) → Int → List (List (S74)) → Int → Int → Bool → List (S81) → List (S81) → List (S81) → Int → List (S81) → Bool → Int → ByteArray → Bool → Int → Bool → Bool → Int → Option ((List (List (S74))) × Int)
 | 0, _, _, _, _, _, _, _, _, _, _, _, _, _, _, _, _, _, _, _ => none
 | k + 1, x1, x2, x8, x9, x10, x474000, x474001, x474002, x474003, x474004, x474005, x474006, x474007, x474008, x474009, x474010, x474011, x474012, x474013 => if x10 ≤ (x1.length : Int) then (if x10 = (x1.length : Int) then (if 0 ≤ x9 then (if x9 ≤ x10 then ((r19_Sort.f k x474000 x474001 x474002 x474003 x474004 x474005 x474006 x474007 x474008 x474009 x474010 x474011 x474012 x474013 ((x1.take (x10 : Int).toNat).drop (x9 : Int).toNat)).bind fun t481 => (if x8.length < 5864062014805 then (r19_Runs.l0 k x1 x2 (x8 ++ [t481]) x10 (wrap64 (x10 + 1)) x474000 x474001 x474002 x474003 x474004 x474005 x474006 x474007 x474008 x474009 x474010 x474011 x474012 x474013) else (none))) else (none)) else (none)) else (if 0 ≤ x9 then (if x9 ≤ (wrap64 (x10 + 1)) then (if (wrap64 (x10 + 1)) ≤ (x1.length : Int) then ((r19_Weight.f k ((x1.take ((wrap64 (x10 + 1)) : Int).toNat).drop (x9 : Int).toNat)).bind fun t491 => (if t491 > x2 then (if x9 ≤ x10 then ((r19_Sort.f k x474000 x474001 x474002 x474003 x474004 x474005 x474006 x474007 x474008 x474009 x474010 x474011 x474012 x474013 ((x1.take (x10 : Int).toNat).drop (x9 : Int).toNat)).bind fun t496 => (if x8.length < 5864062014805 then (r19_Runs.l0 k x1 x2 (x8 ++ [t496]) x10 (wrap64 (x10 + 1)) x474000 x474001 x474002 x474003 x474004 x474005 x474006 x474007 x474008 x474009 x474010 x474011 x474012 x474013) else (none))) else (none)) else (r19_Runs.l0 k x1 x2 x8 x9 (wrap64 (x10 + 1)) x474000 x474001 x474002 x474003 x474004 x474005 x474006 x474007 x474008 x474009 x474010 x474011 x474012 x474013))) else (none)) else (none)) else (none))) else (some (x8, 0))
def r19_Runs.f (k : Nat) (a0_0 : Bool) (l0_1 : List (S81)) (l0_2 : List (S81)) (l0_3 : List (S81)) (a0_4 : Int) (l0_5 : List (S81)) (a0_6 : Bool) (a0_7 : Int) (a0_8 : ByteArray) (a0_9 : Bool) (a0_10 : Int) (a0_11 : Bool) (a0_12 : Bool) (a0_13 : Int) (l1 : List (S74)) (a2 : Int) : Option ((List (List (S74))) × Int) := if a2 < 1 then (some (([] : List (List (S74))), 1)) else (r19_Runs.l0 k l1 a2 (([] : List (List (S74)))) 0 1 a0_0 l0_1 l0_2 l0_3 a0_4 l0_5 a0_6 a0_7 a0_8 a0_9 a0_10 a0_11 a0_12 a0_13)
theorem r19_Runs.mono_l : ∀ k, (∀ y0 y1 y2 y3 y4 y5 y6 y7 y8 y9 y10 y11 y12 y13 y14 y15 y16 y17 y18, LeO (r19_Runs.l0 k y0 y1 y2 y3 y4 y5 y6 y7 y8 y9 y10 y11 y12 y13 y14 y15 y16 y17 y18) (r19_Runs.l0 (k + 1) y0 y1 y2 y3 y4 y5 y6 y7 y8 y9 y10 y11 y12 y13 y14 y15 y16 y17 y18))
 | 0 => fun _ _ _ _ _ _ _ _ _ _ _ _ _ _ _ _ _ _ _ r h => by simp [r19_Runs.l0] at h
 | k + 1 => by
  have ih0 := r19_Runs.mono_l k
  ·intro y0 y1 y2 y3 y4 y5 y6 y7 y8 y9 y10 y11 y12 y13 y14 y15 y16 y17 y18
   unfold r19_Runs.l0
   repeat' (with_reducible first | exact ih0 _ _ _ _ _ _ _ _ _ _ _ _ _ _ _ _ _ _ _ | exact r19_Sort.mono _ _ _ _ _ _ _ _ _ _ _ _ _ _ _ _ | exact r19_Weight.mono _ _ | exact LeO.refl _ | exact LeO.none _ | refine LeO.ite ?_ ?_ | refine LeO.bind ?_ (fun _ => ?_))
theorem r19_Runs.mono : ∀ a0 a1 a2 a3 a4 a5 a6 a7 a8 a9 a10 a11 a12 a13 a14 a15 k, LeO (r19_Runs.f k a0 a1 a2 a3 a4 a5 a6 a7 a8 a9 a10 a11 a12 a13 a14 a15) (r19_Runs.f (k + 1) a0 a1 a2 a3 a4 a5 a6 a7 a8 a9 a10 a11 a12 a13 a14 a15) := by
 intro a0 a1 a2 a3 a4 a5 a6 a7 a8 a9 a10 a11 a12 a13 a14 a15 k
 have ih0 := r19_Runs.mono_l k
 unfold r19_Runs.f
 repeat' (with_reducible first | exact ih0 _ _ _ _ _ _ _ _ _ _ _ _ _ _ _ _ _ _ _ | exact r19_Sort.mono _ _ _ _ _ _ _ _ _ _ _ _ _ _ _ _ | exact r19_Weight.mono _ _ | exact LeO.refl _ | exact LeO.none _ | refine LeO.ite ?_ ?_ | refine LeO.bind ?_ (fun _ => ?_))
def r19_Runs.T9 : Bool × List (List Nat × List Nat) := (true, [([], []), ([], []), ([], []), ([], []), ([], []), ([2, 3, 4], [2, 3, 4]), ([1, 5], [1, 5]), ([6], [6]), ([0, 7, 6], [0, 7]), ([8, 8, 0, 1, 2, 3, 4, 5, 6, 7, 8], [0, 8])])
def r19_Runs.B9 : List Nat := [0, 0, 0, 0, 0, 28, 62, 126, 255, 511]
theorem r19_Runs.tab9 : rtab .any (opsOf Tryz.f26 9) = r19_Runs.T9 := by kernel_rfl
theorem r19_Runs.bits9 : waitsOk r19_Runs.T9.2 r19_Runs.B9 = true := by kernel_rfl
set_option maxHeartbeats 8000000 in
set_option maxRecDepth 100000 in
theorem r19_Runs.calls (k : Nat) (a0_0 : Bool) (A0_1 : Option Addr) (c0_1 : Nat) (l0_1 : List (S81)) (A0_2 : Option Addr) (c0_2 : Nat) (l0_2 : List (S81)) (A0_3 : Option Addr) (c0_3 : Nat) (l0_3 : List (S81)) (a0_4 : Int) (A0_5 : Option Addr) (c0_5 : Nat) (l0_5 : List (S81)) (a0_6 : Bool) (a0_7 : Int) (a0_8 : ByteArray) (a0_9 : Bool) (a0_10 : Int) (a0_11 : Bool) (a0_12 : Bool) (a0_13 : Int) (A1 : Option Addr) (c1 : Nat) (l1 : List (S74)) (a2 : Int) (r1 : List (List (S74))) (r2 : Int) (w : World) (hT : Tabs w) (hr0_1 : Kd.C k81 w A0_1 l0_1.length l0_1) (hc0_1 : l0_1.length ≤ c0_1) (hr0_2 : Kd.C k81 w A0_2 l0_2.length l0_2) (hc0_2 : l0_2.length ≤ c0_2) (hr0_3 : Kd.C k81 w A0_3 l0_3.length l0_3) (hc0_3 : l0_3.length ≤ c0_3) (hr0_5 : Kd.C k81 w A0_5 l0_5.length l0_5) (hc0_5 : l0_5.length ≤ c0_5) (hr1 : Kd.C k74 w A1 l1.length l1) (hc1 : l1.length ≤ c1) (h : r19_Runs.f k a0_0 l0_1 l0_2 l0_3 a0_4 l0_5 a0_6 a0_7 a0_8 a0_9 a0_10 a0_11 a0_12 a0_13 l1 a2 = some (r1, r2)) :
  Calls Tryz.prog 26 #[.agg #[.bool a0_0, .slice A0_1 l0_1.length c0_1, .slice A0_2 l0_2.length c0_2, .slice A0_3 l0_3.length c0_3, .int .i64 a0_4, .slice A0_5 l0_5.length c0_5, .bool a0_6, .int .i64 a0_7, .string a0_8, .bool a0_9, .int .i64 a0_10, .bool a0_11, .bool a0_12, .int .i64 a0_13], .slice A1 l1.length c1, .int .i64 a2] w fun e w' => ∃ v0_ : Value, e = .returned (.tuple #[v0_, .int .i64 r2]) ∧ Kd.S (Kd.slice 74 k74) 34 w' w.heap.size (fun _ => True) v0_ r1 ∧ Below w.heap.size w w' := by
 have hu45 := Tryz.underlying45
 have HR0_1 := xy hr0_1
 have HC0_1 := xy hc0_1
 clear hr0_1 hc0_1
 have HR0_2 := xy hr0_2
 have HC0_2 := xy hc0_2
 clear hr0_2 hc0_2
 have HR0_3 := xy hr0_3
 have HC0_3 := xy hc0_3
 clear hr0_3 hc0_3
 have HR0_5 := xy hr0_5
 have HC0_5 := xy hc0_5
 clear hr0_5 hc0_5
 have HR1 := xy hr1
 have HC1 := xy hc1
 clear hr1 hc1
 have HB := xy (Below.refl w.heap.size w)
 unfold r19_Runs.f at h
 have H := h
 clear h
 by_cases c4 : a2 < 1
 ·rw [if_pos c4] at H
  have c4b0 : decide (a2 < 1) = true := decide_eq_true c4
  clear c4
  simp only [Option.some.injEq, Prod.mk.injEq] at H
  obtain ⟨rfl, rfl⟩ := H
  go_enter Tryz.func26, Tryz.ntmps26
  go_wp2_with (((with_reducible refine gate_dst (N := 3) rfl ?_); refine xq (N := 3) (cs := #[.bool a0_0, .slice A0_1 l0_1.length c0_1, .slice A0_2 l0_2.length c0_2, .slice A0_3 l0_3.length c0_3, .int .i64 a0_4, .slice A0_5 l0_5.length c0_5, .bool a0_6, .int .i64 a0_7, .string a0_8, .bool a0_9, .int .i64 a0_10, .bool a0_11, .bool a0_12, .int .i64 a0_13]) (t := 45) ?_; intro gb473 hg w5 hbox hb; have BK473 := xy (hbox); have GW473 := xs w hg; have GE473 := xs w hg; replace HB := xy (below_step xb hb); clear hb hbox hg))
  go_ret2
  exact ⟨_, by first | rfl | (simp [errW_none, errW_some] <;> rfl) | (simp [*, errW_none, errW_some] <;> rfl), by first | exact Kd.S_nil _ _ _ _ _ | exact Kd.N_nil _ _ _ _ _ | exact Kd.V_nil _ _ _ _ _ | exact Kd.Q_nil _ _ _ _ _ | exact Kd.R_nil _ _ _ _ _, xb⟩
 ·rw [if_neg c4] at H
  have c4b0 : decide (a2 < 1) = false := decide_eq_false c4
  clear c4
  obtain ⟨y474, hy474⟩ : ∃ y_ : List (List (S74)), y_ = (([] : List (List (S74)))) := ⟨_, rfl⟩
  replace H : (r19_Runs.l0 k l1 a2 y474 0 1 a0_0 l0_1 l0_2 l0_3 a0_4 l0_5 a0_6 a0_7 a0_8 a0_9 a0_10 a0_11 a0_12 a0_13) = some (r1, r2) := by first | (rw [hy474]; with_reducible exact H) | (have H2_ := (Option.bind_some _ _).symm.trans H; rw [hy474]; with_reducible exact H2_) | (have H2_ := (Option.bind_some _ _).symm.trans H; with_reducible exact H2_) | with_reducible exact H | (rw [hy474]; exact H) | exact H
  have Ny474 := xy hy474
  clear hy474
  have H' := xy H
  clear H
  go_enter Tryz.func26, Tryz.ntmps26
  go_wp2_with (first | ((with_reducible refine gate_dst (N := 3) rfl ?_); refine xq (N := 3) (cs := #[.bool a0_0, .slice A0_1 l0_1.length c0_1, .slice A0_2 l0_2.length c0_2, .slice A0_3 l0_3.length c0_3, .int .i64 a0_4, .slice A0_5 l0_5.length c0_5, .bool a0_6, .int .i64 a0_7, .string a0_8, .bool a0_9, .int .i64 a0_10, .bool a0_11, .bool a0_12, .int .i64 a0_13]) (t := 45) ?_; intro gb473 hg w6 hbox hb; have BK473 := xy (hbox); have GW473 := xs w hg; have GE473 := xs w hg; replace HB := xy (below_step xb hb); clear hb hbox hg) | ((with_reducible refine gate_dst (N := 13) rfl ?_); refine Kd.S_lit (Kd.slice 74 k74) _ 34 ?hg (N := 13) ?hd (xs := ([] : List (List (S74)))) (inner := []) (ok := fun _ => True) (okp := fun _ => True) ?hr ?hp (fun _ hk => hk) trivial (Below.refl _ _) (Nat.le_refl _) (by simp) ?_; (case hd => rfl); (case hg => rfl); (case hr => exact xh); (case hp => exact (Reps.none _ _)); intro v475 w7 ho8 hb hg_ hnew_; clear hg_ hnew_; (first | rw [← Ny474.out] at ho8 | (simp only [Int.reduceToNat] at ho8; rw [← Ny474.out] at ho8)); have HO476 := xy (Kd.S_lower ho8 (below_size xb)); replace BK473 := xd BK473.out hb; replace HB := xy (below_step xb hb); clear hb ho8))
  go_loopg [8, 9, 10] k (fun kq v8 v9 v10 w' => ∃ (x8_1 : List (List (S74))) (x9_1 : Int) (x10_1 : Int), v9 = .int .i64 x9_1 ∧ v10 = .int .i64 x10_1 ∧ Aside0 (r19_Runs.l0 kq l1 a2 x8_1 x9_1 x10_1 a0_0 l0_1 l0_2 l0_3 a0_4 l0_5 a0_6 a0_7 a0_8 a0_9 a0_10 a0_11 a0_12 a0_13 = some (r1, r2)) ∧ Aside0 (kq ≤ k) ∧ Aside0 (Kd.S (Kd.slice 74 k74) 34 w' w.heap.size (fun _ => True) v8 x8_1) ∧ Aside0 (w'.heap[gb473]? = some (.cells #[.bool a0_0, (.slice A0_1 l0_1.length c0_1), (.slice A0_2 l0_2.length c0_2), (.slice A0_3 l0_3.length c0_3), .int .i64 a0_4, (.slice A0_5 l0_5.length c0_5), .bool a0_6, .int .i64 a0_7, .string a0_8, .bool a0_9, .int .i64 a0_10, .bool a0_11, .bool a0_12, .int .i64 a0_13] 45 (0, 0))) ∧ Aside0 (Below w.heap.size w w'))
  case atStart => exact ⟨(y474), (0), (1), xg, xg, H', ⟨Nat.le_refl _⟩, ⟨by (with_reducible repeat (first | apply Kd.S_alloc | apply Kd.S_drewN | apply Kd.S_drew)); exact HO476.out⟩, ⟨by (with_reducible repeat (first | refine blk_drewN ?_ _ | refine blk_drew ?_ | refine blk_alloc ?_ _)); exact BK473.out⟩, ⟨xb⟩⟩
  case round =>
   clear H'
   try clear c1
   try clear c2
   try clear p2
   try clear c4
   try clear c4b0
   obtain ⟨x8_1, x9_1, x10_1, rfl, rfl, HA, HK1, HO_8, BK473, HB⟩ := hrel
   cases gk with
   | zero => exact absurd HA.out (by simp [r19_Runs.l0])
   | succ k1 =>
    have H := HA.out
    clear HA
    simp only [r19_Runs.l0] at H
    by_cases c9 : x10_1 ≤ (l1.length : Int)
    ·rw [if_pos c9] at H
     have c9b0 : decide (x10_1 ≤ (l1.length : Int)) = true := decide_eq_true c9
     clear c9
     by_cases c10 : x10_1 = (l1.length : Int)
     ·rw [if_pos c10] at H
      have c10b0 : (x10_1 == (l1.length : Int)) = true := beq_iff_eq.mpr c10
      have c10b1 : (x10_1 != (l1.length : Int)) = false := bne_eq_false_iff_eq.mpr c10
      clear c10
      by_cases c11 : 0 ≤ x9_1
      ·rw [if_pos c11] at H
       have c11b0 := eq_true c11
       have c11b1 : decide (0 ≤ x9_1) = true := decide_eq_true c11
       clear c11
       by_cases c12 : x9_1 ≤ x10_1
       ·rw [if_pos c12] at H
        have c12b0 := eq_true c12
        have c12b1 : decide (x9_1 ≤ x10_1) = true := decide_eq_true c12
        clear c12
        have c13b0 := eq_true (xi : x10_1 ≤ (l1.length : Int))
        obtain ⟨y477, hy477⟩ : ∃ y_ : List (S74), y_ = ((l1.take (x10_1 : Int).toNat).drop (x9_1 : Int).toNat) := ⟨_, rfl⟩
        replace H : ((r19_Sort.f k1 a0_0 l0_1 l0_2 l0_3 a0_4 l0_5 a0_6 a0_7 a0_8 a0_9 a0_10 a0_11 a0_12 a0_13 y477).bind fun t481 => (if x8_1.length < 5864062014805 then (r19_Runs.l0 k1 l1 a2 (x8_1 ++ [t481]) x10_1 (wrap64 (x10_1 + 1)) a0_0 l0_1 l0_2 l0_3 a0_4 l0_5 a0_6 a0_7 a0_8 a0_9 a0_10 a0_11 a0_12 a0_13) else (none))) = some (r1, r2) := by first | (rw [hy477]; with_reducible exact H) | (have H2_ := (Option.bind_some _ _).symm.trans H; rw [hy477]; with_reducible exact H2_) | (have H2_ := (Option.bind_some _ _).symm.trans H; with_reducible exact H2_) | with_reducible exact H | (rw [hy477]; exact H) | exact H
        have Ny477 := xy hy477
        clear hy477
        replace H := xj H
        obtain ⟨t481, A140, H⟩ := H
        try dsimp only at H
        have A14 := xy A140
        clear A140
        by_cases c15 : x8_1.length < 5864062014805
        ·rw [if_pos c15] at H
         have LMc15 := xy c15
         clear c15
         obtain ⟨y484, hy484⟩ : ∃ y_ : List (List (S74)), y_ = (x8_1 ++ [t481]) := ⟨_, rfl⟩
         replace H : (r19_Runs.l0 k1 l1 a2 y484 x10_1 (wrap64 (x10_1 + 1)) a0_0 l0_1 l0_2 l0_3 a0_4 l0_5 a0_6 a0_7 a0_8 a0_9 a0_10 a0_11 a0_12 a0_13) = some (r1, r2) := by first | (rw [hy484]; with_reducible exact H) | (have H2_ := (Option.bind_some _ _).symm.trans H; rw [hy484]; with_reducible exact H2_) | (have H2_ := (Option.bind_some _ _).symm.trans H; with_reducible exact H2_) | with_reducible exact H | (rw [hy484]; exact H) | exact H
         have Ny484 := xy hy484
         clear hy484
         have H' := xy H
         clear H
         try go_wp2
         replace HO_8 := xy (Kd.S_drew HO_8.out)
         replace BK473 := xy (blk_drew BK473.out)
         replace HB := xy (below_drew1 HB.out)
         have q17 : (x10_1 : Int) ≤ ((l1.length : Int) : Int) := xi
         obtain ⟨i017, hi017, _, hsz17, _⟩ := info_parts info74
         have hroom17 : l1.length ≤ c1 := HC1.out
         have hC17 : Kd.C k74 _ A1 l1.length l1 := HR1.out
         have ql17 : (x9_1 : Int) ≤ (x10_1 : Int) := xi
         have q017 : (0 : Int) ≤ (x9_1 : Int) := xi
         have hcut17 := cut_mid (P := Tryz.prog) 34 74 .i64 .i64 Tryz.underlying34 hi017 4 hsz17 A1 l1.length c1 x9_1 x10_1 q017 ql17 q17 hroom17
         have hr17 := Kd.C_mid (lo := (x9_1 : Int).toNat) (hi := (x10_1 : Int).toNat) (c := c1) hC17 (by omega) (by omega) hroom17
         obtain ⟨A17, hA17⟩ : ∃ A_, A_ = (if c1 = (x9_1 : Int).toNat then A1 else (A1 : Option Addr).map (·.add ((x9_1 : Int).toNat * 4))) := ⟨_, rfl⟩
         obtain ⟨c17, hc17⟩ : ∃ c_, c_ = c1 - (x9_1 : Int).toNat := ⟨_, rfl⟩
         have hy17 : y477.length = (x10_1 : Int).toNat - (x9_1 : Int).toNat := (by rw [Ny477.out, List.length_drop, List.length_take] <;> omega)
         rw [show ((l1).take (x10_1 : Int).toNat).drop (x9_1 : Int).toNat = y477 from Ny477.out.symm] at hr17
         replace hr17 : Kd.C k74 _ A17 y477.length y477 := (by rw [hA17]; exact hr17)
         rw [← hy17, ← hA17, ← hc17] at hcut17
         have HR480 := xy hr17
         have HC480 := xy (show y477.length ≤ c17 from by rw [hy17, hc17]; exact Nat.sub_le_sub_right (Nat.le_trans (by omega) hroom17) _)
         clear hr17 hC17 hroom17 hi017 hsz17 hc17
         have KY17 := xy hy17
         have KA17 := xy hA17
         clear hy17 hA17
         replace q17 := eq_true q17
         refine start_ (n := 10) (S := fun w' => w'.cell? ⟨gb473, 0, none⟩ = some (.bool a0_0) ∧ w'.cell? ⟨gb473, 1, none⟩ = some (.slice A0_1 l0_1.length c0_1) ∧ w'.cell? ⟨gb473, 2, none⟩ = some (.slice A0_2 l0_2.length c0_2) ∧ w'.cell? ⟨gb473, 3, none⟩ = some (.slice A0_3 l0_3.length c0_3) ∧ w'.cell? ⟨gb473, 4, none⟩ = some (.int .i64 a0_4) ∧ w'.cell? ⟨gb473, 5, none⟩ = some (.slice A0_5 l0_5.length c0_5) ∧ w'.cell? ⟨gb473, 6, none⟩ = some (.bool a0_6) ∧ w'.cell? ⟨gb473, 7, none⟩ = some (.int .i64 a0_7) ∧ w'.cell? ⟨gb473, 8, none⟩ = some (.string a0_8) ∧ w'.cell? ⟨gb473, 9, none⟩ = some (.bool a0_9) ∧ w'.cell? ⟨gb473, 10, none⟩ = some (.int .i64 a0_10) ∧ w'.cell? ⟨gb473, 11, none⟩ = some (.bool a0_11) ∧ w'.cell? ⟨gb473, 12, none⟩ = some (.bool a0_12) ∧ w'.cell? ⟨gb473, 13, none⟩ = some (.int .i64 a0_13)) (ds := []) #[false, false, false, false, false, false, false, false, false, false] (by kernel_rfl) rfl rfl ⟨(kc BK473.out 0).trans rfl, (kc BK473.out 1).trans rfl, (kc BK473.out 2).trans rfl, (kc BK473.out 3).trans rfl, (kc BK473.out 4).trans rfl, (kc BK473.out 5).trans rfl, (kc BK473.out 6).trans rfl, (kc BK473.out 7).trans rfl, (kc BK473.out 8).trans rfl, (kc BK473.out 9).trans rfl, (kc BK473.out 10).trans rfl, (kc BK473.out 11).trans rfl, (kc BK473.out 12).trans rfl, (kc BK473.out 13).trans rfl⟩ (fun hHeld => ?_); refine with_tabW r19_Runs.tab9 r19_Runs.bits9 (fun HT_ HW_ => ?_)
         generalize wr.drew = w16 at HO_8 BK473 HB HR480 hHeld ⊢
         refine yz 0 (some 34) (bs 10 1) HT_.out (h := ?_)
         refine yz 2 (some 36) (bs 10 5) HT_.out (h := ?_)
         refine yz 3 (some 37) (bs 10 13) HT_.out (h := ?_)
         refine yz 4 (some 38) (bs 10 29) HT_.out (h := ?_)
         refine yz 5 (some 39) (bs 10 61) HT_.out (h := ?_)
         refine yt 1 (some 35) (bs 10 63) HT_.out HW_.out hHeld (h := ?_)
         refine one_ (i := 6) (N := some 40) #[true, true, true, true, true, true, true, false, false, false] rfl rfl (one_of HT_.out (by kernel_rfl)) (by decide) (fun K hK => ?_)
         refine goes_ Tryz.func16 (by kernel_rfl) rfl #[.agg #[.bool a0_0, .slice A0_1 l0_1.length c0_1, .slice A0_2 l0_2.length c0_2, .slice A0_3 l0_3.length c0_3, .int .i64 a0_4, .slice A0_5 l0_5.length c0_5, .bool a0_6, .int .i64 a0_7, .string a0_8, .bool a0_9, .int .i64 a0_10, .bool a0_11, .bool a0_12, .int .i64 a0_13], .slice A17 y477.length c17] (by rfl) rfl rfl xr ?_
         with_reducible refine (r19_Sort.calls k1 a0_0 _ _ l0_1 _ _ l0_2 _ _ l0_3 a0_4 _ _ l0_5 a0_6 a0_7 a0_8 a0_9 a0_10 a0_11 a0_12 a0_13 _ _ y477 t481 _ (Tabs.below hT xf) ?side1 ?side2 ?side3 ?side4 ?side5 ?side6 ?side7 ?side8 ?side9 ?side10 A14.out).mono ?_
         (case side1 => exact Kd.C_below HR0_1.out xb)
         (case side2 => exact HC0_1.out)
         (case side3 => exact Kd.C_below HR0_2.out xb)
         (case side4 => exact HC0_2.out)
         (case side5 => exact Kd.C_below HR0_3.out xb)
         (case side6 => exact HC0_3.out)
         (case side7 => exact Kd.C_below HR0_5.out xb)
         (case side8 => exact HC0_5.out)
         (case side9 => exact Kd.C_below HR480.out xb)
         (case side10 => exact HC480.out)
         rintro e w18 ⟨v482, rfl, ho0, hb⟩
         refine ⟨_, rfl, ?_⟩
         replace HO_8 := xy (Kd.S_elder' (by (with_reducible repeat (first | apply Kd.S_alloc | apply Kd.S_drewN | apply Kd.S_drew)); exact HO_8.out) (Kd.R_base ho0) hb)
         have HO483 := xy (Kd.R_lower ho0 (below_size xb))
         replace BK473 := xd BK473.out hb
         replace HB := xy (below_step xb hb)
         (try clear hb)
         (try clear hb2)
         (try clear hk)
         (try clear hi)
         (try clear ho0)
         obtain ⟨Ao20, co20, eo20⟩ := Kd.R_slice HO483.out
         (first | subst eo20 | (injection eo20 with f1_ f2_ f3_; have f4_ := f1_.symm; have f5_ := f3_.symm; clear f1_ f2_ f3_; subst f4_; subst f5_))
         refine hK.out _ _ ⟨(kc BK473.out 0).trans rfl, (kc BK473.out 1).trans rfl, (kc BK473.out 2).trans rfl, (kc BK473.out 3).trans rfl, (kc BK473.out 4).trans rfl, (kc BK473.out 5).trans rfl, (kc BK473.out 6).trans rfl, (kc BK473.out 7).trans rfl, (kc BK473.out 8).trans rfl, (kc BK473.out 9).trans rfl, (kc BK473.out 10).trans rfl, (kc BK473.out 11).trans rfl, (kc BK473.out 12).trans rfl, (kc BK473.out 13).trans rfl⟩ (fun hHeld => ?_)
         clear hK K
         refine norm_ (a' := ?_) ?_ ?_
         rotate_left
         ·show Act.put _ (some 40) _ = _
          simp only [Act.put, List.setIfInBounds_toArray, List.set_cons_zero, List.set_cons_succ, i64_w, i32_w]
          rfl
         refine one_ (i := 7) (N := some 41) #[true, true, true, true, true, true, true, true, false, false] rfl rfl (one_of HT_.out (by kernel_rfl)) (by decide) (fun K hK => ?_)
         refine value_ (w1 := ?_) (v := ?_) (by rfl) rfl ?_ ?_
         rotate_left 2
         ·go_simp
          constructor
          ·rfl
          ·rfl
         refine hK.out _ _ ⟨(blk_cell (blk_alloc BK473.out _) 0).trans rfl, (blk_cell (blk_alloc BK473.out _) 1).trans rfl, (blk_cell (blk_alloc BK473.out _) 2).trans rfl, (blk_cell (blk_alloc BK473.out _) 3).trans rfl, (blk_cell (blk_alloc BK473.out _) 4).trans rfl, (blk_cell (blk_alloc BK473.out _) 5).trans rfl, (blk_cell (blk_alloc BK473.out _) 6).trans rfl, (blk_cell (blk_alloc BK473.out _) 7).trans rfl, (blk_cell (blk_alloc BK473.out _) 8).trans rfl, (blk_cell (blk_alloc BK473.out _) 9).trans rfl, (blk_cell (blk_alloc BK473.out _) 10).trans rfl, (blk_cell (blk_alloc BK473.out _) 11).trans rfl, (blk_cell (blk_alloc BK473.out _) 12).trans rfl, (blk_cell (blk_alloc BK473.out _) 13).trans rfl⟩ (fun hHeld => ?_)
         clear hK K
         refine norm_ (a' := ?_) ?_ ?_
         rotate_left
         ·show Act.put _ (some 41) _ = _
          simp only [Act.put, List.setIfInBounds_toArray, List.set_cons_zero, List.set_cons_succ, i64_w, i32_w]
          rfl
         refine one_ (i := 8) (N := some 42) #[true, true, true, true, true, true, true, true, true, false] rfl rfl (one_of HT_.out (by kernel_rfl)) (by decide) (fun K hK => ?_)
         refine Kd.S_append_step (Kd.slice 74 k74) (w0 := w) w.heap.size (by rfl) (.tmp 34) (.tmp 41) 61 34 (.slice none 0 0) 24 rfl Tryz.underlying61 info34 rfl (by decide) (by omega) u8 x8_1 t481 [.slice Ao20 t481.length co20] (fun _ => True) (fun k_ => some k_ = (.slice Ao20 t481.length co20 : Value).ownBlock) rfl rfl ?aP (fun k_ hk_ => ((Kd.R_mono (ok' := fun k_ => ((fun _ => True)) k_ ∧ some k_ ≠ (u8 : Value).ownBlock) (Kd.R_apart' (HO483.out) (Kd.S_typed HO_8.out) (by decide)) (fun k_ hk => ⟨trivial, hk.2⟩))).1 k_ hk_.symm) ?aF ?aO ?aB ?aS ?aL ?_
         (case aP => exact Kd.M_row (Kd.R_mono (Kd.R_tight rfl (Kd.R_mono (ok' := fun k_ => ((fun _ => True)) k_ ∧ some k_ ≠ (u8 : Value).ownBlock) (Kd.R_apart' (HO483.out) (Kd.S_typed HO_8.out) (by decide)) (fun k_ hk => ⟨trivial, hk.2⟩))) (fun _ h_ => h_)))
         (case aB => exact xb)
         (case aF => exact (fun _ _ => trivial))
         (case aO => exact (by (with_reducible repeat (first | apply Kd.S_alloc | apply Kd.S_drewN | apply Kd.S_drew)); exact Kd.S_mono HO_8.out (fun k_ hk => ⟨trivial, fun e_ => hk.2 e_⟩)))
         (case aS => exact (below_size xb))
         (case aL => have := LMc15.out; omega)
         intro v485 w19 ho hb hg hat
         rw [← Ny484.out] at ho
         replace BK473 := xy (blk_grown (g := gb473) (o := .cells #[.bool a0_0, .slice A0_1 l0_1.length c0_1, .slice A0_2 l0_2.length c0_2, .slice A0_3 l0_3.length c0_3, .int .i64 a0_4, .slice A0_5 l0_5.length c0_5, .bool a0_6, .int .i64 a0_7, .string a0_8, .bool a0_9, .int .i64 a0_10, .bool a0_11, .bool a0_12, .int .i64 a0_13] 45 (0, 0)) (xk BK473.out) hg (Kd.S_ne HO_8.out BK473.out (by decide)))
         replace HB := xy (hb)
         have HO486 := xy (ho)
         clear HO_8 HO483
         clear ho hb hg hat
         refine hK.out _ _ ⟨(kc BK473.out 0).trans rfl, (kc BK473.out 1).trans rfl, (kc BK473.out 2).trans rfl, (kc BK473.out 3).trans rfl, (kc BK473.out 4).trans rfl, (kc BK473.out 5).trans rfl, (kc BK473.out 6).trans rfl, (kc BK473.out 7).trans rfl, (kc BK473.out 8).trans rfl, (kc BK473.out 9).trans rfl, (kc BK473.out 10).trans rfl, (kc BK473.out 11).trans rfl, (kc BK473.out 12).trans rfl, (kc BK473.out 13).trans rfl⟩ (fun hHeld => ?_)
         clear hK K
         refine norm_ (a' := ?_) ?_ ?_
         rotate_left
         ·show Act.put _ (some 42) _ = _
          simp only [Act.put, List.setIfInBounds_toArray, List.set_cons_zero, List.set_cons_succ, i64_w, i32_w]
          rfl
         refine yz 9 (some 8) (bs 10 1023) HT_.out (h := ?_)
         refine done_ (done_of HT_.out (by kernel_rfl)) ?_
         try go_wp2
         go_roundg k1
         case measure => have := HK1.out; omega
         case rel => exact ⟨(y484), (x10_1), (wrap64 (x10_1 + 1)), xg, xg, H', ⟨by have := HK1.out; omega⟩, ⟨by (with_reducible repeat (first | apply Kd.S_alloc | apply Kd.S_drewN | apply Kd.S_drew)); exact HO486.out⟩, ⟨by (with_reducible repeat (first | refine blk_drewN ?_ _ | refine blk_drew ?_ | refine blk_alloc ?_ _)); exact BK473.out⟩, ⟨xb⟩⟩
        ·rw [if_neg c15] at H
         exact absurd H (by simp)
       ·rw [if_neg c12] at H
        exact absurd H (by simp)
      ·rw [if_neg c11] at H
       exact absurd H (by simp)
     ·rw [if_neg c10] at H
      have c10b0 : (x10_1 == (l1.length : Int)) = false := beq_eq_false_iff_ne.mpr c10
      have c10b1 : (x10_1 != (l1.length : Int)) = true := bne_iff_ne.mpr c10
      by_cases c21 : 0 ≤ x9_1
      ·rw [if_pos c21] at H
       have c21b0 := eq_true c21
       have c21b1 : decide (0 ≤ x9_1) = true := decide_eq_true c21
       clear c21
       by_cases c22 : x9_1 ≤ (wrap64 (x10_1 + 1))
       ·rw [if_pos c22] at H
        have c22b0 := eq_true c22
        have c22b1 : decide (x9_1 ≤ (wrap64 (x10_1 + 1))) = true := decide_eq_true c22
        by_cases c23 : (wrap64 (x10_1 + 1)) ≤ (l1.length : Int)
        ·rw [if_pos c23] at H
         have c23b0 := eq_true c23
         have c23b1 : decide ((wrap64 (x10_1 + 1)) ≤ (l1.length : Int)) = true := decide_eq_true c23
         obtain ⟨y487, hy487⟩ : ∃ y_ : List (S74), y_ = ((l1.take ((wrap64 (x10_1 + 1)) : Int).toNat).drop (x9_1 : Int).toNat) := ⟨_, rfl⟩
         replace H : ((r19_Weight.f k1 y487).bind fun t491 => (if t491 > a2 then (if x9_1 ≤ x10_1 then ((r19_Sort.f k1 a0_0 l0_1 l0_2 l0_3 a0_4 l0_5 a0_6 a0_7 a0_8 a0_9 a0_10 a0_11 a0_12 a0_13 ((l1.take (x10_1 : Int).toNat).drop (x9_1 : Int).toNat)).bind fun t496 => (if x8_1.length < 5864062014805 then (r19_Runs.l0 k1 l1 a2 (x8_1 ++ [t496]) x10_1 (wrap64 (x10_1 + 1)) a0_0 l0_1 l0_2 l0_3 a0_4 l0_5 a0_6 a0_7 a0_8 a0_9 a0_10 a0_11 a0_12 a0_13) else (none))) else (none)) else (r19_Runs.l0 k1 l1 a2 x8_1 x9_1 (wrap64 (x10_1 + 1)) a0_0 l0_1 l0_2 l0_3 a0_4 l0_5 a0_6 a0_7 a0_8 a0_9 a0_10 a0_11 a0_12 a0_13))) = some (r1, r2) := by first | (rw [hy487]; with_reducible exact H) | (have H2_ := (Option.bind_some _ _).symm.trans H; rw [hy487]; with_reducible exact H2_) | (have H2_ := (Option.bind_some _ _).symm.trans H; with_reducible exact H2_) | with_reducible exact H | (rw [hy487]; exact H) | exact H
         have Ny487 := xy hy487
         clear hy487
         replace H := xj H
         obtain ⟨t491, A240, H⟩ := H
         try dsimp only at H
         have A24 := xy A240
         clear A240
         by_cases c25 : t491 > a2
         ·rw [if_pos c25] at H
          have c25b0 : decide (a2 < t491) = true := decide_eq_true c25
          clear c25
          have c26b0 := eq_true (xi : 0 ≤ x9_1)
          by_cases c27 : x9_1 ≤ x10_1
          ·rw [if_pos c27] at H
           have c27b0 := eq_true c27
           have c27b1 : decide (x9_1 ≤ x10_1) = true := decide_eq_true c27
           clear c27
           have c28b0 := eq_true (xi : x10_1 ≤ (l1.length : Int))
           obtain ⟨y492, hy492⟩ : ∃ y_ : List (S74), y_ = ((l1.take (x10_1 : Int).toNat).drop (x9_1 : Int).toNat) := ⟨_, rfl⟩
           replace H : ((r19_Sort.f k1 a0_0 l0_1 l0_2 l0_3 a0_4 l0_5 a0_6 a0_7 a0_8 a0_9 a0_10 a0_11 a0_12 a0_13 y492).bind fun t496 => (if x8_1.length < 5864062014805 then (r19_Runs.l0 k1 l1 a2 (x8_1 ++ [t496]) x10_1 (wrap64 (x10_1 + 1)) a0_0 l0_1 l0_2 l0_3 a0_4 l0_5 a0_6 a0_7 a0_8 a0_9 a0_10 a0_11 a0_12 a0_13) else (none))) = some (r1, r2) := by first | (rw [hy492]; with_reducible exact H) | (have H2_ := (Option.bind_some _ _).symm.trans H; rw [hy492]; with_reducible exact H2_) | (have H2_ := (Option.bind_some _ _).symm.trans H; with_reducible exact H2_) | with_reducible exact H | (rw [hy492]; exact H) | exact H
           have Ny492 := xy hy492
           clear hy492
           replace H := xj H
           obtain ⟨t496, A290, H⟩ := H
           try dsimp only at H
           have A29 := xy A290
           clear A290
           by_cases c30 : x8_1.length < 5864062014805
           ·rw [if_pos c30] at H
            have LMc30 := xy c30
            clear c30
            obtain ⟨y499, hy499⟩ : ∃ y_ : List (List (S74)), y_ = (x8_1 ++ [t496]) := ⟨_, rfl⟩
            replace H : (r19_Runs.l0 k1 l1 a2 y499 x10_1 (wrap64 (x10_1 + 1)) a0_0 l0_1 l0_2 l0_3 a0_4 l0_5 a0_6 a0_7 a0_8 a0_9 a0_10 a0_11 a0_12 a0_13) = some (r1, r2) := by first | (rw [hy499]; with_reducible exact H) | (have H2_ := (Option.bind_some _ _).symm.trans H; rw [hy499]; with_reducible exact H2_) | (have H2_ := (Option.bind_some _ _).symm.trans H; with_reducible exact H2_) | with_reducible exact H | (rw [hy499]; exact H) | exact H
            have Ny499 := xy hy499
            clear hy499
            have H' := xy H
            clear H
            have q31 : ((wrap64 (x10_1 + 1)) : Int) ≤ ((l1.length : Int) : Int) := xi
            obtain ⟨i031, hi031, _, hsz31, _⟩ := info_parts info74
            have hroom31 : l1.length ≤ c1 := HC1.out
            have hC31 : Kd.C k74 _ A1 l1.length l1 := HR1.out
            have ql31 : (x9_1 : Int) ≤ ((wrap64 (x10_1 + 1)) : Int) := xi
            have q031 : (0 : Int) ≤ (x9_1 : Int) := xi
            have hcut31 := cut_mid (P := Tryz.prog) 34 74 .i64 .i64 Tryz.underlying34 hi031 4 hsz31 A1 l1.length c1 x9_1 (wrap64 (x10_1 + 1)) q031 ql31 q31 hroom31
            have hr31 := Kd.C_mid (lo := (x9_1 : Int).toNat) (hi := ((wrap64 (x10_1 + 1)) : Int).toNat) (c := c1) hC31 (by omega) (by omega) hroom31
            obtain ⟨A31, hA31⟩ : ∃ A_, A_ = (if c1 = (x9_1 : Int).toNat then A1 else (A1 : Option Addr).map (·.add ((x9_1 : Int).toNat * 4))) := ⟨_, rfl⟩
            obtain ⟨c31, hc31⟩ : ∃ c_, c_ = c1 - (x9_1 : Int).toNat := ⟨_, rfl⟩
            have hy31 : y487.length = ((wrap64 (x10_1 + 1)) : Int).toNat - (x9_1 : Int).toNat := (by rw [Ny487.out, List.length_drop, List.length_take] <;> omega)
            rw [show ((l1).take ((wrap64 (x10_1 + 1)) : Int).toNat).drop (x9_1 : Int).toNat = y487 from Ny487.out.symm] at hr31
            replace hr31 : Kd.C k74 _ A31 y487.length y487 := (by rw [hA31]; exact hr31)
            rw [← hy31, ← hA31, ← hc31] at hcut31
            have HR490 := xy hr31
            have HC490 := xy (show y487.length ≤ c31 from by rw [hy31, hc31]; exact Nat.sub_le_sub_right (Nat.le_trans (by omega) hroom31) _)
            clear hr31 hC31 hroom31 hi031 hsz31 hc31
            have KY31 := xy hy31
            have KA31 := xy hA31
            clear hy31 hA31
            replace q31 := eq_true q31
            try go_wp2_with ((go_at_call 20; (with_reducible refine (r19_Weight.calls k1 _ _ y487 t491 _ (Tabs.below hT xf) ?side1 ?side2 A24.out).mono ?_); (case side1 => exact Kd.C_below HR490.out xb); (case side2 => exact HC490.out); rintro e w' ⟨rfl, ⟨nd, rfl⟩⟩))
            (try (rw [drewN_self wr]; generalize hq_ : World.drewN wr _ = wr; have n0_ : Aside0 (Kd.S (Kd.slice 74 k74) 34 wr w.heap.size (fun _ => True) u8 x8_1) := ⟨by rw [← hq_]; exact (by (with_reducible repeat (first | apply Kd.S_alloc | apply Kd.S_drewN | apply Kd.S_drew)); exact HO_8.out)⟩; have n1_ : Aside0 (wr.heap[gb473]? = some (.cells #[.bool a0_0, .slice A0_1 l0_1.length c0_1, .slice A0_2 l0_2.length c0_2, .slice A0_3 l0_3.length c0_3, .int .i64 a0_4, .slice A0_5 l0_5.length c0_5, .bool a0_6, .int .i64 a0_7, .string a0_8, .bool a0_9, .int .i64 a0_10, .bool a0_11, .bool a0_12, .int .i64 a0_13] 45 (0, 0))) := ⟨by rw [← hq_]; exact (xk BK473.out)⟩; have n2_ : Aside0 (Below w.heap.size w wr) := ⟨by rw [← hq_]; exact xb⟩; clear HO_8 BK473 HB hq_; have HO_8 := n0_; have BK473 := n1_; have HB := n2_; clear n0_ n1_ n2_))
            replace HO_8 := xy (Kd.S_drew HO_8.out)
            replace BK473 := xy (blk_drew BK473.out)
            replace HB := xy (below_drew1 HB.out)
            have q33 : (x10_1 : Int) ≤ ((l1.length : Int) : Int) := xi
            obtain ⟨i033, hi033, _, hsz33, _⟩ := info_parts info74
            have hroom33 : l1.length ≤ c1 := HC1.out
            have hC33 : Kd.C k74 _ A1 l1.length l1 := HR1.out
            have ql33 : (x9_1 : Int) ≤ (x10_1 : Int) := xi
            have q033 : (0 : Int) ≤ (x9_1 : Int) := xi
            have hcut33 := cut_mid (P := Tryz.prog) 34 74 .i64 .i64 Tryz.underlying34 hi033 4 hsz33 A1 l1.length c1 x9_1 x10_1 q033 ql33 q33 hroom33
            have hr33 := Kd.C_mid (lo := (x9_1 : Int).toNat) (hi := (x10_1 : Int).toNat) (c := c1) hC33 (by omega) (by omega) hroom33
            obtain ⟨A33, hA33⟩ : ∃ A_, A_ = (if c1 = (x9_1 : Int).toNat then A1 else (A1 : Option Addr).map (·.add ((x9_1 : Int).toNat * 4))) := ⟨_, rfl⟩
            obtain ⟨c33, hc33⟩ : ∃ c_, c_ = c1 - (x9_1 : Int).toNat := ⟨_, rfl⟩
            have hy33 : y492.length = (x10_1 : Int).toNat - (x9_1 : Int).toNat := (by rw [Ny492.out, List.length_drop, List.length_take] <;> omega)
            rw [show ((l1).take (x10_1 : Int).toNat).drop (x9_1 : Int).toNat = y492 from Ny492.out.symm] at hr33
            replace hr33 : Kd.C k74 _ A33 y492.length y492 := (by rw [hA33]; exact hr33)
            rw [← hy33, ← hA33, ← hc33] at hcut33
            have HR495 := xy hr33
            have HC495 := xy (show y492.length ≤ c33 from by rw [hy33, hc33]; exact Nat.sub_le_sub_right (Nat.le_trans (by omega) hroom33) _)
            clear hr33 hC33 hroom33 hi033 hsz33 hc33
            have KY33 := xy hy33
            have KA33 := xy hA33
            clear hy33 hA33
            replace q33 := eq_true q33
            refine start_ (n := 10) (S := fun w' => w'.cell? ⟨gb473, 0, none⟩ = some (.bool a0_0) ∧ w'.cell? ⟨gb473, 1, none⟩ = some (.slice A0_1 l0_1.length c0_1) ∧ w'.cell? ⟨gb473, 2, none⟩ = some (.slice A0_2 l0_2.length c0_2) ∧ w'.cell? ⟨gb473, 3, none⟩ = some (.slice A0_3 l0_3.length c0_3) ∧ w'.cell? ⟨gb473, 4, none⟩ = some (.int .i64 a0_4) ∧ w'.cell? ⟨gb473, 5, none⟩ = some (.slice A0_5 l0_5.length c0_5) ∧ w'.cell? ⟨gb473, 6, none⟩ = some (.bool a0_6) ∧ w'.cell? ⟨gb473, 7, none⟩ = some (.int .i64 a0_7) ∧ w'.cell? ⟨gb473, 8, none⟩ = some (.string a0_8) ∧ w'.cell? ⟨gb473, 9, none⟩ = some (.bool a0_9) ∧ w'.cell? ⟨gb473, 10, none⟩ = some (.int .i64 a0_10) ∧ w'.cell? ⟨gb473, 11, none⟩ = some (.bool a0_11) ∧ w'.cell? ⟨gb473, 12, none⟩ = some (.bool a0_12) ∧ w'.cell? ⟨gb473, 13, none⟩ = some (.int .i64 a0_13)) (ds := []) #[false, false, false, false, false, false, false, false, false, false] (by kernel_rfl) rfl rfl ⟨(kc BK473.out 0).trans rfl, (kc BK473.out 1).trans rfl, (kc BK473.out 2).trans rfl, (kc BK473.out 3).trans rfl, (kc BK473.out 4).trans rfl, (kc BK473.out 5).trans rfl, (kc BK473.out 6).trans rfl, (kc BK473.out 7).trans rfl, (kc BK473.out 8).trans rfl, (kc BK473.out 9).trans rfl, (kc BK473.out 10).trans rfl, (kc BK473.out 11).trans rfl, (kc BK473.out 12).trans rfl, (kc BK473.out 13).trans rfl⟩ (fun hHeld => ?_); refine with_tabW r19_Runs.tab9 r19_Runs.bits9 (fun HT_ HW_ => ?_)
            generalize wr.drew = w32 at HO_8 BK473 HB HR495 hHeld ⊢
            refine yz 0 (some 34) (bs 10 1) HT_.out (h := ?_)
            refine yz 2 (some 36) (bs 10 5) HT_.out (h := ?_)
            refine yz 3 (some 37) (bs 10 13) HT_.out (h := ?_)
            refine yz 4 (some 38) (bs 10 29) HT_.out (h := ?_)
            refine yz 5 (some 39) (bs 10 61) HT_.out (h := ?_)
            refine yt 1 (some 35) (bs 10 63) HT_.out HW_.out hHeld (h := ?_)
            refine one_ (i := 6) (N := some 40) #[true, true, true, true, true, true, true, false, false, false] rfl rfl (one_of HT_.out (by kernel_rfl)) (by decide) (fun K hK => ?_)
            refine goes_ Tryz.func16 (by kernel_rfl) rfl #[.agg #[.bool a0_0, .slice A0_1 l0_1.length c0_1, .slice A0_2 l0_2.length c0_2, .slice A0_3 l0_3.length c0_3, .int .i64 a0_4, .slice A0_5 l0_5.length c0_5, .bool a0_6, .int .i64 a0_7, .string a0_8, .bool a0_9, .int .i64 a0_10, .bool a0_11, .bool a0_12, .int .i64 a0_13], .slice A33 y492.length c33] (by rfl) rfl rfl xr ?_
            with_reducible refine (r19_Sort.calls k1 a0_0 _ _ l0_1 _ _ l0_2 _ _ l0_3 a0_4 _ _ l0_5 a0_6 a0_7 a0_8 a0_9 a0_10 a0_11 a0_12 a0_13 _ _ y492 t496 _ (Tabs.below hT xf) ?side1 ?side2 ?side3 ?side4 ?side5 ?side6 ?side7 ?side8 ?side9 ?side10 A29.out).mono ?_
            (case side1 => exact Kd.C_below HR0_1.out xb)
            (case side2 => exact HC0_1.out)
            (case side3 => exact Kd.C_below HR0_2.out xb)
            (case side4 => exact HC0_2.out)
            (case side5 => exact Kd.C_below HR0_3.out xb)
            (case side6 => exact HC0_3.out)
            (case side7 => exact Kd.C_below HR0_5.out xb)
            (case side8 => exact HC0_5.out)
            (case side9 => exact Kd.C_below HR495.out xb)
            (case side10 => exact HC495.out)
            rintro e w34 ⟨v497, rfl, ho0, hb⟩
            refine ⟨_, rfl, ?_⟩
            replace HO_8 := xy (Kd.S_elder' (by (with_reducible repeat (first | apply Kd.S_alloc | apply Kd.S_drewN | apply Kd.S_drew)); exact HO_8.out) (Kd.R_base ho0) hb)
            have HO498 := xy (Kd.R_lower ho0 (below_size xb))
            replace BK473 := xd BK473.out hb
            replace HB := xy (below_step xb hb)
            (try clear hb)
            (try clear hb2)
            (try clear hk)
            (try clear hi)
            (try clear ho0)
            obtain ⟨Ao36, co36, eo36⟩ := Kd.R_slice HO498.out
            (first | subst eo36 | (injection eo36 with f1_ f2_ f3_; have f4_ := f1_.symm; have f5_ := f3_.symm; clear f1_ f2_ f3_; subst f4_; subst f5_))
            refine hK.out _ _ ⟨(kc BK473.out 0).trans rfl, (kc BK473.out 1).trans rfl, (kc BK473.out 2).trans rfl, (kc BK473.out 3).trans rfl, (kc BK473.out 4).trans rfl, (kc BK473.out 5).trans rfl, (kc BK473.out 6).trans rfl, (kc BK473.out 7).trans rfl, (kc BK473.out 8).trans rfl, (kc BK473.out 9).trans rfl, (kc BK473.out 10).trans rfl, (kc BK473.out 11).trans rfl, (kc BK473.out 12).trans rfl, (kc BK473.out 13).trans rfl⟩ (fun hHeld => ?_)
            clear hK K
            refine norm_ (a' := ?_) ?_ ?_
            rotate_left
            ·show Act.put _ (some 40) _ = _
             simp only [Act.put, List.setIfInBounds_toArray, List.set_cons_zero, List.set_cons_succ, i64_w, i32_w]
             rfl
            refine one_ (i := 7) (N := some 41) #[true, true, true, true, true, true, true, true, false, false] rfl rfl (one_of HT_.out (by kernel_rfl)) (by decide) (fun K hK => ?_)
            refine value_ (w1 := ?_) (v := ?_) (by rfl) rfl ?_ ?_
            rotate_left 2
            ·go_simp
             constructor
             ·rfl
             ·rfl
            refine hK.out _ _ ⟨(blk_cell (blk_alloc BK473.out _) 0).trans rfl, (blk_cell (blk_alloc BK473.out _) 1).trans rfl, (blk_cell (blk_alloc BK473.out _) 2).trans rfl, (blk_cell (blk_alloc BK473.out _) 3).trans rfl, (blk_cell (blk_alloc BK473.out _) 4).trans rfl, (blk_cell (blk_alloc BK473.out _) 5).trans rfl, (blk_cell (blk_alloc BK473.out _) 6).trans rfl, (blk_cell (blk_alloc BK473.out _) 7).trans rfl, (blk_cell (blk_alloc BK473.out _) 8).trans rfl, (blk_cell (blk_alloc BK473.out _) 9).trans rfl, (blk_cell (blk_alloc BK473.out _) 10).trans rfl, (blk_cell (blk_alloc BK473.out _) 11).trans rfl, (blk_cell (blk_alloc BK473.out _) 12).trans rfl, (blk_cell (blk_alloc BK473.out _) 13).trans rfl⟩ (fun hHeld => ?_)
            clear hK K
            refine norm_ (a' := ?_) ?_ ?_
            rotate_left
            ·show Act.put _ (some 41) _ = _
             simp only [Act.put, List.setIfInBounds_toArray, List.set_cons_zero, List.set_cons_succ, i64_w, i32_w]
             rfl
            refine one_ (i := 8) (N := some 42) #[true, true, true, true, true, true, true, true, true, false] rfl rfl (one_of HT_.out (by kernel_rfl)) (by decide) (fun K hK => ?_)
            refine Kd.S_append_step (Kd.slice 74 k74) (w0 := w) w.heap.size (by rfl) (.tmp 34) (.tmp 41) 61 34 (.slice none 0 0) 24 rfl Tryz.underlying61 info34 rfl (by decide) (by omega) u8 x8_1 t496 [.slice Ao36 t496.length co36] (fun _ => True) (fun k_ => some k_ = (.slice Ao36 t496.length co36 : Value).ownBlock) rfl rfl ?aP (fun k_ hk_ => ((Kd.R_mono (ok' := fun k_ => ((fun _ => True)) k_ ∧ some k_ ≠ (u8 : Value).ownBlock) (Kd.R_apart' (HO498.out) (Kd.S_typed HO_8.out) (by decide)) (fun k_ hk => ⟨trivial, hk.2⟩))).1 k_ hk_.symm) ?aF ?aO ?aB ?aS ?aL ?_
            (case aP => exact Kd.M_row (Kd.R_mono (Kd.R_tight rfl (Kd.R_mono (ok' := fun k_ => ((fun _ => True)) k_ ∧ some k_ ≠ (u8 : Value).ownBlock) (Kd.R_apart' (HO498.out) (Kd.S_typed HO_8.out) (by decide)) (fun k_ hk => ⟨trivial, hk.2⟩))) (fun _ h_ => h_)))
            (case aB => exact xb)
            (case aF => exact (fun _ _ => trivial))
            (case aO => exact (by (with_reducible repeat (first | apply Kd.S_alloc | apply Kd.S_drewN | apply Kd.S_drew)); exact Kd.S_mono HO_8.out (fun k_ hk => ⟨trivial, fun e_ => hk.2 e_⟩)))
            (case aS => exact (below_size xb))
            (case aL => have := LMc30.out; omega)
            intro v500 w35 ho hb hg hat
            rw [← Ny499.out] at ho
            replace BK473 := xy (blk_grown (g := gb473) (o := .cells #[.bool a0_0, .slice A0_1 l0_1.length c0_1, .slice A0_2 l0_2.length c0_2, .slice A0_3 l0_3.length c0_3, .int .i64 a0_4, .slice A0_5 l0_5.length c0_5, .bool a0_6, .int .i64 a0_7, .string a0_8, .bool a0_9, .int .i64 a0_10, .bool a0_11, .bool a0_12, .int .i64 a0_13] 45 (0, 0)) (xk BK473.out) hg (Kd.S_ne HO_8.out BK473.out (by decide)))
            replace HB := xy (hb)
            have HO501 := xy (ho)
            clear HO_8 HO498
            clear ho hb hg hat
            refine hK.out _ _ ⟨(kc BK473.out 0).trans rfl, (kc BK473.out 1).trans rfl, (kc BK473.out 2).trans rfl, (kc BK473.out 3).trans rfl, (kc BK473.out 4).trans rfl, (kc BK473.out 5).trans rfl, (kc BK473.out 6).trans rfl, (kc BK473.out 7).trans rfl, (kc BK473.out 8).trans rfl, (kc BK473.out 9).trans rfl, (kc BK473.out 10).trans rfl, (kc BK473.out 11).trans rfl, (kc BK473.out 12).trans rfl, (kc BK473.out 13).trans rfl⟩ (fun hHeld => ?_)
            clear hK K
            refine norm_ (a' := ?_) ?_ ?_
            rotate_left
            ·show Act.put _ (some 42) _ = _
             simp only [Act.put, List.setIfInBounds_toArray, List.set_cons_zero, List.set_cons_succ, i64_w, i32_w]
             rfl
            refine yz 9 (some 8) (bs 10 1023) HT_.out (h := ?_)
            refine done_ (done_of HT_.out (by kernel_rfl)) ?_
            try go_wp2
            go_roundg k1
            case measure => have := HK1.out; omega
            case rel => exact ⟨(y499), (x10_1), (wrap64 (x10_1 + 1)), xg, xg, H', ⟨by have := HK1.out; omega⟩, ⟨by (with_reducible repeat (first | apply Kd.S_alloc | apply Kd.S_drewN | apply Kd.S_drew)); exact HO501.out⟩, ⟨by (with_reducible repeat (first | refine blk_drewN ?_ _ | refine blk_drew ?_ | refine blk_alloc ?_ _)); exact BK473.out⟩, ⟨xb⟩⟩
           ·rw [if_neg c30] at H
            exact absurd H (by simp)
          ·rw [if_neg c27] at H
           exact absurd H (by simp)
         ·rw [if_neg c25] at H
          have c25b0 : decide (a2 < t491) = false := decide_eq_false c25
          clear c25
          have H' := xy H
          clear H
          have q37 : ((wrap64 (x10_1 + 1)) : Int) ≤ ((l1.length : Int) : Int) := xi
          obtain ⟨i037, hi037, _, hsz37, _⟩ := info_parts info74
          have hroom37 : l1.length ≤ c1 := HC1.out
          have hC37 : Kd.C k74 _ A1 l1.length l1 := HR1.out
          have ql37 : (x9_1 : Int) ≤ ((wrap64 (x10_1 + 1)) : Int) := xi
          have q037 : (0 : Int) ≤ (x9_1 : Int) := xi
          have hcut37 := cut_mid (P := Tryz.prog) 34 74 .i64 .i64 Tryz.underlying34 hi037 4 hsz37 A1 l1.length c1 x9_1 (wrap64 (x10_1 + 1)) q037 ql37 q37 hroom37
          have hr37 := Kd.C_mid (lo := (x9_1 : Int).toNat) (hi := ((wrap64 (x10_1 + 1)) : Int).toNat) (c := c1) hC37 (by omega) (by omega) hroom37
          obtain ⟨A37, hA37⟩ : ∃ A_, A_ = (if c1 = (x9_1 : Int).toNat then A1 else (A1 : Option Addr).map (·.add ((x9_1 : Int).toNat * 4))) := ⟨_, rfl⟩
          obtain ⟨c37, hc37⟩ : ∃ c_, c_ = c1 - (x9_1 : Int).toNat := ⟨_, rfl⟩
          have hy37 : y487.length = ((wrap64 (x10_1 + 1)) : Int).toNat - (x9_1 : Int).toNat := (by rw [Ny487.out, List.length_drop, List.length_take] <;> omega)
          rw [show ((l1).take ((wrap64 (x10_1 + 1)) : Int).toNat).drop (x9_1 : Int).toNat = y487 from Ny487.out.symm] at hr37
          replace hr37 : Kd.C k74 _ A37 y487.length y487 := (by rw [hA37]; exact hr37)
          rw [← hy37, ← hA37, ← hc37] at hcut37
          have HR490 := xy hr37
          have HC490 := xy (show y487.length ≤ c37 from by rw [hy37, hc37]; exact Nat.sub_le_sub_right (Nat.le_trans (by omega) hroom37) _)
          clear hr37 hC37 hroom37 hi037 hsz37 hc37
          have KY37 := xy hy37
          have KA37 := xy hA37
          clear hy37 hA37
          replace q37 := eq_true q37
          go_wp2_with ((go_at_call 20; (with_reducible refine (r19_Weight.calls k1 _ _ y487 t491 _ (Tabs.below hT xf) ?side1 ?side2 A24.out).mono ?_); (case side1 => exact Kd.C_below HR490.out xb); (case side2 => exact HC490.out); rintro e w' ⟨rfl, ⟨nd, rfl⟩⟩))
          go_roundg k1
          case measure => have := HK1.out; omega
          case rel => exact ⟨(x8_1), (x9_1), (wrap64 (x10_1 + 1)), xg, xg, H', ⟨by have := HK1.out; omega⟩, ⟨by (with_reducible repeat (first | apply Kd.S_alloc | apply Kd.S_drewN | apply Kd.S_drew)); exact HO_8.out⟩, ⟨by (with_reducible repeat (first | refine blk_drewN ?_ _ | refine blk_drew ?_ | refine blk_alloc ?_ _)); exact BK473.out⟩, ⟨xb⟩⟩
        ·rw [if_neg c23] at H
         exact absurd H (by simp)
       ·rw [if_neg c22] at H
        exact absurd H (by simp)
      ·rw [if_neg c21] at H
       exact absurd H (by simp)
    ·rw [if_neg c9] at H
     have c9b0 : decide (x10_1 ≤ (l1.length : Int)) = false := decide_eq_false c9
     clear c9
     simp only [Option.some.injEq, Prod.mk.injEq] at H
     obtain ⟨rfl, rfl⟩ := H
     go_wp2
     go_ret2
     exact ⟨_, by first | rfl | (simp [errW_none, errW_some] <;> rfl) | (simp [*, errW_none, errW_some] <;> rfl), by (with_reducible repeat (first | apply Kd.S_alloc | apply Kd.S_drewN | apply Kd.S_drew)); exact HO_8.out, xb⟩
/- Walked functions, by this session's program over the kit's print. -/
theorem eqA24 (d : Nat) (w : World) (x0 y0 : Bool) (x1 y1 : Int) (x2 y2 : ByteArray) :
  (Op.equalIn (d + 2) 24 (.agg #[.bool x0, .int .i64 x1, .string x2]) (.agg #[.bool y0, .int .i64 y1, .string y2])).run Tryz.prog w = .ok (x0 == y0 && (x1 == y1 && (x2.toList == y2.toList))) w := by
 refine eqA_of Tryz.underlying24 (by kernel_rfl) ?_
 refine eqf_cons (by rfl) (by go_simp; rfl) (by go_simp; rfl) (by go_simp) ?_
 refine eqf_cons (by rfl) (by go_simp; rfl) (by go_simp; rfl) (by go_simp) ?_
 exact eqf_last (by rfl) (by go_simp; rfl) (by go_simp; rfl) (by go_simp)
theorem eqA74 (d : Nat) (w : World) (x0 y0 : ByteArray) (x1 y1 : Bool) (x2 y2 : Int) (x3 y3 : ByteArray) :
  (Op.equalIn (d + 3) 74 (.agg #[.string x0, .bool x1, .int .i64 x2, .string x3]) (.agg #[.string y0, .bool y1, .int .i64 y2, .string y3])).run Tryz.prog w = .ok (x0.toList == y0.toList && ((x1 == y1 && (x2 == y2 && (x3.toList == y3.toList))))) w := by
 refine eqA_of Tryz.underlying74 (by kernel_rfl) ?_
 refine eqf_cons (by rfl) (by go_simp; rfl) (by go_simp; rfl) (by go_simp) ?_
 exact eqf_last (by rfl) (by go_simp) (by go_simp) (eqA24 (d + 0) w _ _ _ _ _ _)
section
/- Walked functions, by this session's program over the kit's print. -/
attribute [local go_sem high] eqA74
def r18_Same.l0 : Nat → List (S74) → List (S74) → Int → Option (Bool)
 | 0, _, _, _ => none
 | k + 1, x0, x1, x5 => if x5 < (x0.length : Int) then (if 0 ≤ x5 then (if x5 < (x1.length : Int) then (if (!((((rd_T74 x0 x5).f0).toList) == (((rd_T74 x1 x5).f0).toList)) || ((!(((rd_T74 x0 x5).f1.f0) == ((rd_T74 x1 x5).f1.f0)) || (!(((rd_T74 x0 x5).f1.f1) == ((rd_T74 x1 x5).f1.f1)) || (!((((rd_T74 x0 x5).f1.f2).toList) == (((rd_T74 x1 x5).f1.f2).toList))))))) = true then (some false) else (r18_Same.l0 k x0 x1 (wrap64 (x5 + 1)))) else (none)) else (none)) else (some true)
def r18_Same.f (k : Nat) (l0 : List (S74)) (l1 : List (S74)) : Option (Bool) := if (l0.length : Int) = (l1.length : Int) then (r18_Same.l0 k l0 l1 0) else (some false)
theorem r18_Same.mono_l : ∀ k, (∀ y0 y1 y2, LeO (r18_Same.l0 k y0 y1 y2) (r18_Same.l0 (k + 1) y0 y1 y2))
 | 0 => fun _ _ _ r h => by simp [r18_Same.l0] at h
 | k + 1 => by
  have ih0 := r18_Same.mono_l k
  ·intro y0 y1 y2
   unfold r18_Same.l0
   repeat' (with_reducible first | exact ih0 _ _ _ | exact LeO.refl _ | exact LeO.none _ | refine LeO.ite ?_ ?_ | refine LeO.bind ?_ (fun _ => ?_))
theorem r18_Same.mono : ∀ a0 a1 k, LeO (r18_Same.f k a0 a1) (r18_Same.f (k + 1) a0 a1) := by
 intro a0 a1 k
 have ih0 := r18_Same.mono_l k
 unfold r18_Same.f
 repeat' (with_reducible first | exact ih0 _ _ _ | exact LeO.refl _ | exact LeO.none _ | refine LeO.ite ?_ ?_ | refine LeO.bind ?_ (fun _ => ?_))
set_option maxHeartbeats 8000000 in
set_option maxRecDepth 100000 in
theorem r18_Same.calls (k : Nat) (A0 : Option Addr) (c0 : Nat) (l0 : List (S74)) (A1 : Option Addr) (c1 : Nat) (l1 : List (S74)) (r : Bool) (w : World) (hT : Tabs w) (hr0 : Kd.C k74 w A0 l0.length l0) (hc0 : l0.length ≤ c0) (hr1 : Kd.C k74 w A1 l1.length l1) (hc1 : l1.length ≤ c1) (h : r18_Same.f k l0 l1 = some r) :
  Calls Tryz.prog 12 #[.slice A0 l0.length c0, .slice A1 l1.length c1] w fun e w' => e = .returned (.bool r) ∧ Drawn0 w w' := by
 have hu74 := Tryz.underlying74
 have HR0 := xy hr0
 have HC0 := xy hc0
 clear hr0 hc0
 have HR1 := xy hr1
 have HC1 := xy hc1
 clear hr1 hc1
 unfold r18_Same.f at h
 have H := h
 clear h
 by_cases c3 : (l0.length : Int) = (l1.length : Int)
 ·rw [if_pos c3] at H
  have c3b0 : ((l0.length : Int) == (l1.length : Int)) = true := beq_iff_eq.mpr c3
  have c3b1 : ((l0.length : Int) != (l1.length : Int)) = false := bne_eq_false_iff_eq.mpr c3
  have c3b2 : (l0.length == l1.length) = true := by first | simpa using c3 | (simp at c3 ⊢; omega)
  clear c3
  have H' := xy H
  clear H
  go_enter Tryz.func12, Tryz.ntmps12
  go_wp2
  repeat (go_quiet (fail); try go_wp2)
  go_loopg [5] k (fun kq v5 w' => ∃ (x5_1 : Int), v5 = .int .i64 x5_1 ∧ Aside0 (r18_Same.l0 kq l0 l1 x5_1 = some r) ∧ Aside0 (kq ≤ k) ∧ Drawn0 w w')
  case atStart => exact ⟨(0), xg, H', ⟨Nat.le_refl _⟩, by repeat (first | exact Drawn0.refl _ | apply Drawn0.step)⟩
  case round =>
   clear H'
   try clear c1
   try clear p2
   try clear c3
   try clear c3b0
   try clear c3b1
   try clear c3b2
   obtain ⟨x5_1, rfl, HA, HK1, ⟨m1, rfl⟩⟩ := hrel
   cases gk with
   | zero => exact absurd HA.out (by simp [r18_Same.l0])
   | succ k1 =>
    have H := HA.out
    clear HA
    simp only [r18_Same.l0] at H
    by_cases c4 : x5_1 < (l0.length : Int)
    ·rw [if_pos c4] at H
     have c4b0 : decide (x5_1 < (l0.length : Int)) = true := decide_eq_true c4
     clear c4
     by_cases c5 : 0 ≤ x5_1
     ·rw [if_pos c5] at H
      have c5b0 : decide (0 ≤ x5_1) = true := decide_eq_true c5
      clear c5
      by_cases c6 : x5_1 < (l1.length : Int)
      ·rw [if_pos c6] at H
       have c6b0 : decide (x5_1 < (l1.length : Int)) = true := decide_eq_true c6
       clear c6
       by_cases c7 : (!((((rd_T74 l0 x5_1).f0).toList) == (((rd_T74 l1 x5_1).f0).toList)) || ((!(((rd_T74 l0 x5_1).f1.f0) == ((rd_T74 l1 x5_1).f1.f0)) || (!(((rd_T74 l0 x5_1).f1.f1) == ((rd_T74 l1 x5_1).f1.f1)) || (!((((rd_T74 l0 x5_1).f1.f2).toList) == (((rd_T74 l1 x5_1).f1.f2).toList))))))) = true
       ·rw [if_pos c7] at H
        have c7b0 : (!((((rd_T74 l0 x5_1).f0).toList) == (((rd_T74 l1 x5_1).f0).toList)) || ((!(((rd_T74 l0 x5_1).f1.f0) == ((rd_T74 l1 x5_1).f1.f0)) || (!(((rd_T74 l0 x5_1).f1.f1) == ((rd_T74 l1 x5_1).f1.f1)) || (!((((rd_T74 l0 x5_1).f1.f2).toList) == (((rd_T74 l1 x5_1).f1.f2).toList))))))) = true := c7
        clear c7
        obtain rfl := Option.some.inj H
        have p502 : 0 ≤ (x5_1 : Int) := xi
        have q502 : x5_1 < (l0.length : Int) := xi
        obtain ⟨ad502, e502, hx502_0, hx502_1, hx502_2, hx502_3⟩ := at_T74 HR0.out x5_1 p502 q502
        cases e502
        replace p502 := eq_true p502
        replace q502 := eq_true q502
        have p503 : 0 ≤ (x5_1 : Int) := xi
        have q503 : x5_1 < (l1.length : Int) := xi
        obtain ⟨ad503, e503, hx503_0, hx503_1, hx503_2, hx503_3⟩ := at_T74 HR1.out x5_1 p503 q503
        cases e503
        replace p503 := eq_true p503
        replace q503 := eq_true q503
        go_wp2
        repeat (go_quiet (fail); try go_wp2)
        go_ret
        exact ⟨xg, xz⟩
       ·rw [if_neg c7] at H
        have c7b0 : (!((((rd_T74 l0 x5_1).f0).toList) == (((rd_T74 l1 x5_1).f0).toList)) || ((!(((rd_T74 l0 x5_1).f1.f0) == ((rd_T74 l1 x5_1).f1.f0)) || (!(((rd_T74 l0 x5_1).f1.f1) == ((rd_T74 l1 x5_1).f1.f1)) || (!((((rd_T74 l0 x5_1).f1.f2).toList) == (((rd_T74 l1 x5_1).f1.f2).toList))))))) = false := by simpa using c7
        clear c7
        have H' := xy H
        clear H
        have p502 : 0 ≤ (x5_1 : Int) := xi
        have q502 : x5_1 < (l0.length : Int) := xi
        obtain ⟨ad502, e502, hx502_0, hx502_1, hx502_2, hx502_3⟩ := at_T74 HR0.out x5_1 p502 q502
        cases e502
        replace p502 := eq_true p502
        replace q502 := eq_true q502
        have p503 : 0 ≤ (x5_1 : Int) := xi
        have q503 : x5_1 < (l1.length : Int) := xi
        obtain ⟨ad503, e503, hx503_0, hx503_1, hx503_2, hx503_3⟩ := at_T74 HR1.out x5_1 p503 q503
        cases e503
        replace p503 := eq_true p503
        replace q503 := eq_true q503
        go_wp2
        repeat (go_quiet (fail); try go_wp2)
        go_roundg k1
        case measure => have := HK1.out; omega
        case rel => exact ⟨(wrap64 (x5_1 + 1)), xg, H', ⟨by have := HK1.out; omega⟩, by repeat (first | exact Drawn0.refl _ | apply Drawn0.step)⟩
      ·rw [if_neg c6] at H
       exact absurd H (by simp)
     ·rw [if_neg c5] at H
      exact absurd H (by simp)
    ·rw [if_neg c4] at H
     have c4b0 : decide (x5_1 < (l0.length : Int)) = false := decide_eq_false c4
     clear c4
     obtain rfl := Option.some.inj H
     go_wp2
     repeat (go_quiet (fail); try go_wp2)
     go_ret
     exact ⟨xg, xz⟩
 ·rw [if_neg c3] at H
  have c3b0 : ((l0.length : Int) == (l1.length : Int)) = false := beq_eq_false_iff_ne.mpr c3
  have c3b1 : ((l0.length : Int) != (l1.length : Int)) = true := bne_iff_ne.mpr c3
  have c3b2 : (l0.length == l1.length) = false := by first | simpa using c3 | (simp at c3 ⊢; omega)
  obtain rfl := Option.some.inj H
  go_enter Tryz.func12, Tryz.ntmps12
  go_wp2
  repeat (go_quiet (fail); try go_wp2)
  go_ret
  exact ⟨xg, xz⟩
def r19_SameRuns.l0 : Nat → List (List (S74)) → List (List (S74)) → Int → Option (Bool)
 | 0, _, _, _ => none
 | k + 1, x0, x1, x5 => if x5 < (x0.length : Int) then (if 0 ≤ x5 then (if x5 < (x1.length : Int) then ((r18_Same.f k (rd_L15 x0 x5) (rd_L15 x1 x5)).bind fun t506 => (if t506 = true then (r19_SameRuns.l0 k x0 x1 (wrap64 (x5 + 1))) else (some false))) else (none)) else (none)) else (some true)
def r19_SameRuns.f (k : Nat) (l0 : List (List (S74))) (l1 : List (List (S74))) : Option (Bool) := if (l0.length : Int) = (l1.length : Int) then (r19_SameRuns.l0 k l0 l1 0) else (some false)
theorem r19_SameRuns.mono_l : ∀ k, (∀ y0 y1 y2, LeO (r19_SameRuns.l0 k y0 y1 y2) (r19_SameRuns.l0 (k + 1) y0 y1 y2))
 | 0 => fun _ _ _ r h => by simp [r19_SameRuns.l0] at h
 | k + 1 => by
  have ih0 := r19_SameRuns.mono_l k
  ·intro y0 y1 y2
   unfold r19_SameRuns.l0
   repeat' (with_reducible first | exact ih0 _ _ _ | exact r18_Same.mono _ _ _ | exact LeO.refl _ | exact LeO.none _ | refine LeO.ite ?_ ?_ | refine LeO.bind ?_ (fun _ => ?_))
theorem r19_SameRuns.mono : ∀ a0 a1 k, LeO (r19_SameRuns.f k a0 a1) (r19_SameRuns.f (k + 1) a0 a1) := by
 intro a0 a1 k
 have ih0 := r19_SameRuns.mono_l k
 unfold r19_SameRuns.f
 repeat' (with_reducible first | exact ih0 _ _ _ | exact r18_Same.mono _ _ _ | exact LeO.refl _ | exact LeO.none _ | refine LeO.ite ?_ ?_ | refine LeO.bind ?_ (fun _ => ?_))
set_option maxHeartbeats 8000000 in
set_option maxRecDepth 100000 in
theorem r19_SameRuns.calls (k : Nat) (A0 : Option Addr) (c0 : Nat) (l0 : List (List (S74))) (A1 : Option Addr) (c1 : Nat) (l1 : List (List (S74))) (r : Bool) (w : World) (hT : Tabs w) (hr0 : Kd.C (Kd.slice 74 k74) w A0 l0.length l0) (hc0 : l0.length ≤ c0) (hr1 : Kd.C (Kd.slice 74 k74) w A1 l1.length l1) (hc1 : l1.length ≤ c1) (h : r19_SameRuns.f k l0 l1 = some r) :
  Calls Tryz.prog 28 #[.slice A0 l0.length c0, .slice A1 l1.length c1] w fun e w' => e = .returned (.bool r) ∧ Drawn0 w w' := by
 have HR0 := xy hr0
 have HC0 := xy hc0
 clear hr0 hc0
 have HR1 := xy hr1
 have HC1 := xy hc1
 clear hr1 hc1
 unfold r19_SameRuns.f at h
 have H := h
 clear h
 by_cases c3 : (l0.length : Int) = (l1.length : Int)
 ·rw [if_pos c3] at H
  have c3b0 : ((l0.length : Int) == (l1.length : Int)) = true := beq_iff_eq.mpr c3
  have c3b1 : ((l0.length : Int) != (l1.length : Int)) = false := bne_eq_false_iff_eq.mpr c3
  have c3b2 : (l0.length == l1.length) = true := by first | simpa using c3 | (simp at c3 ⊢; omega)
  clear c3
  have H' := xy H
  clear H
  go_enter Tryz.func28, Tryz.ntmps28
  go_wp2
  repeat (go_quiet (fail); try go_wp2)
  go_loopg [5] k (fun kq v5 w' => ∃ (x5_1 : Int), v5 = .int .i64 x5_1 ∧ Aside0 (r19_SameRuns.l0 kq l0 l1 x5_1 = some r) ∧ Aside0 (kq ≤ k) ∧ Drawn0 w w')
  case atStart => exact ⟨(0), xg, H', ⟨Nat.le_refl _⟩, by repeat (first | exact Drawn0.refl _ | apply Drawn0.step)⟩
  case round =>
   clear H'
   try clear c1
   try clear c2
   try clear p2
   try clear c3
   try clear c3b0
   try clear c3b1
   try clear c3b2
   obtain ⟨x5_1, rfl, HA, HK1, ⟨m1, rfl⟩⟩ := hrel
   cases gk with
   | zero => exact absurd HA.out (by simp [r19_SameRuns.l0])
   | succ k1 =>
    have H := HA.out
    clear HA
    simp only [r19_SameRuns.l0] at H
    by_cases c4 : x5_1 < (l0.length : Int)
    ·rw [if_pos c4] at H
     have c4b0 : decide (x5_1 < (l0.length : Int)) = true := decide_eq_true c4
     clear c4
     by_cases c5 : 0 ≤ x5_1
     ·rw [if_pos c5] at H
      have c5b0 : decide (0 ≤ x5_1) = true := decide_eq_true c5
      clear c5
      by_cases c6 : x5_1 < (l1.length : Int)
      ·rw [if_pos c6] at H
       have c6b0 : decide (x5_1 < (l1.length : Int)) = true := decide_eq_true c6
       clear c6
       replace H := xj H
       obtain ⟨t506, A70, H⟩ := H
       try dsimp only at H
       have A7 := xy A70
       clear A70
       by_cases c8 : t506 = true
       ·subst c8
        rw [if_pos rfl] at H
        have H' := xy H
        clear H
        have p504 : 0 ≤ (x5_1 : Int) := xi
        have q504 : x5_1 < (l0.length : Int) := xi
        obtain ⟨ad504, A504_0, c504_0, e504, hx504_0, hl504_0, hi504_0⟩ := at_L15 HR0.out x5_1 p504 q504
        cases e504
        have HR504_0 := xy hi504_0
        have HC504_0 := xy hl504_0
        clear hi504_0 hl504_0
        replace p504 := eq_true p504
        replace q504 := eq_true q504
        have p505 : 0 ≤ (x5_1 : Int) := xi
        have q505 : x5_1 < (l1.length : Int) := xi
        obtain ⟨ad505, A505_0, c505_0, e505, hx505_0, hl505_0, hi505_0⟩ := at_L15 HR1.out x5_1 p505 q505
        cases e505
        have HR505_0 := xy hi505_0
        have HC505_0 := xy hl505_0
        clear hi505_0 hl505_0
        replace p505 := eq_true p505
        replace q505 := eq_true q505
        go_wp2_with (fail)
        repeat (go_quiet ((go_at_call 12; (with_reducible refine (r18_Same.calls k1 _ _ (rd_L15 l0 x5_1) _ _ (rd_L15 l1 x5_1) true _ (Tabs.below hT xf) ?side1 ?side2 ?side3 ?side4 A7.out).mono ?_); (case side1 => repeat (first | exact HR504_0.out | (with_reducible refine Kd.C_alloc ?_ _) | (with_reducible refine Kd.C_drewN ?_ _) | (with_reducible refine Kd.C_drew ?_))); (case side2 => exact HC504_0.out); (case side3 => repeat (first | exact HR505_0.out | (with_reducible refine Kd.C_alloc ?_ _) | (with_reducible refine Kd.C_drewN ?_ _) | (with_reducible refine Kd.C_drew ?_))); (case side4 => exact HC505_0.out); rintro e w' ⟨rfl, ⟨nd, rfl⟩⟩; (try first | exact ⟨rfl, _, World.drewN_drewN _ _ _⟩ | exact ⟨rfl, _, Eq.trans (World.drewN_drewN _ _ _) (congrArg (World.drewN _) (Nat.add_assoc _ _ _))⟩))); try go_wp2_with (fail))
        go_roundg k1
        case measure => have := HK1.out; omega
        case rel => exact ⟨(wrap64 (x5_1 + 1)), xg, H', ⟨by have := HK1.out; omega⟩, by repeat (first | exact Drawn0.refl _ | apply Drawn0.step)⟩
       ·replace c8 := Bool.eq_false_iff.mpr c8
        subst c8
        rw [if_neg (show ¬ (false = true) by decide)] at H
        obtain rfl := Option.some.inj H
        have p504 : 0 ≤ (x5_1 : Int) := xi
        have q504 : x5_1 < (l0.length : Int) := xi
        obtain ⟨ad504, A504_0, c504_0, e504, hx504_0, hl504_0, hi504_0⟩ := at_L15 HR0.out x5_1 p504 q504
        cases e504
        have HR504_0 := xy hi504_0
        have HC504_0 := xy hl504_0
        clear hi504_0 hl504_0
        replace p504 := eq_true p504
        replace q504 := eq_true q504
        have p505 : 0 ≤ (x5_1 : Int) := xi
        have q505 : x5_1 < (l1.length : Int) := xi
        obtain ⟨ad505, A505_0, c505_0, e505, hx505_0, hl505_0, hi505_0⟩ := at_L15 HR1.out x5_1 p505 q505
        cases e505
        have HR505_0 := xy hi505_0
        have HC505_0 := xy hl505_0
        clear hi505_0 hl505_0
        replace p505 := eq_true p505
        replace q505 := eq_true q505
        go_wp2_with (fail)
        repeat (go_quiet ((go_at_call 12; (with_reducible refine (r18_Same.calls k1 _ _ (rd_L15 l0 x5_1) _ _ (rd_L15 l1 x5_1) false _ (Tabs.below hT xf) ?side1 ?side2 ?side3 ?side4 A7.out).mono ?_); (case side1 => repeat (first | exact HR504_0.out | (with_reducible refine Kd.C_alloc ?_ _) | (with_reducible refine Kd.C_drewN ?_ _) | (with_reducible refine Kd.C_drew ?_))); (case side2 => exact HC504_0.out); (case side3 => repeat (first | exact HR505_0.out | (with_reducible refine Kd.C_alloc ?_ _) | (with_reducible refine Kd.C_drewN ?_ _) | (with_reducible refine Kd.C_drew ?_))); (case side4 => exact HC505_0.out); rintro e w' ⟨rfl, ⟨nd, rfl⟩⟩; (try first | exact ⟨rfl, _, World.drewN_drewN _ _ _⟩ | exact ⟨rfl, _, Eq.trans (World.drewN_drewN _ _ _) (congrArg (World.drewN _) (Nat.add_assoc _ _ _))⟩))); try go_wp2_with (fail))
        go_ret
        exact ⟨xg, xz⟩
      ·rw [if_neg c6] at H
       exact absurd H (by simp)
     ·rw [if_neg c5] at H
      exact absurd H (by simp)
    ·rw [if_neg c4] at H
     have c4b0 : decide (x5_1 < (l0.length : Int)) = false := decide_eq_false c4
     clear c4
     obtain rfl := Option.some.inj H
     go_wp2
     repeat (go_quiet (fail); try go_wp2)
     go_ret
     exact ⟨xg, xz⟩
 ·rw [if_neg c3] at H
  have c3b0 : ((l0.length : Int) == (l1.length : Int)) = false := beq_eq_false_iff_ne.mpr c3
  have c3b1 : ((l0.length : Int) != (l1.length : Int)) = true := bne_iff_ne.mpr c3
  have c3b2 : (l0.length == l1.length) = false := by first | simpa using c3 | (simp at c3 ⊢; omega)
  obtain rfl := Option.some.inj H
  go_enter Tryz.func28, Tryz.ntmps28
  go_wp2
  repeat (go_quiet (fail); try go_wp2)
  go_ret
  exact ⟨xg, xz⟩
def w19_runs.l0 : Nat → List (List (S38)) → List (List (S74)) → Int → Option ((List (List (S74))))
 | 0, _, _, _ => none
 | k + 1, x0, x3, x4 => if x4 < (x0.length : Int) then (if 0 ≤ x4 then ((w19_items.f k (rd_L11 x0 x4)).bind fun t511 => (if x3.length < 5864062014805 then (w19_runs.l0 k x0 (x3 ++ [t511]) (wrap64 (x4 + 1))) else (none))) else (none)) else (some x3)
def w19_runs.f (k : Nat) (l0 : List (List (S38))) : Option ((List (List (S74)))) := w19_runs.l0 k l0 (([] : List (List (S74)))) 0
theorem w19_runs.mono_l : ∀ k, (∀ y0 y1 y2, LeO (w19_runs.l0 k y0 y1 y2) (w19_runs.l0 (k + 1) y0 y1 y2))
 | 0 => fun _ _ _ r h => by simp [w19_runs.l0] at h
 | k + 1 => by
  have ih0 := w19_runs.mono_l k
  ·intro y0 y1 y2
   unfold w19_runs.l0
   repeat' (with_reducible first | exact ih0 _ _ _ | exact w19_items.mono _ _ | exact LeO.refl _ | exact LeO.none _ | refine LeO.ite ?_ ?_ | refine LeO.bind ?_ (fun _ => ?_))
theorem w19_runs.mono : ∀ a0 k, LeO (w19_runs.f k a0) (w19_runs.f (k + 1) a0) := by
 intro a0 k
 have ih0 := w19_runs.mono_l k
 unfold w19_runs.f
 repeat' (with_reducible first | exact ih0 _ _ _ | exact w19_items.mono _ _ | exact LeO.refl _ | exact LeO.none _ | refine LeO.ite ?_ ?_ | refine LeO.bind ?_ (fun _ => ?_))
set_option maxHeartbeats 8000000 in
set_option maxRecDepth 100000 in
theorem w19_runs.calls (k : Nat) (A0 : Option Addr) (c0 : Nat) (l0 : List (List (S38))) (r : List (List (S74))) (w : World) (hT : Tabs w) (hr0 : Kd.C (Kd.slice 38 k38) w A0 l0.length l0) (hc0 : l0.length ≤ c0) (h : w19_runs.f k l0 = some r) :
  Calls Tryz.prog 29 #[.slice A0 l0.length c0] w fun e w' => ∃ v0_ : Value, e = .returned (v0_) ∧ Kd.S (Kd.slice 74 k74) 34 w' w.heap.size (fun _ => True) v0_ r ∧ Below w.heap.size w w' := by
 have HR0 := xy hr0
 have HC0 := xy hc0
 clear hr0 hc0
 have HB := xy (Below.refl w.heap.size w)
 unfold w19_runs.f at h
 have H := h
 clear h
 obtain ⟨y507, hy507⟩ : ∃ y_ : List (List (S74)), y_ = (([] : List (List (S74)))) := ⟨_, rfl⟩
 replace H : (w19_runs.l0 k l0 y507 0) = some r := by first | (rw [hy507]; with_reducible exact H) | (have H2_ := (Option.bind_some _ _).symm.trans H; rw [hy507]; with_reducible exact H2_) | (have H2_ := (Option.bind_some _ _).symm.trans H; with_reducible exact H2_) | with_reducible exact H | (rw [hy507]; exact H) | exact H
 have Ny507 := xy hy507
 clear hy507
 have H' := xy H
 clear H
 go_enter Tryz.func29, Tryz.ntmps29
 go_wp2_with (((with_reducible refine gate_dst (N := 5) rfl ?_); refine Kd.S_lit (Kd.slice 74 k74) _ 34 ?hg (N := 5) ?hd (xs := ([] : List (List (S74)))) (inner := []) (ok := fun _ => True) (okp := fun _ => True) ?hr ?hp (fun _ hk => hk) trivial (Below.refl _ _) (Nat.le_refl _) (by simp) ?_; (case hd => rfl); (case hg => rfl); (case hr => exact xh); (case hp => exact (Reps.none _ _)); intro v508 w2 ho3 hb hg_ hnew_; clear hg_ hnew_; (first | rw [← Ny507.out] at ho3 | (simp only [Int.reduceToNat] at ho3; rw [← Ny507.out] at ho3)); have HO509 := xy (Kd.S_lower ho3 (below_size xb)); replace HB := xy (below_step xb hb); clear hb ho3))
 go_loopg [3, 4] k (fun kq v3 v4 w' => ∃ (x3_1 : List (List (S74))) (x4_1 : Int), v4 = .int .i64 x4_1 ∧ Aside0 (w19_runs.l0 kq l0 x3_1 x4_1 = some r) ∧ Aside0 (kq ≤ k) ∧ Aside0 (Kd.S (Kd.slice 74 k74) 34 w' w.heap.size (fun _ => True) v3 x3_1) ∧ Aside0 (Below w.heap.size w w'))
 case atStart => exact ⟨(y507), (0), xg, H', ⟨Nat.le_refl _⟩, ⟨by (with_reducible repeat (first | apply Kd.S_alloc | apply Kd.S_drewN | apply Kd.S_drew)); exact HO509.out⟩, ⟨xb⟩⟩
 case round =>
  clear H'
  try clear c2
  try clear p2
  obtain ⟨x3_1, x4_1, rfl, HA, HK1, HO_3, HB⟩ := hrel
  cases gk with
  | zero => exact absurd HA.out (by simp [w19_runs.l0])
  | succ k1 =>
   have H := HA.out
   clear HA
   simp only [w19_runs.l0] at H
   by_cases c4 : x4_1 < (l0.length : Int)
   ·rw [if_pos c4] at H
    have c4b0 : decide (x4_1 < (l0.length : Int)) = true := decide_eq_true c4
    clear c4
    by_cases c5 : 0 ≤ x4_1
    ·rw [if_pos c5] at H
     have c5b0 : decide (0 ≤ x4_1) = true := decide_eq_true c5
     clear c5
     replace H := xj H
     obtain ⟨t511, A60, H⟩ := H
     try dsimp only at H
     have A6 := xy A60
     clear A60
     by_cases c7 : x3_1.length < 5864062014805
     ·rw [if_pos c7] at H
      have LMc7 := xy c7
      clear c7
      obtain ⟨y514, hy514⟩ : ∃ y_ : List (List (S74)), y_ = (x3_1 ++ [t511]) := ⟨_, rfl⟩
      replace H : (w19_runs.l0 k1 l0 y514 (wrap64 (x4_1 + 1))) = some r := by first | (rw [hy514]; with_reducible exact H) | (have H2_ := (Option.bind_some _ _).symm.trans H; rw [hy514]; with_reducible exact H2_) | (have H2_ := (Option.bind_some _ _).symm.trans H; with_reducible exact H2_) | with_reducible exact H | (rw [hy514]; exact H) | exact H
      have Ny514 := xy hy514
      clear hy514
      have H' := xy H
      clear H
      have p510 : 0 ≤ (x4_1 : Int) := xi
      have q510 : x4_1 < (l0.length : Int) := xi
      obtain ⟨ad510, A510_0, c510_0, e510, hx510_0, hl510_0, hi510_0⟩ := at_L11 HR0.out x4_1 p510 q510
      cases e510
      replace hx510_0 := (HB.out.cell (World.block_lt_of_cell? w _ hx510_0)).trans hx510_0
      have HR510_0 := xy hi510_0
      have HC510_0 := xy hl510_0
      clear hi510_0 hl510_0
      replace p510 := eq_true p510
      replace q510 := eq_true q510
      go_wp2_with (first | ((with_reducible refine gate_callee (f := 13) rfl ?_); refine goesL_ (some 17) rfl rfl Tryz.func13 (by kernel_rfl) rfl #[.slice A510_0 (rd_L11 l0 x4_1).length c510_0] rfl xr ?_; (with_reducible refine (w19_items.calls k1 _ _ (rd_L11 l0 x4_1) t511 _ (Tabs.below hT xf) ?side1 ?side2 A6.out).mono ?_); (case side1 => exact Kd.C_below HR510_0.out xb); (case side2 => exact HC510_0.out); rintro e w8 ⟨v512, rfl, ho0, hb⟩; refine ⟨_, rfl, ?_⟩; replace HO_3 := xy (Kd.S_elder' (by (with_reducible repeat (first | apply Kd.S_alloc | apply Kd.S_drewN | apply Kd.S_drew)); exact HO_3.out) (Kd.R_base ho0) hb); have HO513 := xy (Kd.R_lower ho0 (below_size xb)); replace HB := xy (below_step xb hb); (try clear hb); (try clear hb2); (try clear hk); (try clear hi); (try clear ho0); obtain ⟨Ao10, co10, eo10⟩ := Kd.R_slice HO513.out; subst eo10) | ((with_reducible refine gate_builtin (b := .append) (xs := #[.tmp 12, .tmp 18]) rfl ?_); at_builtin; refine Kd.S_append (Kd.slice 74 k74) (w0 := w) w.heap.size rfl (.tmp 12) (.tmp 18) 61 34 (.slice none 0 0) 24 rfl Tryz.underlying61 info34 rfl (by decide) (by omega) u3 x3_1 t511 [.slice Ao10 t511.length co10] (fun _ => True) (fun k_ => some k_ = (.slice Ao10 t511.length co10 : Value).ownBlock) rfl rfl ?aP (fun k_ hk_ => ((Kd.R_mono (ok' := fun k_ => ((fun _ => True)) k_ ∧ some k_ ≠ (u3 : Value).ownBlock) (Kd.R_apart' (HO513.out) (Kd.S_typed HO_3.out) (by decide)) (fun k_ hk => ⟨trivial, hk.2⟩))).1 k_ hk_.symm) ?aF ?aO ?aB ?aS ?aL ?_; (case aP => exact Kd.M_row (Kd.R_mono (Kd.R_tight rfl (Kd.R_mono (ok' := fun k_ => ((fun _ => True)) k_ ∧ some k_ ≠ (u3 : Value).ownBlock) (Kd.R_apart' (HO513.out) (Kd.S_typed HO_3.out) (by decide)) (fun k_ hk => ⟨trivial, hk.2⟩))) (fun _ h_ => h_))); (case aB => exact xb); (case aF => exact (fun _ _ => trivial)); (case aO => exact (by (with_reducible repeat (first | apply Kd.S_alloc | apply Kd.S_drewN | apply Kd.S_drew)); exact Kd.S_mono HO_3.out (fun k_ hk => ⟨trivial, fun e_ => hk.2 e_⟩))); (case aS => exact (below_size xb)); (case aL => have := LMc7.out; omega); intro v515 w9 ho hb hg hat; rw [← Ny514.out] at ho; replace HB := xy (hb); have HO516 := xy (ho); clear HO_3 HO513; clear ho hb hg hat))
      go_roundg k1
      case measure => have := HK1.out; omega
      case rel => exact ⟨(y514), (wrap64 (x4_1 + 1)), xg, H', ⟨by have := HK1.out; omega⟩, ⟨by (with_reducible repeat (first | apply Kd.S_alloc | apply Kd.S_drewN | apply Kd.S_drew)); exact HO516.out⟩, ⟨xb⟩⟩
     ·rw [if_neg c7] at H
      exact absurd H (by simp)
    ·rw [if_neg c5] at H
     exact absurd H (by simp)
   ·rw [if_neg c4] at H
    have c4b0 : decide (x4_1 < (l0.length : Int)) = false := decide_eq_false c4
    clear c4
    obtain rfl := Option.some.inj H
    go_wp2
    go_ret
    exact ⟨_, by first | rfl | (simp [errW_none, errW_some] <;> rfl) | (simp [*, errW_none, errW_some] <;> rfl), by (with_reducible repeat (first | apply Kd.S_alloc | apply Kd.S_drewN | apply Kd.S_drew)); exact HO_3.out, xb⟩
end
/- Walked functions, by this session's program over the kit's print. -/
def w19_SorterRuns.ah (k : Nat) (a0_0 : Bool) (l0_1 l0_2 l0_3 : List S81) (a0_4 : Int) (l0_5 : List S81) (a0_6 : Bool) (a0_7 : Int) (a0_8 : ByteArray) (a0_9 : Bool) (a0_10 : Int) (a0_11 a0_12 : Bool) (a0_13 : Int) (x y : XSort.It) : Option Bool := job_Ahead.f k a0_0 l0_1 l0_2 l0_3 a0_4 l0_5 a0_6 a0_7 a0_8 a0_9 a0_10 a0_11 a0_12 a0_13 x.f0 y.f0
def w19_SorterRuns.f (k : Nat) (a0_0 : Bool) (l0_1 : List (S81)) (l0_2 : List (S81)) (l0_3 : List (S81)) (a0_4 : Int) (l0_5 : List (S81)) (a0_6 : Bool) (a0_7 : Int) (a0_8 : ByteArray) (a0_9 : Bool) (a0_10 : Int) (a0_11 : Bool) (a0_12 : Bool) (a0_13 : Int) (l1 : List (S38)) (a2 : Int) : Option (Bool) :=
 (w19_little.f k a0_0 l0_1 l0_2 l0_3 a0_4 l0_5 a0_6 a0_7 a0_8 a0_9 a0_10 a0_11 a0_12 a0_13).bind fun b => if b = true then ((w19_few.f k l1).bind fun c => if c = true then (
 (w19_items.f k l1).bind fun was =>
 (r19_Runs.f k a0_0 l0_1 l0_2 l0_3 a0_4 l0_5 a0_6 a0_7 a0_8 a0_9 a0_10 a0_11 a0_12 a0_13 was a2).bind fun y =>
 if a2 < 1 then ((w19_runs.f k []).bind fun x8 => (r19_SameRuns.f k x8 y.1).bind fun s => if s = true ∧ y.2 = 1 then some true else none)
 else ((w19_runs.f k (Stb.runsP (fun x y : XSort.It => (w19_SorterRuns.ah k a0_0 l0_1 l0_2 l0_3 a0_4 l0_5 a0_6 a0_7 a0_8 a0_9 a0_10 a0_11 a0_12 a0_13 x y).getD false) a2 l1)).bind fun x8 => (r19_SameRuns.f k x8 y.1).bind fun s =>
  if s = true ∧ y.2 = 0 ∧ l1.length < 1000 ∧ (l1.all fun x => decide (x.f0.size ≤ 140737488351232 ∧ x.f1.f2.size ≤ 140737488351232)) = true ∧ (l1.all fun x => decide (sorter_Weight.f k [x] = some (Stb.wtI x))) = true ∧ (l1.all fun x => l1.all fun y => (w19_SorterRuns.ah k a0_0 l0_1 l0_2 l0_3 a0_4 l0_5 a0_6 a0_7 a0_8 a0_9 a0_10 a0_11 a0_12 a0_13 x y).isSome) = true then some true else none)) else some true) else some true
set_option maxHeartbeats 2000000 in
theorem w19_SorterRuns.calls (k : Nat) (a0_0 : Bool) (A0_1 : Option Addr) (c0_1 : Nat) (l0_1 : List (S81)) (A0_2 : Option Addr) (c0_2 : Nat) (l0_2 : List (S81)) (A0_3 : Option Addr) (c0_3 : Nat) (l0_3 : List (S81)) (a0_4 : Int) (A0_5 : Option Addr) (c0_5 : Nat) (l0_5 : List (S81)) (a0_6 : Bool) (a0_7 : Int) (a0_8 : ByteArray) (a0_9 : Bool) (a0_10 : Int) (a0_11 : Bool) (a0_12 : Bool) (a0_13 : Int) (A1 : Option Addr) (c1 : Nat) (l1 : List (S38)) (a2 : Int) (r : Bool) (w : World) (hT : Tabs w) (hr0_1 : Kd.C k81 w A0_1 l0_1.length l0_1) (hc0_1 : l0_1.length ≤ c0_1) (hr0_2 : Kd.C k81 w A0_2 l0_2.length l0_2) (hc0_2 : l0_2.length ≤ c0_2) (hr0_3 : Kd.C k81 w A0_3 l0_3.length l0_3) (hc0_3 : l0_3.length ≤ c0_3) (hr0_5 : Kd.C k81 w A0_5 l0_5.length l0_5) (hc0_5 : l0_5.length ≤ c0_5) (hr1 : Kd.C k38 w A1 l1.length l1) (hc1 : l1.length ≤ c1) (h : w19_SorterRuns.f k a0_0 l0_1 l0_2 l0_3 a0_4 l0_5 a0_6 a0_7 a0_8 a0_9 a0_10 a0_11 a0_12 a0_13 l1 a2 = some r) (hr_ : r = true := by rfl) :
  Calls Tryz.prog 6 #[.agg #[.bool a0_0, .slice A0_1 l0_1.length c0_1, .slice A0_2 l0_2.length c0_2, .slice A0_3 l0_3.length c0_3, .int .i64 a0_4, .slice A0_5 l0_5.length c0_5, .bool a0_6, .int .i64 a0_7, .string a0_8, .bool a0_9, .int .i64 a0_10, .bool a0_11, .bool a0_12, .int .i64 a0_13], .slice A1 l1.length c1, .int .i64 a2] w fun e w' => e = .returned (.bool r) ∧ Below w.heap.size w w' := by
 unfold w19_SorterRuns.f at h
 have hAl : ∀ W', Below w.heap.size w W' → Calls Tryz.prog 9 #[] W' fun e w' => e = .returned (.bool true) ∧ Below W'.heap.size W' w' := fun W' hb => w19_alive.calls true W' (hT.below hb) rfl
 obtain ⟨b, hb, h⟩ := Option.bind_eq_some_iff.1 h
 have hLi : ∀ W', Below w.heap.size w W' → Calls Tryz.prog 7 #[.agg #[.bool a0_0, .slice A0_1 l0_1.length c0_1, .slice A0_2 l0_2.length c0_2, .slice A0_3 l0_3.length c0_3, .int .i64 a0_4, .slice A0_5 l0_5.length c0_5, .bool a0_6, .int .i64 a0_7, .string a0_8, .bool a0_9, .int .i64 a0_10, .bool a0_11, .bool a0_12, .int .i64 a0_13]] W' fun e w' => e = .returned (.bool b) ∧ Below W'.heap.size W' w' := fun W' hB =>
  w19_little.calls k a0_0 A0_1 c0_1 l0_1 A0_2 c0_2 l0_2 A0_3 c0_3 l0_3 a0_4 A0_5 c0_5 l0_5 a0_6 a0_7 a0_8 a0_9 a0_10 a0_11 a0_12 a0_13 b W' (hT.below hB) (Kd.C_below hr0_1 hB) hc0_1 (Kd.C_below hr0_2 hB) hc0_2 (Kd.C_below hr0_3 hB) hc0_3 (Kd.C_below hr0_5 hB) hc0_5 hb
 cases b with
 | false =>
  obtain rfl : true = r := by simpa using h
  exact XSort.runs_dead1 rfl _ a2 w hLi hAl
 | true =>
 simp only [if_true] at h
 obtain ⟨c, hc, h⟩ := Option.bind_eq_some_iff.1 h
 have hFe : ∀ W', Below w.heap.size w W' → Calls Tryz.prog 8 #[.slice A1 l1.length c1] W' fun e w' => e = .returned (.bool c) ∧ Below W'.heap.size W' w' := fun W' hB =>
  (w19_few.calls k A1 c1 l1 c W' (hT.below hB) (Kd.C_below hr1 hB) hc1 hc).mono fun e w' ⟨h1, h2⟩ => ⟨h1, by first | exact h2 | exact h2.below⟩
 cases c with
 | false =>
  obtain rfl : true = r := by simpa using h
  exact XSort.runs_dead2 rfl _ a2 w hLi hFe hAl
 | true =>
 simp only [if_true] at h
 obtain ⟨was, h1, h⟩ := Option.bind_eq_some_iff.1 h
 obtain ⟨⟨y8, y2⟩, h2, h⟩ := Option.bind_eq_some_iff.1 h
 have hIt : ∀ W', Below w.heap.size w W' → _ := fun W' hB => w19_items.calls k A1 c1 l1 was W' (hT.below hB) (Kd.C_below hr1 hB) hc1 h1
 have hPl := fun W' => XSort.plain_calls a0_0 A0_1 l0_1.length c0_1 A0_2 l0_2.length c0_2 A0_3 l0_3.length c0_3 a0_4 A0_5 l0_5.length c0_5 a0_6 a0_7 a0_8 a0_9 a0_10 a0_11 a0_12 a0_13 W'
 have hRr : ∀ W' A' c', Below w.heap.size w W' → Kd.C XSort.k8 W' A' was.length was → was.length ≤ c' → _ := fun W' A' c' hB hr hc => r19_Runs.calls k a0_0 A0_1 c0_1 l0_1 A0_2 c0_2 l0_2 A0_3 c0_3 l0_3 a0_4 A0_5 c0_5 l0_5 a0_6 a0_7 a0_8 a0_9 a0_10 a0_11 a0_12 a0_13 A' c' was a2 y8 y2 W' (hT.below hB) (Kd.C_below hr0_1 hB) hc0_1 (Kd.C_below hr0_2 hB) hc0_2 (Kd.C_below hr0_3 hB) hc0_3 (Kd.C_below hr0_5 hB) hc0_5 hr hc h2
 by_cases hm : a2 < 1
 ·rw [if_pos hm] at h
  obtain ⟨x8, h3, h⟩ := Option.bind_eq_some_iff.1 h
  obtain ⟨s, h4, h⟩ := Option.bind_eq_some_iff.1 h
  by_cases cc : s = true ∧ y2 = 1
  ·have h := (if_pos cc).symm.trans h
   obtain rfl := Option.some.inj h
   obtain ⟨rfl, rfl⟩ := cc
   refine XSort.runs_low rfl A1 c1 l1 a2 hm was x8 y8 w ⟨hLi, hFe, hAl, hIt, hPl, hRr, ?_⟩ (fun W' hB => w19_runs.calls k none 0 [] x8 W' (hT.below hB) (Kd.C_nil _ _) (Nat.le_refl _) h3)
   ·exact fun W' A2 c2 A3 c3 hB r2 l2 r3 l3 => (r19_SameRuns.calls k A2 c2 x8 A3 c3 y8 true W' (hT.below hB) r2 l2 r3 l3 h4).mono fun e w' ⟨h1, h2⟩ => ⟨h1, by first | exact h2 | exact h2.below⟩
  ·have h := (if_neg cc).symm.trans h; cases h
 ·rw [if_neg hm] at h
  obtain ⟨x8, h3, h⟩ := Option.bind_eq_some_iff.1 h
  obtain ⟨s, h4, h⟩ := Option.bind_eq_some_iff.1 h
  by_cases cc : s = true ∧ y2 = 0 ∧ l1.length < 1000 ∧ (l1.all fun x => decide (x.f0.size ≤ 140737488351232 ∧ x.f1.f2.size ≤ 140737488351232)) = true ∧ (l1.all fun x => decide (sorter_Weight.f k [x] = some (Stb.wtI x))) = true ∧ (l1.all fun x => l1.all fun y => (w19_SorterRuns.ah k a0_0 l0_1 l0_2 l0_3 a0_4 l0_5 a0_6 a0_7 a0_8 a0_9 a0_10 a0_11 a0_12 a0_13 x y).isSome) = true
  ·have h := (if_pos cc).symm.trans h
   obtain rfl := Option.some.inj h
   obtain ⟨rfl, rfl, q1, q2, q3, q4⟩ := cc
   have up : ∀ x ∈ l1, ∀ y ∈ l1, job_Ahead.f k a0_0 l0_1 l0_2 l0_3 a0_4 l0_5 a0_6 a0_7 a0_8 a0_9 a0_10 a0_11 a0_12 a0_13 x.f0 y.f0 = some (Stb.aheadP (sorter_Sort.wr (k - 1)) a0_12 a0_11 x.f0 y.f0) := fun x hx y hy => by
    obtain ⟨b, hb⟩ := Option.isSome_iff_exists.1 (List.all_eq_true.1 (List.all_eq_true.1 q4 x hx) y hy)
    have hb : job_Ahead.f k a0_0 l0_1 l0_2 l0_3 a0_4 l0_5 a0_6 a0_7 a0_8 a0_9 a0_10 a0_11 a0_12 a0_13 x.f0 y.f0 = some b := hb
    rw [hb, sorter_Sort.av hb]
   have e : Stb.runsP (fun x y : XSort.It => (w19_SorterRuns.ah k a0_0 l0_1 l0_2 l0_3 a0_4 l0_5 a0_6 a0_7 a0_8 a0_9 a0_10 a0_11 a0_12 a0_13 x y).getD false) a2 l1 = Stb.runsP (fun x y : XSort.It => Stb.aheadP (sorter_Sort.wr (k - 1)) a0_12 a0_11 x.f0 y.f0) a2 l1 := Stb.runsP_congr l1 fun x hx y hy => by
    show (job_Ahead.f k a0_0 l0_1 l0_2 l0_3 a0_4 l0_5 a0_6 a0_7 a0_8 a0_9 a0_10 a0_11 a0_12 a0_13 x.f0 y.f0).getD false = _
    rw [up x hx y hy]; rfl
   rw [e] at h3
   refine XSort.runs_walk _ _ _ _ _ _ _ _ _ _ _ _ _ _ (Stb.aheadP (sorter_Sort.wr (k - 1)) a0_12 a0_11) (Stb.ahead_swo (fun x : XSort.It => x.f0) _ _ _) A1 c1 l1 a2 hm was _ x8 y8 rfl w hr1 hc1 q1 (fun x hx => of_decide_eq_true (List.all_eq_true.1 q2 x hx)) ⟨hLi, hFe, hAl, hIt, hPl, hRr, ?_⟩ (fun W' A' c' hB hr hc => w19_runs.calls k A' c' _ x8 W' (hT.below hB) hr hc h3) ?_ ?_
   ·exact fun W' A2 c2 A3 c3 hB r2 l2 r3 l3 => (r19_SameRuns.calls k A2 c2 x8 A3 c3 y8 true W' (hT.below hB) r2 l2 r3 l3 h4).mono fun e w' ⟨h1, h2⟩ => ⟨h1, by first | exact h2 | exact h2.below⟩
   ·exact fun W' A' c' x hx hB hr hc => (sorter_Weight.calls k A' c' [x] (Stb.wtI x) W' (hT.below hB) hr hc (of_decide_eq_true (List.all_eq_true.1 q3 x hx))).mono fun e w' ⟨h1, h2⟩ => ⟨h1, by first | exact h2 | exact h2.below⟩
   ·exact fun W' hb x hx y hy => job_Ahead.calls k a0_0 A0_1 c0_1 l0_1 A0_2 c0_2 l0_2 A0_3 c0_3 l0_3 a0_4 A0_5 c0_5 l0_5 a0_6 a0_7 a0_8 a0_9 a0_10 a0_11 a0_12 a0_13 x.f0 y.f0 _ W' (hT.below hb) (Kd.C_below hr0_1 hb) hc0_1 (Kd.C_below hr0_2 hb) hc0_2 (Kd.C_below hr0_3 hb) hc0_3 (Kd.C_below hr0_5 hb) hc0_5 (up x hx y hy)
  ·have h := (if_neg cc).symm.trans h; cases h
def w19_SorterRuns.Pure : Prop := ∀ (x0 : S26) (x1 : List (S38)) (x2 : Int), (True ∧ (x0.f1.length * 32 ≤ 140737488351232 ∧ ∀ q0_ ∈ x0.f1, ((Lit.int .i64 q0_.f0).wf = true ∧ (Lit.int .i64 q0_.f1).wf = true ∧ q0_.f2.size ≤ 140737488351232)) ∧ (x0.f2.length * 32 ≤ 140737488351232 ∧ ∀ q0_ ∈ x0.f2, ((Lit.int .i64 q0_.f0).wf = true ∧ (Lit.int .i64 q0_.f1).wf = true ∧ q0_.f2.size ≤ 140737488351232)) ∧ (x0.f3.length * 32 ≤ 140737488351232 ∧ ∀ q0_ ∈ x0.f3, ((Lit.int .i64 q0_.f0).wf = true ∧ (Lit.int .i64 q0_.f1).wf = true ∧ q0_.f2.size ≤ 140737488351232)) ∧ (Lit.int .i64 x0.f4).wf = true ∧ (x0.f5.length * 32 ≤ 140737488351232 ∧ ∀ q0_ ∈ x0.f5, ((Lit.int .i64 q0_.f0).wf = true ∧ (Lit.int .i64 q0_.f1).wf = true ∧ q0_.f2.size ≤ 140737488351232)) ∧ (True ∧ (Lit.int .i64 x0.f6.f1).wf = true ∧ x0.f6.f2.size ≤ 140737488351232) ∧ True ∧ (Lit.int .i64 x0.f8).wf = true ∧ True ∧ True ∧ (Lit.int .i64 x0.f11).wf = true) → (x1.length * 48 ≤ 140737488351232 ∧ ∀ q0_ ∈ x1, (q0_.f0.size ≤ 140737488351232 ∧ (True ∧ (Lit.int .i64 q0_.f1.f1).wf = true ∧ q0_.f1.f2.size ≤ 140737488351232))) → (Lit.int .i64 x2).wf = true → ∃ k, w19_SorterRuns.f k x0.f0 x0.f1 x0.f2 x0.f3 x0.f4 x0.f5 x0.f6.f0 x0.f6.f1 x0.f6.f2 x0.f7 x0.f8 x0.f9 x0.f10 x0.f11 x1 x2 = some true
end Go.Proofs.YtebofnoljebakaaGreatDoor.PX
