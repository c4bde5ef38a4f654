/- Walked functions, by this session's program over the kit's print. -/
import Derived.Test.YtnodgcakmolleaaGreatDoorPXx0
import Derived.Test.YtnodgcakmolleaaGreatDoorPXx21
import Derived.Test.YtnodgcakmolleaaGreatDoorPXx11
namespace Go.Proofs.YtnodgcakmolleaaGreatDoor.PX
open Go.RowKit Go.Proofs.YtnodgcakmolleaaGreatDoorW.PrintWords Go.Proofs.YtnodgcakmolleaaGreatDoorW.PrintLast Go.Proofs.YtnodgcakmolleaaGreatDoorW.PrintMore
attribute [local go_sem] xm_gtr max2_int min2_int max_two min_two max_three min_three max_four min_four
set_option linter.unusedVariables false
set_option linter.unusedSimpArgs false
/- Walked functions, by this session's program over the kit's print. -/
mutual
def r15_Stack.j0 : Nat → List (S44) → List Bool → Bool → Option (List Bool × Int × Int)
 | 0, _, _, _ => none
 | k + 1, x0, x1, x18 => if x18 = true then (some (([] : List Bool), 0, 1)) else (if (x0.length : Int) > 200 then (some (([] : List Bool), 0, 5)) else (r15_Stack.l0 k x0 x1 (([] : List Bool)) 0))
def r15_Stack.l0 : Nat → List (S44) → List Bool → List Bool → Int → Option (List Bool × Int × Int)
 | 0, _, _, _, _ => none
 | k + 1, x0, x1, x7, x8 => if x8 < (x0.length : Int) then (if 0 ≤ x8 then ((r15_step.f k x7 ((rd_T44 x0 x8).f0) ((rd_T44 x0 x8).f1) ((rd_T44 x0 x8).f2) x1).bind fun bt478 => (if bt478.2 = 0 then (r15_Stack.l0 k x0 x1 bt478.1 (wrap64 (x8 + 1))) else (some (x7, x8, bt478.2)))) else (none)) else (some (x7, (x0.length : Int), 0))
end
def r15_Stack.f (k : Nat) (l0 : List (S44)) (l1 : List Bool) : Option (List Bool × Int × Int) := if (l1.length : Int) = 0 then (r15_Stack.j0 k l0 l1 false) else (r15_Stack.j0 k l0 l1 ((l1.length : Int) != 2))
theorem r15_Stack.mono_l : ∀ k, (∀ y0 y1 y2, LeO (r15_Stack.j0 k y0 y1 y2) (r15_Stack.j0 (k + 1) y0 y1 y2)) ∧ (∀ y0 y1 y2 y3, LeO (r15_Stack.l0 k y0 y1 y2 y3) (r15_Stack.l0 (k + 1) y0 y1 y2 y3))
 | 0 => ⟨fun _ _ _ r h => by simp [r15_Stack.j0] at h, fun _ _ _ _ r h => by simp [r15_Stack.l0] at h⟩
 | k + 1 => by
  obtain ⟨ih0, ih1⟩ := r15_Stack.mono_l k
  refine ⟨?_, ?_⟩
  ·intro y0 y1 y2
   unfold r15_Stack.j0
   repeat' (with_reducible first | exact ih0 _ _ _ | exact ih1 _ _ _ _ | exact r15_step.mono _ _ _ _ _ _ | exact LeO.refl _ | exact LeO.none _ | refine LeO.ite ?_ ?_ | refine LeO.bind ?_ (fun _ => ?_))
  ·intro y0 y1 y2 y3
   unfold r15_Stack.l0
   repeat' (with_reducible first | exact ih0 _ _ _ | exact ih1 _ _ _ _ | exact r15_step.mono _ _ _ _ _ _ | exact LeO.refl _ | exact LeO.none _ | refine LeO.ite ?_ ?_ | refine LeO.bind ?_ (fun _ => ?_))
theorem r15_Stack.mono : ∀ a0 a1 k, LeO (r15_Stack.f k a0 a1) (r15_Stack.f (k + 1) a0 a1) := by
 intro a0 a1 k
 obtain ⟨ih0, ih1⟩ := r15_Stack.mono_l k
 unfold r15_Stack.f
 repeat' (with_reducible first | exact ih0 _ _ _ | exact ih1 _ _ _ _ | exact r15_step.mono _ _ _ _ _ _ | exact LeO.refl _ | exact LeO.none _ | refine LeO.ite ?_ ?_ | refine LeO.bind ?_ (fun _ => ?_))
set_option maxHeartbeats 8000000 in
set_option maxRecDepth 100000 in
theorem r15_Stack.calls (k : Nat) (A0 : Option Addr) (c0 : Nat) (l0 : List (S44)) (A1 : Option Addr) (c1 : Nat) (l1 : List Bool) (r1 : List Bool) (r2 : Int) (r3 : Int) (w : World) (hT : Tabs w) (hr0 : Kd.C k44 w A0 l0.length l0) (hc0 : l0.length ≤ c0) (hr1 : Kd.C Kd.bool w A1 l1.length l1) (hc1 : l1.length ≤ c1) (h : r15_Stack.f k l0 l1 = some (r1, r2, r3)) :
  Calls Tryz.prog 19 #[.slice A0 l0.length c0, .slice A1 l1.length c1] w fun e w' => ∃ v0_ : Value, e = .returned (.tuple #[v0_, .int .i64 r2, .int .i64 r3]) ∧ Kd.R Kd.bool 4 w' w.heap.size (fun _ => True) v0_ r1 ∧ Below w.heap.size w w' := by
 have hu44 := Tryz.underlying44
 have HR0 := xy hr0
 have HC0 := xy hc0
 clear hr0 hc0
 have HR1 := xy hr1
 have HC1 := xy hc1
 clear hr1 hc1
 have HB := xy (Below.refl w.heap.size w)
 unfold r15_Stack.f at h
 have H := h
 clear h
 have HC3 := xy H
 clear H
 go_enter Tryz.func19, Tryz.ntmps19
 go_upto_region 1 with (fail)
 go_cut [18] (fun v18 wc => ∃ (kq : Nat) (x18_2 : Bool), v18 = .bool x18_2 ∧ Aside0 (r15_Stack.j0 kq l0 l1 x18_2 = some (r1, r2, r3)) ∧ Aside0 (kq ≤ k) ∧ Aside0 (Below w.heap.size w wc))
 case first =>
  have H := HC3.out
  clear HC3
  by_cases c4 : (l1.length : Int) = 0
  ·rw [if_pos c4] at H
   have c4b0 : ((l1.length : Int) == 0) = true := beq_iff_eq.mpr c4
   have c4b1 : ((l1.length : Int) != 0) = false := bne_eq_false_iff_eq.mpr c4
   clear c4
   (first | rw [c4b0] | (simp only [i64_w, i32_w]; rw [c4b0]) | skip)
   have H' := xy H
   clear H
   go_wp2
   go_meet
   case rel => exact ⟨_, (false), xg, H', ⟨by first | omega | exact Nat.le_refl _⟩, ⟨xb⟩⟩
  ·rw [if_neg c4] at H
   have c4b0 : ((l1.length : Int) == 0) = false := beq_eq_false_iff_ne.mpr c4
   have c4b1 : ((l1.length : Int) != 0) = true := bne_iff_ne.mpr c4
   have c4b2 : ¬ (l1 = []) := fun h_ => c4 (by rw [h_]; rfl)
   (first | rw [c4b0] | (simp only [i64_w, i32_w]; rw [c4b0]) | skip)
   have H' := xy H
   clear H
   go_wp2
   go_meet
   case rel => exact ⟨_, (((l1.length : Int) != 2)), xg, H', ⟨by first | omega | exact Nat.le_refl _⟩, ⟨xb⟩⟩
 case rest =>
  clear HC3
  try clear c1
  try clear p2
  try clear c4
  try clear c4b0
  try clear c4b1
  try clear c4b2
  obtain ⟨kq, x18_2, rfl, HA, HJ2, HB⟩ := hcut
  cases kq with
  | zero => exact absurd HA.out (by simp [r15_Stack.j0])
  | succ kj2 =>
   have H := HA.out
   clear HA
   simp only [r15_Stack.j0] at H
   by_cases c5 : x18_2 = true
   ·subst c5
    rw [if_pos rfl] at H
    simp only [Option.some.injEq, Prod.mk.injEq] at H
    obtain ⟨rfl, rfl, rfl⟩ := H
    go_wp2
    go_ret3
    exact ⟨_, by first | rfl | (simp [errW_none, errW_some] <;> rfl) | (simp [*, errW_none, errW_some] <;> rfl), by first | exact Kd.R_nil _ _ _ _ _ | exact Kd.N_nil _ _ _ _ _ | exact Kd.V_nil _ _ _ _ _ | exact Kd.Q_nil _ _ _ _ _ | exact Kd.S_nil _ _ _ _ _, xb⟩
   ·replace c5 := Bool.eq_false_iff.mpr c5
    subst c5
    rw [if_neg (show ¬ (false = true) by decide)] at H
    by_cases c6 : (l0.length : Int) > 200
    ·rw [if_pos c6] at H
     have c6b0 : decide (200 < (l0.length : Int)) = true := decide_eq_true c6
     have c6b1 : decide (200 < l0.length) = true := decide_eq_true (by omega)
     clear c6
     simp only [Option.some.injEq, Prod.mk.injEq] at H
     obtain ⟨rfl, rfl, rfl⟩ := H
     go_wp2
     go_ret3
     exact ⟨_, by first | rfl | (simp [errW_none, errW_some] <;> rfl) | (simp [*, errW_none, errW_some] <;> rfl), by first | exact Kd.R_nil _ _ _ _ _ | exact Kd.N_nil _ _ _ _ _ | exact Kd.V_nil _ _ _ _ _ | exact Kd.Q_nil _ _ _ _ _ | exact Kd.S_nil _ _ _ _ _, xb⟩
    ·rw [if_neg c6] at H
     have c6b0 : decide (200 < (l0.length : Int)) = false := decide_eq_false c6
     have c6b1 : decide (200 < l0.length) = false := decide_eq_false (by omega)
     clear c6
     obtain ⟨y474, hy474⟩ : ∃ y_ : List Bool, y_ = (([] : List Bool)) := ⟨_, rfl⟩
     replace H : (r15_Stack.l0 kj2 l0 l1 y474 0) = some (r1, r2, r3) := by first | (rw [hy474]; with_reducible exact H) | (have H2_ := (Option.bind_some _ _).symm.trans H; rw [hy474]; with_reducible exact H2_) | (have H2_ := (Option.bind_some _ _).symm.trans H; with_reducible exact H2_) | with_reducible exact H | (rw [hy474]; exact H) | exact H
     have Ny474 := xy hy474
     clear hy474
     have H' := xy H
     clear H
     go_wp2_with (((with_reducible refine gate_dst (N := 22) rfl ?_); (try (refine gate_guard (by rfl) ?_; dsimp only)); refine Kd.R_lit Kd.bool _ 4 ?hg (N := 22) ?hd (xs := ([] : List Bool)) (inner := []) (ok := fun _ => True) (okp := fun _ => True) ?hr ?hp (fun _ hk => hk) trivial (Below.refl _ _) (Nat.le_refl _) (by simp) ?_; (case hd => rfl); (case hg => rfl); (case hr => exact xh); (case hp => exact (Reps.none _ _)); intro v475 w7 ho8 hb hg_ hnew_; clear hg_ hnew_; (first | rw [← Ny474.out] at ho8 | (simp only [Int.reduceToNat] at ho8; rw [← Ny474.out] at ho8)); have HO476 := xy (Kd.R_lower ho8 (below_size xb)); replace HB := xy (below_step xb hb); clear hb ho8))
     go_loopg [7, 8] kj2 (fun kq v7 v8 w' => ∃ (x7_2 : List Bool) (x8_2 : Int), v8 = .int .i64 x8_2 ∧ Aside0 (r15_Stack.l0 kq l0 l1 x7_2 x8_2 = some (r1, r2, r3)) ∧ Aside0 (kq ≤ kj2) ∧ Aside0 (Kd.R Kd.bool 4 w' w.heap.size (fun _ => True) v7 x7_2) ∧ Aside0 (Below w.heap.size w w'))
     case atStart => exact ⟨(y474), (0), xg, H', ⟨Nat.le_refl _⟩, ⟨by (with_reducible repeat (first | apply Kd.R_alloc | apply Kd.R_drewN | apply Kd.R_drew)); exact HO476.out⟩, ⟨xb⟩⟩
     case round =>
      clear H'
      try clear c1
      try clear p2
      try clear c4
      try clear c4b0
      try clear c4b1
      try clear c4b2
      try clear c5
      try clear c6
      try clear c6b0
      try clear c6b1
      try clear p2
      obtain ⟨x7_2, x8_2, rfl, HA, HK2, HO_7, HB⟩ := hrel
      cases gk with
      | zero => exact absurd HA.out (by simp [r15_Stack.l0])
      | succ k2 =>
       have H := HA.out
       clear HA
       simp only [r15_Stack.l0] at H
       by_cases c9 : x8_2 < (l0.length : Int)
       ·rw [if_pos c9] at H
        have c9b0 : decide (x8_2 < (l0.length : Int)) = true := decide_eq_true c9
        clear c9
        by_cases c10 : 0 ≤ x8_2
        ·rw [if_pos c10] at H
         have c10b0 : decide (0 ≤ x8_2) = true := decide_eq_true c10
         clear c10
         replace H := xj H
         obtain ⟨⟨t478, t481⟩, A110, H⟩ := H
         try dsimp only at H
         have A11 := xy A110
         clear A110
         by_cases c12 : t481 = 0
         ·rw [if_pos c12] at H
          have c12b0 : (t481 == 0) = true := beq_iff_eq.mpr c12
          have c12b1 : (t481 != 0) = false := bne_eq_false_iff_eq.mpr c12
          clear c12
          have H' := xy H
          clear H
          have p477 : 0 ≤ (x8_2 : Int) := xi
          have q477 : x8_2 < (l0.length : Int) := xi
          obtain ⟨ad477, e477, hx477_0, hx477_1, hx477_2⟩ := at_T44 HR0.out x8_2 p477 q477
          cases e477
          replace hx477_0 := (HB.out.cell (World.block_lt_of_cell? w _ hx477_0)).trans hx477_0
          replace hx477_1 := (HB.out.cell (World.block_lt_of_cell? w _ hx477_1)).trans hx477_1
          replace hx477_2 := (HB.out.cell (World.block_lt_of_cell? w _ hx477_2)).trans hx477_2
          replace p477 := eq_true p477
          replace q477 := eq_true q477
          obtain ⟨Ao13, co13, eo13⟩ := Kd.R_slice HO_7.out
          subst eo13
          go_wp2_with (((with_reducible refine gate_callee (f := 29) rfl ?_); refine goesL_ (some 36) rfl rfl Tryz.func29 (by kernel_rfl) rfl #[.slice Ao13 x7_2.length co13, .agg #[.int .i64 ((rd_T44 l0 x8_2).f0), .int .i64 ((rd_T44 l0 x8_2).f1), .string ((rd_T44 l0 x8_2).f2)], .slice A1 l1.length c1] rfl xr ?_; (with_reducible refine (r15_step.calls k2 _ _ x7_2 ((rd_T44 l0 x8_2).f0) ((rd_T44 l0 x8_2).f1) ((rd_T44 l0 x8_2).f2) _ _ l1 t478 t481 _ (Tabs.below hT xf) ?side1 ?side2 ?side3 ?side4 A11.out).mono ?_); (case side1 => repeat (first | exact (Kd.R_reads' HO_7.out).2.2 | (with_reducible refine Kd.C_alloc ?_ _) | (with_reducible refine Kd.C_drewN ?_ _) | (with_reducible refine Kd.C_drew ?_))); (case side2 => exact (Kd.R_reads' HO_7.out).2.1); (case side3 => exact Kd.C_below HR1.out xb); (case side4 => exact HC1.out); rintro e w14 ⟨v479, rfl, ho0, hb⟩; refine ⟨_, rfl, ?_⟩; have HO480 := xy (Kd.R_lower (Kd.R_new' ho0 (Kd.R_lt (xo HO_7.out))) (below_size xb)); replace HO_7 := xy (Kd.R_elder' (xo HO_7.out) (Kd.R_base ho0) hb); replace HB := xy (below_step xb hb); (try clear hb); (try clear hb2); (try clear hk); (try clear hi); (try clear ho0)))
          go_roundg k2
          case measure => have := HJ2.out; have := HK2.out; omega
          case rel => exact ⟨(t478), (wrap64 (x8_2 + 1)), xg, H', ⟨by have := HJ2.out; have := HK2.out; omega⟩, ⟨by (with_reducible repeat (first | apply Kd.R_alloc | apply Kd.R_drewN | apply Kd.R_drew)); exact Kd.R_mono HO480.out (fun _ hk => trivial)⟩, ⟨xb⟩⟩
         ·rw [if_neg c12] at H
          have c12b0 : (t481 == 0) = false := beq_eq_false_iff_ne.mpr c12
          have c12b1 : (t481 != 0) = true := bne_iff_ne.mpr c12
          simp only [Option.some.injEq, Prod.mk.injEq] at H
          obtain ⟨rfl, rfl, rfl⟩ := H
          have p477 : 0 ≤ (x8_2 : Int) := xi
          have q477 : x8_2 < (l0.length : Int) := xi
          obtain ⟨ad477, e477, hx477_0, hx477_1, hx477_2⟩ := at_T44 HR0.out x8_2 p477 q477
          cases e477
          replace hx477_0 := (HB.out.cell (World.block_lt_of_cell? w _ hx477_0)).trans hx477_0
          replace hx477_1 := (HB.out.cell (World.block_lt_of_cell? w _ hx477_1)).trans hx477_1
          replace hx477_2 := (HB.out.cell (World.block_lt_of_cell? w _ hx477_2)).trans hx477_2
          replace p477 := eq_true p477
          replace q477 := eq_true q477
          obtain ⟨Ao15, co15, eo15⟩ := Kd.R_slice HO_7.out
          subst eo15
          go_wp2_with (((with_reducible refine gate_callee (f := 29) rfl ?_); refine goesL_ (some 36) rfl rfl Tryz.func29 (by kernel_rfl) rfl #[.slice Ao15 x7_2.length co15, .agg #[.int .i64 ((rd_T44 l0 x8_2).f0), .int .i64 ((rd_T44 l0 x8_2).f1), .string ((rd_T44 l0 x8_2).f2)], .slice A1 l1.length c1] rfl xr ?_; (with_reducible refine (r15_step.calls k2 _ _ x7_2 ((rd_T44 l0 x8_2).f0) ((rd_T44 l0 x8_2).f1) ((rd_T44 l0 x8_2).f2) _ _ l1 t478 t481 _ (Tabs.below hT xf) ?side1 ?side2 ?side3 ?side4 A11.out).mono ?_); (case side1 => repeat (first | exact (Kd.R_reads' HO_7.out).2.2 | (with_reducible refine Kd.C_alloc ?_ _) | (with_reducible refine Kd.C_drewN ?_ _) | (with_reducible refine Kd.C_drew ?_))); (case side2 => exact (Kd.R_reads' HO_7.out).2.1); (case side3 => exact Kd.C_below HR1.out xb); (case side4 => exact HC1.out); rintro e w16 ⟨v479, rfl, ho0, hb⟩; refine ⟨_, rfl, ?_⟩; have HO480 := xy (Kd.R_lower (Kd.R_new' ho0 (Kd.R_lt (xo HO_7.out))) (below_size xb)); replace HO_7 := xy (Kd.R_elder' (xo HO_7.out) (Kd.R_base ho0) hb); replace HB := xy (below_step xb hb); (try clear hb); (try clear hb2); (try clear hk); (try clear hi); (try clear ho0)))
          go_ret3
          exact ⟨_, by first | rfl | (simp [errW_none, errW_some] <;> rfl) | (simp [*, errW_none, errW_some] <;> rfl), by (with_reducible repeat (first | apply Kd.R_alloc | apply Kd.R_drewN | apply Kd.R_drew)); exact Kd.R_mono HO_7.out (fun _ hk => trivial), xb⟩
        ·rw [if_neg c10] at H
         exact absurd H (by simp)
       ·rw [if_neg c9] at H
        have c9b0 : decide (x8_2 < (l0.length : Int)) = false := decide_eq_false c9
        clear c9
        simp only [Option.some.injEq, Prod.mk.injEq] at H
        obtain ⟨rfl, rfl, rfl⟩ := H
        go_wp2
        go_ret3
        exact ⟨_, by first | rfl | (simp [errW_none, errW_some] <;> rfl) | (simp [*, errW_none, errW_some] <;> rfl), by (with_reducible repeat (first | apply Kd.R_alloc | apply Kd.R_drewN | apply Kd.R_drew)); exact HO_7.out, xb⟩
def r15_Same.l0 : Nat → List Bool → List Bool → Int → Option (Bool)
 | 0, _, _, _ => none
 | k + 1, x0, x1, x5 => if x5 < (x0.length : Int) then (if 0 ≤ x5 then (if x5 < (x1.length : Int) then (if ((rdOf false x0 x5) != (rdOf false x1 x5)) = true then (some false) else (r15_Same.l0 k x0 x1 (wrap64 (x5 + 1)))) else (none)) else (none)) else (some true)
def r15_Same.f (k : Nat) (l0 : List Bool) (l1 : List Bool) : Option (Bool) := if (l0.length : Int) = (l1.length : Int) then (r15_Same.l0 k l0 l1 0) else (some false)
theorem r15_Same.mono_l : ∀ k, (∀ y0 y1 y2, LeO (r15_Same.l0 k y0 y1 y2) (r15_Same.l0 (k + 1) y0 y1 y2))
 | 0 => fun _ _ _ r h => by simp [r15_Same.l0] at h
 | k + 1 => by
  have ih0 := r15_Same.mono_l k
  ·intro y0 y1 y2
   unfold r15_Same.l0
   repeat' (with_reducible first | exact ih0 _ _ _ | exact LeO.refl _ | exact LeO.none _ | refine LeO.ite ?_ ?_ | refine LeO.bind ?_ (fun _ => ?_))
theorem r15_Same.mono : ∀ a0 a1 k, LeO (r15_Same.f k a0 a1) (r15_Same.f (k + 1) a0 a1) := by
 intro a0 a1 k
 have ih0 := r15_Same.mono_l k
 unfold r15_Same.f
 repeat' (with_reducible first | exact ih0 _ _ _ | exact LeO.refl _ | exact LeO.none _ | refine LeO.ite ?_ ?_ | refine LeO.bind ?_ (fun _ => ?_))
set_option maxHeartbeats 8000000 in
set_option maxRecDepth 100000 in
theorem r15_Same.calls (k : Nat) (A0 : Option Addr) (c0 : Nat) (l0 : List Bool) (A1 : Option Addr) (c1 : Nat) (l1 : List Bool) (r : Bool) (w : World) (hT : Tabs w) (hr0 : Kd.C Kd.bool w A0 l0.length l0) (hc0 : l0.length ≤ c0) (hr1 : Kd.C Kd.bool w A1 l1.length l1) (hc1 : l1.length ≤ c1) (h : r15_Same.f k l0 l1 = some r) :
  Calls Tryz.prog 37 #[.slice A0 l0.length c0, .slice A1 l1.length c1] w fun e w' => e = .returned (.bool r) ∧ Drawn0 w w' := by
 have HR0 := xy hr0
 have HC0 := xy hc0
 clear hr0 hc0
 have HR1 := xy hr1
 have HC1 := xy hc1
 clear hr1 hc1
 unfold r15_Same.f at h
 have H := h
 clear h
 by_cases c3 : (l0.length : Int) = (l1.length : Int)
 ·rw [if_pos c3] at H
  have c3b0 : ((l0.length : Int) == (l1.length : Int)) = true := beq_iff_eq.mpr c3
  have c3b1 : ((l0.length : Int) != (l1.length : Int)) = false := bne_eq_false_iff_eq.mpr c3
  have c3b2 : (l0.length == l1.length) = true := by first | simpa using c3 | (simp at c3 ⊢; omega)
  clear c3
  have H' := xy H
  clear H
  go_enter Tryz.func37, Tryz.ntmps37
  go_wp2
  repeat (go_quiet (fail); try go_wp2)
  go_loopg [5] k (fun kq v5 w' => ∃ (x5_1 : Int), v5 = .int .i64 x5_1 ∧ Aside0 (r15_Same.l0 kq l0 l1 x5_1 = some r) ∧ Aside0 (kq ≤ k) ∧ Drawn0 w w')
  case atStart => exact ⟨(0), xg, H', ⟨Nat.le_refl _⟩, by repeat (first | exact Drawn0.refl _ | apply Drawn0.step)⟩
  case round =>
   clear H'
   try clear c1
   try clear p2
   try clear c3
   try clear c3b0
   try clear c3b1
   try clear c3b2
   obtain ⟨x5_1, rfl, HA, HK1, ⟨m1, rfl⟩⟩ := hrel
   cases gk with
   | zero => exact absurd HA.out (by simp [r15_Same.l0])
   | succ k1 =>
    have H := HA.out
    clear HA
    simp only [r15_Same.l0] at H
    by_cases c4 : x5_1 < (l0.length : Int)
    ·rw [if_pos c4] at H
     have c4b0 : decide (x5_1 < (l0.length : Int)) = true := decide_eq_true c4
     clear c4
     by_cases c5 : 0 ≤ x5_1
     ·rw [if_pos c5] at H
      have c5b0 : decide (0 ≤ x5_1) = true := decide_eq_true c5
      clear c5
      by_cases c6 : x5_1 < (l1.length : Int)
      ·rw [if_pos c6] at H
       have c6b0 : decide (x5_1 < (l1.length : Int)) = true := decide_eq_true c6
       clear c6
       by_cases c7 : ((rdOf false l0 x5_1) != (rdOf false l1 x5_1)) = true
       ·rw [if_pos c7] at H
        have c7b0 : ((rdOf false l0 x5_1) != (rdOf false l1 x5_1)) = true := c7
        (try (have c7b1 : decide ((rdOf false l0 x5_1) = (rdOf false l1 x5_1)) = false := by simpa using c7))
        (try (have c7b2 : ((rdOf false l0 x5_1) == (rdOf false l1 x5_1)) = false := by simpa using c7))
        (try (have c7b3 : ¬ ((rdOf false l0 x5_1) = (rdOf false l1 x5_1)) := by simpa using c7))
        clear c7
        obtain rfl := Option.some.inj H
        have p482 : 0 ≤ (x5_1 : Int) := xi
        have q482 : x5_1 < (l0.length : Int) := xi
        obtain ⟨ad482, e482, hx482_0⟩ := Kd.at_bool HR0.out x5_1 p482 q482
        cases e482
        replace p482 := eq_true p482
        replace q482 := eq_true q482
        have p483 : 0 ≤ (x5_1 : Int) := xi
        have q483 : x5_1 < (l1.length : Int) := xi
        obtain ⟨ad483, e483, hx483_0⟩ := Kd.at_bool HR1.out x5_1 p483 q483
        cases e483
        replace p483 := eq_true p483
        replace q483 := eq_true q483
        go_wp2
        repeat (go_quiet (fail); try go_wp2)
        go_ret
        exact ⟨xg, xz⟩
       ·rw [if_neg c7] at H
        have c7b0 : ((rdOf false l0 x5_1) != (rdOf false l1 x5_1)) = false := by simpa using c7
        (try (have c7b1 : decide ((rdOf false l0 x5_1) = (rdOf false l1 x5_1)) = true := by simpa using c7))
        (try (have c7b2 : ((rdOf false l0 x5_1) == (rdOf false l1 x5_1)) = true := by simpa using c7))
        clear c7
        have H' := xy H
        clear H
        have p482 : 0 ≤ (x5_1 : Int) := xi
        have q482 : x5_1 < (l0.length : Int) := xi
        obtain ⟨ad482, e482, hx482_0⟩ := Kd.at_bool HR0.out x5_1 p482 q482
        cases e482
        replace p482 := eq_true p482
        replace q482 := eq_true q482
        have p483 : 0 ≤ (x5_1 : Int) := xi
        have q483 : x5_1 < (l1.length : Int) := xi
        obtain ⟨ad483, e483, hx483_0⟩ := Kd.at_bool HR1.out x5_1 p483 q483
        cases e483
        replace p483 := eq_true p483
        replace q483 := eq_true q483
        go_wp2
        repeat (go_quiet (fail); try go_wp2)
        go_roundg k1
        case measure => have := HK1.out; omega
        case rel => exact ⟨(wrap64 (x5_1 + 1)), xg, H', ⟨by have := HK1.out; omega⟩, by repeat (first | exact Drawn0.refl _ | apply Drawn0.step)⟩
      ·rw [if_neg c6] at H
       exact absurd H (by simp)
     ·rw [if_neg c5] at H
      exact absurd H (by simp)
    ·rw [if_neg c4] at H
     have c4b0 : decide (x5_1 < (l0.length : Int)) = false := decide_eq_false c4
     clear c4
     obtain rfl := Option.some.inj H
     go_wp2
     repeat (go_quiet (fail); try go_wp2)
     go_ret
     exact ⟨xg, xz⟩
 ·rw [if_neg c3] at H
  have c3b0 : ((l0.length : Int) == (l1.length : Int)) = false := beq_eq_false_iff_ne.mpr c3
  have c3b1 : ((l0.length : Int) != (l1.length : Int)) = true := bne_iff_ne.mpr c3
  have c3b2 : (l0.length == l1.length) = false := by first | simpa using c3 | (simp at c3 ⊢; omega)
  obtain rfl := Option.some.inj H
  go_enter Tryz.func37, Tryz.ntmps37
  go_wp2
  repeat (go_quiet (fail); try go_wp2)
  go_ret
  exact ⟨xg, xz⟩
def r15_Check.f (k : Nat) (l0 : List (S44)) (l1 : List Bool) (l2 : List Bool) : Option (Int) := (r15_Stack.f k l0 l1).bind fun bt484 => (if bt484.2.2 = 0 then ((r15_Same.f k bt484.1 l2).bind fun t489 => (if t489 = true then (some bt484.2.2) else (some 11))) else (some bt484.2.2))
theorem r15_Check.mono : ∀ a0 a1 a2 k, LeO (r15_Check.f k a0 a1 a2) (r15_Check.f (k + 1) a0 a1 a2) := by
 intro a0 a1 a2 k
 unfold r15_Check.f
 repeat' (with_reducible first | exact r15_Same.mono _ _ _ | exact r15_Stack.mono _ _ _ | exact LeO.refl _ | exact LeO.none _ | refine LeO.ite ?_ ?_ | refine LeO.bind ?_ (fun _ => ?_))
set_option maxHeartbeats 8000000 in
set_option maxRecDepth 100000 in
theorem r15_Check.calls (k : Nat) (A0 : Option Addr) (c0 : Nat) (l0 : List (S44)) (A1 : Option Addr) (c1 : Nat) (l1 : List Bool) (A2 : Option Addr) (c2 : Nat) (l2 : List Bool) (r : Int) (w : World) (hT : Tabs w) (hr0 : Kd.C k44 w A0 l0.length l0) (hc0 : l0.length ≤ c0) (hr1 : Kd.C Kd.bool w A1 l1.length l1) (hc1 : l1.length ≤ c1) (hr2 : Kd.C Kd.bool w A2 l2.length l2) (hc2 : l2.length ≤ c2) (h : r15_Check.f k l0 l1 l2 = some r) :
  Calls Tryz.prog 24 #[.slice A0 l0.length c0, .slice A1 l1.length c1, .slice A2 l2.length c2] w fun e w' => e = .returned (.int .i64 r) ∧ Below w.heap.size w w' := by
 have HR0 := xy hr0
 have HC0 := xy hc0
 clear hr0 hc0
 have HR1 := xy hr1
 have HC1 := xy hc1
 clear hr1 hc1
 have HR2 := xy hr2
 have HC2 := xy hc2
 clear hr2 hc2
 have HB := xy (Below.refl w.heap.size w)
 unfold r15_Check.f at h
 have H := h
 clear h
 replace H := xj H
 obtain ⟨⟨t484, t485, t486⟩, A40, H⟩ := H
 try dsimp only at H
 have A4 := xy A40
 clear A40
 by_cases c5 : t486 = 0
 ·rw [if_pos c5] at H
  have c5b0 : (t486 == 0) = true := beq_iff_eq.mpr c5
  have c5b1 : (t486 != 0) = false := bne_eq_false_iff_eq.mpr c5
  clear c5
  replace H := xj H
  obtain ⟨t489, A60, H⟩ := H
  try dsimp only at H
  have A6 := xy A60
  clear A60
  by_cases c7 : t489 = true
  ·subst c7
   rw [if_pos rfl] at H
   obtain rfl := Option.some.inj H
   go_enter Tryz.func24, Tryz.ntmps24
   go_wp2_with (first | ((with_reducible refine gate_callee (f := 19) rfl ?_); refine goesL_ (some 13) rfl rfl Tryz.func19 (by kernel_rfl) rfl #[.slice A0 l0.length c0, .slice A1 l1.length c1] rfl xr ?_; (with_reducible refine (r15_Stack.calls k _ _ l0 _ _ l1 t484 t485 t486 _ (Tabs.below hT xf) ?side1 ?side2 ?side3 ?side4 A4.out).mono ?_); (case side1 => repeat (first | exact HR0.out | (with_reducible refine Kd.C_alloc ?_ _) | (with_reducible refine Kd.C_drewN ?_ _) | (with_reducible refine Kd.C_drew ?_))); (case side2 => exact HC0.out); (case side3 => repeat (first | exact HR1.out | (with_reducible refine Kd.C_alloc ?_ _) | (with_reducible refine Kd.C_drewN ?_ _) | (with_reducible refine Kd.C_drew ?_))); (case side4 => exact HC1.out); rintro e w8 ⟨v487, rfl, ho0, hb⟩; refine ⟨_, rfl, ?_⟩; have HO488 := xy (Kd.R_lower ho0 (below_size xb)); replace HB := xy (below_step xb hb); (try clear hb); (try clear hb2); (try clear hk); (try clear hi); (try clear ho0); obtain ⟨Ao9, co9, eo9⟩ := Kd.R_slice HO488.out; subst eo9) | (go_at_call 37; (with_reducible refine (r15_Same.calls k _ _ t484 _ _ l2 true _ (Tabs.below hT xf) ?side1 ?side2 ?side3 ?side4 A6.out).mono ?_); (case side1 => repeat (first | exact (Kd.R_reads' HO488.out).2.2 | (with_reducible refine Kd.C_alloc ?_ _) | (with_reducible refine Kd.C_drewN ?_ _) | (with_reducible refine Kd.C_drew ?_))); (case side2 => exact (Kd.R_reads' HO488.out).2.1); (case side3 => exact Kd.C_below HR2.out xb); (case side4 => exact HC2.out); rintro e w' ⟨rfl, ⟨nd, rfl⟩⟩))
   go_ret
   exact ⟨xe, xb⟩
  ·replace c7 := Bool.eq_false_iff.mpr c7
   subst c7
   rw [if_neg (show ¬ (false = true) by decide)] at H
   obtain rfl := Option.some.inj H
   go_enter Tryz.func24, Tryz.ntmps24
   go_wp2_with (first | ((with_reducible refine gate_callee (f := 19) rfl ?_); refine goesL_ (some 13) rfl rfl Tryz.func19 (by kernel_rfl) rfl #[.slice A0 l0.length c0, .slice A1 l1.length c1] rfl xr ?_; (with_reducible refine (r15_Stack.calls k _ _ l0 _ _ l1 t484 t485 t486 _ (Tabs.below hT xf) ?side1 ?side2 ?side3 ?side4 A4.out).mono ?_); (case side1 => repeat (first | exact HR0.out | (with_reducible refine Kd.C_alloc ?_ _) | (with_reducible refine Kd.C_drewN ?_ _) | (with_reducible refine Kd.C_drew ?_))); (case side2 => exact HC0.out); (case side3 => repeat (first | exact HR1.out | (with_reducible refine Kd.C_alloc ?_ _) | (with_reducible refine Kd.C_drewN ?_ _) | (with_reducible refine Kd.C_drew ?_))); (case side4 => exact HC1.out); rintro e w10 ⟨v487, rfl, ho0, hb⟩; refine ⟨_, rfl, ?_⟩; have HO488 := xy (Kd.R_lower ho0 (below_size xb)); replace HB := xy (below_step xb hb); (try clear hb); (try clear hb2); (try clear hk); (try clear hi); (try clear ho0); obtain ⟨Ao11, co11, eo11⟩ := Kd.R_slice HO488.out; subst eo11) | (go_at_call 37; (with_reducible refine (r15_Same.calls k _ _ t484 _ _ l2 false _ (Tabs.below hT xf) ?side1 ?side2 ?side3 ?side4 A6.out).mono ?_); (case side1 => repeat (first | exact (Kd.R_reads' HO488.out).2.2 | (with_reducible refine Kd.C_alloc ?_ _) | (with_reducible refine Kd.C_drewN ?_ _) | (with_reducible refine Kd.C_drew ?_))); (case side2 => exact (Kd.R_reads' HO488.out).2.1); (case side3 => exact Kd.C_below HR2.out xb); (case side4 => exact HC2.out); rintro e w' ⟨rfl, ⟨nd, rfl⟩⟩))
   go_ret
   exact ⟨xe, xb⟩
 ·rw [if_neg c5] at H
  have c5b0 : (t486 == 0) = false := beq_eq_false_iff_ne.mpr c5
  have c5b1 : (t486 != 0) = true := bne_iff_ne.mpr c5
  obtain rfl := Option.some.inj H
  go_enter Tryz.func24, Tryz.ntmps24
  go_wp2_with (((with_reducible refine gate_callee (f := 19) rfl ?_); refine goesL_ (some 13) rfl rfl Tryz.func19 (by kernel_rfl) rfl #[.slice A0 l0.length c0, .slice A1 l1.length c1] rfl xr ?_; (with_reducible refine (r15_Stack.calls k _ _ l0 _ _ l1 t484 t485 t486 _ (Tabs.below hT xf) ?side1 ?side2 ?side3 ?side4 A4.out).mono ?_); (case side1 => repeat (first | exact HR0.out | (with_reducible refine Kd.C_alloc ?_ _) | (with_reducible refine Kd.C_drewN ?_ _) | (with_reducible refine Kd.C_drew ?_))); (case side2 => exact HC0.out); (case side3 => repeat (first | exact HR1.out | (with_reducible refine Kd.C_alloc ?_ _) | (with_reducible refine Kd.C_drewN ?_ _) | (with_reducible refine Kd.C_drew ?_))); (case side4 => exact HC1.out); rintro e w12 ⟨v487, rfl, ho0, hb⟩; refine ⟨_, rfl, ?_⟩; have HO488 := xy (Kd.R_lower ho0 (below_size xb)); replace HB := xy (below_step xb hb); (try clear hb); (try clear hb2); (try clear hk); (try clear hi); (try clear ho0)))
  go_ret
  exact ⟨xe, xb⟩
/- Walked functions, by this session's program over the kit's print. -/
def r16_Fold.j0 : Nat → List (S44) → Int → Bool → Bool → Int → ByteArray → Bool → Int → ByteArray → Option (Bool × Int × ByteArray × Int × Int)
 | 0, _, _, _, _, _, _, _, _, _ => none
 | k + 1, x0, x3, x22, x491000, x491001, x491002, x492000, x492001, x492002 => if x22 = true then (some (false, 0, (⟨#[]⟩ : ByteArray), x3, 1)) else ((r15_Check.f k x0 (([x491000, x492000] : List Bool)) (([x491000] : List Bool))).bind fun t501 => (if t501 = 0 then ((r16_run.f k x0 ([] : List ByteArray) (([(⟨x491000, x491001, x491002⟩ : S32), (⟨x492000, x492001, x492002⟩ : S32)] : List (S32))) x3).bind fun bt505 => (if bt505.2.2 = true then (if 0 < (bt505.1.length : Int) then (some ((rd_T32 bt505.1 0).f0, (rd_T32 bt505.1 0).f1, (rd_T32 bt505.1 0).f2, bt505.2.1, 0)) else (none)) else (some (false, 0, (⟨#[]⟩ : ByteArray), 0, 12)))) else (some (false, 0, (⟨#[]⟩ : ByteArray), x3, t501))))
def r16_Fold.f (k : Nat) (l0 : List (S44)) (a1_0 : Bool) (a1_1 : Int) (a1_2 : ByteArray) (a2_0 : Bool) (a2_1 : Int) (a2_2 : ByteArray) (a3 : Int) : Option (Bool × Int × ByteArray × Int × Int) := (r13_Is.f a1_0 a1_1 a1_2).bind fun t493 => (if t493 = true then ((r13_Is.f a2_0 a2_1 a2_2).bind fun t494 => (r16_Fold.j0 k l0 a3 (!t494) a1_0 a1_1 a1_2 a2_0 a2_1 a2_2)) else (r16_Fold.j0 k l0 a3 true a1_0 a1_1 a1_2 a2_0 a2_1 a2_2))
theorem r16_Fold.mono_l : ∀ k, (∀ y0 y1 y2 y3 y4 y5 y6 y7 y8, LeO (r16_Fold.j0 k y0 y1 y2 y3 y4 y5 y6 y7 y8) (r16_Fold.j0 (k + 1) y0 y1 y2 y3 y4 y5 y6 y7 y8))
 | 0 => fun _ _ _ _ _ _ _ _ _ r h => by simp [r16_Fold.j0] at h
 | k + 1 => by
  have ih0 := r16_Fold.mono_l k
  ·intro y0 y1 y2 y3 y4 y5 y6 y7 y8
   unfold r16_Fold.j0
   repeat' (with_reducible first | exact ih0 _ _ _ _ _ _ _ _ _ | exact r15_Check.mono _ _ _ _ | exact r16_run.mono _ _ _ _ _ | exact LeO.refl _ | exact LeO.none _ | refine LeO.ite ?_ ?_ | refine LeO.bind ?_ (fun _ => ?_))
theorem r16_Fold.mono : ∀ a0 a1 a2 a3 a4 a5 a6 a7 k, LeO (r16_Fold.f k a0 a1 a2 a3 a4 a5 a6 a7) (r16_Fold.f (k + 1) a0 a1 a2 a3 a4 a5 a6 a7) := by
 intro a0 a1 a2 a3 a4 a5 a6 a7 k
 have ih0 := r16_Fold.mono_l k
 unfold r16_Fold.f
 repeat' (with_reducible first | exact ih0 _ _ _ _ _ _ _ _ _ | exact r15_Check.mono _ _ _ _ | exact r16_run.mono _ _ _ _ _ | exact LeO.refl _ | exact LeO.none _ | refine LeO.ite ?_ ?_ | refine LeO.bind ?_ (fun _ => ?_))
set_option maxHeartbeats 8000000 in
set_option maxRecDepth 100000 in
theorem r16_Fold.calls (k : Nat) (A0 : Option Addr) (c0 : Nat) (l0 : List (S44)) (a1_0 : Bool) (a1_1 : Int) (a1_2 : ByteArray) (a2_0 : Bool) (a2_1 : Int) (a2_2 : ByteArray) (a3 : Int) (r1 : Bool) (r2 : Int) (r3 : ByteArray) (r4 : Int) (r5 : Int) (w : World) (hT : Tabs w) (hr0 : Kd.C k44 w A0 l0.length l0) (hc0 : l0.length ≤ c0) (h : r16_Fold.f k l0 a1_0 a1_1 a1_2 a2_0 a2_1 a2_2 a3 = some (r1, r2, r3, r4, r5)) :
  Calls Tryz.prog 15 #[.slice A0 l0.length c0, .agg #[.bool a1_0, .int .i64 a1_1, .string a1_2], .agg #[.bool a2_0, .int .i64 a2_1, .string a2_2], .int .i64 a3] w fun e w' => e = .returned (.tuple #[.agg #[.bool r1, .int .i64 r2, .string r3], .int .i64 r4, .int .i64 r5]) ∧ Below w.heap.size w w' := by
 have hu32 := Tryz.underlying32
 have HR0 := xy hr0
 have HC0 := xy hc0
 clear hr0 hc0
 have HB := xy (Below.refl w.heap.size w)
 unfold r16_Fold.f at h
 have H := h
 clear h
 have HC5 := xy H
 clear H
 go_enter Tryz.func15, Tryz.ntmps15
 go_upto_region 1 with (first | ((with_reducible refine gate_dst (N := 5) rfl ?_); refine xq (N := 5) (cs := #[.bool a1_0, .int .i64 a1_1, .string a1_2]) (t := 32) ?_; intro gb490 hg w6 hbox hb; have BK490 := xy (hbox); have GW490 := xs w hg; have GE490 := xs w hg; replace HB := xy (below_step xb hb); clear hb hbox hg) | ((with_reducible refine gate_dst (N := 6) rfl ?_); refine xq (N := 6) (cs := #[.bool a2_0, .int .i64 a2_1, .string a2_2]) (t := 32) ?_; intro gb491 hg w7 hbox hb; have BK491 := xy (hbox); have GW491 := xs w hg; have GE491 := xs w hg; replace HB := xy (below_step xb hb); have NB490_491 := xn hg BK490.out; have NB491_490 := xp hg BK490.out; replace BK490 := xd BK490.out hb; clear hb hbox hg) | ((with_reducible refine gate_dst (N := 8) rfl ?_); refine xq (N := 8) (cs := #[.bool false, .int .i64 0, .string (⟨#[]⟩ : ByteArray)]) (t := 32) ?_; intro gb492 hg w8 hbox hb; have BK492 := xy (hbox); have GW492 := xs w hg; have GE492 := xs w hg; replace HB := xy (below_step xb hb); have NB490_492 := xn hg BK490.out; have NB492_490 := xp hg BK490.out; replace BK490 := xd BK490.out hb; have NB491_492 := xn hg BK491.out; have NB492_491 := xp hg BK491.out; replace BK491 := xd BK491.out hb; clear hb hbox hg))
 (try simp only [Act.put, List.setIfInBounds_toArray, List.set_cons_zero, List.set_cons_succ])
 go_cut [22] (fun v22 wc => ∃ (kq : Nat) (x22_4 : Bool), v22 = .bool x22_4 ∧ Aside0 (r16_Fold.j0 kq l0 a3 x22_4 a1_0 a1_1 a1_2 a2_0 a2_1 a2_2 = some (r1, r2, r3, r4, r5)) ∧ Aside0 (kq ≤ k) ∧ Aside0 (wc.heap[gb490]? = some (.cells #[.bool a1_0, .int .i64 a1_1, .string a1_2] 32 (0, 0))) ∧ Aside0 (wc.heap[gb491]? = some (.cells #[.bool a2_0, .int .i64 a2_1, .string a2_2] 32 (0, 0))) ∧ Aside0 (wc.heap[gb492]? = some (.cells #[.bool false, .int .i64 0, .string (⟨#[]⟩ : ByteArray)] 32 (0, 0))) ∧ Aside0 (Below w.heap.size w wc))
 case first =>
  have H := HC5.out
  clear HC5
  replace H := xj H
  obtain ⟨t493, A90, H⟩ := H
  try dsimp only at H
  have A9 := xy A90
  clear A90
  by_cases c10 : t493 = true
  ·subst c10
   rw [if_pos rfl] at H
   replace H := xj H
   obtain ⟨t494, A110, H⟩ := H
   try dsimp only at H
   have A11 := xy A110
   clear A110
   have H' := xy H
   clear H
   have hnb12 := NB490_491.out
   have hnc12 := NB491_490.out
   have hnb13 := NB490_492.out
   have hnc13 := NB492_490.out
   have hcz14_0 : w8.cell? ⟨gb490, 0, none⟩ = some (.bool a1_0) := (kc BK490.out 0).trans rfl
   have hcz14_1 : w8.cell? ⟨gb490, 1, none⟩ = some (.int .i64 a1_1) := (kc BK490.out 1).trans rfl
   have hcz14_2 : w8.cell? ⟨gb490, 2, none⟩ = some (.string a1_2) := (kc BK490.out 2).trans rfl
   have hfz14_0 := kf BK490.out 0
   have hfz14_1 := kf BK490.out 1
   have hfz14_2 := kf BK490.out 2
   go_wp2_with (first | ((with_reducible refine gate_callee (f := 23) rfl ?_); refine goesL_ (some 16) rfl rfl Tryz.func23 (by kernel_rfl) rfl #[.agg #[.bool a1_0, .int .i64 a1_1, .string a1_2]] rfl xr ?_; (with_reducible refine (r13_Is.calls a1_0 a1_1 a1_2 true _ (Tabs.below hT xf) A9.out).mono ?_); rintro e w15 ⟨rfl, hb⟩; refine ⟨_, rfl, ?_⟩; replace BK490 := xd BK490.out hb; replace BK491 := xd BK491.out hb; replace BK492 := xd BK492.out hb; replace HB := xy (below_step xb hb); (try clear hb); (try clear hb2); (try clear hk); (try clear hi); have hnb16 := NB491_492.out; have hnc16 := NB492_491.out; have hcz17_0 : w15.cell? ⟨gb491, 0, none⟩ = some (.bool a2_0) := (kc BK491.out 0).trans rfl; have hcz17_1 : w15.cell? ⟨gb491, 1, none⟩ = some (.int .i64 a2_1) := (kc BK491.out 1).trans rfl; have hcz17_2 : w15.cell? ⟨gb491, 2, none⟩ = some (.string a2_2) := (kc BK491.out 2).trans rfl; have hfz17_0 := kf BK491.out 0; have hfz17_1 := kf BK491.out 1; have hfz17_2 := kf BK491.out 2) | (go_at_call 23; (with_reducible refine (r13_Is.calls a2_0 a2_1 a2_2 t494 _ (Tabs.below hT xf) A11.out).mono ?_); rintro e w18 ⟨rfl, hb⟩; replace BK490 := xd BK490.out hb; replace BK491 := xd BK491.out hb; replace BK492 := xd BK492.out hb; replace HB := xy (below_step xb hb); (try clear hb); (try clear hb2); (try clear hk); (try clear hi)))
   go_meet
   case rel => exact ⟨_, (!t494), xg, H', ⟨by first | omega | exact Nat.le_refl _⟩, ⟨by (with_reducible repeat (first | refine blk_drewN ?_ _ | refine blk_drew ?_ | refine blk_alloc ?_ _)); exact BK490.out⟩, ⟨by (with_reducible repeat (first | refine blk_drewN ?_ _ | refine blk_drew ?_ | refine blk_alloc ?_ _)); exact BK491.out⟩, ⟨by (with_reducible repeat (first | refine blk_drewN ?_ _ | refine blk_drew ?_ | refine blk_alloc ?_ _)); exact BK492.out⟩, ⟨xb⟩⟩
  ·replace c10 := Bool.eq_false_iff.mpr c10
   subst c10
   rw [if_neg (show ¬ (false = true) by decide)] at H
   have H' := xy H
   clear H
   have hnb19 := NB490_491.out
   have hnc19 := NB491_490.out
   have hnb20 := NB490_492.out
   have hnc20 := NB492_490.out
   have hcz21_0 : w8.cell? ⟨gb490, 0, none⟩ = some (.bool a1_0) := (kc BK490.out 0).trans rfl
   have hcz21_1 : w8.cell? ⟨gb490, 1, none⟩ = some (.int .i64 a1_1) := (kc BK490.out 1).trans rfl
   have hcz21_2 : w8.cell? ⟨gb490, 2, none⟩ = some (.string a1_2) := (kc BK490.out 2).trans rfl
   have hfz21_0 := kf BK490.out 0
   have hfz21_1 := kf BK490.out 1
   have hfz21_2 := kf BK490.out 2
   go_wp2_with (((with_reducible refine gate_callee (f := 23) rfl ?_); refine goesL_ (some 16) rfl rfl Tryz.func23 (by kernel_rfl) rfl #[.agg #[.bool a1_0, .int .i64 a1_1, .string a1_2]] rfl xr ?_; (with_reducible refine (r13_Is.calls a1_0 a1_1 a1_2 false _ (Tabs.below hT xf) A9.out).mono ?_); rintro e w22 ⟨rfl, hb⟩; refine ⟨_, rfl, ?_⟩; replace BK490 := xd BK490.out hb; replace BK491 := xd BK491.out hb; replace BK492 := xd BK492.out hb; replace HB := xy (below_step xb hb); (try clear hb); (try clear hb2); (try clear hk); (try clear hi)))
   go_meet
   case rel => exact ⟨_, (true), xg, H', ⟨by first | omega | exact Nat.le_refl _⟩, ⟨by (with_reducible repeat (first | refine blk_drewN ?_ _ | refine blk_drew ?_ | refine blk_alloc ?_ _)); exact BK490.out⟩, ⟨by (with_reducible repeat (first | refine blk_drewN ?_ _ | refine blk_drew ?_ | refine blk_alloc ?_ _)); exact BK491.out⟩, ⟨by (with_reducible repeat (first | refine blk_drewN ?_ _ | refine blk_drew ?_ | refine blk_alloc ?_ _)); exact BK492.out⟩, ⟨xb⟩⟩
 case rest =>
  clear HC5
  try clear c1
  try clear c2
  try clear p2
  try clear c10
  try clear c12
  try clear c13
  try clear c15
  try clear c16
  try clear c19
  try clear c20
  try clear hcz14_0
  try clear hcz14_1
  try clear hcz14_2
  try clear hcz17_0
  try clear hcz17_1
  try clear hcz17_2
  try clear hcz21_0
  try clear hcz21_1
  try clear hcz21_2
  try clear hfz14_0
  try clear hfz14_1
  try clear hfz14_2
  try clear hfz17_0
  try clear hfz17_1
  try clear hfz17_2
  try clear hfz21_0
  try clear hfz21_1
  try clear hfz21_2
  obtain ⟨kq, x22_4, rfl, HA, HJ4, BK490, BK491, BK492, HB⟩ := hcut
  cases kq with
  | zero => exact absurd HA.out (by simp [r16_Fold.j0])
  | succ kj4 =>
   have H := HA.out
   clear HA
   simp only [r16_Fold.j0] at H
   by_cases c23 : x22_4 = true
   ·subst c23
    rw [if_pos rfl] at H
    simp only [Option.some.injEq, Prod.mk.injEq] at H
    obtain ⟨rfl, rfl, rfl, rfl, rfl⟩ := H
    have hnb24 := NB492_490.out
    have hnc24 := NB490_492.out
    have hnb25 := NB492_491.out
    have hnc25 := NB491_492.out
    have hcz26_0 : wc.cell? ⟨gb492, 0, none⟩ = some (.bool false) := (kc BK492.out 0).trans rfl
    have hcz26_1 : wc.cell? ⟨gb492, 1, none⟩ = some (.int .i64 0) := (kc BK492.out 1).trans rfl
    have hcz26_2 : wc.cell? ⟨gb492, 2, none⟩ = some (.string (⟨#[]⟩ : ByteArray)) := (kc BK492.out 2).trans rfl
    have hfz26_0 := kf BK492.out 0
    have hfz26_1 := kf BK492.out 1
    have hfz26_2 := kf BK492.out 2
    go_wp2
    refine bodyPost_ret (results_ctt rfl _ _ gb492 32 #[.bool false, .int .i64 0, .string (⟨#[]⟩ : ByteArray)] (0, 0) _ rfl (kp BK492.out) Tryz.underlying32 rfl (by kernel_rfl)) rfl ?_
    exact ⟨xe, xb⟩
   ·replace c23 := Bool.eq_false_iff.mpr c23
    subst c23
    rw [if_neg (show ¬ (false = true) by decide)] at H
    obtain ⟨y495, hy495⟩ : ∃ y_ : List Bool, y_ = (([a1_0, a2_0] : List Bool)) := ⟨_, rfl⟩
    replace H : ((r15_Check.f kj4 l0 y495 (([a1_0] : List Bool))).bind fun t501 => (if t501 = 0 then ((r16_run.f kj4 l0 ([] : List ByteArray) (([(⟨a1_0, a1_1, a1_2⟩ : S32), (⟨a2_0, a2_1, a2_2⟩ : S32)] : List (S32))) a3).bind fun bt505 => (if bt505.2.2 = true then (if 0 < (bt505.1.length : Int) then (some ((rd_T32 bt505.1 0).f0, (rd_T32 bt505.1 0).f1, (rd_T32 bt505.1 0).f2, bt505.2.1, 0)) else (none)) else (some (false, 0, (⟨#[]⟩ : ByteArray), 0, 12)))) else (some (false, 0, (⟨#[]⟩ : ByteArray), a3, t501)))) = some (r1, r2, r3, r4, r5) := by first | (rw [hy495]; with_reducible exact H) | (have H2_ := (Option.bind_some _ _).symm.trans H; rw [hy495]; with_reducible exact H2_) | (have H2_ := (Option.bind_some _ _).symm.trans H; with_reducible exact H2_) | with_reducible exact H | (rw [hy495]; exact H) | exact H
    have Ny495 := xy hy495
    clear hy495
    obtain ⟨y498, hy498⟩ : ∃ y_ : List Bool, y_ = (([a1_0] : List Bool)) := ⟨_, rfl⟩
    replace H : ((r15_Check.f kj4 l0 y495 y498).bind fun t501 => (if t501 = 0 then ((r16_run.f kj4 l0 ([] : List ByteArray) (([(⟨a1_0, a1_1, a1_2⟩ : S32), (⟨a2_0, a2_1, a2_2⟩ : S32)] : List (S32))) a3).bind fun bt505 => (if bt505.2.2 = true then (if 0 < (bt505.1.length : Int) then (some ((rd_T32 bt505.1 0).f0, (rd_T32 bt505.1 0).f1, (rd_T32 bt505.1 0).f2, bt505.2.1, 0)) else (none)) else (some (false, 0, (⟨#[]⟩ : ByteArray), 0, 12)))) else (some (false, 0, (⟨#[]⟩ : ByteArray), a3, t501)))) = some (r1, r2, r3, r4, r5) := by first | (rw [hy498]; with_reducible exact H) | (have H2_ := (Option.bind_some _ _).symm.trans H; rw [hy498]; with_reducible exact H2_) | (have H2_ := (Option.bind_some _ _).symm.trans H; with_reducible exact H2_) | with_reducible exact H | (rw [hy498]; exact H) | exact H
    have Ny498 := xy hy498
    clear hy498
    replace H := xj H
    obtain ⟨t501, A270, H⟩ := H
    try dsimp only at H
    have A27 := xy A270
    clear A270
    by_cases c28 : t501 = 0
    ·rw [if_pos c28] at H
     have c28b0 : (t501 == 0) = true := beq_iff_eq.mpr c28
     have c28b1 : (t501 != 0) = false := bne_eq_false_iff_eq.mpr c28
     clear c28
     obtain ⟨y502, hy502⟩ : ∃ y_ : List (S32), y_ = (([(⟨a1_0, a1_1, a1_2⟩ : S32), (⟨a2_0, a2_1, a2_2⟩ : S32)] : List (S32))) := ⟨_, rfl⟩
     replace H : ((r16_run.f kj4 l0 ([] : List ByteArray) y502 a3).bind fun bt505 => (if bt505.2.2 = true then (if 0 < (bt505.1.length : Int) then (some ((rd_T32 bt505.1 0).f0, (rd_T32 bt505.1 0).f1, (rd_T32 bt505.1 0).f2, bt505.2.1, 0)) else (none)) else (some (false, 0, (⟨#[]⟩ : ByteArray), 0, 12)))) = some (r1, r2, r3, r4, r5) := by first | (rw [hy502]; with_reducible exact H) | (have H2_ := (Option.bind_some _ _).symm.trans H; rw [hy502]; with_reducible exact H2_) | (have H2_ := (Option.bind_some _ _).symm.trans H; with_reducible exact H2_) | with_reducible exact H | (rw [hy502]; exact H) | exact H
     have Ny502 := xy hy502
     clear hy502
     replace H := xj H
     obtain ⟨⟨t505, t506, t507⟩, A290, H⟩ := H
     try dsimp only at H
     have A29 := xy A290
     clear A290
     by_cases c30 : t507 = true
     ·subst c30
      rw [if_pos rfl] at H
      by_cases c31 : 0 < (t505.length : Int)
      ·rw [if_pos c31] at H
       have c31b0 : decide (0 < (t505.length : Int)) = true := decide_eq_true c31
       have c31b1 : decide (0 < t505.length) = true := decide_eq_true (by omega)
       clear c31
       simp only [Option.some.injEq, Prod.mk.injEq] at H
       obtain ⟨rfl, rfl, rfl, rfl, rfl⟩ := H
       have hnb32 := NB490_491.out
       have hnc32 := NB491_490.out
       have hnb33 := NB490_492.out
       have hnc33 := NB492_490.out
       have hcz34_0 : wc.cell? ⟨gb490, 0, none⟩ = some (.bool a1_0) := (kc BK490.out 0).trans rfl
       have hcz34_1 : wc.cell? ⟨gb490, 1, none⟩ = some (.int .i64 a1_1) := (kc BK490.out 1).trans rfl
       have hcz34_2 : wc.cell? ⟨gb490, 2, none⟩ = some (.string a1_2) := (kc BK490.out 2).trans rfl
       have hfz34_0 := kf BK490.out 0
       have hfz34_1 := kf BK490.out 1
       have hfz34_2 := kf BK490.out 2
       have hnb35 := NB491_492.out
       have hnc35 := NB492_491.out
       have hcz36_0 : wc.cell? ⟨gb491, 0, none⟩ = some (.bool a2_0) := (kc BK491.out 0).trans rfl
       have hcz36_1 : wc.cell? ⟨gb491, 1, none⟩ = some (.int .i64 a2_1) := (kc BK491.out 1).trans rfl
       have hcz36_2 : wc.cell? ⟨gb491, 2, none⟩ = some (.string a2_2) := (kc BK491.out 2).trans rfl
       have hfz36_0 := kf BK491.out 0
       have hfz36_1 := kf BK491.out 1
       have hfz36_2 := kf BK491.out 2
       go_wp2_with (first | ((with_reducible refine gate_dst (N := 30) rfl ?_); refine Kd.R_lit Kd.bool _ 4 ?hg (N := 30) ?hd (xs := ([a1_0, a2_0] : List Bool)) (inner := [.bool a1_0, .bool a2_0]) (ok := fun _ => True) (okp := fun _ => True) ?hr ?hp (fun _ hk => hk) trivial (Below.refl _ _) (Nat.le_refl _) (by simp) ?_; (case hd => rfl); (case hg => rfl); (case hr => exact xh); (case hp => exact (Reps.one (show Kd.M Kd.bool _ _ _ a1_0 [.bool a1_0] from rfl) (Reps.one (show Kd.M Kd.bool _ _ _ a2_0 [.bool a2_0] from rfl) (Reps.none _ _)))); intro v496 w37 ho38 hb hg_ hnew_; clear hg_ hnew_; (first | rw [← Ny495.out] at ho38 | (simp only [Int.reduceToNat] at ho38; rw [← Ny495.out] at ho38)); have HO497 := xy (Kd.R_lower ho38 (below_size xb)); replace BK490 := xd BK490.out hb; replace BK491 := xd BK491.out hb; replace BK492 := xd BK492.out hb; replace HB := xy (below_step xb hb); clear hb ho38; have hcz39_0 : w37.cell? ⟨gb490, 0, none⟩ = some (.bool a1_0) := (kc BK490.out 0).trans rfl; have hcz39_1 : w37.cell? ⟨gb490, 1, none⟩ = some (.int .i64 a1_1) := (kc BK490.out 1).trans rfl; have hcz39_2 : w37.cell? ⟨gb490, 2, none⟩ = some (.string a1_2) := (kc BK490.out 2).trans rfl; have hfz39_0 := kf BK490.out 0; have hfz39_1 := kf BK490.out 1; have hfz39_2 := kf BK490.out 2) | ((with_reducible refine gate_dst (N := 33) rfl ?_); refine Kd.R_lit Kd.bool _ 4 ?hg (N := 33) ?hd (xs := ([a1_0] : List Bool)) (inner := [.bool a1_0]) (ok := fun _ => True) (okp := fun _ => True) ?hr ?hp (fun _ hk => hk) trivial (Below.refl _ _) (Nat.le_refl _) (by simp) ?_; (case hd => rfl); (case hg => rfl); (case hr => exact xh); (case hp => exact (Reps.one (show Kd.M Kd.bool _ _ _ a1_0 [.bool a1_0] from rfl) (Reps.none _ _))); intro v499 w40 ho41 hb hg_ hnew_; clear hg_ hnew_; (first | rw [← Ny498.out] at ho41 | (simp only [Int.reduceToNat] at ho41; rw [← Ny498.out] at ho41)); have HO500 := xy (Kd.R_lower (Kd.R_new' ho41 (Kd.R_lt (xo HO497.out))) (below_size xb)); replace HO497 := xy (Kd.R_elder' (xo HO497.out) (Kd.R_base ho41) hb); replace BK490 := xd BK490.out hb; replace BK491 := xd BK491.out hb; replace BK492 := xd BK492.out hb; replace HB := xy (below_step xb hb); clear hb ho41; obtain ⟨Ao42, co42, eo42⟩ := Kd.R_slice HO497.out; subst eo42; obtain ⟨Ao43, co43, eo43⟩ := Kd.R_slice HO500.out; subst eo43) | ((with_reducible refine gate_callee (f := 24) rfl ?_); refine goesL_ (some 34) rfl rfl Tryz.func24 (by kernel_rfl) rfl #[.slice A0 l0.length c0, .slice Ao42 y495.length co42, .slice Ao43 y498.length co43] rfl xr ?_; (with_reducible refine (r15_Check.calls kj4 _ _ l0 _ _ y495 _ _ y498 t501 _ (Tabs.below hT xf) ?side1 ?side2 ?side3 ?side4 ?side5 ?side6 A27.out).mono ?_); (case side1 => exact Kd.C_below HR0.out xb); (case side2 => exact HC0.out); (case side3 => repeat (first | exact (Kd.R_reads' HO497.out).2.2 | (with_reducible refine Kd.C_alloc ?_ _) | (with_reducible refine Kd.C_drewN ?_ _) | (with_reducible refine Kd.C_drew ?_))); (case side4 => exact (Kd.R_reads' HO497.out).2.1); (case side5 => repeat (first | exact (Kd.R_reads' HO500.out).2.2 | (with_reducible refine Kd.C_alloc ?_ _) | (with_reducible refine Kd.C_drewN ?_ _) | (with_reducible refine Kd.C_drew ?_))); (case side6 => exact (Kd.R_reads' HO500.out).2.1); rintro e w44 ⟨rfl, hb⟩; refine ⟨_, rfl, ?_⟩; replace HO497 := xy (Kd.R_below (xo HO497.out) hb); replace HO500 := xy (Kd.R_below (xo HO500.out) hb); replace BK490 := xd BK490.out hb; replace BK491 := xd BK491.out hb; replace BK492 := xd BK492.out hb; replace HB := xy (below_step xb hb); (try clear hb); (try clear hb2); (try clear hk); (try clear hi); have hcz45_0 : w44.cell? ⟨gb490, 0, none⟩ = some (.bool a1_0) := (kc BK490.out 0).trans rfl; have hcz45_1 : w44.cell? ⟨gb490, 1, none⟩ = some (.int .i64 a1_1) := (kc BK490.out 1).trans rfl; have hcz45_2 : w44.cell? ⟨gb490, 2, none⟩ = some (.string a1_2) := (kc BK490.out 2).trans rfl; have hfz45_0 := kf BK490.out 0; have hfz45_1 := kf BK490.out 1; have hfz45_2 := kf BK490.out 2; have hcz46_0 : w44.cell? ⟨gb491, 0, none⟩ = some (.bool a2_0) := (kc BK491.out 0).trans rfl; have hcz46_1 : w44.cell? ⟨gb491, 1, none⟩ = some (.int .i64 a2_1) := (kc BK491.out 1).trans rfl; have hcz46_2 : w44.cell? ⟨gb491, 2, none⟩ = some (.string a2_2) := (kc BK491.out 2).trans rfl; have hfz46_0 := kf BK491.out 0; have hfz46_1 := kf BK491.out 1; have hfz46_2 := kf BK491.out 2) | ((with_reducible refine gate_dst (N := 44) rfl ?_); refine Kd.R_lit k32 _ 32 ?hg (N := 44) ?hd (xs := ([(⟨a1_0, a1_1, a1_2⟩ : S32), (⟨a2_0, a2_1, a2_2⟩ : S32)] : List (S32))) (inner := [.bool a1_0, .int .i64 a1_1, .string a1_2, .bool a2_0, .int .i64 a2_1, .string a2_2]) (ok := fun _ => True) (okp := fun _ => True) ?hr ?hp (fun _ hk => hk) trivial (Below.refl _ _) (Nat.le_refl _) (by simp) ?_; (case hd => rfl); (case hg => rfl); (case hr => exact xh); (case hp => exact (Reps.c3 (show Kd.M k32 _ _ _ (⟨a1_0, a1_1, a1_2⟩ : S32) [.bool a1_0, .int .i64 a1_1, .string a1_2] from (k32_mkM _ _ _ (⟨a1_0, a1_1, a1_2⟩ : S32) )) (Reps.c3 (show Kd.M k32 _ _ _ (⟨a2_0, a2_1, a2_2⟩ : S32) [.bool a2_0, .int .i64 a2_1, .string a2_2] from (k32_mkM _ _ _ (⟨a2_0, a2_1, a2_2⟩ : S32) )) (Reps.none _ _)))); intro v503 w47 ho48 hb hg_ hnew_; clear hg_ hnew_; (first | rw [← Ny502.out] at ho48 | (simp only [Int.reduceToNat] at ho48; rw [← Ny502.out] at ho48)); replace HO497 := xy (Kd.R_below (xo HO497.out) hb); replace HO500 := xy (Kd.R_below (xo HO500.out) hb); have HO504 := xy (Kd.R_lower (Kd.R_newB (Kd.R_newB (Kd.R_newB ho48 (g := gb490) (o := .cells #[.bool a1_0, .int .i64 a1_1, .string a1_2] 32 (0, 0)) (xk BK490.out)) (g := gb491) (o := .cells #[.bool a2_0, .int .i64 a2_1, .string a2_2] 32 (0, 0)) (xk BK491.out)) (g := gb492) (o := .cells #[.bool false, .int .i64 0, .string (⟨#[]⟩ : ByteArray)] 32 (0, 0)) (xk BK492.out)) (below_size xb)); replace BK490 := xd BK490.out hb; replace BK491 := xd BK491.out hb; replace BK492 := xd BK492.out hb; replace HB := xy (below_step xb hb); clear hb ho48; obtain ⟨Ao49, co49, eo49⟩ := Kd.R_slice HO504.out; subst eo49) | ((with_reducible refine gate_callee (f := 20) rfl ?_); refine goesL_ (some 46) rfl rfl Tryz.func20 (by kernel_rfl) rfl #[.slice A0 l0.length c0, .slice none 0 0, .slice Ao49 y502.length co49, .int .i64 a3] rfl xr ?_; (refine (r16_run.calls kj4 _ _ l0 _ _ ([] : List ByteArray) _ _ y502 a3 t505 t506 true _ (Tabs.below hT xf) ?side1 ?side2 ?side3 ?side4 ?side5 ?side6 A29.out).mono ?_); (case side1 => exact Kd.C_below HR0.out xb); (case side2 => exact HC0.out); (case side3 => exact Kd.C_nil _ _); (case side4 => exact Nat.le_refl _); (case side5 => repeat (first | exact (Kd.R_reads' HO504.out).2.2 | (with_reducible refine Kd.C_alloc ?_ _) | (with_reducible refine Kd.C_drewN ?_ _) | (with_reducible refine Kd.C_drew ?_))); (case side6 => exact (Kd.R_reads' HO504.out).2.1); rintro e w50 ⟨v508, rfl, ho0, hb⟩; refine ⟨_, rfl, ?_⟩; replace HO497 := xy (Kd.R_below (xo HO497.out) hb); replace HO500 := xy (Kd.R_below (xo HO500.out) hb); have HO509 := xy (Kd.R_lower (Kd.R_newB (Kd.R_newB (Kd.R_newB (Kd.R_new' ho0 (Kd.R_lt (xo HO504.out))) (g := gb490) (o := .cells #[.bool a1_0, .int .i64 a1_1, .string a1_2] 32 (0, 0)) (xk BK490.out)) (g := gb491) (o := .cells #[.bool a2_0, .int .i64 a2_1, .string a2_2] 32 (0, 0)) (xk BK491.out)) (g := gb492) (o := .cells #[.bool false, .int .i64 0, .string (⟨#[]⟩ : ByteArray)] 32 (0, 0)) (xk BK492.out)) (below_size xb)); replace HO504 := xy (Kd.R_elder' (xo HO504.out) (Kd.R_base ho0) hb); replace BK490 := xd BK490.out hb; replace BK491 := xd BK491.out hb; replace BK492 := xd BK492.out hb; replace HB := xy (below_step xb hb); (try clear hb); (try clear hb2); (try clear hk); (try clear hi); (try clear ho0); obtain ⟨Ao51, co51, eo51⟩ := Kd.R_slice HO509.out; subst eo51; have p510 : 0 ≤ (0 : Int) := (by omega); have q510 : 0 < (t505.length : Int) := xi; obtain ⟨ad510, e510, hx510_0, hx510_1, hx510_2⟩ := at_T32 (Kd.R_reads' HO509.out).2.2 0 p510 q510; cases e510; have qi510 : (0 < t505.length) = True := eq_true (by omega); (try rw [show ((0 : Int)).toNat = 0 from rfl] at hx510_0); (try rw [show 0 * 3 = 0 from rfl] at hx510_0); (try rw [Addr.add_zero'] at hx510_0); (try rw [show ((0 : Int)).toNat = 0 from rfl] at hx510_1); (try rw [show 0 * 3 = 0 from rfl] at hx510_1); (try rw [Addr.add_zero'] at hx510_1); (try rw [show ((0 : Int)).toNat = 0 from rfl] at hx510_2); (try rw [show 0 * 3 = 0 from rfl] at hx510_2); (try rw [Addr.add_zero'] at hx510_2); replace p510 := eq_true p510; replace q510 := eq_true q510; have hcz52_0 : w50.cell? ⟨gb492, 0, none⟩ = some (.bool false) := (kc BK492.out 0).trans rfl; have hcz52_1 : w50.cell? ⟨gb492, 1, none⟩ = some (.int .i64 0) := (kc BK492.out 1).trans rfl; have hcz52_2 : w50.cell? ⟨gb492, 2, none⟩ = some (.string (⟨#[]⟩ : ByteArray)) := (kc BK492.out 2).trans rfl; have hfz52_0 := kf BK492.out 0; have hfz52_1 := kf BK492.out 1; have hfz52_2 := kf BK492.out 2))
       refine bodyPost_ret (results_ctt rfl _ _ gb492 32 #[.bool ((rd_T32 t505 0).f0), .int .i64 ((rd_T32 t505 0).f1), .string ((rd_T32 t505 0).f2)] (0, 0) _ rfl (kp BK492.out) Tryz.underlying32 rfl (by kernel_rfl)) rfl ?_
       exact ⟨xe, xb⟩
      ·rw [if_neg c31] at H
       exact absurd H (by simp)
     ·replace c30 := Bool.eq_false_iff.mpr c30
      subst c30
      rw [if_neg (show ¬ (false = true) by decide)] at H
      simp only [Option.some.injEq, Prod.mk.injEq] at H
      obtain ⟨rfl, rfl, rfl, rfl, rfl⟩ := H
      have hnb53 := NB490_491.out
      have hnc53 := NB491_490.out
      have hnb54 := NB490_492.out
      have hnc54 := NB492_490.out
      have hcz55_0 : wc.cell? ⟨gb490, 0, none⟩ = some (.bool a1_0) := (kc BK490.out 0).trans rfl
      have hcz55_1 : wc.cell? ⟨gb490, 1, none⟩ = some (.int .i64 a1_1) := (kc BK490.out 1).trans rfl
      have hcz55_2 : wc.cell? ⟨gb490, 2, none⟩ = some (.string a1_2) := (kc BK490.out 2).trans rfl
      have hfz55_0 := kf BK490.out 0
      have hfz55_1 := kf BK490.out 1
      have hfz55_2 := kf BK490.out 2
      have hnb56 := NB491_492.out
      have hnc56 := NB492_491.out
      have hcz57_0 : wc.cell? ⟨gb491, 0, none⟩ = some (.bool a2_0) := (kc BK491.out 0).trans rfl
      have hcz57_1 : wc.cell? ⟨gb491, 1, none⟩ = some (.int .i64 a2_1) := (kc BK491.out 1).trans rfl
      have hcz57_2 : wc.cell? ⟨gb491, 2, none⟩ = some (.string a2_2) := (kc BK491.out 2).trans rfl
      have hfz57_0 := kf BK491.out 0
      have hfz57_1 := kf BK491.out 1
      have hfz57_2 := kf BK491.out 2
      go_wp2_with (first | ((with_reducible refine gate_dst (N := 30) rfl ?_); refine Kd.R_lit Kd.bool _ 4 ?hg (N := 30) ?hd (xs := ([a1_0, a2_0] : List Bool)) (inner := [.bool a1_0, .bool a2_0]) (ok := fun _ => True) (okp := fun _ => True) ?hr ?hp (fun _ hk => hk) trivial (Below.refl _ _) (Nat.le_refl _) (by simp) ?_; (case hd => rfl); (case hg => rfl); (case hr => exact xh); (case hp => exact (Reps.one (show Kd.M Kd.bool _ _ _ a1_0 [.bool a1_0] from rfl) (Reps.one (show Kd.M Kd.bool _ _ _ a2_0 [.bool a2_0] from rfl) (Reps.none _ _)))); intro v496 w58 ho59 hb hg_ hnew_; clear hg_ hnew_; (first | rw [← Ny495.out] at ho59 | (simp only [Int.reduceToNat] at ho59; rw [← Ny495.out] at ho59)); have HO497 := xy (Kd.R_lower ho59 (below_size xb)); replace BK490 := xd BK490.out hb; replace BK491 := xd BK491.out hb; replace BK492 := xd BK492.out hb; replace HB := xy (below_step xb hb); clear hb ho59; have hcz60_0 : w58.cell? ⟨gb490, 0, none⟩ = some (.bool a1_0) := (kc BK490.out 0).trans rfl; have hcz60_1 : w58.cell? ⟨gb490, 1, none⟩ = some (.int .i64 a1_1) := (kc BK490.out 1).trans rfl; have hcz60_2 : w58.cell? ⟨gb490, 2, none⟩ = some (.string a1_2) := (kc BK490.out 2).trans rfl; have hfz60_0 := kf BK490.out 0; have hfz60_1 := kf BK490.out 1; have hfz60_2 := kf BK490.out 2) | ((with_reducible refine gate_dst (N := 33) rfl ?_); refine Kd.R_lit Kd.bool _ 4 ?hg (N := 33) ?hd (xs := ([a1_0] : List Bool)) (inner := [.bool a1_0]) (ok := fun _ => True) (okp := fun _ => True) ?hr ?hp (fun _ hk => hk) trivial (Below.refl _ _) (Nat.le_refl _) (by simp) ?_; (case hd => rfl); (case hg => rfl); (case hr => exact xh); (case hp => exact (Reps.one (show Kd.M Kd.bool _ _ _ a1_0 [.bool a1_0] from rfl) (Reps.none _ _))); intro v499 w61 ho62 hb hg_ hnew_; clear hg_ hnew_; (first | rw [← Ny498.out] at ho62 | (simp only [Int.reduceToNat] at ho62; rw [← Ny498.out] at ho62)); have HO500 := xy (Kd.R_lower (Kd.R_new' ho62 (Kd.R_lt (xo HO497.out))) (below_size xb)); replace HO497 := xy (Kd.R_elder' (xo HO497.out) (Kd.R_base ho62) hb); replace BK490 := xd BK490.out hb; replace BK491 := xd BK491.out hb; replace BK492 := xd BK492.out hb; replace HB := xy (below_step xb hb); clear hb ho62; obtain ⟨Ao63, co63, eo63⟩ := Kd.R_slice HO497.out; subst eo63; obtain ⟨Ao64, co64, eo64⟩ := Kd.R_slice HO500.out; subst eo64) | ((with_reducible refine gate_callee (f := 24) rfl ?_); refine goesL_ (some 34) rfl rfl Tryz.func24 (by kernel_rfl) rfl #[.slice A0 l0.length c0, .slice Ao63 y495.length co63, .slice Ao64 y498.length co64] rfl xr ?_; (with_reducible refine (r15_Check.calls kj4 _ _ l0 _ _ y495 _ _ y498 t501 _ (Tabs.below hT xf) ?side1 ?side2 ?side3 ?side4 ?side5 ?side6 A27.out).mono ?_); (case side1 => exact Kd.C_below HR0.out xb); (case side2 => exact HC0.out); (case side3 => repeat (first | exact (Kd.R_reads' HO497.out).2.2 | (with_reducible refine Kd.C_alloc ?_ _) | (with_reducible refine Kd.C_drewN ?_ _) | (with_reducible refine Kd.C_drew ?_))); (case side4 => exact (Kd.R_reads' HO497.out).2.1); (case side5 => repeat (first | exact (Kd.R_reads' HO500.out).2.2 | (with_reducible refine Kd.C_alloc ?_ _) | (with_reducible refine Kd.C_drewN ?_ _) | (with_reducible refine Kd.C_drew ?_))); (case side6 => exact (Kd.R_reads' HO500.out).2.1); rintro e w65 ⟨rfl, hb⟩; refine ⟨_, rfl, ?_⟩; replace HO497 := xy (Kd.R_below (xo HO497.out) hb); replace HO500 := xy (Kd.R_below (xo HO500.out) hb); replace BK490 := xd BK490.out hb; replace BK491 := xd BK491.out hb; replace BK492 := xd BK492.out hb; replace HB := xy (below_step xb hb); (try clear hb); (try clear hb2); (try clear hk); (try clear hi); have hcz66_0 : w65.cell? ⟨gb490, 0, none⟩ = some (.bool a1_0) := (kc BK490.out 0).trans rfl; have hcz66_1 : w65.cell? ⟨gb490, 1, none⟩ = some (.int .i64 a1_1) := (kc BK490.out 1).trans rfl; have hcz66_2 : w65.cell? ⟨gb490, 2, none⟩ = some (.string a1_2) := (kc BK490.out 2).trans rfl; have hfz66_0 := kf BK490.out 0; have hfz66_1 := kf BK490.out 1; have hfz66_2 := kf BK490.out 2; have hcz67_0 : w65.cell? ⟨gb491, 0, none⟩ = some (.bool a2_0) := (kc BK491.out 0).trans rfl; have hcz67_1 : w65.cell? ⟨gb491, 1, none⟩ = some (.int .i64 a2_1) := (kc BK491.out 1).trans rfl; have hcz67_2 : w65.cell? ⟨gb491, 2, none⟩ = some (.string a2_2) := (kc BK491.out 2).trans rfl; have hfz67_0 := kf BK491.out 0; have hfz67_1 := kf BK491.out 1; have hfz67_2 := kf BK491.out 2) | ((with_reducible refine gate_dst (N := 44) rfl ?_); refine Kd.R_lit k32 _ 32 ?hg (N := 44) ?hd (xs := ([(⟨a1_0, a1_1, a1_2⟩ : S32), (⟨a2_0, a2_1, a2_2⟩ : S32)] : List (S32))) (inner := [.bool a1_0, .int .i64 a1_1, .string a1_2, .bool a2_0, .int .i64 a2_1, .string a2_2]) (ok := fun _ => True) (okp := fun _ => True) ?hr ?hp (fun _ hk => hk) trivial (Below.refl _ _) (Nat.le_refl _) (by simp) ?_; (case hd => rfl); (case hg => rfl); (case hr => exact xh); (case hp => exact (Reps.c3 (show Kd.M k32 _ _ _ (⟨a1_0, a1_1, a1_2⟩ : S32) [.bool a1_0, .int .i64 a1_1, .string a1_2] from (k32_mkM _ _ _ (⟨a1_0, a1_1, a1_2⟩ : S32) )) (Reps.c3 (show Kd.M k32 _ _ _ (⟨a2_0, a2_1, a2_2⟩ : S32) [.bool a2_0, .int .i64 a2_1, .string a2_2] from (k32_mkM _ _ _ (⟨a2_0, a2_1, a2_2⟩ : S32) )) (Reps.none _ _)))); intro v503 w68 ho69 hb hg_ hnew_; clear hg_ hnew_; (first | rw [← Ny502.out] at ho69 | (simp only [Int.reduceToNat] at ho69; rw [← Ny502.out] at ho69)); replace HO497 := xy (Kd.R_below (xo HO497.out) hb); replace HO500 := xy (Kd.R_below (xo HO500.out) hb); have HO504 := xy (Kd.R_lower (Kd.R_newB (Kd.R_newB (Kd.R_newB ho69 (g := gb490) (o := .cells #[.bool a1_0, .int .i64 a1_1, .string a1_2] 32 (0, 0)) (xk BK490.out)) (g := gb491) (o := .cells #[.bool a2_0, .int .i64 a2_1, .string a2_2] 32 (0, 0)) (xk BK491.out)) (g := gb492) (o := .cells #[.bool false, .int .i64 0, .string (⟨#[]⟩ : ByteArray)] 32 (0, 0)) (xk BK492.out)) (below_size xb)); replace BK490 := xd BK490.out hb; replace BK491 := xd BK491.out hb; replace BK492 := xd BK492.out hb; replace HB := xy (below_step xb hb); clear hb ho69; obtain ⟨Ao70, co70, eo70⟩ := Kd.R_slice HO504.out; subst eo70) | ((with_reducible refine gate_callee (f := 20) rfl ?_); refine goesL_ (some 46) rfl rfl Tryz.func20 (by kernel_rfl) rfl #[.slice A0 l0.length c0, .slice none 0 0, .slice Ao70 y502.length co70, .int .i64 a3] rfl xr ?_; (refine (r16_run.calls kj4 _ _ l0 _ _ ([] : List ByteArray) _ _ y502 a3 t505 t506 false _ (Tabs.below hT xf) ?side1 ?side2 ?side3 ?side4 ?side5 ?side6 A29.out).mono ?_); (case side1 => exact Kd.C_below HR0.out xb); (case side2 => exact HC0.out); (case side3 => exact Kd.C_nil _ _); (case side4 => exact Nat.le_refl _); (case side5 => repeat (first | exact (Kd.R_reads' HO504.out).2.2 | (with_reducible refine Kd.C_alloc ?_ _) | (with_reducible refine Kd.C_drewN ?_ _) | (with_reducible refine Kd.C_drew ?_))); (case side6 => exact (Kd.R_reads' HO504.out).2.1); rintro e w71 ⟨v508, rfl, ho0, hb⟩; refine ⟨_, rfl, ?_⟩; replace HO497 := xy (Kd.R_below (xo HO497.out) hb); replace HO500 := xy (Kd.R_below (xo HO500.out) hb); have HO509 := xy (Kd.R_lower (Kd.R_newB (Kd.R_newB (Kd.R_newB (Kd.R_new' ho0 (Kd.R_lt (xo HO504.out))) (g := gb490) (o := .cells #[.bool a1_0, .int .i64 a1_1, .string a1_2] 32 (0, 0)) (xk BK490.out)) (g := gb491) (o := .cells #[.bool a2_0, .int .i64 a2_1, .string a2_2] 32 (0, 0)) (xk BK491.out)) (g := gb492) (o := .cells #[.bool false, .int .i64 0, .string (⟨#[]⟩ : ByteArray)] 32 (0, 0)) (xk BK492.out)) (below_size xb)); replace HO504 := xy (Kd.R_elder' (xo HO504.out) (Kd.R_base ho0) hb); replace BK490 := xd BK490.out hb; replace BK491 := xd BK491.out hb; replace BK492 := xd BK492.out hb; replace HB := xy (below_step xb hb); (try clear hb); (try clear hb2); (try clear hk); (try clear hi); (try clear ho0); have hcz72_0 : w71.cell? ⟨gb492, 0, none⟩ = some (.bool false) := (kc BK492.out 0).trans rfl; have hcz72_1 : w71.cell? ⟨gb492, 1, none⟩ = some (.int .i64 0) := (kc BK492.out 1).trans rfl; have hcz72_2 : w71.cell? ⟨gb492, 2, none⟩ = some (.string (⟨#[]⟩ : ByteArray)) := (kc BK492.out 2).trans rfl; have hfz72_0 := kf BK492.out 0; have hfz72_1 := kf BK492.out 1; have hfz72_2 := kf BK492.out 2))
      refine bodyPost_ret (results_ctt rfl _ _ gb492 32 #[.bool false, .int .i64 0, .string (⟨#[]⟩ : ByteArray)] (0, 0) _ rfl (kp BK492.out) Tryz.underlying32 rfl (by kernel_rfl)) rfl ?_
      exact ⟨xe, xb⟩
    ·rw [if_neg c28] at H
     have c28b0 : (t501 == 0) = false := beq_eq_false_iff_ne.mpr c28
     have c28b1 : (t501 != 0) = true := bne_iff_ne.mpr c28
     simp only [Option.some.injEq, Prod.mk.injEq] at H
     obtain ⟨rfl, rfl, rfl, rfl, rfl⟩ := H
     have hnb73 := NB490_491.out
     have hnc73 := NB491_490.out
     have hnb74 := NB490_492.out
     have hnc74 := NB492_490.out
     have hcz75_0 : wc.cell? ⟨gb490, 0, none⟩ = some (.bool a1_0) := (kc BK490.out 0).trans rfl
     have hcz75_1 : wc.cell? ⟨gb490, 1, none⟩ = some (.int .i64 a1_1) := (kc BK490.out 1).trans rfl
     have hcz75_2 : wc.cell? ⟨gb490, 2, none⟩ = some (.string a1_2) := (kc BK490.out 2).trans rfl
     have hfz75_0 := kf BK490.out 0
     have hfz75_1 := kf BK490.out 1
     have hfz75_2 := kf BK490.out 2
     have hnb76 := NB491_492.out
     have hnc76 := NB492_491.out
     have hcz77_0 : wc.cell? ⟨gb491, 0, none⟩ = some (.bool a2_0) := (kc BK491.out 0).trans rfl
     have hcz77_1 : wc.cell? ⟨gb491, 1, none⟩ = some (.int .i64 a2_1) := (kc BK491.out 1).trans rfl
     have hcz77_2 : wc.cell? ⟨gb491, 2, none⟩ = some (.string a2_2) := (kc BK491.out 2).trans rfl
     have hfz77_0 := kf BK491.out 0
     have hfz77_1 := kf BK491.out 1
     have hfz77_2 := kf BK491.out 2
     go_wp2_with (first | ((with_reducible refine gate_dst (N := 30) rfl ?_); refine Kd.R_lit Kd.bool _ 4 ?hg (N := 30) ?hd (xs := ([a1_0, a2_0] : List Bool)) (inner := [.bool a1_0, .bool a2_0]) (ok := fun _ => True) (okp := fun _ => True) ?hr ?hp (fun _ hk => hk) trivial (Below.refl _ _) (Nat.le_refl _) (by simp) ?_; (case hd => rfl); (case hg => rfl); (case hr => exact xh); (case hp => exact (Reps.one (show Kd.M Kd.bool _ _ _ a1_0 [.bool a1_0] from rfl) (Reps.one (show Kd.M Kd.bool _ _ _ a2_0 [.bool a2_0] from rfl) (Reps.none _ _)))); intro v496 w78 ho79 hb hg_ hnew_; clear hg_ hnew_; (first | rw [← Ny495.out] at ho79 | (simp only [Int.reduceToNat] at ho79; rw [← Ny495.out] at ho79)); have HO497 := xy (Kd.R_lower ho79 (below_size xb)); replace BK490 := xd BK490.out hb; replace BK491 := xd BK491.out hb; replace BK492 := xd BK492.out hb; replace HB := xy (below_step xb hb); clear hb ho79; have hcz80_0 : w78.cell? ⟨gb490, 0, none⟩ = some (.bool a1_0) := (kc BK490.out 0).trans rfl; have hcz80_1 : w78.cell? ⟨gb490, 1, none⟩ = some (.int .i64 a1_1) := (kc BK490.out 1).trans rfl; have hcz80_2 : w78.cell? ⟨gb490, 2, none⟩ = some (.string a1_2) := (kc BK490.out 2).trans rfl; have hfz80_0 := kf BK490.out 0; have hfz80_1 := kf BK490.out 1; have hfz80_2 := kf BK490.out 2) | ((with_reducible refine gate_dst (N := 33) rfl ?_); refine Kd.R_lit Kd.bool _ 4 ?hg (N := 33) ?hd (xs := ([a1_0] : List Bool)) (inner := [.bool a1_0]) (ok := fun _ => True) (okp := fun _ => True) ?hr ?hp (fun _ hk => hk) trivial (Below.refl _ _) (Nat.le_refl _) (by simp) ?_; (case hd => rfl); (case hg => rfl); (case hr => exact xh); (case hp => exact (Reps.one (show Kd.M Kd.bool _ _ _ a1_0 [.bool a1_0] from rfl) (Reps.none _ _))); intro v499 w81 ho82 hb hg_ hnew_; clear hg_ hnew_; (first | rw [← Ny498.out] at ho82 | (simp only [Int.reduceToNat] at ho82; rw [← Ny498.out] at ho82)); have HO500 := xy (Kd.R_lower (Kd.R_new' ho82 (Kd.R_lt (xo HO497.out))) (below_size xb)); replace HO497 := xy (Kd.R_elder' (xo HO497.out) (Kd.R_base ho82) hb); replace BK490 := xd BK490.out hb; replace BK491 := xd BK491.out hb; replace BK492 := xd BK492.out hb; replace HB := xy (below_step xb hb); clear hb ho82; obtain ⟨Ao83, co83, eo83⟩ := Kd.R_slice HO497.out; subst eo83; obtain ⟨Ao84, co84, eo84⟩ := Kd.R_slice HO500.out; subst eo84) | ((with_reducible refine gate_callee (f := 24) rfl ?_); refine goesL_ (some 34) rfl rfl Tryz.func24 (by kernel_rfl) rfl #[.slice A0 l0.length c0, .slice Ao83 y495.length co83, .slice Ao84 y498.length co84] rfl xr ?_; (with_reducible refine (r15_Check.calls kj4 _ _ l0 _ _ y495 _ _ y498 t501 _ (Tabs.below hT xf) ?side1 ?side2 ?side3 ?side4 ?side5 ?side6 A27.out).mono ?_); (case side1 => exact Kd.C_below HR0.out xb); (case side2 => exact HC0.out); (case side3 => repeat (first | exact (Kd.R_reads' HO497.out).2.2 | (with_reducible refine Kd.C_alloc ?_ _) | (with_reducible refine Kd.C_drewN ?_ _) | (with_reducible refine Kd.C_drew ?_))); (case side4 => exact (Kd.R_reads' HO497.out).2.1); (case side5 => repeat (first | exact (Kd.R_reads' HO500.out).2.2 | (with_reducible refine Kd.C_alloc ?_ _) | (with_reducible refine Kd.C_drewN ?_ _) | (with_reducible refine Kd.C_drew ?_))); (case side6 => exact (Kd.R_reads' HO500.out).2.1); rintro e w85 ⟨rfl, hb⟩; refine ⟨_, rfl, ?_⟩; replace HO497 := xy (Kd.R_below (xo HO497.out) hb); replace HO500 := xy (Kd.R_below (xo HO500.out) hb); replace BK490 := xd BK490.out hb; replace BK491 := xd BK491.out hb; replace BK492 := xd BK492.out hb; replace HB := xy (below_step xb hb); (try clear hb); (try clear hb2); (try clear hk); (try clear hi); have hcz86_0 : w85.cell? ⟨gb492, 0, none⟩ = some (.bool false) := (kc BK492.out 0).trans rfl; have hcz86_1 : w85.cell? ⟨gb492, 1, none⟩ = some (.int .i64 0) := (kc BK492.out 1).trans rfl; have hcz86_2 : w85.cell? ⟨gb492, 2, none⟩ = some (.string (⟨#[]⟩ : ByteArray)) := (kc BK492.out 2).trans rfl; have hfz86_0 := kf BK492.out 0; have hfz86_1 := kf BK492.out 1; have hfz86_2 := kf BK492.out 2))
     refine bodyPost_ret (results_ctt rfl _ _ gb492 32 #[.bool false, .int .i64 0, .string (⟨#[]⟩ : ByteArray)] (0, 0) _ rfl (kp BK492.out) Tryz.underlying32 rfl (by kernel_rfl)) rfl ?_
     exact ⟨xe, xb⟩
end Go.Proofs.YtnodgcakmolleaaGreatDoor.PX
