/- Walked functions, by this session's program over the kit's print. -/
import Derived.Test.YtnodgcakmolleaaGreatDoorPXx0
import Derived.Test.YtnodgcakmolleaaGreatDoorPXx14
namespace Go.Proofs.YtnodgcakmolleaaGreatDoor.PX
open Go.RowKit Go.Proofs.YtnodgcakmolleaaGreatDoorW.PrintWords Go.Proofs.YtnodgcakmolleaaGreatDoorW.PrintLast Go.Proofs.YtnodgcakmolleaaGreatDoorW.PrintMore
attribute [local go_sem] xm_gtr max2_int min2_int max_two min_two max_three min_three max_four min_four
set_option linter.unusedVariables false
set_option linter.unusedSimpArgs false
/- Walked functions, by this session's program over the kit's print. -/
mutual
def r15_Stack.j0 : Nat → List (S44) → List Bool → Bool → Option (List Bool × Int × Int)
 | 0, _, _, _ => none
 | k + 1, x0, x1, x18 => if x18 = true then (some (([] : List Bool), 0, 1)) else (if (x0.length : Int) > 200 then (some (([] : List Bool), 0, 5)) else (r15_Stack.l0 k x0 x1 (([] : List Bool)) 0))
def r15_Stack.l0 : Nat → List (S44) → List Bool → List Bool → Int → Option (List Bool × Int × Int)
 | 0, _, _, _, _ => none
 | k + 1, x0, x1, x7, x8 => if x8 < (x0.length : Int) then (if 0 ≤ x8 then ((r15_step.f k x7 ((rd_T44 x0 x8).f0) ((rd_T44 x0 x8).f1) ((rd_T44 x0 x8).f2) x1).bind fun bt370 => (if bt370.2 = 0 then (r15_Stack.l0 k x0 x1 bt370.1 (wrap64 (x8 + 1))) else (some (x7, x8, bt370.2)))) else (none)) else (some (x7, (x0.length : Int), 0))
end
def r15_Stack.f (k : Nat) (l0 : List (S44)) (l1 : List Bool) : Option (List Bool × Int × Int) := if (l1.length : Int) = 0 then (r15_Stack.j0 k l0 l1 false) else (r15_Stack.j0 k l0 l1 ((l1.length : Int) != 2))
theorem r15_Stack.mono_l : ∀ k, (∀ y0 y1 y2, LeO (r15_Stack.j0 k y0 y1 y2) (r15_Stack.j0 (k + 1) y0 y1 y2)) ∧ (∀ y0 y1 y2 y3, LeO (r15_Stack.l0 k y0 y1 y2 y3) (r15_Stack.l0 (k + 1) y0 y1 y2 y3))
 | 0 => ⟨fun _ _ _ r h => by simp [r15_Stack.j0] at h, fun _ _ _ _ r h => by simp [r15_Stack.l0] at h⟩
 | k + 1 => by
  obtain ⟨ih0, ih1⟩ := r15_Stack.mono_l k
  refine ⟨?_, ?_⟩
  ·intro y0 y1 y2
   unfold r15_Stack.j0
   repeat' (with_reducible first | exact ih0 _ _ _ | exact ih1 _ _ _ _ | exact r15_step.mono _ _ _ _ _ _ | exact LeO.refl _ | exact LeO.none _ | refine LeO.ite ?_ ?_ | refine LeO.bind ?_ (fun _ => ?_))
  ·intro y0 y1 y2 y3
   unfold r15_Stack.l0
   repeat' (with_reducible first | exact ih0 _ _ _ | exact ih1 _ _ _ _ | exact r15_step.mono _ _ _ _ _ _ | exact LeO.refl _ | exact LeO.none _ | refine LeO.ite ?_ ?_ | refine LeO.bind ?_ (fun _ => ?_))
theorem r15_Stack.mono : ∀ a0 a1 k, LeO (r15_Stack.f k a0 a1) (r15_Stack.f (k + 1) a0 a1) := by
 intro a0 a1 k
 obtain ⟨ih0, ih1⟩ := r15_Stack.mono_l k
 unfold r15_Stack.f
 repeat' (with_reducible first | exact ih0 _ _ _ | exact ih1 _ _ _ _ | exact r15_step.mono _ _ _ _ _ _ | exact LeO.refl _ | exact LeO.none _ | refine LeO.ite ?_ ?_ | refine LeO.bind ?_ (fun _ => ?_))
set_option maxHeartbeats 8000000 in
set_option maxRecDepth 100000 in
theorem r15_Stack.calls (k : Nat) (A0 : Option Addr) (c0 : Nat) (l0 : List (S44)) (A1 : Option Addr) (c1 : Nat) (l1 : List Bool) (r1 : List Bool) (r2 : Int) (r3 : Int) (w : World) (hT : Tabs w) (hr0 : Kd.C k44 w A0 l0.length l0) (hc0 : l0.length ≤ c0) (hr1 : Kd.C Kd.bool w A1 l1.length l1) (hc1 : l1.length ≤ c1) (h : r15_Stack.f k l0 l1 = some (r1, r2, r3)) :
  Calls Tryz.prog 19 #[.slice A0 l0.length c0, .slice A1 l1.length c1] w fun e w' => ∃ v0_ : Value, e = .returned (.tuple #[v0_, .int .i64 r2, .int .i64 r3]) ∧ Kd.R Kd.bool 4 w' w.heap.size (fun _ => True) v0_ r1 ∧ Below w.heap.size w w' := by
 have hu44 := Tryz.underlying44
 have HR0 := xy hr0
 have HC0 := xy hc0
 clear hr0 hc0
 have HR1 := xy hr1
 have HC1 := xy hc1
 clear hr1 hc1
 have HB := xy (Below.refl w.heap.size w)
 unfold r15_Stack.f at h
 have H := h
 clear h
 have HC3 := xy H
 clear H
 go_enter Tryz.func19, Tryz.ntmps19
 go_upto_region 1 with (fail)
 go_cut [18] (fun v18 wc => ∃ (kq : Nat) (x18_2 : Bool), v18 = .bool x18_2 ∧ Aside0 (r15_Stack.j0 kq l0 l1 x18_2 = some (r1, r2, r3)) ∧ Aside0 (kq ≤ k) ∧ Aside0 (Below w.heap.size w wc))
 case first =>
  have H := HC3.out
  clear HC3
  by_cases c4 : (l1.length : Int) = 0
  ·rw [if_pos c4] at H
   have c4b0 : ((l1.length : Int) == 0) = true := beq_iff_eq.mpr c4
   have c4b1 : ((l1.length : Int) != 0) = false := bne_eq_false_iff_eq.mpr c4
   clear c4
   (first | rw [c4b0] | (simp only [i64_w, i32_w]; rw [c4b0]) | skip)
   have H' := xy H
   clear H
   go_wp2
   go_meet
   case rel => exact ⟨_, (false), xg, H', ⟨by first | omega | exact Nat.le_refl _⟩, ⟨xb⟩⟩
  ·rw [if_neg c4] at H
   have c4b0 : ((l1.length : Int) == 0) = false := beq_eq_false_iff_ne.mpr c4
   have c4b1 : ((l1.length : Int) != 0) = true := bne_iff_ne.mpr c4
   have c4b2 : ¬ (l1 = []) := fun h_ => c4 (by rw [h_]; rfl)
   (first | rw [c4b0] | (simp only [i64_w, i32_w]; rw [c4b0]) | skip)
   have H' := xy H
   clear H
   go_wp2
   go_meet
   case rel => exact ⟨_, (((l1.length : Int) != 2)), xg, H', ⟨by first | omega | exact Nat.le_refl _⟩, ⟨xb⟩⟩
 case rest =>
  clear HC3
  try clear c1
  try clear p2
  try clear c4
  try clear c4b0
  try clear c4b1
  try clear c4b2
  obtain ⟨kq, x18_2, rfl, HA, HJ2, HB⟩ := hcut
  cases kq with
  | zero => exact absurd HA.out (by simp [r15_Stack.j0])
  | succ kj2 =>
   have H := HA.out
   clear HA
   simp only [r15_Stack.j0] at H
   by_cases c5 : x18_2 = true
   ·subst c5
    rw [if_pos rfl] at H
    simp only [Option.some.injEq, Prod.mk.injEq] at H
    obtain ⟨rfl, rfl, rfl⟩ := H
    go_wp2
    go_ret3
    exact ⟨_, by first | rfl | (simp [errW_none, errW_some] <;> rfl) | (simp [*, errW_none, errW_some] <;> rfl), by first | exact Kd.R_nil _ _ _ _ _ | exact Kd.N_nil _ _ _ _ _ | exact Kd.V_nil _ _ _ _ _ | exact Kd.Q_nil _ _ _ _ _ | exact Kd.S_nil _ _ _ _ _, xb⟩
   ·replace c5 := Bool.eq_false_iff.mpr c5
    subst c5
    rw [if_neg (show ¬ (false = true) by decide)] at H
    by_cases c6 : (l0.length : Int) > 200
    ·rw [if_pos c6] at H
     have c6b0 : decide (200 < (l0.length : Int)) = true := decide_eq_true c6
     have c6b1 : decide (200 < l0.length) = true := decide_eq_true (by omega)
     clear c6
     simp only [Option.some.injEq, Prod.mk.injEq] at H
     obtain ⟨rfl, rfl, rfl⟩ := H
     go_wp2
     go_ret3
     exact ⟨_, by first | rfl | (simp [errW_none, errW_some] <;> rfl) | (simp [*, errW_none, errW_some] <;> rfl), by first | exact Kd.R_nil _ _ _ _ _ | exact Kd.N_nil _ _ _ _ _ | exact Kd.V_nil _ _ _ _ _ | exact Kd.Q_nil _ _ _ _ _ | exact Kd.S_nil _ _ _ _ _, xb⟩
    ·rw [if_neg c6] at H
     have c6b0 : decide (200 < (l0.length : Int)) = false := decide_eq_false c6
     have c6b1 : decide (200 < l0.length) = false := decide_eq_false (by omega)
     clear c6
     obtain ⟨y366, hy366⟩ : ∃ y_ : List Bool, y_ = (([] : List Bool)) := ⟨_, rfl⟩
     replace H : (r15_Stack.l0 kj2 l0 l1 y366 0) = some (r1, r2, r3) := by first | (rw [hy366]; with_reducible exact H) | (have H2_ := (Option.bind_some _ _).symm.trans H; rw [hy366]; with_reducible exact H2_) | (have H2_ := (Option.bind_some _ _).symm.trans H; with_reducible exact H2_) | with_reducible exact H | (rw [hy366]; exact H) | exact H
     have Ny366 := xy hy366
     clear hy366
     have H' := xy H
     clear H
     go_wp2_with (((with_reducible refine gate_dst (N := 22) rfl ?_); (try (refine gate_guard (by rfl) ?_; dsimp only)); refine Kd.R_lit Kd.bool _ 4 ?hg (N := 22) ?hd (xs := ([] : List Bool)) (inner := []) (ok := fun _ => True) (okp := fun _ => True) ?hr ?hp (fun _ hk => hk) trivial (Below.refl _ _) (Nat.le_refl _) (by simp) ?_; (case hd => rfl); (case hg => rfl); (case hr => exact xh); (case hp => exact (Reps.none _ _)); intro v367 w7 ho8 hb hg_ hnew_; clear hg_ hnew_; (first | rw [← Ny366.out] at ho8 | (simp only [Int.reduceToNat] at ho8; rw [← Ny366.out] at ho8)); have HO368 := xy (Kd.R_lower ho8 (below_size xb)); replace HB := xy (below_step xb hb); clear hb ho8))
     go_loopg [7, 8] kj2 (fun kq v7 v8 w' => ∃ (x7_2 : List Bool) (x8_2 : Int), v8 = .int .i64 x8_2 ∧ Aside0 (r15_Stack.l0 kq l0 l1 x7_2 x8_2 = some (r1, r2, r3)) ∧ Aside0 (kq ≤ kj2) ∧ Aside0 (Kd.R Kd.bool 4 w' w.heap.size (fun _ => True) v7 x7_2) ∧ Aside0 (Below w.heap.size w w'))
     case atStart => exact ⟨(y366), (0), xg, H', ⟨Nat.le_refl _⟩, ⟨by (with_reducible repeat (first | apply Kd.R_alloc | apply Kd.R_drewN | apply Kd.R_drew)); exact HO368.out⟩, ⟨xb⟩⟩
     case round =>
      clear H'
      try clear c1
      try clear p2
      try clear c4
      try clear c4b0
      try clear c4b1
      try clear c4b2
      try clear c5
      try clear c6
      try clear c6b0
      try clear c6b1
      try clear p2
      obtain ⟨x7_2, x8_2, rfl, HA, HK2, HO_7, HB⟩ := hrel
      cases gk with
      | zero => exact absurd HA.out (by simp [r15_Stack.l0])
      | succ k2 =>
       have H := HA.out
       clear HA
       simp only [r15_Stack.l0] at H
       by_cases c9 : x8_2 < (l0.length : Int)
       ·rw [if_pos c9] at H
        have c9b0 : decide (x8_2 < (l0.length : Int)) = true := decide_eq_true c9
        clear c9
        by_cases c10 : 0 ≤ x8_2
        ·rw [if_pos c10] at H
         have c10b0 : decide (0 ≤ x8_2) = true := decide_eq_true c10
         clear c10
         replace H := xj H
         obtain ⟨⟨t370, t373⟩, A110, H⟩ := H
         replace H : (if t373 = 0 then (r15_Stack.l0 k2 l0 l1 t370 (wrap64 (x8_2 + 1))) else (some (x7_2, x8_2, t373))) = some (r1, r2, r3) := H
         have A11 := xy A110
         clear A110
         by_cases c12 : t373 = 0
         ·rw [if_pos c12] at H
          have c12b0 : (t373 == 0) = true := beq_iff_eq.mpr c12
          have c12b1 : (t373 != 0) = false := bne_eq_false_iff_eq.mpr c12
          clear c12
          have H' := xy H
          clear H
          have p369 : 0 ≤ (x8_2 : Int) := xi
          have q369 : x8_2 < (l0.length : Int) := xi
          obtain ⟨ad369, e369, hx369_0, hx369_1, hx369_2⟩ := at_T44 HR0.out x8_2 p369 q369
          cases e369
          replace hx369_0 := (HB.out.cell (World.block_lt_of_cell? w _ hx369_0)).trans hx369_0
          replace hx369_1 := (HB.out.cell (World.block_lt_of_cell? w _ hx369_1)).trans hx369_1
          replace hx369_2 := (HB.out.cell (World.block_lt_of_cell? w _ hx369_2)).trans hx369_2
          replace p369 := eq_true p369
          replace q369 := eq_true q369
          obtain ⟨Ao13, co13, eo13⟩ := Kd.R_slice HO_7.out
          subst eo13
          go_wp2_with (((with_reducible refine gate_callee (f := 29) rfl ?_); refine goesL_ (some 36) rfl rfl Tryz.func29 (by kernel_rfl) rfl #[.slice Ao13 x7_2.length co13, .agg #[.int .i64 ((rd_T44 l0 x8_2).f0), .int .i64 ((rd_T44 l0 x8_2).f1), .string ((rd_T44 l0 x8_2).f2)], .slice A1 l1.length c1] rfl xr ?_; (with_reducible refine (r15_step.calls k2 _ _ x7_2 ((rd_T44 l0 x8_2).f0) ((rd_T44 l0 x8_2).f1) ((rd_T44 l0 x8_2).f2) _ _ l1 t370 t373 _ (Tabs.below hT xf) ?side1 ?side2 ?side3 ?side4 A11.out).mono ?_); (case side1 => repeat (first | exact (Kd.R_reads' HO_7.out).2.2 | (with_reducible refine Kd.C_alloc ?_ _) | (with_reducible refine Kd.C_drewN ?_ _) | (with_reducible refine Kd.C_drew ?_))); (case side2 => exact (Kd.R_reads' HO_7.out).2.1); (case side3 => exact Kd.C_below HR1.out xb); (case side4 => exact HC1.out); rintro e w14 ⟨v371, rfl, ho0, hb⟩; refine ⟨_, rfl, ?_⟩; have HO372 := xy (Kd.R_lower (Kd.R_new' ho0 (Kd.R_lt (xo HO_7.out))) (below_size xb)); replace HO_7 := xy (Kd.R_elder' (xo HO_7.out) (Kd.R_base ho0) hb); replace HB := xy (below_step xb hb); (try clear hb); (try clear hb2); (try clear hk); (try clear hi); (try clear ho0)))
          go_roundg k2
          case measure => have := HJ2.out; have := HK2.out; omega
          case rel => exact ⟨(t370), (wrap64 (x8_2 + 1)), xg, H', ⟨by have := HJ2.out; have := HK2.out; omega⟩, ⟨by (with_reducible repeat (first | apply Kd.R_alloc | apply Kd.R_drewN | apply Kd.R_drew)); exact Kd.R_mono HO372.out (fun _ hk => trivial)⟩, ⟨xb⟩⟩
         ·rw [if_neg c12] at H
          have c12b0 : (t373 == 0) = false := beq_eq_false_iff_ne.mpr c12
          have c12b1 : (t373 != 0) = true := bne_iff_ne.mpr c12
          simp only [Option.some.injEq, Prod.mk.injEq] at H
          obtain ⟨rfl, rfl, rfl⟩ := H
          have p369 : 0 ≤ (x8_2 : Int) := xi
          have q369 : x8_2 < (l0.length : Int) := xi
          obtain ⟨ad369, e369, hx369_0, hx369_1, hx369_2⟩ := at_T44 HR0.out x8_2 p369 q369
          cases e369
          replace hx369_0 := (HB.out.cell (World.block_lt_of_cell? w _ hx369_0)).trans hx369_0
          replace hx369_1 := (HB.out.cell (World.block_lt_of_cell? w _ hx369_1)).trans hx369_1
          replace hx369_2 := (HB.out.cell (World.block_lt_of_cell? w _ hx369_2)).trans hx369_2
          replace p369 := eq_true p369
          replace q369 := eq_true q369
          obtain ⟨Ao15, co15, eo15⟩ := Kd.R_slice HO_7.out
          subst eo15
          go_wp2_with (((with_reducible refine gate_callee (f := 29) rfl ?_); refine goesL_ (some 36) rfl rfl Tryz.func29 (by kernel_rfl) rfl #[.slice Ao15 x7_2.length co15, .agg #[.int .i64 ((rd_T44 l0 x8_2).f0), .int .i64 ((rd_T44 l0 x8_2).f1), .string ((rd_T44 l0 x8_2).f2)], .slice A1 l1.length c1] rfl xr ?_; (with_reducible refine (r15_step.calls k2 _ _ x7_2 ((rd_T44 l0 x8_2).f0) ((rd_T44 l0 x8_2).f1) ((rd_T44 l0 x8_2).f2) _ _ l1 t370 t373 _ (Tabs.below hT xf) ?side1 ?side2 ?side3 ?side4 A11.out).mono ?_); (case side1 => repeat (first | exact (Kd.R_reads' HO_7.out).2.2 | (with_reducible refine Kd.C_alloc ?_ _) | (with_reducible refine Kd.C_drewN ?_ _) | (with_reducible refine Kd.C_drew ?_))); (case side2 => exact (Kd.R_reads' HO_7.out).2.1); (case side3 => exact Kd.C_below HR1.out xb); (case side4 => exact HC1.out); rintro e w16 ⟨v371, rfl, ho0, hb⟩; refine ⟨_, rfl, ?_⟩; have HO372 := xy (Kd.R_lower (Kd.R_new' ho0 (Kd.R_lt (xo HO_7.out))) (below_size xb)); replace HO_7 := xy (Kd.R_elder' (xo HO_7.out) (Kd.R_base ho0) hb); replace HB := xy (below_step xb hb); (try clear hb); (try clear hb2); (try clear hk); (try clear hi); (try clear ho0)))
          go_ret3
          exact ⟨_, by first | rfl | (simp [errW_none, errW_some] <;> rfl) | (simp [*, errW_none, errW_some] <;> rfl), by (with_reducible repeat (first | apply Kd.R_alloc | apply Kd.R_drewN | apply Kd.R_drew)); exact Kd.R_mono HO_7.out (fun _ hk => trivial), xb⟩
        ·rw [if_neg c10] at H
         exact absurd H (by simp)
       ·rw [if_neg c9] at H
        have c9b0 : decide (x8_2 < (l0.length : Int)) = false := decide_eq_false c9
        clear c9
        simp only [Option.some.injEq, Prod.mk.injEq] at H
        obtain ⟨rfl, rfl, rfl⟩ := H
        go_wp2
        go_ret3
        exact ⟨_, by first | rfl | (simp [errW_none, errW_some] <;> rfl) | (simp [*, errW_none, errW_some] <;> rfl), by (with_reducible repeat (first | apply Kd.R_alloc | apply Kd.R_drewN | apply Kd.R_drew)); exact HO_7.out, xb⟩
def r13_Num.f (a0 : Int) : Option (Bool × Int × ByteArray) := some (false, a0, (⟨#[]⟩ : ByteArray))
set_option maxHeartbeats 8000000 in
set_option maxRecDepth 100000 in
theorem r13_Num.calls (a0 : Int) (r1 : Bool) (r2 : Int) (r3 : ByteArray) (w : World) (hT : Tabs w) (h : r13_Num.f a0 = some (r1, r2, r3)) :
  Calls Tryz.prog 31 #[.int .i64 a0] w fun e w' => e = .returned (.agg #[.bool r1, .int .i64 r2, .string r3]) ∧ Below w.heap.size w w' := by
 have hu32 := Tryz.underlying32
 have HB := xy (Below.refl w.heap.size w)
 unfold r13_Num.f at h
 have H := h
 clear h
 simp only [Option.some.injEq, Prod.mk.injEq] at H
 obtain ⟨rfl, rfl, rfl⟩ := H
 go_enter Tryz.func31, Tryz.ntmps31
 go_wp2_with (((with_reducible refine gate_dst (N := 2) rfl ?_); refine xq (N := 2) (cs := #[.bool false, .int .i64 0, .string (⟨#[]⟩ : ByteArray)]) (t := 32) ?_; intro gb374 hg w2 hbox hb; have BK374 := xy (hbox); have GW374 := xs w hg; have GE374 := xs w hg; replace HB := xy (below_step xb hb); clear hb hbox hg; have hcz3_0 : w2.cell? ⟨gb374, 0, none⟩ = some (.bool false) := (kc BK374.out 0).trans rfl; have hcz3_1 : w2.cell? ⟨gb374, 1, none⟩ = some (.int .i64 0) := (kc BK374.out 1).trans rfl; have hcz3_2 : w2.cell? ⟨gb374, 2, none⟩ = some (.string (⟨#[]⟩ : ByteArray)) := (kc BK374.out 2).trans rfl; have hfz3_0 := kf BK374.out 0; have hfz3_1 := kf BK374.out 1; have hfz3_2 := kf BK374.out 2))
 refine bodyPost_ret (results_cell_row rfl _ _ gb374 32 #[.bool false, .int .i64 a0, .string (⟨#[]⟩ : ByteArray)] (0, 0) _ rfl (kp BK374.out) Tryz.underlying32 rfl (by kernel_rfl)) rfl ?_
 exact ⟨xe, xb⟩
def r13_clip.f (a0 : ByteArray) : Option (ByteArray) := if 0 ≤ (mn (a0.size : Int) 1000) then (if (mn (a0.size : Int) 1000) ≤ (a0.size : Int) then (some (a0.extract 0 ((mn (a0.size : Int) 1000) : Int).toNat)) else (none)) else (none)
set_option maxHeartbeats 8000000 in
set_option maxRecDepth 100000 in
theorem r13_clip.calls (a0 : ByteArray) (r : ByteArray) (w : World) (hT : Tabs w) (h : r13_clip.f a0 = some r) :
  Calls Tryz.prog 50 #[.string a0] w fun e w' => e = .returned (.string r) ∧ Below w.heap.size w w' := by
 have HB := xy (Below.refl w.heap.size w)
 unfold r13_clip.f at h
 have H := h
 clear h
 obtain ⟨ji2, hji2⟩ : ∃ j_ : Int, (mn (a0.size : Int) 1000) = j_ := ⟨_, rfl⟩
 replace H : (if 0 ≤ (ji2) then (if (ji2) ≤ (a0.size : Int) then (some (a0.extract 0 ((ji2) : Int).toNat)) else (none)) else (none)) = some r := by first | (rw [hji2] at H; exact H) | (simp only [hji2] at H ⊢; exact H)
 (try (have hji2h : ji2 ≤ 1000 := by (rw [← hji2]; unfold mn; (repeat' split) <;> omega)))
 (try (have hji2g : ji2 ≤ 64 := by omega))
 (try (have hji2l : 0 ≤ ji2 := by (rw [← hji2]; unfold mn; (repeat' split) <;> omega)))
 (try (have hji2m : 0 ≤ ji2 := by omega))
 have hji2_ : (if 1000 < (a0.size : Int) then 1000 else (a0.size : Int)) = ji2 := hji2
 by_cases c3 : 0 ≤ (ji2)
 ·rw [if_pos c3] at H
  have c3b0 := eq_true c3
  have c3b1 : decide (0 ≤ (ji2)) = true := decide_eq_true c3
  clear c3
  by_cases c4 : (ji2) ≤ (a0.size : Int)
  ·rw [if_pos c4] at H
   have c4b0 := eq_true c4
   have c4b1 : decide ((ji2) ≤ (a0.size : Int)) = true := decide_eq_true c4
   clear c4
   obtain rfl := Option.some.inj H
   go_enter Tryz.func50, Tryz.ntmps50
   go_wp2
   go_ret
   exact ⟨by first | rfl | (simp [errW_none, errW_some] <;> rfl) | (simp only [← hji2]; first | rfl | (simp [errW_none, errW_some] <;> rfl)) | (simp [*, errW_none, errW_some] <;> rfl), xb⟩
  ·rw [if_neg c4] at H
   exact absurd H (by simp)
 ·rw [if_neg c3] at H
  exact absurd H (by simp)
def r13_Text.f (a0 : ByteArray) : Option (Bool × Int × ByteArray) := (r13_clip.f a0).bind fun t376 => (some (true, 0, t376))
set_option maxHeartbeats 8000000 in
set_option maxRecDepth 100000 in
theorem r13_Text.calls (a0 : ByteArray) (r1 : Bool) (r2 : Int) (r3 : ByteArray) (w : World) (hT : Tabs w) (h : r13_Text.f a0 = some (r1, r2, r3)) :
  Calls Tryz.prog 32 #[.string a0] w fun e w' => e = .returned (.agg #[.bool r1, .int .i64 r2, .string r3]) ∧ Below w.heap.size w w' := by
 have hu32 := Tryz.underlying32
 have HB := xy (Below.refl w.heap.size w)
 unfold r13_Text.f at h
 have H := h
 clear h
 replace H := xj H
 obtain ⟨t376, A20, H⟩ := H
 replace H : (some (true, 0, t376)) = some (r1, r2, r3) := H
 have A2 := xy A20
 clear A20
 simp only [Option.some.injEq, Prod.mk.injEq] at H
 obtain ⟨rfl, rfl, rfl⟩ := H
 go_enter Tryz.func32, Tryz.ntmps32
 go_wp2_with (first | ((with_reducible refine gate_dst (N := 2) rfl ?_); refine xq (N := 2) (cs := #[.bool false, .int .i64 0, .string (⟨#[]⟩ : ByteArray)]) (t := 32) ?_; intro gb375 hg w3 hbox hb; have BK375 := xy (hbox); have GW375 := xs w hg; have GE375 := xs w hg; replace HB := xy (below_step xb hb); clear hb hbox hg) | ((with_reducible refine gate_callee (f := 50) rfl ?_); refine goesL_ (some 4) rfl rfl Tryz.func50 (by kernel_rfl) rfl #[.string a0] rfl xr ?_; (with_reducible refine (r13_clip.calls a0 t376 _ (Tabs.below hT xf) A2.out).mono ?_); rintro e w4 ⟨rfl, hb⟩; refine ⟨_, rfl, ?_⟩; replace BK375 := xd BK375.out hb; replace HB := xy (below_step xb hb); (try clear hb); (try clear hb2); (try clear hk); (try clear hi); have hcz5_0 : w4.cell? ⟨gb375, 0, none⟩ = some (.bool false) := (kc BK375.out 0).trans rfl; have hcz5_1 : w4.cell? ⟨gb375, 1, none⟩ = some (.int .i64 0) := (kc BK375.out 1).trans rfl; have hcz5_2 : w4.cell? ⟨gb375, 2, none⟩ = some (.string (⟨#[]⟩ : ByteArray)) := (kc BK375.out 2).trans rfl; have hfz5_0 := kf BK375.out 0; have hfz5_1 := kf BK375.out 1; have hfz5_2 := kf BK375.out 2))
 refine bodyPost_ret (results_cell_row rfl _ _ gb375 32 #[.bool true, .int .i64 0, .string t376] (0, 0) _ rfl (kp BK375.out) Tryz.underlying32 rfl (by kernel_rfl)) rfl ?_
 exact ⟨xe, xb⟩
def r13_Is.f (a0_0 : Bool) (a0_1 : Int) (a0_2 : ByteArray) : Option (Bool) := if a0_0 = true then (if a0_1 = 0 then (some (decide ((a0_2.size : Int) ≤ 1000))) else (some false)) else (some (a0_2.toList == ([] : List UInt8)))
set_option maxHeartbeats 8000000 in
set_option maxRecDepth 100000 in
theorem r13_Is.calls (a0_0 : Bool) (a0_1 : Int) (a0_2 : ByteArray) (r : Bool) (w : World) (hT : Tabs w) (h : r13_Is.f a0_0 a0_1 a0_2 = some r) :
  Calls Tryz.prog 23 #[.agg #[.bool a0_0, .int .i64 a0_1, .string a0_2]] w fun e w' => e = .returned (.bool r) ∧ Below w.heap.size w w' := by
 have hu32 := Tryz.underlying32
 have HB := xy (Below.refl w.heap.size w)
 unfold r13_Is.f at h
 have H := h
 clear h
 by_cases c2 : a0_0 = true
 ·subst c2
  rw [if_pos rfl] at H
  by_cases c3 : a0_1 = 0
  ·rw [if_pos c3] at H
   have c3b0 : (a0_1 == 0) = true := beq_iff_eq.mpr c3
   have c3b1 : (a0_1 != 0) = false := bne_eq_false_iff_eq.mpr c3
   clear c3
   obtain rfl := Option.some.inj H
   go_enter Tryz.func23, Tryz.ntmps23
   go_wp2_with (((with_reducible refine gate_dst (N := 1) rfl ?_); (try (refine gate_guard (by rfl) ?_; dsimp only)); refine xq (N := 1) (cs := #[.bool true, .int .i64 a0_1, .string a0_2]) (t := 32) ?_; intro gb377 hg w4 hbox hb; have BK377 := xy (hbox); have GW377 := xs w hg; have GE377 := xs w hg; replace HB := xy (below_step xb hb); clear hb hbox hg; have hcz5_0 : w4.cell? ⟨gb377, 0, none⟩ = some (.bool true) := (kc BK377.out 0).trans rfl; have hcz5_1 : w4.cell? ⟨gb377, 1, none⟩ = some (.int .i64 a0_1) := (kc BK377.out 1).trans rfl; have hcz5_2 : w4.cell? ⟨gb377, 2, none⟩ = some (.string a0_2) := (kc BK377.out 2).trans rfl; have hfz5_0 := kf BK377.out 0; have hfz5_1 := kf BK377.out 1; have hfz5_2 := kf BK377.out 2))
   go_ret
   exact ⟨xe, xb⟩
  ·rw [if_neg c3] at H
   have c3b0 : (a0_1 == 0) = false := beq_eq_false_iff_ne.mpr c3
   have c3b1 : (a0_1 != 0) = true := bne_iff_ne.mpr c3
   obtain rfl := Option.some.inj H
   go_enter Tryz.func23, Tryz.ntmps23
   go_wp2_with (((with_reducible refine gate_dst (N := 1) rfl ?_); (try (refine gate_guard (by rfl) ?_; dsimp only)); refine xq (N := 1) (cs := #[.bool true, .int .i64 a0_1, .string a0_2]) (t := 32) ?_; intro gb377 hg w6 hbox hb; have BK377 := xy (hbox); have GW377 := xs w hg; have GE377 := xs w hg; replace HB := xy (below_step xb hb); clear hb hbox hg; have hcz7_0 : w6.cell? ⟨gb377, 0, none⟩ = some (.bool true) := (kc BK377.out 0).trans rfl; have hcz7_1 : w6.cell? ⟨gb377, 1, none⟩ = some (.int .i64 a0_1) := (kc BK377.out 1).trans rfl; have hcz7_2 : w6.cell? ⟨gb377, 2, none⟩ = some (.string a0_2) := (kc BK377.out 2).trans rfl; have hfz7_0 := kf BK377.out 0; have hfz7_1 := kf BK377.out 1; have hfz7_2 := kf BK377.out 2))
   go_ret
   exact ⟨xe, xb⟩
 ·replace c2 := Bool.eq_false_iff.mpr c2
  subst c2
  rw [if_neg (show ¬ (false = true) by decide)] at H
  obtain rfl := Option.some.inj H
  go_enter Tryz.func23, Tryz.ntmps23
  go_wp2_with (((with_reducible refine gate_dst (N := 1) rfl ?_); (try (refine gate_guard (by rfl) ?_; dsimp only)); refine xq (N := 1) (cs := #[.bool false, .int .i64 a0_1, .string a0_2]) (t := 32) ?_; intro gb377 hg w8 hbox hb; have BK377 := xy (hbox); have GW377 := xs w hg; have GE377 := xs w hg; replace HB := xy (below_step xb hb); clear hb hbox hg; have hcz9_0 : w8.cell? ⟨gb377, 0, none⟩ = some (.bool false) := (kc BK377.out 0).trans rfl; have hcz9_1 : w8.cell? ⟨gb377, 1, none⟩ = some (.int .i64 a0_1) := (kc BK377.out 1).trans rfl; have hcz9_2 : w8.cell? ⟨gb377, 2, none⟩ = some (.string a0_2) := (kc BK377.out 2).trans rfl; have hfz9_0 := kf BK377.out 0; have hfz9_1 := kf BK377.out 1; have hfz9_2 := kf BK377.out 2))
  go_ret
  exact ⟨xe, xb⟩
def r13_div.f (a0 : Int) (a1 : Int) : Option (Int × Int) := if a1 = 0 then (some (0, 0)) else (if a1 = (-1) then (some (wrap64 (-a0), 0)) else (some (wrap64 (Int.tdiv a0 a1), Int.tmod a0 a1)))
set_option maxHeartbeats 8000000 in
set_option maxRecDepth 100000 in
theorem r13_div.calls (a0 : Int) (a1 : Int) (r1 : Int) (r2 : Int) (w : World) (hT : Tabs w) (h : r13_div.f a0 a1 = some (r1, r2)) :
  Calls Tryz.prog 59 #[.int .i64 a0, .int .i64 a1] w fun e w' => e = .returned (.tuple #[.int .i64 r1, .int .i64 r2]) ∧ Drawn0 w w' := by
 unfold r13_div.f at h
 have H := h
 clear h
 by_cases c3 : a1 = 0
 ·rw [if_pos c3] at H
  have c3b0 : (a1 == 0) = true := beq_iff_eq.mpr c3
  have c3b1 : (a1 != 0) = false := bne_eq_false_iff_eq.mpr c3
  clear c3
  simp only [Option.some.injEq, Prod.mk.injEq] at H
  obtain ⟨rfl, rfl⟩ := H
  go_enter Tryz.func59, Tryz.ntmps59
  go_wp2
  repeat (go_quiet (fail); try go_wp2)
  go_ret2
  exact ⟨xg, xz⟩
 ·rw [if_neg c3] at H
  have c3b0 : (a1 == 0) = false := beq_eq_false_iff_ne.mpr c3
  have c3b1 : (a1 != 0) = true := bne_iff_ne.mpr c3
  by_cases c4 : a1 = (-1)
  ·rw [if_pos c4] at H
   have c4b0 : (a1 == (-1)) = true := beq_iff_eq.mpr c4
   have c4b1 : (a1 != (-1)) = false := bne_eq_false_iff_eq.mpr c4
   clear c4
   simp only [Option.some.injEq, Prod.mk.injEq] at H
   obtain ⟨rfl, rfl⟩ := H
   go_enter Tryz.func59, Tryz.ntmps59
   go_wp2
   repeat (go_quiet (fail); try go_wp2)
   go_ret2
   exact ⟨xg, xz⟩
  ·rw [if_neg c4] at H
   have c4b0 : (a1 == (-1)) = false := beq_eq_false_iff_ne.mpr c4
   have c4b1 : (a1 != (-1)) = true := bne_iff_ne.mpr c4
   simp only [Option.some.injEq, Prod.mk.injEq] at H
   obtain ⟨rfl, rfl⟩ := H
   go_enter Tryz.func59, Tryz.ntmps59
   go_wp2
   repeat (go_quiet (fail); try go_wp2)
   go_ret2
   exact ⟨xg, xz⟩
def r13_yes.f (a0 : Bool) : Option (Bool × Int × ByteArray) := if a0 = true then ((r13_Num.f 1).bind fun bt379 => (some (bt379.1, bt379.2.1, bt379.2.2))) else ((r13_Num.f 0).bind fun bt382 => (some (bt382.1, bt382.2.1, bt382.2.2)))
set_option maxHeartbeats 8000000 in
set_option maxRecDepth 100000 in
theorem r13_yes.calls (a0 : Bool) (r1 : Bool) (r2 : Int) (r3 : ByteArray) (w : World) (hT : Tabs w) (h : r13_yes.f a0 = some (r1, r2, r3)) :
  Calls Tryz.prog 60 #[.bool a0] w fun e w' => e = .returned (.agg #[.bool r1, .int .i64 r2, .string r3]) ∧ Below w.heap.size w w' := by
 have hu32 := Tryz.underlying32
 have HB := xy (Below.refl w.heap.size w)
 unfold r13_yes.f at h
 have H := h
 clear h
 by_cases c2 : a0 = true
 ·subst c2
  rw [if_pos rfl] at H
  replace H := xj H
  obtain ⟨⟨t379, t380, t381⟩, A30, H⟩ := H
  replace H : (some (t379, t380, t381)) = some (r1, r2, r3) := H
  have A3 := xy A30
  clear A30
  simp only [Option.some.injEq, Prod.mk.injEq] at H
  obtain ⟨rfl, rfl, rfl⟩ := H
  go_enter Tryz.func60, Tryz.ntmps60
  go_wp2_with (first | ((with_reducible refine gate_dst (N := 2) rfl ?_); refine xq (N := 2) (cs := #[.bool false, .int .i64 0, .string (⟨#[]⟩ : ByteArray)]) (t := 32) ?_; intro gb378 hg w4 hbox hb; have BK378 := xy (hbox); have GW378 := xs w hg; have GE378 := xs w hg; replace HB := xy (below_step xb hb); clear hb hbox hg) | ((with_reducible refine gate_callee (f := 31) rfl ?_); refine goesL_ (some 4) rfl rfl Tryz.func31 (by kernel_rfl) rfl #[.int .i64 1] rfl xr ?_; (with_reducible refine (r13_Num.calls 1 t379 t380 t381 _ (Tabs.below hT xf) A3.out).mono ?_); rintro e w5 ⟨rfl, hb⟩; refine ⟨_, rfl, ?_⟩; replace BK378 := xd BK378.out hb; replace HB := xy (below_step xb hb); (try clear hb); (try clear hb2); (try clear hk); (try clear hi); have hcz6_0 : w5.cell? ⟨gb378, 0, none⟩ = some (.bool false) := (kc BK378.out 0).trans rfl; have hcz6_1 : w5.cell? ⟨gb378, 1, none⟩ = some (.int .i64 0) := (kc BK378.out 1).trans rfl; have hcz6_2 : w5.cell? ⟨gb378, 2, none⟩ = some (.string (⟨#[]⟩ : ByteArray)) := (kc BK378.out 2).trans rfl; have hfz6_0 := kf BK378.out 0; have hfz6_1 := kf BK378.out 1; have hfz6_2 := kf BK378.out 2))
  refine bodyPost_ret (results_cell_row rfl _ _ gb378 32 #[.bool t379, .int .i64 t380, .string t381] (0, 0) _ rfl (kp BK378.out) Tryz.underlying32 rfl (by kernel_rfl)) rfl ?_
  exact ⟨xe, xb⟩
 ·replace c2 := Bool.eq_false_iff.mpr c2
  subst c2
  rw [if_neg (show ¬ (false = true) by decide)] at H
  replace H := xj H
  obtain ⟨⟨t382, t383, t384⟩, A70, H⟩ := H
  replace H : (some (t382, t383, t384)) = some (r1, r2, r3) := H
  have A7 := xy A70
  clear A70
  simp only [Option.some.injEq, Prod.mk.injEq] at H
  obtain ⟨rfl, rfl, rfl⟩ := H
  go_enter Tryz.func60, Tryz.ntmps60
  go_wp2_with (first | ((with_reducible refine gate_dst (N := 2) rfl ?_); refine xq (N := 2) (cs := #[.bool false, .int .i64 0, .string (⟨#[]⟩ : ByteArray)]) (t := 32) ?_; intro gb378 hg w8 hbox hb; have BK378 := xy (hbox); have GW378 := xs w hg; have GE378 := xs w hg; replace HB := xy (below_step xb hb); clear hb hbox hg) | ((with_reducible refine gate_callee (f := 31) rfl ?_); refine goesL_ (some 5) rfl rfl Tryz.func31 (by kernel_rfl) rfl #[.int .i64 0] rfl xr ?_; (with_reducible refine (r13_Num.calls 0 t382 t383 t384 _ (Tabs.below hT xf) A7.out).mono ?_); rintro e w9 ⟨rfl, hb⟩; refine ⟨_, rfl, ?_⟩; replace BK378 := xd BK378.out hb; replace HB := xy (below_step xb hb); (try clear hb); (try clear hb2); (try clear hk); (try clear hi); have hcz10_0 : w9.cell? ⟨gb378, 0, none⟩ = some (.bool false) := (kc BK378.out 0).trans rfl; have hcz10_1 : w9.cell? ⟨gb378, 1, none⟩ = some (.int .i64 0) := (kc BK378.out 1).trans rfl; have hcz10_2 : w9.cell? ⟨gb378, 2, none⟩ = some (.string (⟨#[]⟩ : ByteArray)) := (kc BK378.out 2).trans rfl; have hfz10_0 := kf BK378.out 0; have hfz10_1 := kf BK378.out 1; have hfz10_2 := kf BK378.out 2))
  refine bodyPost_ret (results_cell_row rfl _ _ gb378 32 #[.bool t382, .int .i64 t383, .string t384] (0, 0) _ rfl (kp BK378.out) Tryz.underlying32 rfl (by kernel_rfl)) rfl ?_
  exact ⟨xe, xb⟩
/- Walked functions, by this session's program over the kit's print. -/
def r13_Compare.j0 : Nat → Bool → Bool → Int → ByteArray → Bool → Int → ByteArray → Option (Int)
 | 0, _, _, _, _, _, _, _ => none
 | k + 1, x30, x386000, x386001, x386002, x387000, x387001, x387002 => if x30 = true then (some (-1)) else (if x386001 = x387001 then (if x386002.toList = x387002.toList then (some 0) else (some 1)) else (some 1))
def r13_Compare.f (k : Nat) (a0_0 : Bool) (a0_1 : Int) (a0_2 : ByteArray) (a1_0 : Bool) (a1_1 : Int) (a1_2 : ByteArray) : Option (Int) := if (a0_0 != a1_0) = true then (if a1_0 = true then (some (-1)) else (some 1)) else (if a0_1 < a1_1 then (r13_Compare.j0 k true a0_0 a0_1 a0_2 a1_0 a1_1 a1_2) else (if a0_1 = a1_1 then (r13_Compare.j0 k (Op.bytesLess a0_2.toList a1_2.toList) a0_0 a0_1 a0_2 a1_0 a1_1 a1_2) else (r13_Compare.j0 k false a0_0 a0_1 a0_2 a1_0 a1_1 a1_2)))
theorem r13_Compare.mono_l : ∀ k, (∀ y0 y1 y2 y3 y4 y5 y6, LeO (r13_Compare.j0 k y0 y1 y2 y3 y4 y5 y6) (r13_Compare.j0 (k + 1) y0 y1 y2 y3 y4 y5 y6))
 | 0 => fun _ _ _ _ _ _ _ r h => by simp [r13_Compare.j0] at h
 | k + 1 => by
  have ih0 := r13_Compare.mono_l k
  ·intro y0 y1 y2 y3 y4 y5 y6
   unfold r13_Compare.j0
   repeat' (with_reducible first | exact ih0 _ _ _ _ _ _ _ | exact LeO.refl _ | exact LeO.none _ | refine LeO.ite ?_ ?_ | refine LeO.bind ?_ (fun _ => ?_))
theorem r13_Compare.mono : ∀ a0 a1 a2 a3 a4 a5 k, LeO (r13_Compare.f k a0 a1 a2 a3 a4 a5) (r13_Compare.f (k + 1) a0 a1 a2 a3 a4 a5) := by
 intro a0 a1 a2 a3 a4 a5 k
 have ih0 := r13_Compare.mono_l k
 unfold r13_Compare.f
 repeat' (with_reducible first | exact ih0 _ _ _ _ _ _ _ | exact LeO.refl _ | exact LeO.none _ | refine LeO.ite ?_ ?_ | refine LeO.bind ?_ (fun _ => ?_))
set_option maxHeartbeats 8000000 in
set_option maxRecDepth 100000 in
theorem r13_Compare.calls (k : Nat) (a0_0 : Bool) (a0_1 : Int) (a0_2 : ByteArray) (a1_0 : Bool) (a1_1 : Int) (a1_2 : ByteArray) (r : Int) (w : World) (hT : Tabs w) (h : r13_Compare.f k a0_0 a0_1 a0_2 a1_0 a1_1 a1_2 = some r) :
  Calls Tryz.prog 61 #[.agg #[.bool a0_0, .int .i64 a0_1, .string a0_2], .agg #[.bool a1_0, .int .i64 a1_1, .string a1_2]] w fun e w' => e = .returned (.int .i64 r) ∧ Below w.heap.size w w' := by
 have hu32 := Tryz.underlying32
 have HB := xy (Below.refl w.heap.size w)
 unfold r13_Compare.f at h
 have H := h
 clear h
 by_cases c3 : (a0_0 != a1_0) = true
 ·rw [if_pos c3] at H
  have c3b0 : (a0_0 != a1_0) = true := c3
  (try (have c3b1 : decide (a0_0 = a1_0) = false := by simpa using c3))
  (try (have c3b2 : (a0_0 == a1_0) = false := by simpa using c3))
  (try (have c3b3 : ¬ (a0_0 = a1_0) := by simpa using c3))
  clear c3
  by_cases c4 : a1_0 = true
  ·subst c4
   rw [if_pos rfl] at H
   obtain rfl := Option.some.inj H
   go_enter Tryz.func61, Tryz.ntmps61
   go_wp2_with (first | ((with_reducible refine gate_dst (N := 2) rfl ?_); refine xq (N := 2) (cs := #[.bool a0_0, .int .i64 a0_1, .string a0_2]) (t := 32) ?_; intro gb385 hg w5 hbox hb; have BK385 := xy (hbox); have GW385 := xs w hg; have GE385 := xs w hg; replace HB := xy (below_step xb hb); clear hb hbox hg) | ((with_reducible refine gate_dst (N := 3) rfl ?_); refine xq (N := 3) (cs := #[.bool true, .int .i64 a1_1, .string a1_2]) (t := 32) ?_; intro gb386 hg w6 hbox hb; have BK386 := xy (hbox); have GW386 := xs w hg; have GE386 := xs w hg; replace HB := xy (below_step xb hb); have NB385_386 := xn hg BK385.out; have NB386_385 := xp hg BK385.out; replace BK385 := xd BK385.out hb; clear hb hbox hg; have hnb7 := NB385_386.out; have hnc7 := NB386_385.out; have hcz8_0 : w6.cell? ⟨gb385, 0, none⟩ = some (.bool a0_0) := (kc BK385.out 0).trans rfl; have hcz8_1 : w6.cell? ⟨gb385, 1, none⟩ = some (.int .i64 a0_1) := (kc BK385.out 1).trans rfl; have hcz8_2 : w6.cell? ⟨gb385, 2, none⟩ = some (.string a0_2) := (kc BK385.out 2).trans rfl; have hfz8_0 := kf BK385.out 0; have hfz8_1 := kf BK385.out 1; have hfz8_2 := kf BK385.out 2; have hcz9_0 : w6.cell? ⟨gb386, 0, none⟩ = some (.bool true) := (kc BK386.out 0).trans rfl; have hcz9_1 : w6.cell? ⟨gb386, 1, none⟩ = some (.int .i64 a1_1) := (kc BK386.out 1).trans rfl; have hcz9_2 : w6.cell? ⟨gb386, 2, none⟩ = some (.string a1_2) := (kc BK386.out 2).trans rfl; have hfz9_0 := kf BK386.out 0; have hfz9_1 := kf BK386.out 1; have hfz9_2 := kf BK386.out 2))
   go_ret
   exact ⟨xe, xb⟩
  ·replace c4 := Bool.eq_false_iff.mpr c4
   subst c4
   rw [if_neg (show ¬ (false = true) by decide)] at H
   obtain rfl := Option.some.inj H
   go_enter Tryz.func61, Tryz.ntmps61
   go_wp2_with (first | ((with_reducible refine gate_dst (N := 2) rfl ?_); refine xq (N := 2) (cs := #[.bool a0_0, .int .i64 a0_1, .string a0_2]) (t := 32) ?_; intro gb385 hg w10 hbox hb; have BK385 := xy (hbox); have GW385 := xs w hg; have GE385 := xs w hg; replace HB := xy (below_step xb hb); clear hb hbox hg) | ((with_reducible refine gate_dst (N := 3) rfl ?_); refine xq (N := 3) (cs := #[.bool false, .int .i64 a1_1, .string a1_2]) (t := 32) ?_; intro gb386 hg w11 hbox hb; have BK386 := xy (hbox); have GW386 := xs w hg; have GE386 := xs w hg; replace HB := xy (below_step xb hb); have NB385_386 := xn hg BK385.out; have NB386_385 := xp hg BK385.out; replace BK385 := xd BK385.out hb; clear hb hbox hg; have hnb12 := NB385_386.out; have hnc12 := NB386_385.out; have hcz13_0 : w11.cell? ⟨gb385, 0, none⟩ = some (.bool a0_0) := (kc BK385.out 0).trans rfl; have hcz13_1 : w11.cell? ⟨gb385, 1, none⟩ = some (.int .i64 a0_1) := (kc BK385.out 1).trans rfl; have hcz13_2 : w11.cell? ⟨gb385, 2, none⟩ = some (.string a0_2) := (kc BK385.out 2).trans rfl; have hfz13_0 := kf BK385.out 0; have hfz13_1 := kf BK385.out 1; have hfz13_2 := kf BK385.out 2; have hcz14_0 : w11.cell? ⟨gb386, 0, none⟩ = some (.bool false) := (kc BK386.out 0).trans rfl; have hcz14_1 : w11.cell? ⟨gb386, 1, none⟩ = some (.int .i64 a1_1) := (kc BK386.out 1).trans rfl; have hcz14_2 : w11.cell? ⟨gb386, 2, none⟩ = some (.string a1_2) := (kc BK386.out 2).trans rfl; have hfz14_0 := kf BK386.out 0; have hfz14_1 := kf BK386.out 1; have hfz14_2 := kf BK386.out 2))
   go_ret
   exact ⟨xe, xb⟩
 ·rw [if_neg c3] at H
  have c3b0 : (a0_0 != a1_0) = false := by simpa using c3
  (try (have c3b1 : decide (a0_0 = a1_0) = true := by simpa using c3))
  (try (have c3b2 : (a0_0 == a1_0) = true := by simpa using c3))
  clear c3
  have HC15 := xy H
  clear H
  go_enter Tryz.func61, Tryz.ntmps61
  go_upto_region 5 with (first | ((with_reducible refine gate_dst (N := 2) rfl ?_); refine xq (N := 2) (cs := #[.bool a0_0, .int .i64 a0_1, .string a0_2]) (t := 32) ?_; intro gb385 hg w16 hbox hb; have BK385 := xy (hbox); have GW385 := xs w hg; have GE385 := xs w hg; replace HB := xy (below_step xb hb); clear hb hbox hg) | ((with_reducible refine gate_dst (N := 3) rfl ?_); refine xq (N := 3) (cs := #[.bool a1_0, .int .i64 a1_1, .string a1_2]) (t := 32) ?_; intro gb386 hg w17 hbox hb; have BK386 := xy (hbox); have GW386 := xs w hg; have GE386 := xs w hg; replace HB := xy (below_step xb hb); have NB385_386 := xn hg BK385.out; have NB386_385 := xp hg BK385.out; replace BK385 := xd BK385.out hb; clear hb hbox hg; have hnb18 := NB385_386.out; have hnc18 := NB386_385.out; have hcz19_0 : w17.cell? ⟨gb385, 0, none⟩ = some (.bool a0_0) := (kc BK385.out 0).trans rfl; have hcz19_1 : w17.cell? ⟨gb385, 1, none⟩ = some (.int .i64 a0_1) := (kc BK385.out 1).trans rfl; have hcz19_2 : w17.cell? ⟨gb385, 2, none⟩ = some (.string a0_2) := (kc BK385.out 2).trans rfl; have hfz19_0 := kf BK385.out 0; have hfz19_1 := kf BK385.out 1; have hfz19_2 := kf BK385.out 2; have hcz20_0 : w17.cell? ⟨gb386, 0, none⟩ = some (.bool a1_0) := (kc BK386.out 0).trans rfl; have hcz20_1 : w17.cell? ⟨gb386, 1, none⟩ = some (.int .i64 a1_1) := (kc BK386.out 1).trans rfl; have hcz20_2 : w17.cell? ⟨gb386, 2, none⟩ = some (.string a1_2) := (kc BK386.out 2).trans rfl; have hfz20_0 := kf BK386.out 0; have hfz20_1 := kf BK386.out 1; have hfz20_2 := kf BK386.out 2))
  (try simp only [Act.put, List.setIfInBounds_toArray, List.set_cons_zero, List.set_cons_succ])
  go_cut [30] (fun v30 wc => ∃ (kq : Nat) (x30_14 : Bool), v30 = .bool x30_14 ∧ Aside0 (r13_Compare.j0 kq x30_14 a0_0 a0_1 a0_2 a1_0 a1_1 a1_2 = some r) ∧ Aside0 (kq ≤ k) ∧ Aside0 (wc.heap[gb385]? = some (.cells #[.bool a0_0, .int .i64 a0_1, .string a0_2] 32 (0, 0))) ∧ Aside0 (wc.heap[gb386]? = some (.cells #[.bool a1_0, .int .i64 a1_1, .string a1_2] 32 (0, 0))) ∧ Aside0 (Below w.heap.size w wc))
  case first =>
   have H := HC15.out
   clear HC15
   by_cases c21 : a0_1 < a1_1
   ·rw [if_pos c21] at H
    have c21b0 : decide (a0_1 < a1_1) = true := decide_eq_true c21
    clear c21
    (first | rw [c21b0] | (simp only [i64_w, i32_w]; rw [c21b0]) | skip)
    have H' := xy H
    clear H
    have hnb22 := NB385_386.out
    have hnc22 := NB386_385.out
    have hcz23_0 : w17.cell? ⟨gb385, 0, none⟩ = some (.bool a0_0) := (kc BK385.out 0).trans rfl
    have hcz23_1 : w17.cell? ⟨gb385, 1, none⟩ = some (.int .i64 a0_1) := (kc BK385.out 1).trans rfl
    have hcz23_2 : w17.cell? ⟨gb385, 2, none⟩ = some (.string a0_2) := (kc BK385.out 2).trans rfl
    have hfz23_0 := kf BK385.out 0
    have hfz23_1 := kf BK385.out 1
    have hfz23_2 := kf BK385.out 2
    have hcz24_0 : w17.cell? ⟨gb386, 0, none⟩ = some (.bool a1_0) := (kc BK386.out 0).trans rfl
    have hcz24_1 : w17.cell? ⟨gb386, 1, none⟩ = some (.int .i64 a1_1) := (kc BK386.out 1).trans rfl
    have hcz24_2 : w17.cell? ⟨gb386, 2, none⟩ = some (.string a1_2) := (kc BK386.out 2).trans rfl
    have hfz24_0 := kf BK386.out 0
    have hfz24_1 := kf BK386.out 1
    have hfz24_2 := kf BK386.out 2
    go_wp2
    go_meet
    case rel => exact ⟨_, (true), xg, H', ⟨by first | omega | exact Nat.le_refl _⟩, ⟨by (with_reducible repeat (first | refine blk_drewN ?_ _ | refine blk_drew ?_ | refine blk_alloc ?_ _)); exact BK385.out⟩, ⟨by (with_reducible repeat (first | refine blk_drewN ?_ _ | refine blk_drew ?_ | refine blk_alloc ?_ _)); exact BK386.out⟩, ⟨xb⟩⟩
   ·rw [if_neg c21] at H
    have c21b0 : decide (a0_1 < a1_1) = false := decide_eq_false c21
    clear c21
    (first | rw [c21b0] | (simp only [i64_w, i32_w]; rw [c21b0]) | skip)
    by_cases c25 : a0_1 = a1_1
    ·rw [if_pos c25] at H
     have c25b0 : (a0_1 == a1_1) = true := beq_iff_eq.mpr c25
     have c25b1 : (a0_1 != a1_1) = false := bne_eq_false_iff_eq.mpr c25
     clear c25
     have H' := xy H
     clear H
     have hnb26 := NB385_386.out
     have hnc26 := NB386_385.out
     have hcz27_0 : w17.cell? ⟨gb385, 0, none⟩ = some (.bool a0_0) := (kc BK385.out 0).trans rfl
     have hcz27_1 : w17.cell? ⟨gb385, 1, none⟩ = some (.int .i64 a0_1) := (kc BK385.out 1).trans rfl
     have hcz27_2 : w17.cell? ⟨gb385, 2, none⟩ = some (.string a0_2) := (kc BK385.out 2).trans rfl
     have hfz27_0 := kf BK385.out 0
     have hfz27_1 := kf BK385.out 1
     have hfz27_2 := kf BK385.out 2
     have hcz28_0 : w17.cell? ⟨gb386, 0, none⟩ = some (.bool a1_0) := (kc BK386.out 0).trans rfl
     have hcz28_1 : w17.cell? ⟨gb386, 1, none⟩ = some (.int .i64 a1_1) := (kc BK386.out 1).trans rfl
     have hcz28_2 : w17.cell? ⟨gb386, 2, none⟩ = some (.string a1_2) := (kc BK386.out 2).trans rfl
     have hfz28_0 := kf BK386.out 0
     have hfz28_1 := kf BK386.out 1
     have hfz28_2 := kf BK386.out 2
     go_wp2
     go_meet
     case rel => exact ⟨_, ((Op.bytesLess a0_2.toList a1_2.toList)), xg, H', ⟨by first | omega | exact Nat.le_refl _⟩, ⟨by (with_reducible repeat (first | refine blk_drewN ?_ _ | refine blk_drew ?_ | refine blk_alloc ?_ _)); exact BK385.out⟩, ⟨by (with_reducible repeat (first | refine blk_drewN ?_ _ | refine blk_drew ?_ | refine blk_alloc ?_ _)); exact BK386.out⟩, ⟨xb⟩⟩
    ·rw [if_neg c25] at H
     have c25b0 : (a0_1 == a1_1) = false := beq_eq_false_iff_ne.mpr c25
     have c25b1 : (a0_1 != a1_1) = true := bne_iff_ne.mpr c25
     have H' := xy H
     clear H
     have hnb29 := NB385_386.out
     have hnc29 := NB386_385.out
     have hcz30_0 : w17.cell? ⟨gb385, 0, none⟩ = some (.bool a0_0) := (kc BK385.out 0).trans rfl
     have hcz30_1 : w17.cell? ⟨gb385, 1, none⟩ = some (.int .i64 a0_1) := (kc BK385.out 1).trans rfl
     have hcz30_2 : w17.cell? ⟨gb385, 2, none⟩ = some (.string a0_2) := (kc BK385.out 2).trans rfl
     have hfz30_0 := kf BK385.out 0
     have hfz30_1 := kf BK385.out 1
     have hfz30_2 := kf BK385.out 2
     have hcz31_0 : w17.cell? ⟨gb386, 0, none⟩ = some (.bool a1_0) := (kc BK386.out 0).trans rfl
     have hcz31_1 : w17.cell? ⟨gb386, 1, none⟩ = some (.int .i64 a1_1) := (kc BK386.out 1).trans rfl
     have hcz31_2 : w17.cell? ⟨gb386, 2, none⟩ = some (.string a1_2) := (kc BK386.out 2).trans rfl
     have hfz31_0 := kf BK386.out 0
     have hfz31_1 := kf BK386.out 1
     have hfz31_2 := kf BK386.out 2
     go_wp2
     go_meet
     case rel => exact ⟨_, (false), xg, H', ⟨by first | omega | exact Nat.le_refl _⟩, ⟨by (with_reducible repeat (first | refine blk_drewN ?_ _ | refine blk_drew ?_ | refine blk_alloc ?_ _)); exact BK385.out⟩, ⟨by (with_reducible repeat (first | refine blk_drewN ?_ _ | refine blk_drew ?_ | refine blk_alloc ?_ _)); exact BK386.out⟩, ⟨xb⟩⟩
  case rest =>
   clear HC15
   try clear c1
   try clear c2
   try clear p2
   try clear c3
   try clear c3b0
   try clear c3b1
   try clear c3b2
   try clear c4
   try clear c6
   try clear c7
   try clear c12
   try clear c18
   try clear c21
   try clear c21b0
   try clear c22
   try clear c25
   try clear c25b0
   try clear c25b1
   try clear c26
   try clear c29
   try clear hcz13_0
   try clear hcz13_1
   try clear hcz13_2
   try clear hcz14_0
   try clear hcz14_1
   try clear hcz14_2
   try clear hcz19_0
   try clear hcz19_1
   try clear hcz19_2
   try clear hcz20_0
   try clear hcz20_1
   try clear hcz20_2
   try clear hcz23_0
   try clear hcz23_1
   try clear hcz23_2
   try clear hcz24_0
   try clear hcz24_1
   try clear hcz24_2
   try clear hcz27_0
   try clear hcz27_1
   try clear hcz27_2
   try clear hcz28_0
   try clear hcz28_1
   try clear hcz28_2
   try clear hcz30_0
   try clear hcz30_1
   try clear hcz30_2
   try clear hcz31_0
   try clear hcz31_1
   try clear hcz31_2
   try clear hcz8_0
   try clear hcz8_1
   try clear hcz8_2
   try clear hcz9_0
   try clear hcz9_1
   try clear hcz9_2
   try clear hfz13_0
   try clear hfz13_1
   try clear hfz13_2
   try clear hfz14_0
   try clear hfz14_1
   try clear hfz14_2
   try clear hfz19_0
   try clear hfz19_1
   try clear hfz19_2
   try clear hfz20_0
   try clear hfz20_1
   try clear hfz20_2
   try clear hfz23_0
   try clear hfz23_1
   try clear hfz23_2
   try clear hfz24_0
   try clear hfz24_1
   try clear hfz24_2
   try clear hfz27_0
   try clear hfz27_1
   try clear hfz27_2
   try clear hfz28_0
   try clear hfz28_1
   try clear hfz28_2
   try clear hfz30_0
   try clear hfz30_1
   try clear hfz30_2
   try clear hfz31_0
   try clear hfz31_1
   try clear hfz31_2
   try clear hfz8_0
   try clear hfz8_1
   try clear hfz8_2
   try clear hfz9_0
   try clear hfz9_1
   try clear hfz9_2
   obtain ⟨kq, x30_14, rfl, HA, HJ14, BK385, BK386, HB⟩ := hcut
   cases kq with
   | zero => exact absurd HA.out (by simp [r13_Compare.j0])
   | succ kj14 =>
    have H := HA.out
    clear HA
    simp only [r13_Compare.j0] at H
    by_cases c32 : x30_14 = true
    ·subst c32
     rw [if_pos rfl] at H
     obtain rfl := Option.some.inj H
     go_wp2
     go_ret
     exact ⟨xe, xb⟩
    ·replace c32 := Bool.eq_false_iff.mpr c32
     subst c32
     rw [if_neg (show ¬ (false = true) by decide)] at H
     by_cases c33 : a0_1 = a1_1
     ·rw [if_pos c33] at H
      have c33b0 : (a0_1 == a1_1) = true := beq_iff_eq.mpr c33
      have c33b1 : (a0_1 != a1_1) = false := bne_eq_false_iff_eq.mpr c33
      clear c33
      by_cases c34 : a0_2.toList = a1_2.toList
      ·rw [if_pos c34] at H
       have c34b0 : (a0_2.toList == a1_2.toList) = true := beq_iff_eq.mpr c34
       have c34b1 : (a0_2.toList != a1_2.toList) = false := bne_eq_false_iff_eq.mpr c34
       clear c34
       obtain rfl := Option.some.inj H
       have hnb35 := NB385_386.out
       have hnc35 := NB386_385.out
       have hcz36_0 : wc.cell? ⟨gb385, 0, none⟩ = some (.bool a0_0) := (kc BK385.out 0).trans rfl
       have hcz36_1 : wc.cell? ⟨gb385, 1, none⟩ = some (.int .i64 a0_1) := (kc BK385.out 1).trans rfl
       have hcz36_2 : wc.cell? ⟨gb385, 2, none⟩ = some (.string a0_2) := (kc BK385.out 2).trans rfl
       have hfz36_0 := kf BK385.out 0
       have hfz36_1 := kf BK385.out 1
       have hfz36_2 := kf BK385.out 2
       have hcz37_0 : wc.cell? ⟨gb386, 0, none⟩ = some (.bool a1_0) := (kc BK386.out 0).trans rfl
       have hcz37_1 : wc.cell? ⟨gb386, 1, none⟩ = some (.int .i64 a1_1) := (kc BK386.out 1).trans rfl
       have hcz37_2 : wc.cell? ⟨gb386, 2, none⟩ = some (.string a1_2) := (kc BK386.out 2).trans rfl
       have hfz37_0 := kf BK386.out 0
       have hfz37_1 := kf BK386.out 1
       have hfz37_2 := kf BK386.out 2
       go_wp2
       go_ret
       exact ⟨xe, xb⟩
      ·rw [if_neg c34] at H
       have c34b0 : (a0_2.toList == a1_2.toList) = false := beq_eq_false_iff_ne.mpr c34
       have c34b1 : (a0_2.toList != a1_2.toList) = true := bne_iff_ne.mpr c34
       obtain rfl := Option.some.inj H
       have hnb38 := NB385_386.out
       have hnc38 := NB386_385.out
       have hcz39_0 : wc.cell? ⟨gb385, 0, none⟩ = some (.bool a0_0) := (kc BK385.out 0).trans rfl
       have hcz39_1 : wc.cell? ⟨gb385, 1, none⟩ = some (.int .i64 a0_1) := (kc BK385.out 1).trans rfl
       have hcz39_2 : wc.cell? ⟨gb385, 2, none⟩ = some (.string a0_2) := (kc BK385.out 2).trans rfl
       have hfz39_0 := kf BK385.out 0
       have hfz39_1 := kf BK385.out 1
       have hfz39_2 := kf BK385.out 2
       have hcz40_0 : wc.cell? ⟨gb386, 0, none⟩ = some (.bool a1_0) := (kc BK386.out 0).trans rfl
       have hcz40_1 : wc.cell? ⟨gb386, 1, none⟩ = some (.int .i64 a1_1) := (kc BK386.out 1).trans rfl
       have hcz40_2 : wc.cell? ⟨gb386, 2, none⟩ = some (.string a1_2) := (kc BK386.out 2).trans rfl
       have hfz40_0 := kf BK386.out 0
       have hfz40_1 := kf BK386.out 1
       have hfz40_2 := kf BK386.out 2
       go_wp2
       go_ret
       exact ⟨xe, xb⟩
     ·rw [if_neg c33] at H
      have c33b0 : (a0_1 == a1_1) = false := beq_eq_false_iff_ne.mpr c33
      have c33b1 : (a0_1 != a1_1) = true := bne_iff_ne.mpr c33
      obtain rfl := Option.some.inj H
      have hnb41 := NB385_386.out
      have hnc41 := NB386_385.out
      have hcz42_0 : wc.cell? ⟨gb385, 0, none⟩ = some (.bool a0_0) := (kc BK385.out 0).trans rfl
      have hcz42_1 : wc.cell? ⟨gb385, 1, none⟩ = some (.int .i64 a0_1) := (kc BK385.out 1).trans rfl
      have hcz42_2 : wc.cell? ⟨gb385, 2, none⟩ = some (.string a0_2) := (kc BK385.out 2).trans rfl
      have hfz42_0 := kf BK385.out 0
      have hfz42_1 := kf BK385.out 1
      have hfz42_2 := kf BK385.out 2
      have hcz43_0 : wc.cell? ⟨gb386, 0, none⟩ = some (.bool a1_0) := (kc BK386.out 0).trans rfl
      have hcz43_1 : wc.cell? ⟨gb386, 1, none⟩ = some (.int .i64 a1_1) := (kc BK386.out 1).trans rfl
      have hcz43_2 : wc.cell? ⟨gb386, 2, none⟩ = some (.string a1_2) := (kc BK386.out 2).trans rfl
      have hfz43_0 := kf BK386.out 0
      have hfz43_1 := kf BK386.out 1
      have hfz43_2 := kf BK386.out 2
      go_wp2
      go_ret
      exact ⟨xe, xb⟩
end Go.Proofs.YtnodgcakmolleaaGreatDoor.PX
