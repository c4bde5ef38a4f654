/- Walked functions, by this session's program over the kit's print. -/
import Derived.Test.YtebofnoljebakaaGreatDoorPXx0
import Derived.Test.YtebofnoljebakaaGreatDoorPXx18
namespace Go.Proofs.YtebofnoljebakaaGreatDoor.PX
open Go.RowKit Go.Proofs.YtebofnoljebakaaGreatDoorW.PrintWords Go.Proofs.YtebofnoljebakaaGreatDoorW.PrintLast Go.Proofs.YtebofnoljebakaaGreatDoorW.PrintMore
attribute [local go_sem] xm_gtr max2_int min2_int max_two min_two max_three min_three max_four min_four
set_option linter.unusedVariables false
set_option linter.unusedSimpArgs false
/- Walked functions, by this session's program over the kit's print. -/
def r19_InOrder.l0 : Nat → List (S74) → Int → Bool → List (S81) → List (S81) → List (S81) → Int → List (S81) → Bool → Int → ByteArray → Bool → Int → Bool → Bool → Int → Option (Bool)
 | 0, _, _, _, _, _, _, _, _, _, _, _, _, _, _, _, _ => none
 | k + 1, x1, x5, x470000, x470001, x470002, x470003, x470004, x470005, x470006, x470007, x470008, x470009, x470010, x470011, x470012, x470013 => if x5 < (x1.length : Int) then (if 0 ≤ x5 then (if 0 ≤ (wrap64 (x5 - 1)) then (if (wrap64 (x5 - 1)) < (x1.length : Int) then ((r17_Ahead.f k x470000 x470001 x470002 x470003 x470004 x470005 x470006 x470007 x470008 x470009 x470010 x470011 x470012 x470013 ((rd_T74 x1 x5).f0) ((rd_T74 x1 (wrap64 (x5 - 1))).f0)).bind fun t472 => (if t472 = true then (some false) else (r19_InOrder.l0 k x1 (wrap64 (x5 + 1)) x470000 x470001 x470002 x470003 x470004 x470005 x470006 x470007 x470008 x470009 x470010 x470011 x470012 x470013))) else (none)) else (none)) else (none)) else (some true)
def r19_InOrder.f (k : Nat) (a0_0 : Bool) (l0_1 : List (S81)) (l0_2 : List (S81)) (l0_3 : List (S81)) (a0_4 : Int) (l0_5 : List (S81)) (a0_6 : Bool) (a0_7 : Int) (a0_8 : ByteArray) (a0_9 : Bool) (a0_10 : Int) (a0_11 : Bool) (a0_12 : Bool) (a0_13 : Int) (l1 : List (S74)) : Option (Bool) := r19_InOrder.l0 k l1 1 a0_0 l0_1 l0_2 l0_3 a0_4 l0_5 a0_6 a0_7 a0_8 a0_9 a0_10 a0_11 a0_12 a0_13
theorem r19_InOrder.mono_l : ∀ k, (∀ y0 y1 y2 y3 y4 y5 y6 y7 y8 y9 y10 y11 y12 y13 y14 y15, LeO (r19_InOrder.l0 k y0 y1 y2 y3 y4 y5 y6 y7 y8 y9 y10 y11 y12 y13 y14 y15) (r19_InOrder.l0 (k + 1) y0 y1 y2 y3 y4 y5 y6 y7 y8 y9 y10 y11 y12 y13 y14 y15))
 | 0 => fun _ _ _ _ _ _ _ _ _ _ _ _ _ _ _ _ r h => by simp [r19_InOrder.l0] at h
 | k + 1 => by
  have ih0 := r19_InOrder.mono_l k
  ·intro y0 y1 y2 y3 y4 y5 y6 y7 y8 y9 y10 y11 y12 y13 y14 y15
   unfold r19_InOrder.l0
   repeat' (with_reducible first | exact ih0 _ _ _ _ _ _ _ _ _ _ _ _ _ _ _ _ | exact r17_Ahead.mono _ _ _ _ _ _ _ _ _ _ _ _ _ _ _ _ _ | exact LeO.refl _ | exact LeO.none _ | refine LeO.ite ?_ ?_ | refine LeO.bind ?_ (fun _ => ?_))
theorem r19_InOrder.mono : ∀ a0 a1 a2 a3 a4 a5 a6 a7 a8 a9 a10 a11 a12 a13 a14 k, LeO (r19_InOrder.f k a0 a1 a2 a3 a4 a5 a6 a7 a8 a9 a10 a11 a12 a13 a14) (r19_InOrder.f (k + 1) a0 a1 a2 a3 a4 a5 a6 a7 a8 a9 a10 a11 a12 a13 a14) := by
 intro a0 a1 a2 a3 a4 a5 a6 a7 a8 a9 a10 a11 a12 a13 a14 k
 have ih0 := r19_InOrder.mono_l k
 unfold r19_InOrder.f
 repeat' (with_reducible first | exact ih0 _ _ _ _ _ _ _ _ _ _ _ _ _ _ _ _ | exact r17_Ahead.mono _ _ _ _ _ _ _ _ _ _ _ _ _ _ _ _ _ | exact LeO.refl _ | exact LeO.none _ | refine LeO.ite ?_ ?_ | refine LeO.bind ?_ (fun _ => ?_))
def r19_InOrder.T4 : Bool × List (List Nat × List Nat) := (true, [([], []), ([], []), ([], []), ([1, 2], [1, 2]), ([3], [3]), ([4], [4]), ([], []), ([], []), ([7], [7]), ([6, 8], [6, 8]), ([9], [9]), ([10], [10]), ([0, 5, 11], [0, 5, 11])])
def r19_InOrder.B4 : List Nat := [0, 0, 0, 6, 14, 30, 0, 0, 128, 448, 960, 1984, 4095]
theorem r19_InOrder.tab4 : rtab .any (opsOf Tryz.f18 4) = r19_InOrder.T4 := by kernel_rfl
theorem r19_InOrder.bits4 : waitsOk r19_InOrder.T4.2 r19_InOrder.B4 = true := by kernel_rfl
set_option maxHeartbeats 8000000 in
set_option maxRecDepth 100000 in
theorem r19_InOrder.calls (k : Nat) (a0_0 : Bool) (A0_1 : Option Addr) (c0_1 : Nat) (l0_1 : List (S81)) (A0_2 : Option Addr) (c0_2 : Nat) (l0_2 : List (S81)) (A0_3 : Option Addr) (c0_3 : Nat) (l0_3 : List (S81)) (a0_4 : Int) (A0_5 : Option Addr) (c0_5 : Nat) (l0_5 : List (S81)) (a0_6 : Bool) (a0_7 : Int) (a0_8 : ByteArray) (a0_9 : Bool) (a0_10 : Int) (a0_11 : Bool) (a0_12 : Bool) (a0_13 : Int) (A1 : Option Addr) (c1 : Nat) (l1 : List (S74)) (r : Bool) (w : World) (hT : Tabs w) (hr0_1 : Kd.C k81 w A0_1 l0_1.length l0_1) (hc0_1 : l0_1.length ≤ c0_1) (hr0_2 : Kd.C k81 w A0_2 l0_2.length l0_2) (hc0_2 : l0_2.length ≤ c0_2) (hr0_3 : Kd.C k81 w A0_3 l0_3.length l0_3) (hc0_3 : l0_3.length ≤ c0_3) (hr0_5 : Kd.C k81 w A0_5 l0_5.length l0_5) (hc0_5 : l0_5.length ≤ c0_5) (hr1 : Kd.C k74 w A1 l1.length l1) (hc1 : l1.length ≤ c1) (h : r19_InOrder.f k a0_0 l0_1 l0_2 l0_3 a0_4 l0_5 a0_6 a0_7 a0_8 a0_9 a0_10 a0_11 a0_12 a0_13 l1 = some r) :
  Calls Tryz.prog 18 #[.agg #[.bool a0_0, .slice A0_1 l0_1.length c0_1, .slice A0_2 l0_2.length c0_2, .slice A0_3 l0_3.length c0_3, .int .i64 a0_4, .slice A0_5 l0_5.length c0_5, .bool a0_6, .int .i64 a0_7, .string a0_8, .bool a0_9, .int .i64 a0_10, .bool a0_11, .bool a0_12, .int .i64 a0_13], .slice A1 l1.length c1] w fun e w' => e = .returned (.bool r) ∧ Below w.heap.size w w' := by
 have hu45 := Tryz.underlying45
 have HR0_1 := xy hr0_1
 have HC0_1 := xy hc0_1
 clear hr0_1 hc0_1
 have HR0_2 := xy hr0_2
 have HC0_2 := xy hc0_2
 clear hr0_2 hc0_2
 have HR0_3 := xy hr0_3
 have HC0_3 := xy hc0_3
 clear hr0_3 hc0_3
 have HR0_5 := xy hr0_5
 have HC0_5 := xy hc0_5
 clear hr0_5 hc0_5
 have HR1 := xy hr1
 have HC1 := xy hc1
 clear hr1 hc1
 have HB := xy (Below.refl w.heap.size w)
 unfold r19_InOrder.f at h
 have H := h
 clear h
 have H' := xy H
 clear H
 go_enter Tryz.func18, Tryz.ntmps18
 go_wp2_with (((with_reducible refine gate_dst (N := 2) rfl ?_); refine xq (N := 2) (cs := #[.bool a0_0, .slice A0_1 l0_1.length c0_1, .slice A0_2 l0_2.length c0_2, .slice A0_3 l0_3.length c0_3, .int .i64 a0_4, .slice A0_5 l0_5.length c0_5, .bool a0_6, .int .i64 a0_7, .string a0_8, .bool a0_9, .int .i64 a0_10, .bool a0_11, .bool a0_12, .int .i64 a0_13]) (t := 45) ?_; intro gb469 hg w3 hbox hb; have BK469 := xy (hbox); have GW469 := xs w hg; have GE469 := xs w hg; replace HB := xy (below_step xb hb); clear hb hbox hg))
 go_loopg [5] k (fun kq v5 w' => ∃ (x5_1 : Int), v5 = .int .i64 x5_1 ∧ Aside0 (r19_InOrder.l0 kq l1 x5_1 a0_0 l0_1 l0_2 l0_3 a0_4 l0_5 a0_6 a0_7 a0_8 a0_9 a0_10 a0_11 a0_12 a0_13 = some r) ∧ Aside0 (kq ≤ k) ∧ Aside0 (w'.heap[gb469]? = some (.cells #[.bool a0_0, (.slice A0_1 l0_1.length c0_1), (.slice A0_2 l0_2.length c0_2), (.slice A0_3 l0_3.length c0_3), .int .i64 a0_4, (.slice A0_5 l0_5.length c0_5), .bool a0_6, .int .i64 a0_7, .string a0_8, .bool a0_9, .int .i64 a0_10, .bool a0_11, .bool a0_12, .int .i64 a0_13] 45 (0, 0))) ∧ Aside0 (Below w.heap.size w w'))
 case atStart => exact ⟨(1), xg, H', ⟨Nat.le_refl _⟩, ⟨by (with_reducible repeat (first | refine blk_drewN ?_ _ | refine blk_drew ?_ | refine blk_alloc ?_ _)); exact BK469.out⟩, ⟨xb⟩⟩
 case round =>
  clear H'
  try clear c1
  try clear p2
  obtain ⟨x5_1, rfl, HA, HK1, BK469, HB⟩ := hrel
  cases gk with
  | zero => exact absurd HA.out (by simp [r19_InOrder.l0])
  | succ k1 =>
   have H := HA.out
   clear HA
   simp only [r19_InOrder.l0] at H
   by_cases c4 : x5_1 < (l1.length : Int)
   ·rw [if_pos c4] at H
    have c4b0 : decide (x5_1 < (l1.length : Int)) = true := decide_eq_true c4
    clear c4
    by_cases c5 : 0 ≤ x5_1
    ·rw [if_pos c5] at H
     have c5b0 : decide (0 ≤ x5_1) = true := decide_eq_true c5
     clear c5
     obtain ⟨ji6, hji6⟩ : ∃ j_ : Int, (wrap64 (x5_1 - 1)) = j_ := ⟨_, rfl⟩
     replace H : (if 0 ≤ (ji6) then (if (ji6) < (l1.length : Int) then ((r17_Ahead.f k1 a0_0 l0_1 l0_2 l0_3 a0_4 l0_5 a0_6 a0_7 a0_8 a0_9 a0_10 a0_11 a0_12 a0_13 ((rd_T74 l1 x5_1).f0) ((rd_T74 l1 (ji6)).f0)).bind fun t472 => (if t472 = true then (some false) else (r19_InOrder.l0 k1 l1 (wrap64 (x5_1 + 1)) a0_0 l0_1 l0_2 l0_3 a0_4 l0_5 a0_6 a0_7 a0_8 a0_9 a0_10 a0_11 a0_12 a0_13))) else (none)) else (none)) = some r := by first | (rw [hji6] at H; exact H) | (simp only [hji6] at H ⊢; exact H)
     have hji6w : (IntKind.i64.wrap (x5_1 - 1)) = ji6 := (i64_w _).trans hji6
     by_cases c7 : 0 ≤ (ji6)
     ·rw [if_pos c7] at H
      have c7b0 : decide (0 ≤ (ji6)) = true := decide_eq_true c7
      clear c7
      by_cases c8 : (ji6) < (l1.length : Int)
      ·rw [if_pos c8] at H
       have c8b0 : decide ((ji6) < (l1.length : Int)) = true := decide_eq_true c8
       clear c8
       replace H := xj H
       obtain ⟨t472, A90, H⟩ := H
       try dsimp only at H
       have A9 := xy A90
       clear A90
       by_cases c10 : t472 = true
       ·subst c10
        rw [if_pos rfl] at H
        obtain rfl := Option.some.inj H
        try go_wp2
        replace BK469 := xy (blk_drew BK469.out)
        replace HB := xy (below_drew1 HB.out)
        have p470 : 0 ≤ (x5_1 : Int) := xi
        have q470 : x5_1 < (l1.length : Int) := xi
        obtain ⟨ad470, e470, hx470_0, hx470_1, hx470_2, hx470_3⟩ := at_T74 HR1.out x5_1 p470 q470
        have hw470_3 := hx470_3
        have hw470_2 := hx470_2
        have hw470_1 := hx470_1
        have hw470_0 := hx470_0
        cases e470
        replace hx470_0 := (HB.out.cell (World.block_lt_of_cell? w _ hx470_0)).trans hx470_0
        replace hx470_1 := (HB.out.cell (World.block_lt_of_cell? w _ hx470_1)).trans hx470_1
        replace hx470_2 := (HB.out.cell (World.block_lt_of_cell? w _ hx470_2)).trans hx470_2
        replace hx470_3 := (HB.out.cell (World.block_lt_of_cell? w _ hx470_3)).trans hx470_3
        replace p470 := eq_true p470
        replace q470 := eq_true q470
        have p471 : 0 ≤ ((ji6) : Int) := xi
        have q471 : (ji6) < (l1.length : Int) := xi
        obtain ⟨ad471, e471, hx471_0, hx471_1, hx471_2, hx471_3⟩ := at_T74 HR1.out (ji6) p471 q471
        have hw471_3 := hx471_3
        have hw471_2 := hx471_2
        have hw471_1 := hx471_1
        have hw471_0 := hx471_0
        obtain rfl : ad470 = ad471 := (by injection e471)
        replace hx471_0 := (HB.out.cell (World.block_lt_of_cell? w _ hx471_0)).trans hx471_0
        replace hx471_1 := (HB.out.cell (World.block_lt_of_cell? w _ hx471_1)).trans hx471_1
        replace hx471_2 := (HB.out.cell (World.block_lt_of_cell? w _ hx471_2)).trans hx471_2
        replace hx471_3 := (HB.out.cell (World.block_lt_of_cell? w _ hx471_3)).trans hx471_3
        replace p471 := eq_true p471
        replace q471 := eq_true q471
        refine start_ (n := 13) (S := fun w' => w'.cell? ⟨gb469, 0, none⟩ = some (.bool a0_0) ∧ w'.cell? ⟨gb469, 1, none⟩ = some (.slice A0_1 l0_1.length c0_1) ∧ w'.cell? ⟨gb469, 2, none⟩ = some (.slice A0_2 l0_2.length c0_2) ∧ w'.cell? ⟨gb469, 3, none⟩ = some (.slice A0_3 l0_3.length c0_3) ∧ w'.cell? ⟨gb469, 4, none⟩ = some (.int .i64 a0_4) ∧ w'.cell? ⟨gb469, 5, none⟩ = some (.slice A0_5 l0_5.length c0_5) ∧ w'.cell? ⟨gb469, 6, none⟩ = some (.bool a0_6) ∧ w'.cell? ⟨gb469, 7, none⟩ = some (.int .i64 a0_7) ∧ w'.cell? ⟨gb469, 8, none⟩ = some (.string a0_8) ∧ w'.cell? ⟨gb469, 9, none⟩ = some (.bool a0_9) ∧ w'.cell? ⟨gb469, 10, none⟩ = some (.int .i64 a0_10) ∧ w'.cell? ⟨gb469, 11, none⟩ = some (.bool a0_11) ∧ w'.cell? ⟨gb469, 12, none⟩ = some (.bool a0_12) ∧ w'.cell? ⟨gb469, 13, none⟩ = some (.int .i64 a0_13) ∧ w'.cell? (ad470.add ((x5_1).toNat * 4)) = some (.string ((rd_T74 l1 x5_1).f0)) ∧ w'.cell? ⟨(ad470.add ((x5_1).toNat * 4)).block, (ad470.add ((x5_1).toNat * 4)).off + 1, none⟩ = some (.bool ((rd_T74 l1 x5_1).f1.f0)) ∧ w'.cell? ⟨(ad470.add ((x5_1).toNat * 4)).block, (ad470.add ((x5_1).toNat * 4)).off + 2, none⟩ = some (.int .i64 ((rd_T74 l1 x5_1).f1.f1)) ∧ w'.cell? ⟨(ad470.add ((x5_1).toNat * 4)).block, (ad470.add ((x5_1).toNat * 4)).off + 3, none⟩ = some (.string ((rd_T74 l1 x5_1).f1.f2)) ∧ w'.cell? (ad470.add (((ji6)).toNat * 4)) = some (.string ((rd_T74 l1 (ji6)).f0)) ∧ w'.cell? ⟨(ad470.add (((ji6)).toNat * 4)).block, (ad470.add (((ji6)).toNat * 4)).off + 1, none⟩ = some (.bool ((rd_T74 l1 (ji6)).f1.f0)) ∧ w'.cell? ⟨(ad470.add (((ji6)).toNat * 4)).block, (ad470.add (((ji6)).toNat * 4)).off + 2, none⟩ = some (.int .i64 ((rd_T74 l1 (ji6)).f1.f1)) ∧ w'.cell? ⟨(ad470.add (((ji6)).toNat * 4)).block, (ad470.add (((ji6)).toNat * 4)).off + 3, none⟩ = some (.string ((rd_T74 l1 (ji6)).f1.f2))) (ds := []) #[false, false, false, false, false, false, false, false, false, false, false, false, false] (by kernel_rfl) rfl rfl ⟨(kc BK469.out 0).trans rfl, (kc BK469.out 1).trans rfl, (kc BK469.out 2).trans rfl, (kc BK469.out 3).trans rfl, (kc BK469.out 4).trans rfl, (kc BK469.out 5).trans rfl, (kc BK469.out 6).trans rfl, (kc BK469.out 7).trans rfl, (kc BK469.out 8).trans rfl, (kc BK469.out 9).trans rfl, (kc BK469.out 10).trans rfl, (kc BK469.out 11).trans rfl, (kc BK469.out 12).trans rfl, (kc BK469.out 13).trans rfl, ((HB.out.cell (World.block_lt_of_cell? w _ hw470_0)).trans hw470_0), ((HB.out.cell (World.block_lt_of_cell? w _ hw470_1)).trans hw470_1), ((HB.out.cell (World.block_lt_of_cell? w _ hw470_2)).trans hw470_2), ((HB.out.cell (World.block_lt_of_cell? w _ hw470_3)).trans hw470_3), ((HB.out.cell (World.block_lt_of_cell? w _ hw471_0)).trans hw471_0), ((HB.out.cell (World.block_lt_of_cell? w _ hw471_1)).trans hw471_1), ((HB.out.cell (World.block_lt_of_cell? w _ hw471_2)).trans hw471_2), ((HB.out.cell (World.block_lt_of_cell? w _ hw471_3)).trans hw471_3)⟩ (fun hHeld => ?_); refine with_tabW r19_InOrder.tab4 r19_InOrder.bits4 (fun HT_ HW_ => ?_)
        generalize wr.drew = w11 at BK469 HB hx470_0 hx470_1 hx470_2 hx470_3 hx471_0 hx471_1 hx471_2 hx471_3 hHeld ⊢
        refine yz 1 (some 13) (bs 13 2) HT_.out (h := ?_)
        refine yz 2 (some 14) (bs 13 6) HT_.out (h := ?_)
        refine yz 3 (some 15) (bs 13 14) HT_.out (h := ?_)
        refine yz 4 (some 16) (bs 13 30) HT_.out (h := ?_)
        refine yz 6 (some 18) (bs 13 94) HT_.out (h := ?_)
        refine yz 7 (some 19) (bs 13 222) HT_.out (h := ?_)
        refine yz 8 (some 20) (bs 13 478) HT_.out (h := ?_)
        refine yz 9 (some 21) (bs 13 990) HT_.out (h := ?_)
        refine yz 10 (some 22) (bs 13 2014) HT_.out (h := ?_)
        refine yt 0 (some 12) (bs 13 2015) HT_.out HW_.out hHeld (h := ?_)
        refine yt 5 (some 17) (bs 13 2047) HT_.out HW_.out hHeld (h := ?_)
        refine yt 11 (some 23) (bs 13 4095) HT_.out HW_.out hHeld (h := ?_)
        refine one_ (i := 12) (N := some 24) #[true, true, true, true, true, true, true, true, true, true, true, true, true] rfl rfl (one_of HT_.out (by kernel_rfl)) (by decide) (fun K hK => ?_)
        refine goes_ Tryz.func34 (by kernel_rfl) rfl #[.agg #[.bool a0_0, .slice A0_1 l0_1.length c0_1, .slice A0_2 l0_2.length c0_2, .slice A0_3 l0_3.length c0_3, .int .i64 a0_4, .slice A0_5 l0_5.length c0_5, .bool a0_6, .int .i64 a0_7, .string a0_8, .bool a0_9, .int .i64 a0_10, .bool a0_11, .bool a0_12, .int .i64 a0_13], .string ((rd_T74 l1 x5_1).f0), .string ((rd_T74 l1 (ji6)).f0)] (by rfl) rfl rfl (by (try simp only [List.map_toArray, List.map_cons, List.map_nil]); first | done | (simp only [hji6]; rfl) | rfl | (simp only [List.length_drop, List.length_take]; rfl)) ?_
        with_reducible refine (r17_Ahead.calls k1 a0_0 _ _ l0_1 _ _ l0_2 _ _ l0_3 a0_4 _ _ l0_5 a0_6 a0_7 a0_8 a0_9 a0_10 a0_11 a0_12 a0_13 ((rd_T74 l1 x5_1).f0) ((rd_T74 l1 (ji6)).f0) true _ (Tabs.below hT xf) ?side1 ?side2 ?side3 ?side4 ?side5 ?side6 ?side7 ?side8 A9.out).mono ?_
        (case side1 => exact Kd.C_below HR0_1.out xb)
        (case side2 => exact HC0_1.out)
        (case side3 => exact Kd.C_below HR0_2.out xb)
        (case side4 => exact HC0_2.out)
        (case side5 => exact Kd.C_below HR0_3.out xb)
        (case side6 => exact HC0_3.out)
        (case side7 => exact Kd.C_below HR0_5.out xb)
        (case side8 => exact HC0_5.out)
        rintro e w12 ⟨rfl, hb⟩
        refine ⟨_, rfl, ?_⟩
        replace BK469 := xd BK469.out hb
        replace HB := xy (below_step xb hb)
        (try clear hb)
        (try clear hb2)
        (try clear hk)
        (try clear hi)
        refine hK.out _ _ ⟨(kc BK469.out 0).trans rfl, (kc BK469.out 1).trans rfl, (kc BK469.out 2).trans rfl, (kc BK469.out 3).trans rfl, (kc BK469.out 4).trans rfl, (kc BK469.out 5).trans rfl, (kc BK469.out 6).trans rfl, (kc BK469.out 7).trans rfl, (kc BK469.out 8).trans rfl, (kc BK469.out 9).trans rfl, (kc BK469.out 10).trans rfl, (kc BK469.out 11).trans rfl, (kc BK469.out 12).trans rfl, (kc BK469.out 13).trans rfl, ((HB.out.cell (World.block_lt_of_cell? w _ hw470_0)).trans hw470_0), ((HB.out.cell (World.block_lt_of_cell? w _ hw470_1)).trans hw470_1), ((HB.out.cell (World.block_lt_of_cell? w _ hw470_2)).trans hw470_2), ((HB.out.cell (World.block_lt_of_cell? w _ hw470_3)).trans hw470_3), ((HB.out.cell (World.block_lt_of_cell? w _ hw471_0)).trans hw471_0), ((HB.out.cell (World.block_lt_of_cell? w _ hw471_1)).trans hw471_1), ((HB.out.cell (World.block_lt_of_cell? w _ hw471_2)).trans hw471_2), ((HB.out.cell (World.block_lt_of_cell? w _ hw471_3)).trans hw471_3)⟩ (fun hHeld => ?_)
        clear hK K
        refine norm_ (a' := ?_) ?_ ?_
        rotate_left
        ·show Act.put _ (some 24) _ = _
         simp only [Act.put, List.setIfInBounds_toArray, List.set_cons_zero, List.set_cons_succ, i64_w, i32_w]
         rfl
        refine done_ (done_of HT_.out (by kernel_rfl)) ?_
        try go_wp2
        go_ret
        exact ⟨by first | rfl | (simp [errW_none, errW_some] <;> rfl) | (simp only [← hji6]; first | rfl | (simp [errW_none, errW_some] <;> rfl)) | (simp [*, errW_none, errW_some] <;> rfl), xb⟩
       ·replace c10 := Bool.eq_false_iff.mpr c10
        subst c10
        rw [if_neg (show ¬ (false = true) by decide)] at H
        have H' := xy H
        clear H
        try go_wp2
        replace BK469 := xy (blk_drew BK469.out)
        replace HB := xy (below_drew1 HB.out)
        have p470 : 0 ≤ (x5_1 : Int) := xi
        have q470 : x5_1 < (l1.length : Int) := xi
        obtain ⟨ad470, e470, hx470_0, hx470_1, hx470_2, hx470_3⟩ := at_T74 HR1.out x5_1 p470 q470
        have hw470_3 := hx470_3
        have hw470_2 := hx470_2
        have hw470_1 := hx470_1
        have hw470_0 := hx470_0
        cases e470
        replace hx470_0 := (HB.out.cell (World.block_lt_of_cell? w _ hx470_0)).trans hx470_0
        replace hx470_1 := (HB.out.cell (World.block_lt_of_cell? w _ hx470_1)).trans hx470_1
        replace hx470_2 := (HB.out.cell (World.block_lt_of_cell? w _ hx470_2)).trans hx470_2
        replace hx470_3 := (HB.out.cell (World.block_lt_of_cell? w _ hx470_3)).trans hx470_3
        replace p470 := eq_true p470
        replace q470 := eq_true q470
        have p471 : 0 ≤ ((ji6) : Int) := xi
        have q471 : (ji6) < (l1.length : Int) := xi
        obtain ⟨ad471, e471, hx471_0, hx471_1, hx471_2, hx471_3⟩ := at_T74 HR1.out (ji6) p471 q471
        have hw471_3 := hx471_3
        have hw471_2 := hx471_2
        have hw471_1 := hx471_1
        have hw471_0 := hx471_0
        obtain rfl : ad470 = ad471 := (by injection e471)
        replace hx471_0 := (HB.out.cell (World.block_lt_of_cell? w _ hx471_0)).trans hx471_0
        replace hx471_1 := (HB.out.cell (World.block_lt_of_cell? w _ hx471_1)).trans hx471_1
        replace hx471_2 := (HB.out.cell (World.block_lt_of_cell? w _ hx471_2)).trans hx471_2
        replace hx471_3 := (HB.out.cell (World.block_lt_of_cell? w _ hx471_3)).trans hx471_3
        replace p471 := eq_true p471
        replace q471 := eq_true q471
        refine start_ (n := 13) (S := fun w' => w'.cell? ⟨gb469, 0, none⟩ = some (.bool a0_0) ∧ w'.cell? ⟨gb469, 1, none⟩ = some (.slice A0_1 l0_1.length c0_1) ∧ w'.cell? ⟨gb469, 2, none⟩ = some (.slice A0_2 l0_2.length c0_2) ∧ w'.cell? ⟨gb469, 3, none⟩ = some (.slice A0_3 l0_3.length c0_3) ∧ w'.cell? ⟨gb469, 4, none⟩ = some (.int .i64 a0_4) ∧ w'.cell? ⟨gb469, 5, none⟩ = some (.slice A0_5 l0_5.length c0_5) ∧ w'.cell? ⟨gb469, 6, none⟩ = some (.bool a0_6) ∧ w'.cell? ⟨gb469, 7, none⟩ = some (.int .i64 a0_7) ∧ w'.cell? ⟨gb469, 8, none⟩ = some (.string a0_8) ∧ w'.cell? ⟨gb469, 9, none⟩ = some (.bool a0_9) ∧ w'.cell? ⟨gb469, 10, none⟩ = some (.int .i64 a0_10) ∧ w'.cell? ⟨gb469, 11, none⟩ = some (.bool a0_11) ∧ w'.cell? ⟨gb469, 12, none⟩ = some (.bool a0_12) ∧ w'.cell? ⟨gb469, 13, none⟩ = some (.int .i64 a0_13) ∧ w'.cell? (ad470.add ((x5_1).toNat * 4)) = some (.string ((rd_T74 l1 x5_1).f0)) ∧ w'.cell? ⟨(ad470.add ((x5_1).toNat * 4)).block, (ad470.add ((x5_1).toNat * 4)).off + 1, none⟩ = some (.bool ((rd_T74 l1 x5_1).f1.f0)) ∧ w'.cell? ⟨(ad470.add ((x5_1).toNat * 4)).block, (ad470.add ((x5_1).toNat * 4)).off + 2, none⟩ = some (.int .i64 ((rd_T74 l1 x5_1).f1.f1)) ∧ w'.cell? ⟨(ad470.add ((x5_1).toNat * 4)).block, (ad470.add ((x5_1).toNat * 4)).off + 3, none⟩ = some (.string ((rd_T74 l1 x5_1).f1.f2)) ∧ w'.cell? (ad470.add (((ji6)).toNat * 4)) = some (.string ((rd_T74 l1 (ji6)).f0)) ∧ w'.cell? ⟨(ad470.add (((ji6)).toNat * 4)).block, (ad470.add (((ji6)).toNat * 4)).off + 1, none⟩ = some (.bool ((rd_T74 l1 (ji6)).f1.f0)) ∧ w'.cell? ⟨(ad470.add (((ji6)).toNat * 4)).block, (ad470.add (((ji6)).toNat * 4)).off + 2, none⟩ = some (.int .i64 ((rd_T74 l1 (ji6)).f1.f1)) ∧ w'.cell? ⟨(ad470.add (((ji6)).toNat * 4)).block, (ad470.add (((ji6)).toNat * 4)).off + 3, none⟩ = some (.string ((rd_T74 l1 (ji6)).f1.f2))) (ds := []) #[false, false, false, false, false, false, false, false, false, false, false, false, false] (by kernel_rfl) rfl rfl ⟨(kc BK469.out 0).trans rfl, (kc BK469.out 1).trans rfl, (kc BK469.out 2).trans rfl, (kc BK469.out 3).trans rfl, (kc BK469.out 4).trans rfl, (kc BK469.out 5).trans rfl, (kc BK469.out 6).trans rfl, (kc BK469.out 7).trans rfl, (kc BK469.out 8).trans rfl, (kc BK469.out 9).trans rfl, (kc BK469.out 10).trans rfl, (kc BK469.out 11).trans rfl, (kc BK469.out 12).trans rfl, (kc BK469.out 13).trans rfl, ((HB.out.cell (World.block_lt_of_cell? w _ hw470_0)).trans hw470_0), ((HB.out.cell (World.block_lt_of_cell? w _ hw470_1)).trans hw470_1), ((HB.out.cell (World.block_lt_of_cell? w _ hw470_2)).trans hw470_2), ((HB.out.cell (World.block_lt_of_cell? w _ hw470_3)).trans hw470_3), ((HB.out.cell (World.block_lt_of_cell? w _ hw471_0)).trans hw471_0), ((HB.out.cell (World.block_lt_of_cell? w _ hw471_1)).trans hw471_1), ((HB.out.cell (World.block_lt_of_cell? w _ hw471_2)).trans hw471_2), ((HB.out.cell (World.block_lt_of_cell? w _ hw471_3)).trans hw471_3)⟩ (fun hHeld => ?_); refine with_tabW r19_InOrder.tab4 r19_InOrder.bits4 (fun HT_ HW_ => ?_)
        generalize wr.drew = w13 at BK469 HB hx470_0 hx470_1 hx470_2 hx470_3 hx471_0 hx471_1 hx471_2 hx471_3 hHeld ⊢
        refine yz 1 (some 13) (bs 13 2) HT_.out (h := ?_)
        refine yz 2 (some 14) (bs 13 6) HT_.out (h := ?_)
        refine yz 3 (some 15) (bs 13 14) HT_.out (h := ?_)
        refine yz 4 (some 16) (bs 13 30) HT_.out (h := ?_)
        refine yz 6 (some 18) (bs 13 94) HT_.out (h := ?_)
        refine yz 7 (some 19) (bs 13 222) HT_.out (h := ?_)
        refine yz 8 (some 20) (bs 13 478) HT_.out (h := ?_)
        refine yz 9 (some 21) (bs 13 990) HT_.out (h := ?_)
        refine yz 10 (some 22) (bs 13 2014) HT_.out (h := ?_)
        refine yt 0 (some 12) (bs 13 2015) HT_.out HW_.out hHeld (h := ?_)
        refine yt 5 (some 17) (bs 13 2047) HT_.out HW_.out hHeld (h := ?_)
        refine yt 11 (some 23) (bs 13 4095) HT_.out HW_.out hHeld (h := ?_)
        refine one_ (i := 12) (N := some 24) #[true, true, true, true, true, true, true, true, true, true, true, true, true] rfl rfl (one_of HT_.out (by kernel_rfl)) (by decide) (fun K hK => ?_)
        refine goes_ Tryz.func34 (by kernel_rfl) rfl #[.agg #[.bool a0_0, .slice A0_1 l0_1.length c0_1, .slice A0_2 l0_2.length c0_2, .slice A0_3 l0_3.length c0_3, .int .i64 a0_4, .slice A0_5 l0_5.length c0_5, .bool a0_6, .int .i64 a0_7, .string a0_8, .bool a0_9, .int .i64 a0_10, .bool a0_11, .bool a0_12, .int .i64 a0_13], .string ((rd_T74 l1 x5_1).f0), .string ((rd_T74 l1 (ji6)).f0)] (by rfl) rfl rfl (by (try simp only [List.map_toArray, List.map_cons, List.map_nil]); first | done | (simp only [hji6]; rfl) | rfl | (simp only [List.length_drop, List.length_take]; rfl)) ?_
        with_reducible refine (r17_Ahead.calls k1 a0_0 _ _ l0_1 _ _ l0_2 _ _ l0_3 a0_4 _ _ l0_5 a0_6 a0_7 a0_8 a0_9 a0_10 a0_11 a0_12 a0_13 ((rd_T74 l1 x5_1).f0) ((rd_T74 l1 (ji6)).f0) false _ (Tabs.below hT xf) ?side1 ?side2 ?side3 ?side4 ?side5 ?side6 ?side7 ?side8 A9.out).mono ?_
        (case side1 => exact Kd.C_below HR0_1.out xb)
        (case side2 => exact HC0_1.out)
        (case side3 => exact Kd.C_below HR0_2.out xb)
        (case side4 => exact HC0_2.out)
        (case side5 => exact Kd.C_below HR0_3.out xb)
        (case side6 => exact HC0_3.out)
        (case side7 => exact Kd.C_below HR0_5.out xb)
        (case side8 => exact HC0_5.out)
        rintro e w14 ⟨rfl, hb⟩
        refine ⟨_, rfl, ?_⟩
        replace BK469 := xd BK469.out hb
        replace HB := xy (below_step xb hb)
        (try clear hb)
        (try clear hb2)
        (try clear hk)
        (try clear hi)
        refine hK.out _ _ ⟨(kc BK469.out 0).trans rfl, (kc BK469.out 1).trans rfl, (kc BK469.out 2).trans rfl, (kc BK469.out 3).trans rfl, (kc BK469.out 4).trans rfl, (kc BK469.out 5).trans rfl, (kc BK469.out 6).trans rfl, (kc BK469.out 7).trans rfl, (kc BK469.out 8).trans rfl, (kc BK469.out 9).trans rfl, (kc BK469.out 10).trans rfl, (kc BK469.out 11).trans rfl, (kc BK469.out 12).trans rfl, (kc BK469.out 13).trans rfl, ((HB.out.cell (World.block_lt_of_cell? w _ hw470_0)).trans hw470_0), ((HB.out.cell (World.block_lt_of_cell? w _ hw470_1)).trans hw470_1), ((HB.out.cell (World.block_lt_of_cell? w _ hw470_2)).trans hw470_2), ((HB.out.cell (World.block_lt_of_cell? w _ hw470_3)).trans hw470_3), ((HB.out.cell (World.block_lt_of_cell? w _ hw471_0)).trans hw471_0), ((HB.out.cell (World.block_lt_of_cell? w _ hw471_1)).trans hw471_1), ((HB.out.cell (World.block_lt_of_cell? w _ hw471_2)).trans hw471_2), ((HB.out.cell (World.block_lt_of_cell? w _ hw471_3)).trans hw471_3)⟩ (fun hHeld => ?_)
        clear hK K
        refine norm_ (a' := ?_) ?_ ?_
        rotate_left
        ·show Act.put _ (some 24) _ = _
         simp only [Act.put, List.setIfInBounds_toArray, List.set_cons_zero, List.set_cons_succ, i64_w, i32_w]
         rfl
        refine done_ (done_of HT_.out (by kernel_rfl)) ?_
        try go_wp2
        go_roundg k1
        case measure => have := HK1.out; omega
        case rel => exact ⟨(wrap64 (x5_1 + 1)), xg, H', ⟨by have := HK1.out; omega⟩, ⟨by (with_reducible repeat (first | refine blk_drewN ?_ _ | refine blk_drew ?_ | refine blk_alloc ?_ _)); exact BK469.out⟩, ⟨xb⟩⟩
      ·rw [if_neg c8] at H
       exact absurd H (by simp)
     ·rw [if_neg c7] at H
      exact absurd H (by simp)
    ·rw [if_neg c5] at H
     exact absurd H (by simp)
   ·rw [if_neg c4] at H
    have c4b0 : decide (x5_1 < (l1.length : Int)) = false := decide_eq_false c4
    clear c4
    obtain rfl := Option.some.inj H
    go_wp2
    go_ret
    exact ⟨xe, xb⟩
def sorter_weight.f (a0_0 : ByteArray) (a0_1 : Bool) (a0_2 : Int) (a0_3 : ByteArray) : Option (Int) := some (wrap64 ((wrap64 ((a0_0.size : Int) + (a0_3.size : Int))) + 16))
set_option maxHeartbeats 8000000 in
set_option maxRecDepth 100000 in
theorem sorter_weight.calls (a0_0 : ByteArray) (a0_1 : Bool) (a0_2 : Int) (a0_3 : ByteArray) (r : Int) (w : World) (hT : Tabs w) (h : sorter_weight.f a0_0 a0_1 a0_2 a0_3 = some r) :
  Calls Tryz.prog 35 #[.agg #[.string a0_0, .bool a0_1, .int .i64 a0_2, .string a0_3]] w fun e w' => e = .returned (.int .i64 r) ∧ Below w.heap.size w w' := by
 have hu38 := Tryz.underlying38
 have HB := xy (Below.refl w.heap.size w)
 unfold sorter_weight.f at h
 have H := h
 clear h
 obtain rfl := Option.some.inj H
 go_enter Tryz.func35, Tryz.ntmps35
 go_wp2_with (((with_reducible refine gate_dst (N := 1) rfl ?_); refine xq (N := 1) (cs := #[.string a0_0, .bool a0_1, .int .i64 a0_2, .string a0_3]) (t := 38) ?_; intro gb473 hg w2 hbox hb; have BK473 := xy (hbox); have GW473 := xs w hg; have GE473 := xs w hg; replace HB := xy (below_step xb hb); clear hb hbox hg; have hcz3_0 : w2.cell? ⟨gb473, 0, none⟩ = some (.string a0_0) := (kc BK473.out 0).trans rfl; have hcz3_1 : w2.cell? ⟨gb473, 1, none⟩ = some (.bool a0_1) := (kc BK473.out 1).trans rfl; have hcz3_2 : w2.cell? ⟨gb473, 2, none⟩ = some (.int .i64 a0_2) := (kc BK473.out 2).trans rfl; have hcz3_3 : w2.cell? ⟨gb473, 3, none⟩ = some (.string a0_3) := (kc BK473.out 3).trans rfl; have hfz3_0 := kf BK473.out 0; have hfz3_1 := kf BK473.out 1; have hfz3_2 := kf BK473.out 2; have hfz3_3 := kf BK473.out 3))
 go_ret
 exact ⟨xe, xb⟩
/- Walked functions, by this session's program over the kit's print. -/
def sorter_Weight.l0 : Nat → Int → List (S38) → Int → Int → Option (Int)
 | 0, _, _, _, _ => none
 | k + 1, x3, x6, x7, x8 => if x8 < x7 then (if 0 ≤ x8 then (if x8 < (x6.length : Int) then ((sorter_weight.f ((rd_T38 x6 x8).f0) ((rd_T38 x6 x8).f1.f0) ((rd_T38 x6 x8).f1.f1) ((rd_T38 x6 x8).f1.f2)).bind fun t476 => (sorter_Weight.l0 k (wrap64 (x3 + t476)) x6 x7 (wrap64 (x8 + 1)))) else (none)) else (none)) else (some x3)
def sorter_Weight.f (k : Nat) (l0 : List (S38)) : Option (Int) := sorter_Weight.l0 k 0 l0 (l0.length : Int) 0
theorem sorter_Weight.mono_l : ∀ k, (∀ y0 y1 y2 y3, LeO (sorter_Weight.l0 k y0 y1 y2 y3) (sorter_Weight.l0 (k + 1) y0 y1 y2 y3))
 | 0 => fun _ _ _ _ r h => by simp [sorter_Weight.l0] at h
 | k + 1 => by
  have ih0 := sorter_Weight.mono_l k
  ·intro y0 y1 y2 y3
   unfold sorter_Weight.l0
   repeat' (with_reducible first | exact ih0 _ _ _ _ | exact LeO.refl _ | exact LeO.none _ | refine LeO.ite ?_ ?_ | refine LeO.bind ?_ (fun _ => ?_))
theorem sorter_Weight.mono : ∀ a0 k, LeO (sorter_Weight.f k a0) (sorter_Weight.f (k + 1) a0) := by
 intro a0 k
 have ih0 := sorter_Weight.mono_l k
 unfold sorter_Weight.f
 repeat' (with_reducible first | exact ih0 _ _ _ _ | exact LeO.refl _ | exact LeO.none _ | refine LeO.ite ?_ ?_ | refine LeO.bind ?_ (fun _ => ?_))
set_option maxHeartbeats 8000000 in
set_option maxRecDepth 100000 in
theorem sorter_Weight.calls (k : Nat) (A0 : Option Addr) (c0 : Nat) (l0 : List (S38)) (r : Int) (w : World) (hT : Tabs w) (hr0 : Kd.C k38 w A0 l0.length l0) (hc0 : l0.length ≤ c0) (h : sorter_Weight.f k l0 = some r) :
  Calls Tryz.prog 19 #[.slice A0 l0.length c0] w fun e w' => e = .returned (.int .i64 r) ∧ Below w.heap.size w w' := by
 have hu38 := Tryz.underlying38
 have HR0 := xy hr0
 have HC0 := xy hc0
 clear hr0 hc0
 have HB := xy (Below.refl w.heap.size w)
 unfold sorter_Weight.f at h
 have H := h
 clear h
 have H' := xy H
 clear H
 go_enter Tryz.func19, Tryz.ntmps19
 go_wp2
 go_loopg [3, 8] k (fun kq v3 v8 w' => ∃ (x3_1 : Int) (x8_1 : Int), v3 = .int .i64 x3_1 ∧ v8 = .int .i64 x8_1 ∧ Aside0 (sorter_Weight.l0 kq x3_1 l0 (l0.length : Int) x8_1 = some r) ∧ Aside0 (kq ≤ k) ∧ Aside0 (Below w.heap.size w w'))
 case atStart => exact ⟨(0), (0), xg, xg, H', ⟨Nat.le_refl _⟩, ⟨xb⟩⟩
 case round =>
  clear H'
  try clear c1
  obtain ⟨x3_1, x8_1, rfl, rfl, HA, HK1, HB⟩ := hrel
  cases gk with
  | zero => exact absurd HA.out (by simp [sorter_Weight.l0])
  | succ k1 =>
   have H := HA.out
   clear HA
   simp only [sorter_Weight.l0] at H
   by_cases c2 : x8_1 < (l0.length : Int)
   ·rw [if_pos c2] at H
    have c2b0 : decide (x8_1 < (l0.length : Int)) = true := decide_eq_true c2
    clear c2
    by_cases c3 : 0 ≤ x8_1
    ·rw [if_pos c3] at H
     have c3b0 : decide (0 ≤ x8_1) = true := decide_eq_true c3
     clear c3
     by_cases c4 : x8_1 < (l0.length : Int)
     ·rw [if_pos c4] at H
      have c4b0 : decide (x8_1 < (l0.length : Int)) = true := decide_eq_true c4
      clear c4
      replace H := xj H
      obtain ⟨t476, A50, H⟩ := H
      try dsimp only at H
      have A5 := xy A50
      clear A50
      have H' := xy H
      clear H
      have p474 : 0 ≤ (x8_1 : Int) := xi
      have q474 : x8_1 < (l0.length : Int) := xi
      obtain ⟨ad474, e474, hx474_0, hx474_1, hx474_2, hx474_3⟩ := at_T38 HR0.out x8_1 p474 q474
      cases e474
      replace hx474_0 := (HB.out.cell (World.block_lt_of_cell? w _ hx474_0)).trans hx474_0
      replace hx474_1 := (HB.out.cell (World.block_lt_of_cell? w _ hx474_1)).trans hx474_1
      replace hx474_2 := (HB.out.cell (World.block_lt_of_cell? w _ hx474_2)).trans hx474_2
      replace hx474_3 := (HB.out.cell (World.block_lt_of_cell? w _ hx474_3)).trans hx474_3
      replace p474 := eq_true p474
      replace q474 := eq_true q474
      go_wp2_with (first | ((with_reducible refine gate_dst (N := 5) rfl ?_); refine xq (N := 5) (cs := #[.string (⟨#[]⟩ : ByteArray), .bool false, .int .i64 0, .string (⟨#[]⟩ : ByteArray)]) (t := 38) ?_; intro gb475 hg w6 hbox hb; have BK475 := xy (hbox); have GW475 := xs w hg; have GE475 := xs w hg; replace HB := xy (below_step xb hb); clear hb hbox hg; have hcz7_0 : w6.cell? ⟨gb475, 0, none⟩ = some (.string (⟨#[]⟩ : ByteArray)) := (kc BK475.out 0).trans rfl; have hcz7_1 : w6.cell? ⟨gb475, 1, none⟩ = some (.bool false) := (kc BK475.out 1).trans rfl; have hcz7_2 : w6.cell? ⟨gb475, 2, none⟩ = some (.int .i64 0) := (kc BK475.out 2).trans rfl; have hcz7_3 : w6.cell? ⟨gb475, 3, none⟩ = some (.string (⟨#[]⟩ : ByteArray)) := (kc BK475.out 3).trans rfl; have hfz7_0 := kf BK475.out 0; have hfz7_1 := kf BK475.out 1; have hfz7_2 := kf BK475.out 2; have hfz7_3 := kf BK475.out 3) | ((with_reducible refine gate_callee (f := 35) rfl ?_); refine goesL_ (some 14) rfl rfl Tryz.func35 (by kernel_rfl) rfl #[.agg #[.string ((rd_T38 l0 x8_1).f0), .bool ((rd_T38 l0 x8_1).f1.f0), .int .i64 ((rd_T38 l0 x8_1).f1.f1), .string ((rd_T38 l0 x8_1).f1.f2)]] rfl xr ?_; (with_reducible refine (sorter_weight.calls ((rd_T38 l0 x8_1).f0) ((rd_T38 l0 x8_1).f1.f0) ((rd_T38 l0 x8_1).f1.f1) ((rd_T38 l0 x8_1).f1.f2) t476 _ (Tabs.below hT xf) A5.out).mono ?_); rintro e w8 ⟨rfl, hb⟩; refine ⟨_, rfl, ?_⟩; replace BK475 := xy (blk_below (g := gb475) (o := .cells #[.string ((rd_T38 l0 x8_1).f0), .bool ((rd_T38 l0 x8_1).f1.f0), .int .i64 ((rd_T38 l0 x8_1).f1.f1), .string ((rd_T38 l0 x8_1).f1.f2)] 38 (0, 0)) (by (with_reducible repeat (first | refine blk_drewN ?_ _ | refine blk_drew ?_ | refine blk_alloc ?_ _)); refine blk_put (cs := #[.string ((rd_T38 l0 x8_1).f0), .bool ((rd_T38 l0 x8_1).f1.f0), .int .i64 ((rd_T38 l0 x8_1).f1.f1), .string (⟨#[]⟩ : ByteArray)]) ?_ 3 _ rfl; (with_reducible repeat (first | refine blk_drewN ?_ _ | refine blk_drew ?_ | refine blk_alloc ?_ _)); refine blk_put (cs := #[.string ((rd_T38 l0 x8_1).f0), .bool ((rd_T38 l0 x8_1).f1.f0), .int .i64 0, .string (⟨#[]⟩ : ByteArray)]) ?_ 2 _ rfl; (with_reducible repeat (first | refine blk_drewN ?_ _ | refine blk_drew ?_ | refine blk_alloc ?_ _)); refine blk_put (cs := #[.string ((rd_T38 l0 x8_1).f0), .bool false, .int .i64 0, .string (⟨#[]⟩ : ByteArray)]) ?_ 1 _ rfl; (with_reducible repeat (first | refine blk_drewN ?_ _ | refine blk_drew ?_ | refine blk_alloc ?_ _)); refine blk_put (cs := #[.string (⟨#[]⟩ : ByteArray), .bool false, .int .i64 0, .string (⟨#[]⟩ : ByteArray)]) ?_ 0 _ rfl; (with_reducible repeat (first | refine blk_drewN ?_ _ | refine blk_drew ?_ | refine blk_alloc ?_ _)); exact BK475.out) hb); replace HB := xy (below_step xb hb); (try clear hb); (try clear hb2); (try clear hk); (try clear hi)))
      go_roundg k1
      case measure => have := HK1.out; omega
      case rel => exact ⟨(wrap64 (x3_1 + t476)), (wrap64 (x8_1 + 1)), xg, xg, H', ⟨by have := HK1.out; omega⟩, ⟨xb⟩⟩
     ·rw [if_neg c4] at H
      exact absurd H (by simp)
    ·rw [if_neg c3] at H
     exact absurd H (by simp)
   ·rw [if_neg c2] at H
    have c2b0 : decide (x8_1 < (l0.length : Int)) = false := decide_eq_false c2
    clear c2
    obtain rfl := Option.some.inj H
    go_wp2
    go_ret
    exact ⟨xe, xb⟩
def r19_Weight.l0 : Nat → List (S74) → Int → Int → Option (Int)
 | 0, _, _, _ => none
 | k + 1, x0, x3, x4 => if x4 < (x0.length : Int) then (if 0 ≤ x4 then (r19_Weight.l0 k x0 (wrap64 ((wrap64 ((wrap64 (x3 + (((rd_T74 x0 x4).f0).size : Int))) + (((rd_T74 x0 x4).f1.f2).size : Int))) + 16)) (wrap64 (x4 + 1))) else (none)) else (some x3)
def r19_Weight.f (k : Nat) (l0 : List (S74)) : Option (Int) := r19_Weight.l0 k l0 0 0
theorem r19_Weight.mono_l : ∀ k, (∀ y0 y1 y2, LeO (r19_Weight.l0 k y0 y1 y2) (r19_Weight.l0 (k + 1) y0 y1 y2))
 | 0 => fun _ _ _ r h => by simp [r19_Weight.l0] at h
 | k + 1 => by
  have ih0 := r19_Weight.mono_l k
  ·intro y0 y1 y2
   unfold r19_Weight.l0
   repeat' (with_reducible first | exact ih0 _ _ _ | exact LeO.refl _ | exact LeO.none _ | refine LeO.ite ?_ ?_ | refine LeO.bind ?_ (fun _ => ?_))
theorem r19_Weight.mono : ∀ a0 k, LeO (r19_Weight.f k a0) (r19_Weight.f (k + 1) a0) := by
 intro a0 k
 have ih0 := r19_Weight.mono_l k
 unfold r19_Weight.f
 repeat' (with_reducible first | exact ih0 _ _ _ | exact LeO.refl _ | exact LeO.none _ | refine LeO.ite ?_ ?_ | refine LeO.bind ?_ (fun _ => ?_))
set_option maxHeartbeats 8000000 in
set_option maxRecDepth 100000 in
theorem r19_Weight.calls (k : Nat) (A0 : Option Addr) (c0 : Nat) (l0 : List (S74)) (r : Int) (w : World) (hT : Tabs w) (hr0 : Kd.C k74 w A0 l0.length l0) (hc0 : l0.length ≤ c0) (h : r19_Weight.f k l0 = some r) :
  Calls Tryz.prog 20 #[.slice A0 l0.length c0] w fun e w' => e = .returned (.int .i64 r) ∧ Drawn0 w w' := by
 have HR0 := xy hr0
 have HC0 := xy hc0
 clear hr0 hc0
 unfold r19_Weight.f at h
 have H := h
 clear h
 have H' := xy H
 clear H
 go_enter Tryz.func20, Tryz.ntmps20
 go_wp2
 repeat (go_quiet (fail); try go_wp2)
 go_loopg [3, 4] k (fun kq v3 v4 w' => ∃ (x3_1 : Int) (x4_1 : Int), v3 = .int .i64 x3_1 ∧ v4 = .int .i64 x4_1 ∧ Aside0 (r19_Weight.l0 kq l0 x3_1 x4_1 = some r) ∧ Aside0 (kq ≤ k) ∧ Drawn0 w w')
 case atStart => exact ⟨(0), (0), xg, xg, H', ⟨Nat.le_refl _⟩, by repeat (first | exact Drawn0.refl _ | apply Drawn0.step)⟩
 case round =>
  clear H'
  obtain ⟨x3_1, x4_1, rfl, rfl, HA, HK1, ⟨m1, rfl⟩⟩ := hrel
  cases gk with
  | zero => exact absurd HA.out (by simp [r19_Weight.l0])
  | succ k1 =>
   have H := HA.out
   clear HA
   simp only [r19_Weight.l0] at H
   by_cases c2 : x4_1 < (l0.length : Int)
   ·rw [if_pos c2] at H
    have c2b0 : decide (x4_1 < (l0.length : Int)) = true := decide_eq_true c2
    clear c2
    by_cases c3 : 0 ≤ x4_1
    ·rw [if_pos c3] at H
     have c3b0 : decide (0 ≤ x4_1) = true := decide_eq_true c3
     clear c3
     have H' := xy H
     clear H
     have p477 : 0 ≤ (x4_1 : Int) := xi
     have q477 : x4_1 < (l0.length : Int) := xi
     obtain ⟨ad477, e477, hx477_0, hx477_1, hx477_2, hx477_3⟩ := at_T74 HR0.out x4_1 p477 q477
     cases e477
     replace p477 := eq_true p477
     replace q477 := eq_true q477
     have p478 : 0 ≤ (x4_1 : Int) := xi
     have q478 : x4_1 < (l0.length : Int) := xi
     obtain ⟨ad478, e478, hx478_0, hx478_1, hx478_2, hx478_3⟩ := at_T74 HR0.out x4_1 p478 q478
     obtain rfl : ad477 = ad478 := (by injection e478)
     replace p478 := eq_true p478
     replace q478 := eq_true q478
     go_wp2
     repeat (go_quiet (fail); try go_wp2)
     go_roundg k1
     case measure => have := HK1.out; omega
     case rel => exact ⟨(wrap64 ((wrap64 ((wrap64 (x3_1 + (((rd_T74 l0 x4_1).f0).size : Int))) + (((rd_T74 l0 x4_1).f1.f2).size : Int))) + 16)), (wrap64 (x4_1 + 1)), xg, xg, H', ⟨by have := HK1.out; omega⟩, by repeat (first | exact Drawn0.refl _ | apply Drawn0.step)⟩
    ·rw [if_neg c3] at H
     exact absurd H (by simp)
   ·rw [if_neg c2] at H
    have c2b0 : decide (x4_1 < (l0.length : Int)) = false := decide_eq_false c2
    clear c2
    obtain rfl := Option.some.inj H
    go_wp2
    repeat (go_quiet (fail); try go_wp2)
    go_ret
    exact ⟨xg, xz⟩
end Go.Proofs.YtebofnoljebakaaGreatDoor.PX
