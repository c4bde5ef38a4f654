/- Walked functions, by this session's program over the kit's print. -/
import Derived.Test.YtbfjhgpeidibhaaPXx0
import Derived.Test.YtbfjhgpeidibhaaPXx2
import Derived.Test.YtbfjhgpeidibhaaPXx4
namespace Go.Proofs.Ytbfjhgpeidibhaa.PX
open Go.RowKit Go.Proofs.YtbfjhgpeidibhaaW.PrintWords Go.Proofs.YtbfjhgpeidibhaaW.PrintLast Go.Proofs.YtbfjhgpeidibhaaW.PrintMore
attribute [local go_sem] max2_int min2_int max_two min_two max_three min_three max_four min_four   -- for this text's walks alone
set_option linter.unusedVariables false
set_option linter.unusedSimpArgs false

/-! ### threshinglaw05_TextPieces: function 5 -/
def threshinglaw05_TextPieces.l0 : Nat → List Int → List (S38) → Int → List Int → Int → Option (Bool)
  | 0, _, _, _, _, _ => none
  | k + 1, x0, x3, x5, x6, x7 => if x7 < (x3.length : Int) then (if 0 ≤ x7 then (if ((rd_T38 x3 x7).f0) = (x6.length : Int) then (if (((rd_T38 x3 x7).f1).length : Int) = 1 then (if 0 < (((rd_T38 x3 x7).f1).length : Int) then (if ((rd_L1 ((rd_T38 x3 x7).f1) 0).length : Int) = 1 then (if 0 < ((rd_L1 ((rd_T38 x3 x7).f1) 0).length : Int) then (if x6.length + (rdOf ByteArray.empty (rd_L1 ((rd_T38 x3 x7).f1) 0) 0).size < 140737488355328 then ((some (x6 ++ bytesOf (rdOf ByteArray.empty (rd_L1 ((rd_T38 x3 x7).f1) 0) 0) : List Int)).bind fun y245 => (if y245.length < 140737488355328 then (threshinglaw05_TextPieces.l0 k x0 x3 x5 (y245 ++ [10]) (wrap64 (x7 + 1))) else (none))) else (none)) else (none)) else (some false)) else (none)) else (some false)) else (some false)) else (none)) else ((text_Canon.f x0).bind fun t251 => (if t251 = true then ((threshinglaw05_alive.f k).bind fun t252 => (if t252 = true then (if x5 = 0 then (some ((strOfNums x6).toList == (strOfNums x0).toList)) else (some false)) else (some false))) else ((threshinglaw05_alive.f k).bind fun t253 => (if t253 = true then (if x5 = 0 then (if (strOfNums x0).size + 1 ≤ 9223372036854775807 then (some ((strOfNums x6).toList == ((strOfNums x0) ++ (⟨#[10]⟩ : ByteArray)).toList)) else (none)) else (some false)) else (some false)))))
def threshinglaw05_TextPieces.f (k : Nat) (l0 : List Int) : Option (Bool) := if (l0.length : Int) > 2000 then ((threshinglaw05_alive.f k).bind fun t229 => (some t229)) else ((text_Scan.f k l0).bind fun bt230 => (threshinglaw05_TextPieces.l0 k l0 bt230.1 bt230.2.2 (([] : List Int)) 0))
theorem threshinglaw05_TextPieces.mono_l : ∀ k, (∀ y0 y1 y2 y3 y4, LeO (threshinglaw05_TextPieces.l0 k y0 y1 y2 y3 y4) (threshinglaw05_TextPieces.l0 (k + 1) y0 y1 y2 y3 y4))
  | 0 => fun _ _ _ _ _ r h => by simp [threshinglaw05_TextPieces.l0] at h
  | k + 1 => by
    have ih0 := threshinglaw05_TextPieces.mono_l k
    · intro y0 y1 y2 y3 y4
      unfold threshinglaw05_TextPieces.l0
      repeat' first
      | (with_reducible exact ih0 _ _ _ _ _)
      | (with_reducible exact text_Scan.mono _ _)
      | (with_reducible exact threshinglaw05_alive.mono _)
      | (with_reducible exact LeO.refl _)
      | (with_reducible exact LeO.none _)
      | (with_reducible refine LeO.ite ?_ ?_)
      | (with_reducible refine LeO.bind ?_ (fun _ => ?_))
      | exact ih0 _ _ _ _ _
      | exact text_Scan.mono _ _
      | exact threshinglaw05_alive.mono _
      | exact LeO.none _
      | refine LeO.ite ?_ ?_
      | refine LeO.bind ?_ (fun _ => ?_)
theorem threshinglaw05_TextPieces.mono : ∀ a0 k, LeO (threshinglaw05_TextPieces.f k a0) (threshinglaw05_TextPieces.f (k + 1) a0) := by
  intro a0 k
  have ih0 := threshinglaw05_TextPieces.mono_l k
  unfold threshinglaw05_TextPieces.f
  repeat' first
      | (with_reducible exact ih0 _ _ _ _ _)
      | (with_reducible exact text_Scan.mono _ _)
      | (with_reducible exact threshinglaw05_alive.mono _)
      | (with_reducible exact LeO.refl _)
      | (with_reducible exact LeO.none _)
      | (with_reducible refine LeO.ite ?_ ?_)
      | (with_reducible refine LeO.bind ?_ (fun _ => ?_))
      | exact ih0 _ _ _ _ _
      | exact text_Scan.mono _ _
      | exact threshinglaw05_alive.mono _
      | exact LeO.none _
      | refine LeO.ite ?_ ?_
      | refine LeO.bind ?_ (fun _ => ?_)
set_option maxHeartbeats 8000000 in
set_option maxRecDepth 100000 in
theorem threshinglaw05_TextPieces.calls (k : Nat) (A0 : Option Addr) (c0 : Nat) (l0 : List Int) (r : Bool) (w : World) (hr0 : Kd.C (Kd.int .u8) w A0 l0.length l0) (hc0 : l0.length ≤ c0) (h : threshinglaw05_TextPieces.f k l0 = some r) :
    Calls Try.prog 5 #[.slice A0 l0.length c0] w fun e w' => e = .returned (.bool r) ∧ Below w.heap.size w w' := by
  have HR0 := Aside0.mk hr0
  have HC0 := Aside0.mk hc0
  clear hr0 hc0
  have HB := Aside0.mk (Below.refl w.heap.size w)
  have H : (if (l0.length : Int) > 2000 then ((threshinglaw05_alive.f k).bind fun t229 => (some t229)) else ((text_Scan.f k l0).bind fun bt230 => (threshinglaw05_TextPieces.l0 k l0 bt230.1 bt230.2.2 (([] : List Int)) 0))) = some r := h
  clear h
  by_cases c2 : (l0.length : Int) > 2000
  · rw [if_pos c2] at H
    have c2b0 : decide (2000 < (l0.length : Int)) = true := decide_eq_true c2
    have c2b1 : decide (2000 < l0.length) = true := decide_eq_true (by omega)
    clear c2
    replace H := Option.bind_eq_some_iff.mp H
    obtain ⟨t229, A30, H⟩ := H
    replace H : (some t229) = some r := H
    have A3 := Aside0.mk A30
    clear A30
    obtain rfl := Option.some.inj H
    go_enter Try.func5, Try.ntmps5
    go_wp2_with (first | ((with_reducible refine gate_callee (f := 10) rfl ?_); refine goesL_ (some 11) rfl rfl Try.func10 (by kernel_rfl) rfl #[] rfl (by (try simp only [List.map_toArray, List.map_cons, List.map_nil]); first | done | rfl | (simp only [List.length_drop, List.length_take]; rfl)) ?_; (with_reducible refine (threshinglaw05_alive.calls k  t229 _ A3.out).mono ?_); rintro e w4 ⟨rfl, hb⟩; refine ⟨_, rfl, ?_⟩; have n0_ := Aside0.mk (below_step (by repeat (first | (with_reducible first | exact HB.out | apply below_alloc | apply pw_below_drewN | apply below_drew1) | exact HB.out)) hb); clear HB; have HB := n0_; clear n0_; (try clear hb); (try clear hb2); (try clear hk); (try clear hi)))
    go_ret
    exact ⟨by first | rfl | (simp [errW_none, errW_some] <;> rfl) | (simp [*, errW_none, errW_some] <;> rfl), by repeat (first | (with_reducible first | exact HB.out | apply below_alloc | apply pw_below_drewN | apply below_drew1) | exact HB.out)⟩
  · rw [if_neg c2] at H
    have c2b0 : decide (2000 < (l0.length : Int)) = false := decide_eq_false c2
    have c2b1 : decide (2000 < l0.length) = false := decide_eq_false (by omega)
    clear c2
    replace H := Option.bind_eq_some_iff.mp H
    obtain ⟨⟨t230, t233, t234⟩, A50, H⟩ := H
    replace H : (threshinglaw05_TextPieces.l0 k l0 t230 t234 (([] : List Int)) 0) = some r := H
    have A5 := Aside0.mk A50
    clear A50
    obtain ⟨y235, hy235⟩ : ∃ y_ : List Int, y_ = (([] : List Int)) := ⟨_, rfl⟩
    replace H : (threshinglaw05_TextPieces.l0 k l0 t230 t234 y235 0) = some r := by first | (rw [hy235]; with_reducible exact H) | (have H2_ := (Option.bind_some _ _).symm.trans H; rw [hy235]; with_reducible exact H2_) | (have H2_ := (Option.bind_some _ _).symm.trans H; with_reducible exact H2_) | with_reducible exact H | (rw [hy235]; exact H) | exact H
    have Ny235 := Aside0.mk hy235
    clear hy235
    have H' := Aside0.mk H
    clear H
    go_enter Try.func5, Try.ntmps5
    go_wp2_with (first | ((with_reducible refine gate_callee (f := 13) rfl ?_); refine goesL_ (some 14) rfl rfl Try.func13 (by kernel_rfl) rfl #[.slice A0 l0.length c0] rfl (by (try simp only [List.map_toArray, List.map_cons, List.map_nil]); first | done | rfl | (simp only [List.length_drop, List.length_take]; rfl)) ?_; (with_reducible refine (text_Scan.calls k _ _ l0 t230 t233 t234 _ ?side1 ?side2 A5.out).mono ?_); (case side1 => repeat (first | exact HR0.out | (with_reducible refine Kd.C_alloc ?_ _) | (with_reducible refine Kd.C_drewN ?_ _) | (with_reducible refine Kd.C_drew ?_))); (case side2 => exact HC0.out); rintro e w6 ⟨v231, rfl, ho0, hb⟩; refine ⟨_, rfl, ?_⟩; have n0_ := Aside0.mk (Kd.N_lower (Kd.N_mono (ok' := fun k_ => True) ho0 (fun k_ hk_ => trivial)) (below_size (by repeat (first | (with_reducible first | exact HB.out | apply below_alloc | apply pw_below_drewN | apply below_drew1) | exact HB.out)))); have n1_ := Aside0.mk (below_step (by repeat (first | (with_reducible first | exact HB.out | apply below_alloc | apply pw_below_drewN | apply below_drew1) | exact HB.out)) hb); clear HB; have HO232 := n0_; have HB := n1_; clear n0_ n1_; (try clear hb); (try clear hb2); (try clear hk); (try clear hi); (try clear ho0)) | ((with_reducible refine gate_dst (N := 18) rfl ?_); (try (refine gate_guard (by rfl) ?_; dsimp only)); refine Kd.R_lit (Kd.int .u8) _ 5 ?hg (N := 18) ?hd (xs := ([] : List Int)) (inner := []) (ok := fun _ => True) (okp := fun _ => True) ?hr ?hp (fun _ hk => hk) trivial (Below.refl _ _) (Nat.le_refl _) (by simp) ?_; (case hd => rfl); (case hg => rfl); (case hr => first | (go_simp; done) | (go_simp; rfl)); (case hp => exact (Reps.none _ _)); intro v236 w7 ho8 hb hg_ hnew_; clear hg_ hnew_; (first | rw [← Ny235.out] at ho8 | (simp only [Int.reduceToNat] at ho8; rw [← Ny235.out] at ho8)); have n0_ := Aside0.mk (Kd.N_elder' (by (with_reducible repeat (first | apply Kd.N_alloc | apply Kd.N_drewN | apply Kd.N_drew)); exact HO232.out) (Kd.R_base ho8) hb); have n1_ := Aside0.mk (Kd.R_lower ho8 (below_size (by repeat (first | (with_reducible first | exact HB.out | apply below_alloc | apply pw_below_drewN | apply below_drew1) | exact HB.out)))); have n2_ := Aside0.mk (below_step (by repeat (first | (with_reducible first | exact HB.out | apply below_alloc | apply pw_below_drewN | apply below_drew1) | exact HB.out)) hb); clear HO232; clear HB; have HO232 := n0_; have HO237 := n1_; have HB := n2_; clear n0_ n1_ n2_; clear hb ho8))
    go_loopg [6, 7] k (fun kq v6 v7 w' => ∃ (x6_1 : List Int) (x7_1 : Int), v7 = .int .i64 x7_1 ∧ Aside0 (threshinglaw05_TextPieces.l0 kq l0 t230 t234 x6_1 x7_1 = some r) ∧ Aside0 (kq ≤ k) ∧ Aside0 (Kd.N k38 38 w' w.heap.size (fun k_ => some k_ ≠ (v6 : Value).ownBlock) v231 t230) ∧ Aside0 (Kd.R (Kd.int .u8) 5 w' w.heap.size (fun _ => True) v6 x6_1) ∧ Aside0 (Below w.heap.size w w'))
    case atStart => exact ⟨(y235), (0), (by first | rfl | (simp; done) | (simp [*]; done)), H', ⟨Nat.le_refl _⟩, ⟨by (with_reducible repeat (first | apply Kd.N_alloc | apply Kd.N_drewN | apply Kd.N_drew)); exact Kd.N_mono HO232.out (fun _ hk => hk.2)⟩, ⟨by (with_reducible repeat (first | apply Kd.R_alloc | apply Kd.R_drewN | apply Kd.R_drew)); exact HO237.out⟩, ⟨by repeat (first | (with_reducible first | exact HB.out | apply below_alloc | apply pw_below_drewN | apply below_drew1) | exact HB.out)⟩⟩
    case round =>
      clear H'
      try clear c1
      try clear c2
      try clear c2b0
      try clear c2b1
      try clear p2
      try clear c5
      obtain ⟨x6_1, x7_1, rfl, HA, HK1, HO_3, HO_6, HB⟩ := hrel
      cases gk with
      | zero => exact absurd HA.out (by simp [threshinglaw05_TextPieces.l0])
      | succ k1 =>
        have H := HA.out
        clear HA
        simp only [threshinglaw05_TextPieces.l0] at H
        by_cases c9 : x7_1 < (t230.length : Int)
        · rw [if_pos c9] at H
          have c9b0 : decide (x7_1 < (t230.length : Int)) = true := decide_eq_true c9
          clear c9
          by_cases c10 : 0 ≤ x7_1
          · rw [if_pos c10] at H
            have c10b0 : decide (0 ≤ x7_1) = true := decide_eq_true c10
            clear c10
            by_cases c11 : ((rd_T38 t230 x7_1).f0) = (x6_1.length : Int)
            · rw [if_pos c11] at H
              have c11b0 : (((rd_T38 t230 x7_1).f0) == (x6_1.length : Int)) = true := beq_iff_eq.mpr c11
              have c11b1 : (((rd_T38 t230 x7_1).f0) != (x6_1.length : Int)) = false := bne_eq_false_iff_eq.mpr c11
              clear c11
              by_cases c12 : (((rd_T38 t230 x7_1).f1).length : Int) = 1
              · rw [if_pos c12] at H
                have c12b0 : ((((rd_T38 t230 x7_1).f1).length : Int) == 1) = true := beq_iff_eq.mpr c12
                have c12b1 : ((((rd_T38 t230 x7_1).f1).length : Int) != 1) = false := bne_eq_false_iff_eq.mpr c12
                clear c12
                by_cases c13 : 0 < (((rd_T38 t230 x7_1).f1).length : Int)
                · rw [if_pos c13] at H
                  have c13b0 : decide (0 < (((rd_T38 t230 x7_1).f1).length : Int)) = true := decide_eq_true c13
                  have c13b1 : decide (0 < ((rd_T38 t230 x7_1).f1).length) = true := decide_eq_true (by omega)
                  clear c13
                  by_cases c14 : ((rd_L1 ((rd_T38 t230 x7_1).f1) 0).length : Int) = 1
                  · rw [if_pos c14] at H
                    have c14b0 : (((rd_L1 ((rd_T38 t230 x7_1).f1) 0).length : Int) == 1) = true := beq_iff_eq.mpr c14
                    have c14b1 : (((rd_L1 ((rd_T38 t230 x7_1).f1) 0).length : Int) != 1) = false := bne_eq_false_iff_eq.mpr c14
                    clear c14
                    by_cases c15 : 0 < ((rd_L1 ((rd_T38 t230 x7_1).f1) 0).length : Int)
                    · rw [if_pos c15] at H
                      have c15b0 : decide (0 < ((rd_L1 ((rd_T38 t230 x7_1).f1) 0).length : Int)) = true := decide_eq_true c15
                      have c15b1 : decide (0 < (rd_L1 ((rd_T38 t230 x7_1).f1) 0).length) = true := decide_eq_true (by omega)
                      clear c15
                      by_cases c16 : x6_1.length + (rdOf ByteArray.empty (rd_L1 ((rd_T38 t230 x7_1).f1) 0) 0).size < 140737488355328
                      · rw [if_pos c16] at H
                        have LMc16 := Aside0.mk c16
                        clear c16
                        obtain ⟨y245, hy245⟩ : ∃ y_ : List Int, y_ = (x6_1 ++ bytesOf (rdOf ByteArray.empty (rd_L1 ((rd_T38 t230 x7_1).f1) 0) 0)) := ⟨_, rfl⟩
                        replace H : (if y245.length < 140737488355328 then (threshinglaw05_TextPieces.l0 k1 l0 t230 t234 (y245 ++ [10]) (wrap64 (x7_1 + 1))) else (none)) = some r := by first | (rw [hy245]; with_reducible exact H) | (have H2_ := (Option.bind_some _ _).symm.trans H; rw [hy245]; with_reducible exact H2_) | (have H2_ := (Option.bind_some _ _).symm.trans H; with_reducible exact H2_) | with_reducible exact H | (rw [hy245]; exact H) | exact H
                        have Ny245 := Aside0.mk hy245
                        clear hy245
                        by_cases c17 : y245.length < 140737488355328
                        · rw [if_pos c17] at H
                          have LMc17 := Aside0.mk c17
                          clear c17
                          obtain ⟨y248, hy248⟩ : ∃ y_ : List Int, y_ = (y245 ++ [10]) := ⟨_, rfl⟩
                          replace H : (threshinglaw05_TextPieces.l0 k1 l0 t230 t234 y248 (wrap64 (x7_1 + 1))) = some r := by first | (rw [hy248]; with_reducible exact H) | (have H2_ := (Option.bind_some _ _).symm.trans H; rw [hy248]; with_reducible exact H2_) | (have H2_ := (Option.bind_some _ _).symm.trans H; with_reducible exact H2_) | with_reducible exact H | (rw [hy248]; exact H) | exact H
                          have Ny248 := Aside0.mk hy248
                          clear hy248
                          have H' := Aside0.mk H
                          clear H
                          obtain ⟨Ao18, co18, eo18⟩ := Kd.N_slice HO_3.out
                          subst eo18
                          have p238 : 0 ≤ (x7_1 : Int) := of_decide_eq_true (by first | (with_reducible assumption) | assumption)
                          have q238 : x7_1 < (t230.length : Int) := of_decide_eq_true (by first | (with_reducible assumption) | assumption)
                          obtain ⟨ad238, A238_1, c238_1, e238, hx238_0, hx238_1, hl238_1, hi238_1⟩ := at_T38 (Kd.N_reads' HO_3.out).2.2 x7_1 p238 q238
                          cases e238
                          obtain ⟨ce238, hce238, hMe238, hcc238⟩ := Kd.N_get HO_3.out z38 x7_1 p238 (by first | exact q238 | exact of_decide_eq_true (by first | (with_reducible assumption) | assumption) | (have e_ := (Kd.N_reads' HO_3.out).1; omega))
                          obtain ⟨ua238_1, uc238_1, rfl, ul238_1, ge238_1⟩ := k38_openF hMe238
                          have hv238_1 := hcc238 1 _ rfl
                          rw [add_field _ _ 1 (by omega)] at hv238_1
                          replace hv238_1 := Option.some.inj (hv238_1.symm.trans hx238_1)
                          injection hv238_1 with hva_ hvn_ hvc_
                          rw [hva_] at ge238_1
                          rw [hvc_] at ul238_1
                          have HL238_1 := Aside0.mk (show Kd.V (Kd.slice 9 Kd.string) 40 _ w.heap.size _ _ ((rd_T38 t230 x7_1).f1) from Kd.V_mk ul238_1 ge238_1)
                          clear hva_ hvn_ hvc_ ge238_1 ul238_1
                          clear hcc238 hce238
                          have HR238_1 := Aside0.mk hi238_1
                          have HC238_1 := Aside0.mk hl238_1
                          clear hi238_1 hl238_1
                          replace p238 := eq_true p238
                          replace q238 := eq_true q238
                          obtain ⟨Ao19, co19, eo19⟩ := Kd.R_slice HO_6.out
                          subst eo19
                          have p239 : 0 ≤ (x7_1 : Int) := of_decide_eq_true (by first | (with_reducible assumption) | assumption)
                          have q239 : x7_1 < (t230.length : Int) := of_decide_eq_true (by first | (with_reducible assumption) | assumption)
                          obtain ⟨ad239, A239_1, c239_1, e239, hx239_0, hx239_1, hl239_1, hi239_1⟩ := at_T38 (Kd.N_reads' HO_3.out).2.2 x7_1 p239 q239
                          obtain rfl : ad238 = ad239 := (by injection e239)
                          obtain ⟨ce239, hce239, hMe239, hcc239⟩ := Kd.N_get HO_3.out z38 x7_1 p239 (by first | exact q239 | exact of_decide_eq_true (by first | (with_reducible assumption) | assumption) | (have e_ := (Kd.N_reads' HO_3.out).1; omega))
                          obtain ⟨ua239_1, uc239_1, rfl, ul239_1, ge239_1⟩ := k38_openF hMe239
                          have hv239_1 := hcc239 1 _ rfl
                          rw [add_field _ _ 1 (by omega)] at hv239_1
                          replace hv239_1 := Option.some.inj (hv239_1.symm.trans hx239_1)
                          injection hv239_1 with hva_ hvn_ hvc_
                          rw [hva_] at ge239_1
                          rw [hvc_] at ul239_1
                          have HL239_1 := Aside0.mk (show Kd.V (Kd.slice 9 Kd.string) 40 _ w.heap.size _ _ ((rd_T38 t230 x7_1).f1) from Kd.V_mk ul239_1 ge239_1)
                          clear hva_ hvn_ hvc_ ge239_1 ul239_1
                          clear hcc239 hce239
                          have HR239_1 := Aside0.mk hi239_1
                          have HC239_1 := Aside0.mk hl239_1
                          clear hi239_1 hl239_1
                          replace p239 := eq_true p239
                          replace q239 := eq_true q239
                          have ea_ := Option.some.inj (hx238_1.symm.trans hx239_1)
                          injection ea_ with ea_ en_ ec_
                          subst ea_
                          subst ec_
                          clear en_
                          have p240 : 0 ≤ (x7_1 : Int) := of_decide_eq_true (by first | (with_reducible assumption) | assumption)
                          have q240 : x7_1 < (t230.length : Int) := of_decide_eq_true (by first | (with_reducible assumption) | assumption)
                          obtain ⟨ad240, A240_1, c240_1, e240, hx240_0, hx240_1, hl240_1, hi240_1⟩ := at_T38 (Kd.N_reads' HO_3.out).2.2 x7_1 p240 q240
                          obtain rfl : ad238 = ad240 := (by injection e240)
                          obtain ⟨ce240, hce240, hMe240, hcc240⟩ := Kd.N_get HO_3.out z38 x7_1 p240 (by first | exact q240 | exact of_decide_eq_true (by first | (with_reducible assumption) | assumption) | (have e_ := (Kd.N_reads' HO_3.out).1; omega))
                          obtain ⟨ua240_1, uc240_1, rfl, ul240_1, ge240_1⟩ := k38_openF hMe240
                          have hv240_1 := hcc240 1 _ rfl
                          rw [add_field _ _ 1 (by omega)] at hv240_1
                          replace hv240_1 := Option.some.inj (hv240_1.symm.trans hx240_1)
                          injection hv240_1 with hva_ hvn_ hvc_
                          rw [hva_] at ge240_1
                          rw [hvc_] at ul240_1
                          have HL240_1 := Aside0.mk (show Kd.V (Kd.slice 9 Kd.string) 40 _ w.heap.size _ _ ((rd_T38 t230 x7_1).f1) from Kd.V_mk ul240_1 ge240_1)
                          clear hva_ hvn_ hvc_ ge240_1 ul240_1
                          clear hcc240 hce240
                          have HR240_1 := Aside0.mk hi240_1
                          have HC240_1 := Aside0.mk hl240_1
                          clear hi240_1 hl240_1
                          replace p240 := eq_true p240
                          replace q240 := eq_true q240
                          have ea_ := Option.some.inj (hx238_1.symm.trans hx240_1)
                          injection ea_ with ea_ en_ ec_
                          subst ea_
                          subst ec_
                          clear en_
                          have p241 : 0 ≤ (0 : Int) := (by omega)
                          have q241 : 0 < (((rd_T38 t230 x7_1).f1).length : Int) := of_decide_eq_true (by first | (with_reducible assumption) | assumption)
                          obtain ⟨ad241, A241_0, c241_0, e241, hx241_0, hl241_0, hi241_0⟩ := at_L1 (by repeat (first | (with_reducible exact HR240_1.out) | (with_reducible refine Kd.C_alloc ?_ _) | (with_reducible refine Kd.C_drewN ?_ _) | (with_reducible refine Kd.C_drew ?_) | exact HR240_1.out)) 0 p241 q241
                          cases e241
                          obtain ⟨ce241, hce241, hMe241, hcc241⟩ := Kd.V_get HL240_1.out [] 0 p241 (by first | exact q241 | exact of_decide_eq_true (by first | (with_reducible assumption) | assumption) | (have e_ := (Kd.V_reads' HL240_1.out).1; omega))
                          obtain ⟨ua241_0, uc241_0, rfl, ul241_0, ge241_0⟩ := Kd.FK_slice_open hMe241
                          have hv241_0 := hcc241 0 _ rfl
                          rw [Nat.add_zero, show ((Kd.slice 9 Kd.string)).sz = 1 from rfl, Nat.mul_one] at hv241_0
                          replace hv241_0 := Option.some.inj (hv241_0.symm.trans hx241_0)
                          injection hv241_0 with hva_ hvn_ hvc_
                          rw [hva_] at ge241_0
                          rw [hvc_] at ul241_0
                          have HL241_0 := Aside0.mk (show Kd.V Kd.string 9 _ w.heap.size _ _ (rd_L1 ((rd_T38 t230 x7_1).f1) 0) from Kd.V_mk ul241_0 ge241_0)
                          clear hva_ hvn_ hvc_ ge241_0 ul241_0
                          clear hcc241 hce241
                          have qi241 : (0 < ((rd_T38 t230 x7_1).f1).length) = True := eq_true (by omega)
                          (try rw [show ((0 : Int)).toNat = 0 from rfl] at hx241_0)
                          (try rw [Addr.add_zero'] at hx241_0)
                          have HR241_0 := Aside0.mk hi241_0
                          have HC241_0 := Aside0.mk hl241_0
                          clear hi241_0 hl241_0
                          replace p241 := eq_true p241
                          replace q241 := eq_true q241
                          have p242 : 0 ≤ (x7_1 : Int) := of_decide_eq_true (by first | (with_reducible assumption) | assumption)
                          have q242 : x7_1 < (t230.length : Int) := of_decide_eq_true (by first | (with_reducible assumption) | assumption)
                          obtain ⟨ad242, A242_1, c242_1, e242, hx242_0, hx242_1, hl242_1, hi242_1⟩ := at_T38 (Kd.N_reads' HO_3.out).2.2 x7_1 p242 q242
                          obtain rfl : ad238 = ad242 := (by injection e242)
                          obtain ⟨ce242, hce242, hMe242, hcc242⟩ := Kd.N_get HO_3.out z38 x7_1 p242 (by first | exact q242 | exact of_decide_eq_true (by first | (with_reducible assumption) | assumption) | (have e_ := (Kd.N_reads' HO_3.out).1; omega))
                          obtain ⟨ua242_1, uc242_1, rfl, ul242_1, ge242_1⟩ := k38_openF hMe242
                          have hv242_1 := hcc242 1 _ rfl
                          rw [add_field _ _ 1 (by omega)] at hv242_1
                          replace hv242_1 := Option.some.inj (hv242_1.symm.trans hx242_1)
                          injection hv242_1 with hva_ hvn_ hvc_
                          rw [hva_] at ge242_1
                          rw [hvc_] at ul242_1
                          have HL242_1 := Aside0.mk (show Kd.V (Kd.slice 9 Kd.string) 40 _ w.heap.size _ _ ((rd_T38 t230 x7_1).f1) from Kd.V_mk ul242_1 ge242_1)
                          clear hva_ hvn_ hvc_ ge242_1 ul242_1
                          clear hcc242 hce242
                          have HR242_1 := Aside0.mk hi242_1
                          have HC242_1 := Aside0.mk hl242_1
                          clear hi242_1 hl242_1
                          replace p242 := eq_true p242
                          replace q242 := eq_true q242
                          have ea_ := Option.some.inj (hx238_1.symm.trans hx242_1)
                          injection ea_ with ea_ en_ ec_
                          subst ea_
                          subst ec_
                          clear en_
                          have p243 : 0 ≤ (0 : Int) := (by omega)
                          have q243 : 0 < (((rd_T38 t230 x7_1).f1).length : Int) := of_decide_eq_true (by first | (with_reducible assumption) | assumption)
                          obtain ⟨ad243, A243_0, c243_0, e243, hx243_0, hl243_0, hi243_0⟩ := at_L1 (by repeat (first | (with_reducible exact HR242_1.out) | (with_reducible refine Kd.C_alloc ?_ _) | (with_reducible refine Kd.C_drewN ?_ _) | (with_reducible refine Kd.C_drew ?_) | exact HR242_1.out)) 0 p243 q243
                          cases e243
                          obtain ⟨ce243, hce243, hMe243, hcc243⟩ := Kd.V_get HL242_1.out [] 0 p243 (by first | exact q243 | exact of_decide_eq_true (by first | (with_reducible assumption) | assumption) | (have e_ := (Kd.V_reads' HL242_1.out).1; omega))
                          obtain ⟨ua243_0, uc243_0, rfl, ul243_0, ge243_0⟩ := Kd.FK_slice_open hMe243
                          have hv243_0 := hcc243 0 _ rfl
                          rw [Nat.add_zero, show ((Kd.slice 9 Kd.string)).sz = 1 from rfl, Nat.mul_one] at hv243_0
                          replace hv243_0 := Option.some.inj (hv243_0.symm.trans hx243_0)
                          injection hv243_0 with hva_ hvn_ hvc_
                          rw [hva_] at ge243_0
                          rw [hvc_] at ul243_0
                          have HL243_0 := Aside0.mk (show Kd.V Kd.string 9 _ w.heap.size _ _ (rd_L1 ((rd_T38 t230 x7_1).f1) 0) from Kd.V_mk ul243_0 ge243_0)
                          clear hva_ hvn_ hvc_ ge243_0 ul243_0
                          clear hcc243 hce243
                          have qi243 : (0 < ((rd_T38 t230 x7_1).f1).length) = True := eq_true (by omega)
                          (try rw [show ((0 : Int)).toNat = 0 from rfl] at hx243_0)
                          (try rw [Addr.add_zero'] at hx243_0)
                          have HR243_0 := Aside0.mk hi243_0
                          have HC243_0 := Aside0.mk hl243_0
                          clear hi243_0 hl243_0
                          replace p243 := eq_true p243
                          replace q243 := eq_true q243
                          have ea_ := Option.some.inj (hx241_0.symm.trans hx243_0)
                          injection ea_ with ea_ en_ ec_
                          subst ea_
                          subst ec_
                          clear en_
                          have p244 : 0 ≤ (0 : Int) := (by omega)
                          have q244 : 0 < ((rd_L1 ((rd_T38 t230 x7_1).f1) 0).length : Int) := of_decide_eq_true (by first | (with_reducible assumption) | assumption)
                          obtain ⟨ad244, e244, hx244_0⟩ := Kd.at_string (by repeat (first | (with_reducible exact HR243_0.out) | (with_reducible refine Kd.C_alloc ?_ _) | (with_reducible refine Kd.C_drewN ?_ _) | (with_reducible refine Kd.C_drew ?_) | exact HR243_0.out)) 0 p244 q244
                          cases e244
                          have qi244 : (0 < (rd_L1 ((rd_T38 t230 x7_1).f1) 0).length) = True := eq_true (by omega)
                          (try rw [show ((0 : Int)).toNat = 0 from rfl] at hx244_0)
                          (try rw [Addr.add_zero'] at hx244_0)
                          replace p244 := eq_true p244
                          replace q244 := eq_true q244
                          go_wp2_with (first | (at_builtin; refine xm_append_str (w0 := w) w.heap.size rfl (.tmp 53) _ 25 9 5 rfl Try.underlying25 Try.underlying9 info5 (.slice Ao19 x6_1.length co19) x6_1 (rdOf ByteArray.empty (rd_L1 ((rd_T38 t230 x7_1).f1) 0) 0) (fun _ => True) rfl rfl ?aO ?aF ?aB ?aS ?aL ?_; (case aB => exact (by repeat (first | (with_reducible first | exact HB.out | apply below_alloc | apply pw_below_drewN | apply below_drew1) | exact HB.out))); (case aF => exact (fun _ _ => trivial)); (case aO => exact (by (with_reducible repeat (first | apply Kd.R_alloc | apply Kd.R_drewN | apply Kd.R_drew)); exact HO_6.out)); (case aS => exact (below_size (by repeat (first | (with_reducible first | exact HB.out | apply below_alloc | apply pw_below_drewN | apply below_drew1) | exact HB.out)))); (case aL => have := LMc16.out; omega); intro v246 w20 ho hb hg hat; rw [← Ny245.out] at ho; have n0_ := Aside0.mk (Kd.N_afterv (ok := (fun _ => True)) (by (with_reducible repeat (first | apply Kd.N_alloc | apply Kd.N_drewN | apply Kd.N_drew)); exact Kd.N_mono HO_3.out (fun _ hk => ⟨trivial, hk⟩)) hg hat); have n1_ := Aside0.mk (Kd.V_afterv (ok := (fun k_ => some k_ ≠ (.slice (some ad238) t230.length co18 : Value).ownBlock)) (by (with_reducible repeat (first | apply Kd.V_alloc | apply Kd.V_drewN | apply Kd.V_drew)); exact Kd.V_mono HL238_1.out (fun _ hk => ⟨hk.2, hk.1⟩)) hg hat); have n2_ := Aside0.mk (Kd.V_afterv (ok := (fun k_ => some k_ ≠ (.slice (some ad238) t230.length co18 : Value).ownBlock)) (by (with_reducible repeat (first | apply Kd.V_alloc | apply Kd.V_drewN | apply Kd.V_drew)); exact Kd.V_mono HL239_1.out (fun _ hk => ⟨hk.2, hk.1⟩)) hg hat); have n3_ := Aside0.mk (Kd.V_afterv (ok := (fun k_ => some k_ ≠ (.slice (some ad238) t230.length co18 : Value).ownBlock)) (by (with_reducible repeat (first | apply Kd.V_alloc | apply Kd.V_drewN | apply Kd.V_drew)); exact Kd.V_mono HL240_1.out (fun _ hk => ⟨hk.2, hk.1⟩)) hg hat); have n4_ := Aside0.mk (Kd.V_afterv (ok := (fun k_ => some k_ ≠ (.slice (some ad238) t230.length co18 : Value).ownBlock)) (by (with_reducible repeat (first | apply Kd.V_alloc | apply Kd.V_drewN | apply Kd.V_drew)); exact Kd.V_mono HL241_0.out (fun _ hk => ⟨hk.2, hk.1⟩)) hg hat); have n5_ := Aside0.mk (Kd.V_afterv (ok := (fun k_ => some k_ ≠ (.slice (some ad238) t230.length co18 : Value).ownBlock)) (by (with_reducible repeat (first | apply Kd.V_alloc | apply Kd.V_drewN | apply Kd.V_drew)); exact Kd.V_mono HL242_1.out (fun _ hk => ⟨hk.2, hk.1⟩)) hg hat); have n6_ := Aside0.mk (Kd.V_afterv (ok := (fun k_ => some k_ ≠ (.slice (some ad238) t230.length co18 : Value).ownBlock)) (by (with_reducible repeat (first | apply Kd.V_alloc | apply Kd.V_drewN | apply Kd.V_drew)); exact Kd.V_mono HL243_0.out (fun _ hk => ⟨hk.2, hk.1⟩)) hg hat); have n7_ := Aside0.mk (hb); have n8_ := Aside0.mk (ho); clear HO_3; clear HL238_1; clear HL239_1; clear HL240_1; clear HL241_0; clear HL242_1; clear HL243_0; clear HB; clear HO_6; have HO_3 := n0_; have HL238_1 := n1_; have HL239_1 := n2_; have HL240_1 := n3_; have HL241_0 := n4_; have HL242_1 := n5_; have HL243_0 := n6_; have HB := n7_; have HO247 := n8_; clear n0_ n1_ n2_ n3_ n4_ n5_ n6_ n7_ n8_; clear ho hb hg hat) | ((with_reducible refine gate_builtin (b := .append) (xs := #[.tmp 64, .tmp 65]) rfl ?_); (try (refine gate_guard (by rfl) ?_; dsimp only)); at_builtin; refine Kd.R_append (Kd.int .u8) (w0 := w) w.heap.size rfl (.tmp 64) (.tmp 65) 25 5 (.int .u8 0) 1 rfl Try.underlying25 info5 rfl (by decide) (by omega) v246 y245 10 [.int .u8 10] (fun _ => True) (fun _ => False) rfl rfl ?aP (fun _ hk => hk.elim) ?aF ?aO ?aB ?aS ?aL ?_; (case aP => exact rfl); (case aB => exact (by repeat (first | (with_reducible first | exact HB.out | apply below_alloc | apply pw_below_drewN | apply below_drew1) | exact HB.out))); (case aF => exact (fun _ _ => trivial)); (case aO => exact (by (with_reducible repeat (first | apply Kd.R_alloc | apply Kd.R_drewN | apply Kd.R_drew)); exact HO247.out)); (case aS => exact (below_size (by repeat (first | (with_reducible first | exact HB.out | apply below_alloc | apply pw_below_drewN | apply below_drew1) | exact HB.out)))); (case aL => have := LMc17.out; omega); intro v249 w21 ho hb hg hat; rw [← Ny248.out] at ho; have n0_ := Aside0.mk (Kd.N_afterv (ok := (fun _ => True)) (by (with_reducible repeat (first | apply Kd.N_alloc | apply Kd.N_drewN | apply Kd.N_drew)); exact HO_3.out) hg hat); have n1_ := Aside0.mk (Kd.V_afterv (ok := (fun k_ => some k_ ≠ (.slice (some ad238) t230.length co18 : Value).ownBlock)) (by (with_reducible repeat (first | apply Kd.V_alloc | apply Kd.V_drewN | apply Kd.V_drew)); exact HL238_1.out) hg hat); have n2_ := Aside0.mk (Kd.V_afterv (ok := (fun k_ => some k_ ≠ (.slice (some ad238) t230.length co18 : Value).ownBlock)) (by (with_reducible repeat (first | apply Kd.V_alloc | apply Kd.V_drewN | apply Kd.V_drew)); exact HL239_1.out) hg hat); have n3_ := Aside0.mk (Kd.V_afterv (ok := (fun k_ => some k_ ≠ (.slice (some ad238) t230.length co18 : Value).ownBlock)) (by (with_reducible repeat (first | apply Kd.V_alloc | apply Kd.V_drewN | apply Kd.V_drew)); exact HL240_1.out) hg hat); have n4_ := Aside0.mk (Kd.V_afterv (ok := (fun k_ => some k_ ≠ (.slice (some ad238) t230.length co18 : Value).ownBlock)) (by (with_reducible repeat (first | apply Kd.V_alloc | apply Kd.V_drewN | apply Kd.V_drew)); exact HL241_0.out) hg hat); have n5_ := Aside0.mk (Kd.V_afterv (ok := (fun k_ => some k_ ≠ (.slice (some ad238) t230.length co18 : Value).ownBlock)) (by (with_reducible repeat (first | apply Kd.V_alloc | apply Kd.V_drewN | apply Kd.V_drew)); exact HL242_1.out) hg hat); have n6_ := Aside0.mk (Kd.V_afterv (ok := (fun k_ => some k_ ≠ (.slice (some ad238) t230.length co18 : Value).ownBlock)) (by (with_reducible repeat (first | apply Kd.V_alloc | apply Kd.V_drewN | apply Kd.V_drew)); exact HL243_0.out) hg hat); have n7_ := Aside0.mk (hb); have n8_ := Aside0.mk (ho); clear HO_3; clear HL238_1; clear HL239_1; clear HL240_1; clear HL241_0; clear HL242_1; clear HL243_0; clear HB; clear HO247; have HO_3 := n0_; have HL238_1 := n1_; have HL239_1 := n2_; have HL240_1 := n3_; have HL241_0 := n4_; have HL242_1 := n5_; have HL243_0 := n6_; have HB := n7_; have HO250 := n8_; clear n0_ n1_ n2_ n3_ n4_ n5_ n6_ n7_ n8_; clear ho hb hg hat))
                          go_roundg k1
                          case measure => have := HK1.out; omega
                          case rel => exact ⟨(y248), (wrap64 (x7_1 + 1)), (by first | rfl | (simp; done) | (simp [*]; done)), H', ⟨by have := HK1.out; omega⟩, ⟨by (with_reducible repeat (first | apply Kd.N_alloc | apply Kd.N_drewN | apply Kd.N_drew)); exact Kd.N_mono HO_3.out (fun _ hk => hk.2)⟩, ⟨by (with_reducible repeat (first | apply Kd.R_alloc | apply Kd.R_drewN | apply Kd.R_drew)); exact HO250.out⟩, ⟨by repeat (first | (with_reducible first | exact HB.out | apply below_alloc | apply pw_below_drewN | apply below_drew1) | exact HB.out)⟩⟩
                        · rw [if_neg c17] at H
                          exact absurd H (by simp)
                      · rw [if_neg c16] at H
                        exact absurd H (by simp)
                    · rw [if_neg c15] at H
                      exact absurd H (by simp)
                  · rw [if_neg c14] at H
                    have c14b0 : (((rd_L1 ((rd_T38 t230 x7_1).f1) 0).length : Int) == 1) = false := beq_eq_false_iff_ne.mpr c14
                    have c14b1 : (((rd_L1 ((rd_T38 t230 x7_1).f1) 0).length : Int) != 1) = true := bne_iff_ne.mpr c14
                    obtain rfl := Option.some.inj H
                    obtain ⟨Ao22, co22, eo22⟩ := Kd.N_slice HO_3.out
                    subst eo22
                    have p238 : 0 ≤ (x7_1 : Int) := of_decide_eq_true (by first | (with_reducible assumption) | assumption)
                    have q238 : x7_1 < (t230.length : Int) := of_decide_eq_true (by first | (with_reducible assumption) | assumption)
                    obtain ⟨ad238, A238_1, c238_1, e238, hx238_0, hx238_1, hl238_1, hi238_1⟩ := at_T38 (Kd.N_reads' HO_3.out).2.2 x7_1 p238 q238
                    cases e238
                    obtain ⟨ce238, hce238, hMe238, hcc238⟩ := Kd.N_get HO_3.out z38 x7_1 p238 (by first | exact q238 | exact of_decide_eq_true (by first | (with_reducible assumption) | assumption) | (have e_ := (Kd.N_reads' HO_3.out).1; omega))
                    obtain ⟨ua238_1, uc238_1, rfl, ul238_1, ge238_1⟩ := k38_openF hMe238
                    have hv238_1 := hcc238 1 _ rfl
                    rw [add_field _ _ 1 (by omega)] at hv238_1
                    replace hv238_1 := Option.some.inj (hv238_1.symm.trans hx238_1)
                    injection hv238_1 with hva_ hvn_ hvc_
                    rw [hva_] at ge238_1
                    rw [hvc_] at ul238_1
                    have HL238_1 := Aside0.mk (show Kd.V (Kd.slice 9 Kd.string) 40 _ w.heap.size _ _ ((rd_T38 t230 x7_1).f1) from Kd.V_mk ul238_1 ge238_1)
                    clear hva_ hvn_ hvc_ ge238_1 ul238_1
                    clear hcc238 hce238
                    have HR238_1 := Aside0.mk hi238_1
                    have HC238_1 := Aside0.mk hl238_1
                    clear hi238_1 hl238_1
                    replace p238 := eq_true p238
                    replace q238 := eq_true q238
                    obtain ⟨Ao23, co23, eo23⟩ := Kd.R_slice HO_6.out
                    subst eo23
                    have p239 : 0 ≤ (x7_1 : Int) := of_decide_eq_true (by first | (with_reducible assumption) | assumption)
                    have q239 : x7_1 < (t230.length : Int) := of_decide_eq_true (by first | (with_reducible assumption) | assumption)
                    obtain ⟨ad239, A239_1, c239_1, e239, hx239_0, hx239_1, hl239_1, hi239_1⟩ := at_T38 (Kd.N_reads' HO_3.out).2.2 x7_1 p239 q239
                    obtain rfl : ad238 = ad239 := (by injection e239)
                    obtain ⟨ce239, hce239, hMe239, hcc239⟩ := Kd.N_get HO_3.out z38 x7_1 p239 (by first | exact q239 | exact of_decide_eq_true (by first | (with_reducible assumption) | assumption) | (have e_ := (Kd.N_reads' HO_3.out).1; omega))
                    obtain ⟨ua239_1, uc239_1, rfl, ul239_1, ge239_1⟩ := k38_openF hMe239
                    have hv239_1 := hcc239 1 _ rfl
                    rw [add_field _ _ 1 (by omega)] at hv239_1
                    replace hv239_1 := Option.some.inj (hv239_1.symm.trans hx239_1)
                    injection hv239_1 with hva_ hvn_ hvc_
                    rw [hva_] at ge239_1
                    rw [hvc_] at ul239_1
                    have HL239_1 := Aside0.mk (show Kd.V (Kd.slice 9 Kd.string) 40 _ w.heap.size _ _ ((rd_T38 t230 x7_1).f1) from Kd.V_mk ul239_1 ge239_1)
                    clear hva_ hvn_ hvc_ ge239_1 ul239_1
                    clear hcc239 hce239
                    have HR239_1 := Aside0.mk hi239_1
                    have HC239_1 := Aside0.mk hl239_1
                    clear hi239_1 hl239_1
                    replace p239 := eq_true p239
                    replace q239 := eq_true q239
                    have ea_ := Option.some.inj (hx238_1.symm.trans hx239_1)
                    injection ea_ with ea_ en_ ec_
                    subst ea_
                    subst ec_
                    clear en_
                    have p240 : 0 ≤ (x7_1 : Int) := of_decide_eq_true (by first | (with_reducible assumption) | assumption)
                    have q240 : x7_1 < (t230.length : Int) := of_decide_eq_true (by first | (with_reducible assumption) | assumption)
                    obtain ⟨ad240, A240_1, c240_1, e240, hx240_0, hx240_1, hl240_1, hi240_1⟩ := at_T38 (Kd.N_reads' HO_3.out).2.2 x7_1 p240 q240
                    obtain rfl : ad238 = ad240 := (by injection e240)
                    obtain ⟨ce240, hce240, hMe240, hcc240⟩ := Kd.N_get HO_3.out z38 x7_1 p240 (by first | exact q240 | exact of_decide_eq_true (by first | (with_reducible assumption) | assumption) | (have e_ := (Kd.N_reads' HO_3.out).1; omega))
                    obtain ⟨ua240_1, uc240_1, rfl, ul240_1, ge240_1⟩ := k38_openF hMe240
                    have hv240_1 := hcc240 1 _ rfl
                    rw [add_field _ _ 1 (by omega)] at hv240_1
                    replace hv240_1 := Option.some.inj (hv240_1.symm.trans hx240_1)
                    injection hv240_1 with hva_ hvn_ hvc_
                    rw [hva_] at ge240_1
                    rw [hvc_] at ul240_1
                    have HL240_1 := Aside0.mk (show Kd.V (Kd.slice 9 Kd.string) 40 _ w.heap.size _ _ ((rd_T38 t230 x7_1).f1) from Kd.V_mk ul240_1 ge240_1)
                    clear hva_ hvn_ hvc_ ge240_1 ul240_1
                    clear hcc240 hce240
                    have HR240_1 := Aside0.mk hi240_1
                    have HC240_1 := Aside0.mk hl240_1
                    clear hi240_1 hl240_1
                    replace p240 := eq_true p240
                    replace q240 := eq_true q240
                    have ea_ := Option.some.inj (hx238_1.symm.trans hx240_1)
                    injection ea_ with ea_ en_ ec_
                    subst ea_
                    subst ec_
                    clear en_
                    have p241 : 0 ≤ (0 : Int) := (by omega)
                    have q241 : 0 < (((rd_T38 t230 x7_1).f1).length : Int) := of_decide_eq_true (by first | (with_reducible assumption) | assumption)
                    obtain ⟨ad241, A241_0, c241_0, e241, hx241_0, hl241_0, hi241_0⟩ := at_L1 (by repeat (first | (with_reducible exact HR240_1.out) | (with_reducible refine Kd.C_alloc ?_ _) | (with_reducible refine Kd.C_drewN ?_ _) | (with_reducible refine Kd.C_drew ?_) | exact HR240_1.out)) 0 p241 q241
                    cases e241
                    obtain ⟨ce241, hce241, hMe241, hcc241⟩ := Kd.V_get HL240_1.out [] 0 p241 (by first | exact q241 | exact of_decide_eq_true (by first | (with_reducible assumption) | assumption) | (have e_ := (Kd.V_reads' HL240_1.out).1; omega))
                    obtain ⟨ua241_0, uc241_0, rfl, ul241_0, ge241_0⟩ := Kd.FK_slice_open hMe241
                    have hv241_0 := hcc241 0 _ rfl
                    rw [Nat.add_zero, show ((Kd.slice 9 Kd.string)).sz = 1 from rfl, Nat.mul_one] at hv241_0
                    replace hv241_0 := Option.some.inj (hv241_0.symm.trans hx241_0)
                    injection hv241_0 with hva_ hvn_ hvc_
                    rw [hva_] at ge241_0
                    rw [hvc_] at ul241_0
                    have HL241_0 := Aside0.mk (show Kd.V Kd.string 9 _ w.heap.size _ _ (rd_L1 ((rd_T38 t230 x7_1).f1) 0) from Kd.V_mk ul241_0 ge241_0)
                    clear hva_ hvn_ hvc_ ge241_0 ul241_0
                    clear hcc241 hce241
                    have qi241 : (0 < ((rd_T38 t230 x7_1).f1).length) = True := eq_true (by omega)
                    (try rw [show ((0 : Int)).toNat = 0 from rfl] at hx241_0)
                    (try rw [Addr.add_zero'] at hx241_0)
                    have HR241_0 := Aside0.mk hi241_0
                    have HC241_0 := Aside0.mk hl241_0
                    clear hi241_0 hl241_0
                    replace p241 := eq_true p241
                    replace q241 := eq_true q241
                    go_wp2
                    go_ret
                    exact ⟨by first | rfl | (simp [errW_none, errW_some] <;> rfl) | (simp [*, errW_none, errW_some] <;> rfl), by repeat (first | (with_reducible first | exact HB.out | apply below_alloc | apply pw_below_drewN | apply below_drew1) | exact HB.out)⟩
                · rw [if_neg c13] at H
                  exact absurd H (by simp)
              · rw [if_neg c12] at H
                have c12b0 : ((((rd_T38 t230 x7_1).f1).length : Int) == 1) = false := beq_eq_false_iff_ne.mpr c12
                have c12b1 : ((((rd_T38 t230 x7_1).f1).length : Int) != 1) = true := bne_iff_ne.mpr c12
                obtain rfl := Option.some.inj H
                obtain ⟨Ao24, co24, eo24⟩ := Kd.N_slice HO_3.out
                subst eo24
                have p238 : 0 ≤ (x7_1 : Int) := of_decide_eq_true (by first | (with_reducible assumption) | assumption)
                have q238 : x7_1 < (t230.length : Int) := of_decide_eq_true (by first | (with_reducible assumption) | assumption)
                obtain ⟨ad238, A238_1, c238_1, e238, hx238_0, hx238_1, hl238_1, hi238_1⟩ := at_T38 (Kd.N_reads' HO_3.out).2.2 x7_1 p238 q238
                cases e238
                obtain ⟨ce238, hce238, hMe238, hcc238⟩ := Kd.N_get HO_3.out z38 x7_1 p238 (by first | exact q238 | exact of_decide_eq_true (by first | (with_reducible assumption) | assumption) | (have e_ := (Kd.N_reads' HO_3.out).1; omega))
                obtain ⟨ua238_1, uc238_1, rfl, ul238_1, ge238_1⟩ := k38_openF hMe238
                have hv238_1 := hcc238 1 _ rfl
                rw [add_field _ _ 1 (by omega)] at hv238_1
                replace hv238_1 := Option.some.inj (hv238_1.symm.trans hx238_1)
                injection hv238_1 with hva_ hvn_ hvc_
                rw [hva_] at ge238_1
                rw [hvc_] at ul238_1
                have HL238_1 := Aside0.mk (show Kd.V (Kd.slice 9 Kd.string) 40 _ w.heap.size _ _ ((rd_T38 t230 x7_1).f1) from Kd.V_mk ul238_1 ge238_1)
                clear hva_ hvn_ hvc_ ge238_1 ul238_1
                clear hcc238 hce238
                have HR238_1 := Aside0.mk hi238_1
                have HC238_1 := Aside0.mk hl238_1
                clear hi238_1 hl238_1
                replace p238 := eq_true p238
                replace q238 := eq_true q238
                obtain ⟨Ao25, co25, eo25⟩ := Kd.R_slice HO_6.out
                subst eo25
                have p239 : 0 ≤ (x7_1 : Int) := of_decide_eq_true (by first | (with_reducible assumption) | assumption)
                have q239 : x7_1 < (t230.length : Int) := of_decide_eq_true (by first | (with_reducible assumption) | assumption)
                obtain ⟨ad239, A239_1, c239_1, e239, hx239_0, hx239_1, hl239_1, hi239_1⟩ := at_T38 (Kd.N_reads' HO_3.out).2.2 x7_1 p239 q239
                obtain rfl : ad238 = ad239 := (by injection e239)
                obtain ⟨ce239, hce239, hMe239, hcc239⟩ := Kd.N_get HO_3.out z38 x7_1 p239 (by first | exact q239 | exact of_decide_eq_true (by first | (with_reducible assumption) | assumption) | (have e_ := (Kd.N_reads' HO_3.out).1; omega))
                obtain ⟨ua239_1, uc239_1, rfl, ul239_1, ge239_1⟩ := k38_openF hMe239
                have hv239_1 := hcc239 1 _ rfl
                rw [add_field _ _ 1 (by omega)] at hv239_1
                replace hv239_1 := Option.some.inj (hv239_1.symm.trans hx239_1)
                injection hv239_1 with hva_ hvn_ hvc_
                rw [hva_] at ge239_1
                rw [hvc_] at ul239_1
                have HL239_1 := Aside0.mk (show Kd.V (Kd.slice 9 Kd.string) 40 _ w.heap.size _ _ ((rd_T38 t230 x7_1).f1) from Kd.V_mk ul239_1 ge239_1)
                clear hva_ hvn_ hvc_ ge239_1 ul239_1
                clear hcc239 hce239
                have HR239_1 := Aside0.mk hi239_1
                have HC239_1 := Aside0.mk hl239_1
                clear hi239_1 hl239_1
                replace p239 := eq_true p239
                replace q239 := eq_true q239
                have ea_ := Option.some.inj (hx238_1.symm.trans hx239_1)
                injection ea_ with ea_ en_ ec_
                subst ea_
                subst ec_
                clear en_
                go_wp2
                go_ret
                exact ⟨by first | rfl | (simp [errW_none, errW_some] <;> rfl) | (simp [*, errW_none, errW_some] <;> rfl), by repeat (first | (with_reducible first | exact HB.out | apply below_alloc | apply pw_below_drewN | apply below_drew1) | exact HB.out)⟩
            · rw [if_neg c11] at H
              have c11b0 : (((rd_T38 t230 x7_1).f0) == (x6_1.length : Int)) = false := beq_eq_false_iff_ne.mpr c11
              have c11b1 : (((rd_T38 t230 x7_1).f0) != (x6_1.length : Int)) = true := bne_iff_ne.mpr c11
              obtain rfl := Option.some.inj H
              obtain ⟨Ao26, co26, eo26⟩ := Kd.N_slice HO_3.out
              subst eo26
              have p238 : 0 ≤ (x7_1 : Int) := of_decide_eq_true (by first | (with_reducible assumption) | assumption)
              have q238 : x7_1 < (t230.length : Int) := of_decide_eq_true (by first | (with_reducible assumption) | assumption)
              obtain ⟨ad238, A238_1, c238_1, e238, hx238_0, hx238_1, hl238_1, hi238_1⟩ := at_T38 (Kd.N_reads' HO_3.out).2.2 x7_1 p238 q238
              cases e238
              obtain ⟨ce238, hce238, hMe238, hcc238⟩ := Kd.N_get HO_3.out z38 x7_1 p238 (by first | exact q238 | exact of_decide_eq_true (by first | (with_reducible assumption) | assumption) | (have e_ := (Kd.N_reads' HO_3.out).1; omega))
              obtain ⟨ua238_1, uc238_1, rfl, ul238_1, ge238_1⟩ := k38_openF hMe238
              have hv238_1 := hcc238 1 _ rfl
              rw [add_field _ _ 1 (by omega)] at hv238_1
              replace hv238_1 := Option.some.inj (hv238_1.symm.trans hx238_1)
              injection hv238_1 with hva_ hvn_ hvc_
              rw [hva_] at ge238_1
              rw [hvc_] at ul238_1
              have HL238_1 := Aside0.mk (show Kd.V (Kd.slice 9 Kd.string) 40 _ w.heap.size _ _ ((rd_T38 t230 x7_1).f1) from Kd.V_mk ul238_1 ge238_1)
              clear hva_ hvn_ hvc_ ge238_1 ul238_1
              clear hcc238 hce238
              have HR238_1 := Aside0.mk hi238_1
              have HC238_1 := Aside0.mk hl238_1
              clear hi238_1 hl238_1
              replace p238 := eq_true p238
              replace q238 := eq_true q238
              obtain ⟨Ao27, co27, eo27⟩ := Kd.R_slice HO_6.out
              subst eo27
              go_wp2
              go_ret
              exact ⟨by first | rfl | (simp [errW_none, errW_some] <;> rfl) | (simp [*, errW_none, errW_some] <;> rfl), by repeat (first | (with_reducible first | exact HB.out | apply below_alloc | apply pw_below_drewN | apply below_drew1) | exact HB.out)⟩
          · rw [if_neg c10] at H
            exact absurd H (by simp)
        · rw [if_neg c9] at H
          have c9b0 : decide (x7_1 < (t230.length : Int)) = false := decide_eq_false c9
          clear c9
          replace H := Option.bind_eq_some_iff.mp H
          obtain ⟨t251, A280, H⟩ := H
          replace H : (if t251 = true then ((threshinglaw05_alive.f k1).bind fun t252 => (if t252 = true then (if t234 = 0 then (some ((strOfNums x6_1).toList == (strOfNums l0).toList)) else (some false)) else (some false))) else ((threshinglaw05_alive.f k1).bind fun t253 => (if t253 = true then (if t234 = 0 then (if (strOfNums l0).size + 1 ≤ 9223372036854775807 then (some ((strOfNums x6_1).toList == ((strOfNums l0) ++ (⟨#[10]⟩ : ByteArray)).toList)) else (none)) else (some false)) else (some false)))) = some r := H
          have A28 := Aside0.mk A280
          clear A280
          by_cases c29 : t251 = true
          · subst c29
            have H1 : ((threshinglaw05_alive.f k1).bind fun t252 => (if t252 = true then (if t234 = 0 then (some ((strOfNums x6_1).toList == (strOfNums l0).toList)) else (some false)) else (some false))) = some r := by rw [if_pos rfl] at H; exact H
            clear H
            have H := H1
            clear H1
            replace H := Option.bind_eq_some_iff.mp H
            obtain ⟨t252, A300, H⟩ := H
            replace H : (if t252 = true then (if t234 = 0 then (some ((strOfNums x6_1).toList == (strOfNums l0).toList)) else (some false)) else (some false)) = some r := H
            have A30 := Aside0.mk A300
            clear A300
            by_cases c31 : t252 = true
            · subst c31
              have H1 : (if t234 = 0 then (some ((strOfNums x6_1).toList == (strOfNums l0).toList)) else (some false)) = some r := by rw [if_pos rfl] at H; exact H
              clear H
              have H := H1
              clear H1
              by_cases c32 : t234 = 0
              · rw [if_pos c32] at H
                have c32b0 : (t234 == 0) = true := beq_iff_eq.mpr c32
                have c32b1 : (t234 != 0) = false := bne_eq_false_iff_eq.mpr c32
                clear c32
                obtain rfl := Option.some.inj H
                obtain ⟨Ao33, co33, eo33⟩ := Kd.N_slice HO_3.out
                subst eo33
                go_wp2_with (first | ((with_reducible refine gate_callee (f := 14) rfl ?_); refine goesL_ (some 68) rfl rfl Try.func14 (by kernel_rfl) rfl #[.slice A0 l0.length c0] rfl (by (try simp only [List.map_toArray, List.map_cons, List.map_nil]); first | done | rfl | (simp only [List.length_drop, List.length_take]; rfl)) ?_; (with_reducible refine (text_Canon.calls _ _ l0 true _ ?side1 ?side2 A28.out).mono ?_); (case side1 => repeat (first | exact (Kd.C_below HR0.out HB.out) | (with_reducible refine Kd.C_alloc ?_ _) | (with_reducible refine Kd.C_drewN ?_ _) | (with_reducible refine Kd.C_drew ?_))); (case side2 => exact HC0.out); rintro e w' ⟨rfl, ⟨nd, rfl⟩⟩; refine ⟨_, rfl, ?_⟩) | ((with_reducible refine gate_callee (f := 10) rfl ?_); refine goesL_ (some 69) rfl rfl Try.func10 (by kernel_rfl) rfl #[] rfl (by (try simp only [List.map_toArray, List.map_cons, List.map_nil]); first | done | rfl | (simp only [List.length_drop, List.length_take]; rfl)) ?_; (with_reducible refine (threshinglaw05_alive.calls k1  true _ A30.out).mono ?_); rintro e w34 ⟨rfl, hb⟩; refine ⟨_, rfl, ?_⟩; have n0_ := Aside0.mk (Kd.N_below (by (with_reducible repeat (first | apply Kd.N_alloc | apply Kd.N_drewN | apply Kd.N_drew)); exact HO_3.out) hb); have n1_ := Aside0.mk (Kd.R_below (by (with_reducible repeat (first | apply Kd.R_alloc | apply Kd.R_drewN | apply Kd.R_drew)); exact HO_6.out) hb); have n2_ := Aside0.mk (below_step (by repeat (first | (with_reducible first | exact HB.out | apply below_alloc | apply pw_below_drewN | apply below_drew1) | exact HB.out)) hb); clear HO_3; clear HO_6; clear HB; have HO_3 := n0_; have HO_6 := n1_; have HB := n2_; clear n0_ n1_ n2_; (try clear hb); (try clear hb2); (try clear hk); (try clear hi); have hcv35 := own_string (P := Try.prog) Try.underlying25 Try.underlying5 Try.underlying9 (Kd.own_of_R HO_6.out); have hcv36 := fun (nq_ : Nat) => own_string (P := Try.prog) Try.underlying25 Try.underlying5 Try.underlying9 (Kd.own_of_R (Kd.R_drewN HO_6.out nq_)); have hcv37 := Kd.C_string (P := Try.prog) (A := A0) (c := c0) Try.underlying25 Try.underlying5 Try.underlying9 (Kd.C_below HR0.out HB.out); have hcv39 := fun (nq_ : Nat) => Kd.C_string (P := Try.prog) (A := A0) (c := c0) Try.underlying25 Try.underlying5 Try.underlying9 (Kd.C_below (Kd.C_below HR0.out HB.out) (pw_below_drewN (Below.refl _ _) nq_))))
                go_ret
                exact ⟨by first | rfl | (simp [errW_none, errW_some] <;> rfl) | (simp [*, errW_none, errW_some] <;> rfl), by repeat (first | (with_reducible first | exact HB.out | apply below_alloc | apply pw_below_drewN | apply below_drew1) | exact HB.out)⟩
              · rw [if_neg c32] at H
                have c32b0 : (t234 == 0) = false := beq_eq_false_iff_ne.mpr c32
                have c32b1 : (t234 != 0) = true := bne_iff_ne.mpr c32
                obtain rfl := Option.some.inj H
                obtain ⟨Ao40, co40, eo40⟩ := Kd.N_slice HO_3.out
                subst eo40
                go_wp2_with (first | ((with_reducible refine gate_callee (f := 14) rfl ?_); refine goesL_ (some 68) rfl rfl Try.func14 (by kernel_rfl) rfl #[.slice A0 l0.length c0] rfl (by (try simp only [List.map_toArray, List.map_cons, List.map_nil]); first | done | rfl | (simp only [List.length_drop, List.length_take]; rfl)) ?_; (with_reducible refine (text_Canon.calls _ _ l0 true _ ?side1 ?side2 A28.out).mono ?_); (case side1 => repeat (first | exact (Kd.C_below HR0.out HB.out) | (with_reducible refine Kd.C_alloc ?_ _) | (with_reducible refine Kd.C_drewN ?_ _) | (with_reducible refine Kd.C_drew ?_))); (case side2 => exact HC0.out); rintro e w' ⟨rfl, ⟨nd, rfl⟩⟩; refine ⟨_, rfl, ?_⟩) | ((with_reducible refine gate_callee (f := 10) rfl ?_); refine goesL_ (some 69) rfl rfl Try.func10 (by kernel_rfl) rfl #[] rfl (by (try simp only [List.map_toArray, List.map_cons, List.map_nil]); first | done | rfl | (simp only [List.length_drop, List.length_take]; rfl)) ?_; (with_reducible refine (threshinglaw05_alive.calls k1  true _ A30.out).mono ?_); rintro e w41 ⟨rfl, hb⟩; refine ⟨_, rfl, ?_⟩; have n0_ := Aside0.mk (Kd.N_below (by (with_reducible repeat (first | apply Kd.N_alloc | apply Kd.N_drewN | apply Kd.N_drew)); exact HO_3.out) hb); have n1_ := Aside0.mk (Kd.R_below (by (with_reducible repeat (first | apply Kd.R_alloc | apply Kd.R_drewN | apply Kd.R_drew)); exact HO_6.out) hb); have n2_ := Aside0.mk (below_step (by repeat (first | (with_reducible first | exact HB.out | apply below_alloc | apply pw_below_drewN | apply below_drew1) | exact HB.out)) hb); clear HO_3; clear HO_6; clear HB; have HO_3 := n0_; have HO_6 := n1_; have HB := n2_; clear n0_ n1_ n2_; (try clear hb); (try clear hb2); (try clear hk); (try clear hi)))
                go_ret
                exact ⟨by first | rfl | (simp [errW_none, errW_some] <;> rfl) | (simp [*, errW_none, errW_some] <;> rfl), by repeat (first | (with_reducible first | exact HB.out | apply below_alloc | apply pw_below_drewN | apply below_drew1) | exact HB.out)⟩
            · replace c31 := Bool.eq_false_iff.mpr c31
              subst c31
              have H1 : (some false) = some r := by rw [if_neg (show ¬ (false = true) by decide)] at H; exact H
              clear H
              have H := H1
              clear H1
              obtain rfl := Option.some.inj H
              obtain ⟨Ao42, co42, eo42⟩ := Kd.N_slice HO_3.out
              subst eo42
              go_wp2_with (first | ((with_reducible refine gate_callee (f := 14) rfl ?_); refine goesL_ (some 68) rfl rfl Try.func14 (by kernel_rfl) rfl #[.slice A0 l0.length c0] rfl (by (try simp only [List.map_toArray, List.map_cons, List.map_nil]); first | done | rfl | (simp only [List.length_drop, List.length_take]; rfl)) ?_; (with_reducible refine (text_Canon.calls _ _ l0 true _ ?side1 ?side2 A28.out).mono ?_); (case side1 => repeat (first | exact (Kd.C_below HR0.out HB.out) | (with_reducible refine Kd.C_alloc ?_ _) | (with_reducible refine Kd.C_drewN ?_ _) | (with_reducible refine Kd.C_drew ?_))); (case side2 => exact HC0.out); rintro e w' ⟨rfl, ⟨nd, rfl⟩⟩; refine ⟨_, rfl, ?_⟩) | ((with_reducible refine gate_callee (f := 10) rfl ?_); refine goesL_ (some 69) rfl rfl Try.func10 (by kernel_rfl) rfl #[] rfl (by (try simp only [List.map_toArray, List.map_cons, List.map_nil]); first | done | rfl | (simp only [List.length_drop, List.length_take]; rfl)) ?_; (with_reducible refine (threshinglaw05_alive.calls k1  false _ A30.out).mono ?_); rintro e w43 ⟨rfl, hb⟩; refine ⟨_, rfl, ?_⟩; have n0_ := Aside0.mk (Kd.N_below (by (with_reducible repeat (first | apply Kd.N_alloc | apply Kd.N_drewN | apply Kd.N_drew)); exact HO_3.out) hb); have n1_ := Aside0.mk (Kd.R_below (by (with_reducible repeat (first | apply Kd.R_alloc | apply Kd.R_drewN | apply Kd.R_drew)); exact HO_6.out) hb); have n2_ := Aside0.mk (below_step (by repeat (first | (with_reducible first | exact HB.out | apply below_alloc | apply pw_below_drewN | apply below_drew1) | exact HB.out)) hb); clear HO_3; clear HO_6; clear HB; have HO_3 := n0_; have HO_6 := n1_; have HB := n2_; clear n0_ n1_ n2_; (try clear hb); (try clear hb2); (try clear hk); (try clear hi)))
              go_ret
              exact ⟨by first | rfl | (simp [errW_none, errW_some] <;> rfl) | (simp [*, errW_none, errW_some] <;> rfl), by repeat (first | (with_reducible first | exact HB.out | apply below_alloc | apply pw_below_drewN | apply below_drew1) | exact HB.out)⟩
          · replace c29 := Bool.eq_false_iff.mpr c29
            subst c29
            have H1 : ((threshinglaw05_alive.f k1).bind fun t253 => (if t253 = true then (if t234 = 0 then (if (strOfNums l0).size + 1 ≤ 9223372036854775807 then (some ((strOfNums x6_1).toList == ((strOfNums l0) ++ (⟨#[10]⟩ : ByteArray)).toList)) else (none)) else (some false)) else (some false))) = some r := by rw [if_neg (show ¬ (false = true) by decide)] at H; exact H
            clear H
            have H := H1
            clear H1
            replace H := Option.bind_eq_some_iff.mp H
            obtain ⟨t253, A440, H⟩ := H
            replace H : (if t253 = true then (if t234 = 0 then (if (strOfNums l0).size + 1 ≤ 9223372036854775807 then (some ((strOfNums x6_1).toList == ((strOfNums l0) ++ (⟨#[10]⟩ : ByteArray)).toList)) else (none)) else (some false)) else (some false)) = some r := H
            have A44 := Aside0.mk A440
            clear A440
            by_cases c45 : t253 = true
            · subst c45
              have H1 : (if t234 = 0 then (if (strOfNums l0).size + 1 ≤ 9223372036854775807 then (some ((strOfNums x6_1).toList == ((strOfNums l0) ++ (⟨#[10]⟩ : ByteArray)).toList)) else (none)) else (some false)) = some r := by rw [if_pos rfl] at H; exact H
              clear H
              have H := H1
              clear H1
              by_cases c46 : t234 = 0
              · rw [if_pos c46] at H
                have c46b0 : (t234 == 0) = true := beq_iff_eq.mpr c46
                have c46b1 : (t234 != 0) = false := bne_eq_false_iff_eq.mpr c46
                clear c46
                by_cases c47 : (strOfNums l0).size + 1 ≤ 9223372036854775807
                · rw [if_pos c47] at H
                  have c47b0 := eq_true c47
                  have c47b1 : decide ((strOfNums l0).size + 1 ≤ 9223372036854775807) = true := decide_eq_true c47
                  try have c47b2 : (9223372036854775807 < (strOfNums l0).size + 1) = False := eq_false (Nat.not_lt.2 c47)
                  obtain rfl := Option.some.inj H
                  obtain ⟨Ao48, co48, eo48⟩ := Kd.N_slice HO_3.out
                  subst eo48
                  go_wp2_with (first | ((with_reducible refine gate_callee (f := 14) rfl ?_); refine goesL_ (some 68) rfl rfl Try.func14 (by kernel_rfl) rfl #[.slice A0 l0.length c0] rfl (by (try simp only [List.map_toArray, List.map_cons, List.map_nil]); first | done | rfl | (simp only [List.length_drop, List.length_take]; rfl)) ?_; (with_reducible refine (text_Canon.calls _ _ l0 false _ ?side1 ?side2 A28.out).mono ?_); (case side1 => repeat (first | exact (Kd.C_below HR0.out HB.out) | (with_reducible refine Kd.C_alloc ?_ _) | (with_reducible refine Kd.C_drewN ?_ _) | (with_reducible refine Kd.C_drew ?_))); (case side2 => exact HC0.out); rintro e w' ⟨rfl, ⟨nd, rfl⟩⟩; refine ⟨_, rfl, ?_⟩) | ((with_reducible refine gate_callee (f := 10) rfl ?_); refine goesL_ (some 81) rfl rfl Try.func10 (by kernel_rfl) rfl #[] rfl (by (try simp only [List.map_toArray, List.map_cons, List.map_nil]); first | done | rfl | (simp only [List.length_drop, List.length_take]; rfl)) ?_; (with_reducible refine (threshinglaw05_alive.calls k1  true _ A44.out).mono ?_); rintro e w49 ⟨rfl, hb⟩; refine ⟨_, rfl, ?_⟩; have n0_ := Aside0.mk (Kd.N_below (by (with_reducible repeat (first | apply Kd.N_alloc | apply Kd.N_drewN | apply Kd.N_drew)); exact HO_3.out) hb); have n1_ := Aside0.mk (Kd.R_below (by (with_reducible repeat (first | apply Kd.R_alloc | apply Kd.R_drewN | apply Kd.R_drew)); exact HO_6.out) hb); have n2_ := Aside0.mk (below_step (by repeat (first | (with_reducible first | exact HB.out | apply below_alloc | apply pw_below_drewN | apply below_drew1) | exact HB.out)) hb); clear HO_3; clear HO_6; clear HB; have HO_3 := n0_; have HO_6 := n1_; have HB := n2_; clear n0_ n1_ n2_; (try clear hb); (try clear hb2); (try clear hk); (try clear hi); have hcv50 := own_string (P := Try.prog) Try.underlying25 Try.underlying5 Try.underlying9 (Kd.own_of_R HO_6.out); have hcv51 := fun (nq_ : Nat) => own_string (P := Try.prog) Try.underlying25 Try.underlying5 Try.underlying9 (Kd.own_of_R (Kd.R_drewN HO_6.out nq_)); have hcv52 := Kd.C_string (P := Try.prog) (A := A0) (c := c0) Try.underlying25 Try.underlying5 Try.underlying9 (Kd.C_below HR0.out HB.out); have hcv54 := fun (nq_ : Nat) => Kd.C_string (P := Try.prog) (A := A0) (c := c0) Try.underlying25 Try.underlying5 Try.underlying9 (Kd.C_below (Kd.C_below HR0.out HB.out) (pw_below_drewN (Below.refl _ _) nq_))))
                  go_ret
                  exact ⟨by first | rfl | (simp [errW_none, errW_some] <;> rfl) | (simp [*, errW_none, errW_some] <;> rfl), by repeat (first | (with_reducible first | exact HB.out | apply below_alloc | apply pw_below_drewN | apply below_drew1) | exact HB.out)⟩
                · rw [if_neg c47] at H
                  exact absurd H (by simp)
              · rw [if_neg c46] at H
                have c46b0 : (t234 == 0) = false := beq_eq_false_iff_ne.mpr c46
                have c46b1 : (t234 != 0) = true := bne_iff_ne.mpr c46
                obtain rfl := Option.some.inj H
                obtain ⟨Ao55, co55, eo55⟩ := Kd.N_slice HO_3.out
                subst eo55
                go_wp2_with (first | ((with_reducible refine gate_callee (f := 14) rfl ?_); refine goesL_ (some 68) rfl rfl Try.func14 (by kernel_rfl) rfl #[.slice A0 l0.length c0] rfl (by (try simp only [List.map_toArray, List.map_cons, List.map_nil]); first | done | rfl | (simp only [List.length_drop, List.length_take]; rfl)) ?_; (with_reducible refine (text_Canon.calls _ _ l0 false _ ?side1 ?side2 A28.out).mono ?_); (case side1 => repeat (first | exact (Kd.C_below HR0.out HB.out) | (with_reducible refine Kd.C_alloc ?_ _) | (with_reducible refine Kd.C_drewN ?_ _) | (with_reducible refine Kd.C_drew ?_))); (case side2 => exact HC0.out); rintro e w' ⟨rfl, ⟨nd, rfl⟩⟩; refine ⟨_, rfl, ?_⟩) | ((with_reducible refine gate_callee (f := 10) rfl ?_); refine goesL_ (some 81) rfl rfl Try.func10 (by kernel_rfl) rfl #[] rfl (by (try simp only [List.map_toArray, List.map_cons, List.map_nil]); first | done | rfl | (simp only [List.length_drop, List.length_take]; rfl)) ?_; (with_reducible refine (threshinglaw05_alive.calls k1  true _ A44.out).mono ?_); rintro e w56 ⟨rfl, hb⟩; refine ⟨_, rfl, ?_⟩; have n0_ := Aside0.mk (Kd.N_below (by (with_reducible repeat (first | apply Kd.N_alloc | apply Kd.N_drewN | apply Kd.N_drew)); exact HO_3.out) hb); have n1_ := Aside0.mk (Kd.R_below (by (with_reducible repeat (first | apply Kd.R_alloc | apply Kd.R_drewN | apply Kd.R_drew)); exact HO_6.out) hb); have n2_ := Aside0.mk (below_step (by repeat (first | (with_reducible first | exact HB.out | apply below_alloc | apply pw_below_drewN | apply below_drew1) | exact HB.out)) hb); clear HO_3; clear HO_6; clear HB; have HO_3 := n0_; have HO_6 := n1_; have HB := n2_; clear n0_ n1_ n2_; (try clear hb); (try clear hb2); (try clear hk); (try clear hi)))
                go_ret
                exact ⟨by first | rfl | (simp [errW_none, errW_some] <;> rfl) | (simp [*, errW_none, errW_some] <;> rfl), by repeat (first | (with_reducible first | exact HB.out | apply below_alloc | apply pw_below_drewN | apply below_drew1) | exact HB.out)⟩
            · replace c45 := Bool.eq_false_iff.mpr c45
              subst c45
              have H1 : (some false) = some r := by rw [if_neg (show ¬ (false = true) by decide)] at H; exact H
              clear H
              have H := H1
              clear H1
              obtain rfl := Option.some.inj H
              obtain ⟨Ao57, co57, eo57⟩ := Kd.N_slice HO_3.out
              subst eo57
              go_wp2_with (first | ((with_reducible refine gate_callee (f := 14) rfl ?_); refine goesL_ (some 68) rfl rfl Try.func14 (by kernel_rfl) rfl #[.slice A0 l0.length c0] rfl (by (try simp only [List.map_toArray, List.map_cons, List.map_nil]); first | done | rfl | (simp only [List.length_drop, List.length_take]; rfl)) ?_; (with_reducible refine (text_Canon.calls _ _ l0 false _ ?side1 ?side2 A28.out).mono ?_); (case side1 => repeat (first | exact (Kd.C_below HR0.out HB.out) | (with_reducible refine Kd.C_alloc ?_ _) | (with_reducible refine Kd.C_drewN ?_ _) | (with_reducible refine Kd.C_drew ?_))); (case side2 => exact HC0.out); rintro e w' ⟨rfl, ⟨nd, rfl⟩⟩; refine ⟨_, rfl, ?_⟩) | ((with_reducible refine gate_callee (f := 10) rfl ?_); refine goesL_ (some 81) rfl rfl Try.func10 (by kernel_rfl) rfl #[] rfl (by (try simp only [List.map_toArray, List.map_cons, List.map_nil]); first | done | rfl | (simp only [List.length_drop, List.length_take]; rfl)) ?_; (with_reducible refine (threshinglaw05_alive.calls k1  false _ A44.out).mono ?_); rintro e w58 ⟨rfl, hb⟩; refine ⟨_, rfl, ?_⟩; have n0_ := Aside0.mk (Kd.N_below (by (with_reducible repeat (first | apply Kd.N_alloc | apply Kd.N_drewN | apply Kd.N_drew)); exact HO_3.out) hb); have n1_ := Aside0.mk (Kd.R_below (by (with_reducible repeat (first | apply Kd.R_alloc | apply Kd.R_drewN | apply Kd.R_drew)); exact HO_6.out) hb); have n2_ := Aside0.mk (below_step (by repeat (first | (with_reducible first | exact HB.out | apply below_alloc | apply pw_below_drewN | apply below_drew1) | exact HB.out)) hb); clear HO_3; clear HO_6; clear HB; have HO_3 := n0_; have HO_6 := n1_; have HB := n2_; clear n0_ n1_ n2_; (try clear hb); (try clear hb2); (try clear hk); (try clear hi)))
              go_ret
              exact ⟨by first | rfl | (simp [errW_none, errW_some] <;> rfl) | (simp [*, errW_none, errW_some] <;> rfl), by repeat (first | (with_reducible first | exact HB.out | apply below_alloc | apply pw_below_drewN | apply below_drew1) | exact HB.out)⟩

def threshinglaw05_TextPieces.Pure : Prop := ∀ (x0 : List Int), (x0.length * 1 ≤ 140737488351232 ∧ ∀ q0_ ∈ x0, (Lit.int .u8 q0_).wf = true) → ∃ k, threshinglaw05_TextPieces.f k x0 = some true

end Go.Proofs.Ytbfjhgpeidibhaa.PX
