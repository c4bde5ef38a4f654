/- Walked functions, by this session's program over the kit's print. -/
import Derived.Test.YtejmgcfjpofniaaDoorXDo
import Derived.Test.YtejmgcfjpofniaaDoorPXx0
import Derived.Test.YtejmgcfjpofniaaDoorPXx2
import Derived.Test.YtejmgcfjpofniaaDoorPXx5
namespace Go.Proofs.YtejmgcfjpofniaaDoor.PX
open Go.RowKit Go.Proofs.YtejmgcfjpofniaaDoorW.PrintWords Go.Proofs.YtejmgcfjpofniaaDoorW.PrintLast Go.Proofs.YtejmgcfjpofniaaDoorW.PrintMore
attribute [local go_sem] xm_gtr max2_int min2_int max_two min_two max_three min_three max_four min_four   -- for this text's walks alone
set_option linter.unusedVariables false
set_option linter.unusedSimpArgs false

/-! ### value_Hash: function 36 -/
def value_Hash.l0 : Nat → ByteArray → Int → Int → Int → Option (Int)
  | 0, _, _, _, _ => none
  | k + 1, x0, x3, x6, x7 => if x7 < x6 then (if 0 ≤ x7 then (if x7 < (x0.size : Int) then (value_Hash.l0 k x0 (((Go.bits .xor .u32 x3 ((bt x0 x7) % 4294967296)) * 16777619) % 4294967296) x6 (wrap64 (x7 + 1))) else (none)) else (none)) else (some (wrap64 (Go.bits .and .u32 x3 2147483647)))
def value_Hash.f (k : Nat) (a0 : ByteArray) : Option (Int) := value_Hash.l0 k a0 2166136261 (a0.size : Int) 0
theorem value_Hash.mono_l : ∀ k, (∀ y0 y1 y2 y3, LeO (value_Hash.l0 k y0 y1 y2 y3) (value_Hash.l0 (k + 1) y0 y1 y2 y3))
  | 0 => fun _ _ _ _ r h => by simp [value_Hash.l0] at h
  | k + 1 => by
    have ih0 := value_Hash.mono_l k
    · intro y0 y1 y2 y3
      unfold value_Hash.l0
      repeat' first
      | (with_reducible exact ih0 _ _ _ _)
      | (with_reducible exact LeO.refl _)
      | (with_reducible exact LeO.none _)
      | (with_reducible refine LeO.ite ?_ ?_)
      | (with_reducible refine LeO.bind ?_ (fun _ => ?_))
      | exact ih0 _ _ _ _
      | exact LeO.none _
      | refine LeO.ite ?_ ?_
      | refine LeO.bind ?_ (fun _ => ?_)
theorem value_Hash.mono : ∀ a0 k, LeO (value_Hash.f k a0) (value_Hash.f (k + 1) a0) := by
  intro a0 k
  have ih0 := value_Hash.mono_l k
  unfold value_Hash.f
  repeat' first
      | (with_reducible exact ih0 _ _ _ _)
      | (with_reducible exact LeO.refl _)
      | (with_reducible exact LeO.none _)
      | (with_reducible refine LeO.ite ?_ ?_)
      | (with_reducible refine LeO.bind ?_ (fun _ => ?_))
      | exact ih0 _ _ _ _
      | exact LeO.none _
      | refine LeO.ite ?_ ?_
      | refine LeO.bind ?_ (fun _ => ?_)
set_option maxHeartbeats 8000000 in
set_option maxRecDepth 100000 in
theorem value_Hash.calls (k : Nat) (a0 : ByteArray) (r : Int) (w : World) (hT : Tabs w) (h : value_Hash.f k a0 = some r) :
    Calls Tryd.prog 36 #[.string a0] w fun e w' => e = .returned (.int .i64 r) ∧ Drawn0 w w' := by
  have H : (value_Hash.l0 k a0 2166136261 (a0.size : Int) 0) = some r := h
  clear h
  have H' := Aside0.mk H
  clear H
  go_enter Tryd.func36, Tryd.ntmps36
  go_wp2
  go_loopg [3, 7] k (fun kq v3 v7 w' => ∃ (x3_1 : Int) (x7_1 : Int), v3 = .int .u32 x3_1 ∧ v7 = .int .i64 x7_1 ∧ Aside0 (value_Hash.l0 kq a0 x3_1 (a0.size : Int) x7_1 = some r) ∧ Aside0 (kq ≤ k) ∧ Drawn0 w w')
  case atStart => exact ⟨(2166136261), (0), (by first | rfl | (simp; done) | (simp [*]; done) | exact congrArg Value.bool (xm_ne_nil _) | exact congrArg Value.bool (xm_ne_nil _).symm), (by first | rfl | (simp; done) | (simp [*]; done) | exact congrArg Value.bool (xm_ne_nil _) | exact congrArg Value.bool (xm_ne_nil _).symm), H', ⟨Nat.le_refl _⟩, by repeat (first | exact Drawn0.refl _ | apply Drawn0.step)⟩
  case round =>
    clear H'
    obtain ⟨x3_1, x7_1, rfl, rfl, HA, HK1, ⟨m1, rfl⟩⟩ := hrel
    cases gk with
    | zero => exact absurd HA.out (by simp [value_Hash.l0])
    | succ k1 =>
      have H := HA.out
      clear HA
      simp only [value_Hash.l0] at H
      by_cases c2 : x7_1 < (a0.size : Int)
      · rw [if_pos c2] at H
        have c2b0 : decide (x7_1 < (a0.size : Int)) = true := decide_eq_true c2
        clear c2
        by_cases c3 : 0 ≤ x7_1
        · rw [if_pos c3] at H
          have c3b0 : decide (0 ≤ x7_1) = true := decide_eq_true c3
          clear c3
          by_cases c4 : x7_1 < (a0.size : Int)
          · rw [if_pos c4] at H
            have c4b0 : decide (x7_1 < (a0.size : Int)) = true := decide_eq_true c4
            clear c4
            have H' := Aside0.mk H
            clear H
            have p5 : 0 ≤ (x7_1 : Int) := of_decide_eq_true (by first | (with_reducible assumption) | assumption)
            have q5 : x7_1 < (a0.size : Int) := of_decide_eq_true (by first | (with_reducible assumption) | assumption)
            have hx5 := bt_at a0 x7_1
            replace p5 := eq_true p5
            replace q5 := eq_true q5
            go_wp2
            go_roundg k1
            case measure => have := HK1.out; omega
            case rel => exact ⟨(((Go.bits .xor .u32 x3_1 ((bt a0 x7_1) % 4294967296)) * 16777619) % 4294967296), (wrap64 (x7_1 + 1)), (by first | rfl | (simp; done) | (simp [*]; done) | exact congrArg Value.bool (xm_ne_nil _) | exact congrArg Value.bool (xm_ne_nil _).symm), (by first | rfl | (simp; done) | (simp [*]; done) | exact congrArg Value.bool (xm_ne_nil _) | exact congrArg Value.bool (xm_ne_nil _).symm), H', ⟨by have := HK1.out; omega⟩, by repeat (first | exact Drawn0.refl _ | apply Drawn0.step)⟩
          · rw [if_neg c4] at H
            exact absurd H (by simp)
        · rw [if_neg c3] at H
          exact absurd H (by simp)
      · rw [if_neg c2] at H
        have c2b0 : decide (x7_1 < (a0.size : Int)) = false := decide_eq_false c2
        clear c2
        obtain rfl := Option.some.inj H
        go_wp2
        go_ret
        exact ⟨by first | rfl | (simp; done) | (simp [*]; done), by repeat (first | exact Drawn0.refl _ | apply Drawn0.step)⟩

/-! ### value_val_hash: function 27 -/
def value_val_hash.f (k : Nat) (a0_0 : Bool) (a0_1 : Int) (a0_2 : ByteArray) (a1_0 : Bool) (a1_1 : Int) (a1_2 : ByteArray) (a2_0 : Bool) (a2_1 : Int) (a2_2 : ByteArray) : Option (Bool × Int × ByteArray) := (value_Hash.f k a0_2).bind fun t267 => ((value_Num.f t267).bind fun bt268 => (some (bt268.1, bt268.2.1, bt268.2.2)))
theorem value_val_hash.mono : ∀ a0 a1 a2 a3 a4 a5 a6 a7 a8 k, LeO (value_val_hash.f k a0 a1 a2 a3 a4 a5 a6 a7 a8) (value_val_hash.f (k + 1) a0 a1 a2 a3 a4 a5 a6 a7 a8) := by
  intro a0 a1 a2 a3 a4 a5 a6 a7 a8 k
  unfold value_val_hash.f
  repeat' first
      | (with_reducible exact value_Hash.mono _ _)
      | (with_reducible exact LeO.refl _)
      | (with_reducible exact LeO.none _)
      | (with_reducible refine LeO.ite ?_ ?_)
      | (with_reducible refine LeO.bind ?_ (fun _ => ?_))
      | exact value_Hash.mono _ _
      | exact LeO.none _
      | refine LeO.ite ?_ ?_
      | refine LeO.bind ?_ (fun _ => ?_)
set_option maxHeartbeats 8000000 in
set_option maxRecDepth 100000 in
theorem value_val_hash.calls (k : Nat) (a0_0 : Bool) (a0_1 : Int) (a0_2 : ByteArray) (a1_0 : Bool) (a1_1 : Int) (a1_2 : ByteArray) (a2_0 : Bool) (a2_1 : Int) (a2_2 : ByteArray) (r1 : Bool) (r2 : Int) (r3 : ByteArray) (w : World) (hT : Tabs w) (h : value_val_hash.f k a0_0 a0_1 a0_2 a1_0 a1_1 a1_2 a2_0 a2_1 a2_2 = some (r1, r2, r3)) :
    Calls Tryd.prog 27 #[.agg #[.bool a0_0, .int .i64 a0_1, .string a0_2], .agg #[.bool a1_0, .int .i64 a1_1, .string a1_2], .agg #[.bool a2_0, .int .i64 a2_1, .string a2_2]] w fun e w' => e = .returned (.agg #[.bool r1, .int .i64 r2, .string r3]) ∧ Below w.heap.size w w' := by
  have hu36 := Tryd.underlying36
  have hu24 := Tryd.underlying24
  have HB := Aside0.mk (Below.refl w.heap.size w)
  have H : ((value_Hash.f k a0_2).bind fun t267 => ((value_Num.f t267).bind fun bt268 => (some (bt268.1, bt268.2.1, bt268.2.2)))) = some (r1, r2, r3) := h
  clear h
  replace H := Option.bind_eq_some_iff.mp H
  obtain ⟨t267, A40, H⟩ := H
  replace H : ((value_Num.f t267).bind fun bt268 => (some (bt268.1, bt268.2.1, bt268.2.2))) = some (r1, r2, r3) := H
  have A4 := Aside0.mk A40
  clear A40
  replace H := Option.bind_eq_some_iff.mp H
  obtain ⟨⟨t268, t269, t270⟩, A50, H⟩ := H
  replace H : (some (t268, t269, t270)) = some (r1, r2, r3) := H
  have A5 := Aside0.mk A50
  clear A50
  simp only [Option.some.injEq, Prod.mk.injEq] at H
  obtain ⟨rfl, rfl, rfl⟩ := H
  go_enter Tryd.func27, Tryd.ntmps27
  go_wp2_with (first | ((with_reducible refine gate_dst (N := 3) rfl ?_); refine box_event ?hg (N := 3) ?hd (cs := #[.bool a0_0, .int .i64 a0_1, .string a0_2]) (t := 36) ?hr ?_; (case hd => rfl); (case hg => rfl); (case hr => first | (go_simp; done) | (go_simp; rfl)); intro gb263 hg w6 hbox hb; have n0_ := Aside0.mk (below_step xb hb); have n1_ := Aside0.mk (hbox); have n2_ := xs w hg; have n3_ := xs w hg; clear HB; have HB := n0_; have BK263 := n1_; have GW263 := n2_; have GE263 := n3_; clear n0_ n1_ n2_ n3_; clear hb hbox hg) | ((with_reducible refine gate_dst (N := 4) rfl ?_); refine box_event ?hg (N := 4) ?hd (cs := #[.bool a1_0, .int .i64 a1_1, .string a1_2]) (t := 36) ?hr ?_; (case hd => rfl); (case hg => rfl); (case hr => first | (go_simp; done) | (go_simp; rfl)); intro gb264 hg w7 hbox hb; have n0_ := xd BK263.out hb; have n1_ := Aside0.mk (below_step xb hb); have n2_ := Aside0.mk (hbox); have n3_ := xs w hg; have n4_ := xs w hg; have n5_ := xn hg BK263.out; have n6_ := xp hg BK263.out; clear BK263; clear HB; have BK263 := n0_; have HB := n1_; have BK264 := n2_; have GW264 := n3_; have GE264 := n4_; have NB263_264 := n5_; have NB264_263 := n6_; clear n0_ n1_ n2_ n3_ n4_ n5_ n6_; clear hb hbox hg) | ((with_reducible refine gate_dst (N := 5) rfl ?_); refine box_event ?hg (N := 5) ?hd (cs := #[.bool a2_0, .int .i64 a2_1, .string a2_2]) (t := 36) ?hr ?_; (case hd => rfl); (case hg => rfl); (case hr => first | (go_simp; done) | (go_simp; rfl)); intro gb265 hg w8 hbox hb; have n0_ := xd BK263.out hb; have n1_ := xd BK264.out hb; have n2_ := Aside0.mk (below_step xb hb); have n3_ := Aside0.mk (hbox); have n4_ := xs w hg; have n5_ := xs w hg; have n6_ := xn hg BK263.out; have n7_ := xp hg BK263.out; have n8_ := xn hg BK264.out; have n9_ := xp hg BK264.out; clear BK263; clear BK264; clear HB; have BK263 := n0_; have BK264 := n1_; have HB := n2_; have BK265 := n3_; have GW265 := n4_; have GE265 := n5_; have NB263_265 := n6_; have NB265_263 := n7_; have NB264_265 := n8_; have NB265_264 := n9_; clear n0_ n1_ n2_ n3_ n4_ n5_ n6_ n7_ n8_ n9_; clear hb hbox hg) | ((with_reducible refine gate_dst (N := 6) rfl ?_); refine box_event ?hg (N := 6) ?hd (cs := #[.bool false, .int .i64 0, .string (⟨#[]⟩ : ByteArray)]) (t := 24) ?hr ?_; (case hd => rfl); (case hg => rfl); (case hr => first | (go_simp; done) | (go_simp; rfl)); intro gb266 hg w9 hbox hb; have n0_ := xd BK263.out hb; have n1_ := xd BK264.out hb; have n2_ := xd BK265.out hb; have n3_ := Aside0.mk (below_step xb hb); have n4_ := Aside0.mk (hbox); have n5_ := xs w hg; have n6_ := xs w hg; have n7_ := xn hg BK263.out; have n8_ := xp hg BK263.out; have n9_ := xn hg BK264.out; have n10_ := xp hg BK264.out; have n11_ := xn hg BK265.out; have n12_ := xp hg BK265.out; clear BK263; clear BK264; clear BK265; clear HB; have BK263 := n0_; have BK264 := n1_; have BK265 := n2_; have HB := n3_; have BK266 := n4_; have GW266 := n5_; have GE266 := n6_; have NB263_266 := n7_; have NB266_263 := n8_; have NB264_266 := n9_; have NB266_264 := n10_; have NB265_266 := n11_; have NB266_265 := n12_; clear n0_ n1_ n2_ n3_ n4_ n5_ n6_ n7_ n8_ n9_ n10_ n11_ n12_; clear hb hbox hg; have hnb10 := NB263_264.out; have hnc10 := NB264_263.out; have hnb11 := NB263_265.out; have hnc11 := NB265_263.out; have hnb12 := NB263_266.out; have hnc12 := NB266_263.out; have hcz13_0 : w9.cell? ⟨gb263, 0, none⟩ = some (.bool a0_0) := (blk_cell BK263.out 0).trans rfl; have hcz13_1 : w9.cell? ⟨gb263, 1, none⟩ = some (.int .i64 a0_1) := (blk_cell BK263.out 1).trans rfl; have hcz13_2 : w9.cell? ⟨gb263, 2, none⟩ = some (.string a0_2) := (blk_cell BK263.out 2).trans rfl; have hfz13_0 := blk_frozen BK263.out 0; have hfz13_1 := blk_frozen BK263.out 1; have hfz13_2 := blk_frozen BK263.out 2) | ((with_reducible refine gate_callee (f := 36) rfl ?_); refine goesL_ (some 9) rfl rfl Tryd.func36 (by kernel_rfl) rfl #[.string a0_2] rfl xr ?_; (with_reducible refine (value_Hash.calls k a0_2 t267 _ (Tabs.below hT xf) A4.out).mono ?_); rintro e w' ⟨rfl, ⟨nd, rfl⟩⟩; refine ⟨_, rfl, ?_⟩; (try (rw [drewN_self w9]; generalize hq_ : World.drewN w9 _ = w9; have n0_ : Aside0 (w9.heap[gb263]? = some (.cells #[.bool a0_0, .int .i64 a0_1, .string a0_2] 36 (0, 0))) := ⟨by rw [← hq_]; exact (xk BK263.out)⟩; have n1_ : Aside0 (w9.heap[gb264]? = some (.cells #[.bool a1_0, .int .i64 a1_1, .string a1_2] 36 (0, 0))) := ⟨by rw [← hq_]; exact (xk BK264.out)⟩; have n2_ : Aside0 (w9.heap[gb265]? = some (.cells #[.bool a2_0, .int .i64 a2_1, .string a2_2] 36 (0, 0))) := ⟨by rw [← hq_]; exact (xk BK265.out)⟩; have n3_ : Aside0 (w9.heap[gb266]? = some (.cells #[.bool false, .int .i64 0, .string (⟨#[]⟩ : ByteArray)] 24 (0, 0))) := ⟨by rw [← hq_]; exact (xk BK266.out)⟩; have n4_ : Aside0 (Below w.heap.size w w9) := ⟨by rw [← hq_]; exact xb⟩; clear BK263 BK264 BK265 BK266 HB hq_; have BK263 := n0_; have BK264 := n1_; have BK265 := n2_; have BK266 := n3_; have HB := n4_; clear n0_ n1_ n2_ n3_ n4_))) | ((with_reducible refine gate_callee (f := 6) rfl ?_); refine goesL_ (some 10) rfl rfl Tryd.func6 (by kernel_rfl) rfl #[.int .i64 t267] rfl xr ?_; (with_reducible refine (value_Num.calls t267 t268 t269 t270 _ (Tabs.below hT xf) A5.out).mono ?_); rintro e w14 ⟨rfl, hb⟩; refine ⟨_, rfl, ?_⟩; have n0_ := xd BK263.out hb; have n1_ := xd BK264.out hb; have n2_ := xd BK265.out hb; have n3_ := xd BK266.out hb; have n4_ := Aside0.mk (below_step xb hb); clear BK263; clear BK264; clear BK265; clear BK266; clear HB; have BK263 := n0_; have BK264 := n1_; have BK265 := n2_; have BK266 := n3_; have HB := n4_; clear n0_ n1_ n2_ n3_ n4_; (try clear hb); (try clear hb2); (try clear hk); (try clear hi); have hnb15 := NB266_264.out; have hnc15 := NB264_266.out; have hnb16 := NB266_265.out; have hnc16 := NB265_266.out; have hcz17_0 : w14.cell? ⟨gb266, 0, none⟩ = some (.bool false) := (blk_cell BK266.out 0).trans rfl; have hcz17_1 : w14.cell? ⟨gb266, 1, none⟩ = some (.int .i64 0) := (blk_cell BK266.out 1).trans rfl; have hcz17_2 : w14.cell? ⟨gb266, 2, none⟩ = some (.string (⟨#[]⟩ : ByteArray)) := (blk_cell BK266.out 2).trans rfl; have hfz17_0 := blk_frozen BK266.out 0; have hfz17_1 := blk_frozen BK266.out 1; have hfz17_2 := blk_frozen BK266.out 2))
  refine bodyPost_ret (results_cell_row rfl _ _ gb266 24 #[.bool t268, .int .i64 t269, .string t270] (0, 0) _ rfl (by (with_reducible repeat (first | refine blk_drewN ?_ _ | refine blk_drew ?_ | refine blk_alloc ?_ _)); refine blk_put (cs := #[.bool t268, .int .i64 t269, .string (⟨#[]⟩ : ByteArray)]) ?_ 2 _ rfl; (with_reducible repeat (first | refine blk_drewN ?_ _ | refine blk_drew ?_ | refine blk_alloc ?_ _)); refine blk_put (cs := #[.bool t268, .int .i64 0, .string (⟨#[]⟩ : ByteArray)]) ?_ 1 _ rfl; (with_reducible repeat (first | refine blk_drewN ?_ _ | refine blk_drew ?_ | refine blk_alloc ?_ _)); refine blk_put (cs := #[.bool false, .int .i64 0, .string (⟨#[]⟩ : ByteArray)]) ?_ 0 _ rfl; (with_reducible repeat (first | refine blk_drewN ?_ _ | refine blk_drew ?_ | refine blk_alloc ?_ _)); exact BK266.out) Tryd.underlying24 rfl (by kernel_rfl)) rfl ?_
  exact ⟨by first | rfl | (simp [errW_none, errW_some] <;> rfl) | (simp [*, errW_none, errW_some] <;> rfl), xb⟩

/-! ### strings_Index: function 37 -/
def strings_Index.f (a0 : ByteArray) (a1 : ByteArray) : Option (Int) := if a0.size < 4294967281 then some (Lib.index a0.data.toList a1.data.toList) else none
theorem strings_Index.calls (a0 : ByteArray) (a1 : ByteArray) (r : Int) (w : World) (hT : Tabs w) (h : strings_Index.f a0 a1 = some r) :
    Calls Tryd.prog 37 #[.string a0, .string a1] w fun e w' => e = .returned (.int .i64 r) ∧ Drawn0 w w' := by
  unfold strings_Index.f at h
  split at h
  · obtain rfl := Option.some.inj h
    obtain ⟨m, hm⟩ := hT.maxlen
    refine (Any.strings_Index { Tryd.laysM143 with } a0 a1 m w (by assumption) hm).mono ?_
    rintro e w' ⟨rfl, rfl⟩
    exact ⟨rfl, Drawn0.refl _⟩
  · cases h


/-! ### value_val_find: function 28 -/
def value_val_find.f (a0_0 : Bool) (a0_1 : Int) (a0_2 : ByteArray) (a1_0 : Bool) (a1_1 : Int) (a1_2 : ByteArray) (a2_0 : Bool) (a2_1 : Int) (a2_2 : ByteArray) : Option (Bool × Int × ByteArray) := (strings_Index.f a0_2 a1_2).bind fun t275 => ((value_Num.f t275).bind fun bt276 => (some (bt276.1, bt276.2.1, bt276.2.2)))
set_option maxHeartbeats 8000000 in
set_option maxRecDepth 100000 in
theorem value_val_find.calls (a0_0 : Bool) (a0_1 : Int) (a0_2 : ByteArray) (a1_0 : Bool) (a1_1 : Int) (a1_2 : ByteArray) (a2_0 : Bool) (a2_1 : Int) (a2_2 : ByteArray) (r1 : Bool) (r2 : Int) (r3 : ByteArray) (w : World) (hT : Tabs w) (h : value_val_find.f a0_0 a0_1 a0_2 a1_0 a1_1 a1_2 a2_0 a2_1 a2_2 = some (r1, r2, r3)) :
    Calls Tryd.prog 28 #[.agg #[.bool a0_0, .int .i64 a0_1, .string a0_2], .agg #[.bool a1_0, .int .i64 a1_1, .string a1_2], .agg #[.bool a2_0, .int .i64 a2_1, .string a2_2]] w fun e w' => e = .returned (.agg #[.bool r1, .int .i64 r2, .string r3]) ∧ Below w.heap.size w w' := by
  have hu36 := Tryd.underlying36
  have hu24 := Tryd.underlying24
  have HB := Aside0.mk (Below.refl w.heap.size w)
  have H : ((strings_Index.f a0_2 a1_2).bind fun t275 => ((value_Num.f t275).bind fun bt276 => (some (bt276.1, bt276.2.1, bt276.2.2)))) = some (r1, r2, r3) := h
  clear h
  replace H := Option.bind_eq_some_iff.mp H
  obtain ⟨t275, A40, H⟩ := H
  replace H : ((value_Num.f t275).bind fun bt276 => (some (bt276.1, bt276.2.1, bt276.2.2))) = some (r1, r2, r3) := H
  have A4 := Aside0.mk A40
  clear A40
  replace H := Option.bind_eq_some_iff.mp H
  obtain ⟨⟨t276, t277, t278⟩, A50, H⟩ := H
  replace H : (some (t276, t277, t278)) = some (r1, r2, r3) := H
  have A5 := Aside0.mk A50
  clear A50
  simp only [Option.some.injEq, Prod.mk.injEq] at H
  obtain ⟨rfl, rfl, rfl⟩ := H
  go_enter Tryd.func28, Tryd.ntmps28
  go_wp2_with (first | ((with_reducible refine gate_dst (N := 3) rfl ?_); refine box_event ?hg (N := 3) ?hd (cs := #[.bool a0_0, .int .i64 a0_1, .string a0_2]) (t := 36) ?hr ?_; (case hd => rfl); (case hg => rfl); (case hr => first | (go_simp; done) | (go_simp; rfl)); intro gb271 hg w6 hbox hb; have n0_ := Aside0.mk (below_step xb hb); have n1_ := Aside0.mk (hbox); have n2_ := xs w hg; have n3_ := xs w hg; clear HB; have HB := n0_; have BK271 := n1_; have GW271 := n2_; have GE271 := n3_; clear n0_ n1_ n2_ n3_; clear hb hbox hg) | ((with_reducible refine gate_dst (N := 4) rfl ?_); refine box_event ?hg (N := 4) ?hd (cs := #[.bool a1_0, .int .i64 a1_1, .string a1_2]) (t := 36) ?hr ?_; (case hd => rfl); (case hg => rfl); (case hr => first | (go_simp; done) | (go_simp; rfl)); intro gb272 hg w7 hbox hb; have n0_ := xd BK271.out hb; have n1_ := Aside0.mk (below_step xb hb); have n2_ := Aside0.mk (hbox); have n3_ := xs w hg; have n4_ := xs w hg; have n5_ := xn hg BK271.out; have n6_ := xp hg BK271.out; clear BK271; clear HB; have BK271 := n0_; have HB := n1_; have BK272 := n2_; have GW272 := n3_; have GE272 := n4_; have NB271_272 := n5_; have NB272_271 := n6_; clear n0_ n1_ n2_ n3_ n4_ n5_ n6_; clear hb hbox hg) | ((with_reducible refine gate_dst (N := 5) rfl ?_); refine box_event ?hg (N := 5) ?hd (cs := #[.bool a2_0, .int .i64 a2_1, .string a2_2]) (t := 36) ?hr ?_; (case hd => rfl); (case hg => rfl); (case hr => first | (go_simp; done) | (go_simp; rfl)); intro gb273 hg w8 hbox hb; have n0_ := xd BK271.out hb; have n1_ := xd BK272.out hb; have n2_ := Aside0.mk (below_step xb hb); have n3_ := Aside0.mk (hbox); have n4_ := xs w hg; have n5_ := xs w hg; have n6_ := xn hg BK271.out; have n7_ := xp hg BK271.out; have n8_ := xn hg BK272.out; have n9_ := xp hg BK272.out; clear BK271; clear BK272; clear HB; have BK271 := n0_; have BK272 := n1_; have HB := n2_; have BK273 := n3_; have GW273 := n4_; have GE273 := n5_; have NB271_273 := n6_; have NB273_271 := n7_; have NB272_273 := n8_; have NB273_272 := n9_; clear n0_ n1_ n2_ n3_ n4_ n5_ n6_ n7_ n8_ n9_; clear hb hbox hg) | ((with_reducible refine gate_dst (N := 6) rfl ?_); refine box_event ?hg (N := 6) ?hd (cs := #[.bool false, .int .i64 0, .string (⟨#[]⟩ : ByteArray)]) (t := 24) ?hr ?_; (case hd => rfl); (case hg => rfl); (case hr => first | (go_simp; done) | (go_simp; rfl)); intro gb274 hg w9 hbox hb; have n0_ := xd BK271.out hb; have n1_ := xd BK272.out hb; have n2_ := xd BK273.out hb; have n3_ := Aside0.mk (below_step xb hb); have n4_ := Aside0.mk (hbox); have n5_ := xs w hg; have n6_ := xs w hg; have n7_ := xn hg BK271.out; have n8_ := xp hg BK271.out; have n9_ := xn hg BK272.out; have n10_ := xp hg BK272.out; have n11_ := xn hg BK273.out; have n12_ := xp hg BK273.out; clear BK271; clear BK272; clear BK273; clear HB; have BK271 := n0_; have BK272 := n1_; have BK273 := n2_; have HB := n3_; have BK274 := n4_; have GW274 := n5_; have GE274 := n6_; have NB271_274 := n7_; have NB274_271 := n8_; have NB272_274 := n9_; have NB274_272 := n10_; have NB273_274 := n11_; have NB274_273 := n12_; clear n0_ n1_ n2_ n3_ n4_ n5_ n6_ n7_ n8_ n9_ n10_ n11_ n12_; clear hb hbox hg; have hnb10 := NB271_272.out; have hnc10 := NB272_271.out; have hnb11 := NB271_273.out; have hnc11 := NB273_271.out; have hnb12 := NB271_274.out; have hnc12 := NB274_271.out; have hcz13_0 : w9.cell? ⟨gb271, 0, none⟩ = some (.bool a0_0) := (blk_cell BK271.out 0).trans rfl; have hcz13_1 : w9.cell? ⟨gb271, 1, none⟩ = some (.int .i64 a0_1) := (blk_cell BK271.out 1).trans rfl; have hcz13_2 : w9.cell? ⟨gb271, 2, none⟩ = some (.string a0_2) := (blk_cell BK271.out 2).trans rfl; have hfz13_0 := blk_frozen BK271.out 0; have hfz13_1 := blk_frozen BK271.out 1; have hfz13_2 := blk_frozen BK271.out 2; have hnb14 := NB272_273.out; have hnc14 := NB273_272.out; have hnb15 := NB272_274.out; have hnc15 := NB274_272.out; have hcz16_0 : w9.cell? ⟨gb272, 0, none⟩ = some (.bool a1_0) := (blk_cell BK272.out 0).trans rfl; have hcz16_1 : w9.cell? ⟨gb272, 1, none⟩ = some (.int .i64 a1_1) := (blk_cell BK272.out 1).trans rfl; have hcz16_2 : w9.cell? ⟨gb272, 2, none⟩ = some (.string a1_2) := (blk_cell BK272.out 2).trans rfl; have hfz16_0 := blk_frozen BK272.out 0; have hfz16_1 := blk_frozen BK272.out 1; have hfz16_2 := blk_frozen BK272.out 2) | ((with_reducible refine gate_callee (f := 37) rfl ?_); refine goesL_ (some 11) rfl rfl Tryd.func37 (by kernel_rfl) rfl #[.string a0_2, .string a1_2] rfl xr ?_; (with_reducible refine (strings_Index.calls a0_2 a1_2 t275 _ (Tabs.below hT xf) A4.out).mono ?_); rintro e w' ⟨rfl, ⟨nd, rfl⟩⟩; refine ⟨_, rfl, ?_⟩; (try (rw [drewN_self w9]; generalize hq_ : World.drewN w9 _ = w9; have n0_ : Aside0 (w9.heap[gb271]? = some (.cells #[.bool a0_0, .int .i64 a0_1, .string a0_2] 36 (0, 0))) := ⟨by rw [← hq_]; exact (xk BK271.out)⟩; have n1_ : Aside0 (w9.heap[gb272]? = some (.cells #[.bool a1_0, .int .i64 a1_1, .string a1_2] 36 (0, 0))) := ⟨by rw [← hq_]; exact (xk BK272.out)⟩; have n2_ : Aside0 (w9.heap[gb273]? = some (.cells #[.bool a2_0, .int .i64 a2_1, .string a2_2] 36 (0, 0))) := ⟨by rw [← hq_]; exact (xk BK273.out)⟩; have n3_ : Aside0 (w9.heap[gb274]? = some (.cells #[.bool false, .int .i64 0, .string (⟨#[]⟩ : ByteArray)] 24 (0, 0))) := ⟨by rw [← hq_]; exact (xk BK274.out)⟩; have n4_ : Aside0 (Below w.heap.size w w9) := ⟨by rw [← hq_]; exact xb⟩; clear BK271 BK272 BK273 BK274 HB hq_; have BK271 := n0_; have BK272 := n1_; have BK273 := n2_; have BK274 := n3_; have HB := n4_; clear n0_ n1_ n2_ n3_ n4_))) | ((with_reducible refine gate_callee (f := 6) rfl ?_); refine goesL_ (some 12) rfl rfl Tryd.func6 (by kernel_rfl) rfl #[.int .i64 t275] rfl xr ?_; (with_reducible refine (value_Num.calls t275 t276 t277 t278 _ (Tabs.below hT xf) A5.out).mono ?_); rintro e w17 ⟨rfl, hb⟩; refine ⟨_, rfl, ?_⟩; have n0_ := xd BK271.out hb; have n1_ := xd BK272.out hb; have n2_ := xd BK273.out hb; have n3_ := xd BK274.out hb; have n4_ := Aside0.mk (below_step xb hb); clear BK271; clear BK272; clear BK273; clear BK274; clear HB; have BK271 := n0_; have BK272 := n1_; have BK273 := n2_; have BK274 := n3_; have HB := n4_; clear n0_ n1_ n2_ n3_ n4_; (try clear hb); (try clear hb2); (try clear hk); (try clear hi); have hnb18 := NB274_273.out; have hnc18 := NB273_274.out; have hcz19_0 : w17.cell? ⟨gb274, 0, none⟩ = some (.bool false) := (blk_cell BK274.out 0).trans rfl; have hcz19_1 : w17.cell? ⟨gb274, 1, none⟩ = some (.int .i64 0) := (blk_cell BK274.out 1).trans rfl; have hcz19_2 : w17.cell? ⟨gb274, 2, none⟩ = some (.string (⟨#[]⟩ : ByteArray)) := (blk_cell BK274.out 2).trans rfl; have hfz19_0 := blk_frozen BK274.out 0; have hfz19_1 := blk_frozen BK274.out 1; have hfz19_2 := blk_frozen BK274.out 2))
  refine bodyPost_ret (results_cell_row rfl _ _ gb274 24 #[.bool t276, .int .i64 t277, .string t278] (0, 0) _ rfl (by (with_reducible repeat (first | refine blk_drewN ?_ _ | refine blk_drew ?_ | refine blk_alloc ?_ _)); refine blk_put (cs := #[.bool t276, .int .i64 t277, .string (⟨#[]⟩ : ByteArray)]) ?_ 2 _ rfl; (with_reducible repeat (first | refine blk_drewN ?_ _ | refine blk_drew ?_ | refine blk_alloc ?_ _)); refine blk_put (cs := #[.bool t276, .int .i64 0, .string (⟨#[]⟩ : ByteArray)]) ?_ 1 _ rfl; (with_reducible repeat (first | refine blk_drewN ?_ _ | refine blk_drew ?_ | refine blk_alloc ?_ _)); refine blk_put (cs := #[.bool false, .int .i64 0, .string (⟨#[]⟩ : ByteArray)]) ?_ 0 _ rfl; (with_reducible repeat (first | refine blk_drewN ?_ _ | refine blk_drew ?_ | refine blk_alloc ?_ _)); exact BK274.out) Tryd.underlying24 rfl (by kernel_rfl)) rfl ?_
  exact ⟨by first | rfl | (simp [errW_none, errW_some] <;> rfl) | (simp [*, errW_none, errW_some] <;> rfl), xb⟩

/-! ### value_Do: function 7 -/
def value_Do.D (k : Nat) (f : Nat) (x y z : XOps.Sv) : Option XOps.Sv :=
  if f = 11 then (value_val_add.f x.f0 x.f1 x.f2 y.f0 y.f1 y.f2 z.f0 z.f1 z.f2).map fun p => ⟨p.1, p.2.1, p.2.2⟩ else
  if f = 12 then (value_val_sub.f x.f0 x.f1 x.f2 y.f0 y.f1 y.f2 z.f0 z.f1 z.f2).map fun p => ⟨p.1, p.2.1, p.2.2⟩ else
  if f = 13 then (value_val_mul.f x.f0 x.f1 x.f2 y.f0 y.f1 y.f2 z.f0 z.f1 z.f2).map fun p => ⟨p.1, p.2.1, p.2.2⟩ else
  if f = 14 then (value_val_div.f x.f0 x.f1 x.f2 y.f0 y.f1 y.f2 z.f0 z.f1 z.f2).map fun p => ⟨p.1, p.2.1, p.2.2⟩ else
  if f = 15 then (value_val_mod.f x.f0 x.f1 x.f2 y.f0 y.f1 y.f2 z.f0 z.f1 z.f2).map fun p => ⟨p.1, p.2.1, p.2.2⟩ else
  if f = 16 then (value_val_join.f x.f0 x.f1 x.f2 y.f0 y.f1 y.f2 z.f0 z.f1 z.f2).map fun p => ⟨p.1, p.2.1, p.2.2⟩ else
  if f = 17 then (value_val_long.f x.f0 x.f1 x.f2 y.f0 y.f1 y.f2 z.f0 z.f1 z.f2).map fun p => ⟨p.1, p.2.1, p.2.2⟩ else
  if f = 18 then (value_val_slice.f x.f0 x.f1 x.f2 y.f0 y.f1 y.f2 z.f0 z.f1 z.f2).map fun p => ⟨p.1, p.2.1, p.2.2⟩ else
  if f = 19 then (value_val_upper.f x.f0 x.f1 x.f2 y.f0 y.f1 y.f2 z.f0 z.f1 z.f2).map fun p => ⟨p.1, p.2.1, p.2.2⟩ else
  if f = 20 then (value_val_lower.f x.f0 x.f1 x.f2 y.f0 y.f1 y.f2 z.f0 z.f1 z.f2).map fun p => ⟨p.1, p.2.1, p.2.2⟩ else
  if f = 21 then (value_val_eq.f k x.f0 x.f1 x.f2 y.f0 y.f1 y.f2 z.f0 z.f1 z.f2).map fun p => ⟨p.1, p.2.1, p.2.2⟩ else
  if f = 22 then (value_val_less.f k x.f0 x.f1 x.f2 y.f0 y.f1 y.f2 z.f0 z.f1 z.f2).map fun p => ⟨p.1, p.2.1, p.2.2⟩ else
  if f = 23 then (value_val_not.f x.f0 x.f1 x.f2 y.f0 y.f1 y.f2 z.f0 z.f1 z.f2).map fun p => ⟨p.1, p.2.1, p.2.2⟩ else
  if f = 24 then (value_val_choose.f x.f0 x.f1 x.f2 y.f0 y.f1 y.f2 z.f0 z.f1 z.f2).map fun p => ⟨p.1, p.2.1, p.2.2⟩ else
  if f = 25 then (value_val_number.f k x.f0 x.f1 x.f2 y.f0 y.f1 y.f2 z.f0 z.f1 z.f2).map fun p => ⟨p.1, p.2.1, p.2.2⟩ else
  if f = 26 then (value_val_text.f x.f0 x.f1 x.f2 y.f0 y.f1 y.f2 z.f0 z.f1 z.f2).map fun p => ⟨p.1, p.2.1, p.2.2⟩ else
  if f = 27 then (value_val_hash.f k x.f0 x.f1 x.f2 y.f0 y.f1 y.f2 z.f0 z.f1 z.f2).map fun p => ⟨p.1, p.2.1, p.2.2⟩ else
  if f = 28 then (value_val_find.f x.f0 x.f1 x.f2 y.f0 y.f1 y.f2 z.f0 z.f1 z.f2).map fun p => ⟨p.1, p.2.1, p.2.2⟩ else
  none
theorem value_Do.D_mono (k : Nat) (f : Nat) (x y z r : XOps.Sv) (h : value_Do.D k f x y z = some r) : value_Do.D (k + 1) f x y z = some r := by
  unfold value_Do.D at h ⊢
  by_cases e : f = 11
  · subst e
    rw [if_pos rfl] at h ⊢
    obtain ⟨p, h1, h2⟩ := Option.map_eq_some_iff.1 h
    exact Option.map_eq_some_iff.2 ⟨p, h1, h2⟩
  rw [if_neg e] at h ⊢
  clear e
  by_cases e : f = 12
  · subst e
    rw [if_pos rfl] at h ⊢
    obtain ⟨p, h1, h2⟩ := Option.map_eq_some_iff.1 h
    exact Option.map_eq_some_iff.2 ⟨p, h1, h2⟩
  rw [if_neg e] at h ⊢
  clear e
  by_cases e : f = 13
  · subst e
    rw [if_pos rfl] at h ⊢
    obtain ⟨p, h1, h2⟩ := Option.map_eq_some_iff.1 h
    exact Option.map_eq_some_iff.2 ⟨p, h1, h2⟩
  rw [if_neg e] at h ⊢
  clear e
  by_cases e : f = 14
  · subst e
    rw [if_pos rfl] at h ⊢
    obtain ⟨p, h1, h2⟩ := Option.map_eq_some_iff.1 h
    exact Option.map_eq_some_iff.2 ⟨p, h1, h2⟩
  rw [if_neg e] at h ⊢
  clear e
  by_cases e : f = 15
  · subst e
    rw [if_pos rfl] at h ⊢
    obtain ⟨p, h1, h2⟩ := Option.map_eq_some_iff.1 h
    exact Option.map_eq_some_iff.2 ⟨p, h1, h2⟩
  rw [if_neg e] at h ⊢
  clear e
  by_cases e : f = 16
  · subst e
    rw [if_pos rfl] at h ⊢
    obtain ⟨p, h1, h2⟩ := Option.map_eq_some_iff.1 h
    exact Option.map_eq_some_iff.2 ⟨p, h1, h2⟩
  rw [if_neg e] at h ⊢
  clear e
  by_cases e : f = 17
  · subst e
    rw [if_pos rfl] at h ⊢
    obtain ⟨p, h1, h2⟩ := Option.map_eq_some_iff.1 h
    exact Option.map_eq_some_iff.2 ⟨p, h1, h2⟩
  rw [if_neg e] at h ⊢
  clear e
  by_cases e : f = 18
  · subst e
    rw [if_pos rfl] at h ⊢
    obtain ⟨p, h1, h2⟩ := Option.map_eq_some_iff.1 h
    exact Option.map_eq_some_iff.2 ⟨p, h1, h2⟩
  rw [if_neg e] at h ⊢
  clear e
  by_cases e : f = 19
  · subst e
    rw [if_pos rfl] at h ⊢
    obtain ⟨p, h1, h2⟩ := Option.map_eq_some_iff.1 h
    exact Option.map_eq_some_iff.2 ⟨p, h1, h2⟩
  rw [if_neg e] at h ⊢
  clear e
  by_cases e : f = 20
  · subst e
    rw [if_pos rfl] at h ⊢
    obtain ⟨p, h1, h2⟩ := Option.map_eq_some_iff.1 h
    exact Option.map_eq_some_iff.2 ⟨p, h1, h2⟩
  rw [if_neg e] at h ⊢
  clear e
  by_cases e : f = 21
  · subst e
    rw [if_pos rfl] at h ⊢
    obtain ⟨p, h1, h2⟩ := Option.map_eq_some_iff.1 h
    exact Option.map_eq_some_iff.2 ⟨p, value_val_eq.mono _ _ _ _ _ _ _ _ _ k _ h1, h2⟩
  rw [if_neg e] at h ⊢
  clear e
  by_cases e : f = 22
  · subst e
    rw [if_pos rfl] at h ⊢
    obtain ⟨p, h1, h2⟩ := Option.map_eq_some_iff.1 h
    exact Option.map_eq_some_iff.2 ⟨p, value_val_less.mono _ _ _ _ _ _ _ _ _ k _ h1, h2⟩
  rw [if_neg e] at h ⊢
  clear e
  by_cases e : f = 23
  · subst e
    rw [if_pos rfl] at h ⊢
    obtain ⟨p, h1, h2⟩ := Option.map_eq_some_iff.1 h
    exact Option.map_eq_some_iff.2 ⟨p, h1, h2⟩
  rw [if_neg e] at h ⊢
  clear e
  by_cases e : f = 24
  · subst e
    rw [if_pos rfl] at h ⊢
    obtain ⟨p, h1, h2⟩ := Option.map_eq_some_iff.1 h
    exact Option.map_eq_some_iff.2 ⟨p, h1, h2⟩
  rw [if_neg e] at h ⊢
  clear e
  by_cases e : f = 25
  · subst e
    rw [if_pos rfl] at h ⊢
    obtain ⟨p, h1, h2⟩ := Option.map_eq_some_iff.1 h
    exact Option.map_eq_some_iff.2 ⟨p, value_val_number.mono _ _ _ _ _ _ _ _ _ k _ h1, h2⟩
  rw [if_neg e] at h ⊢
  clear e
  by_cases e : f = 26
  · subst e
    rw [if_pos rfl] at h ⊢
    obtain ⟨p, h1, h2⟩ := Option.map_eq_some_iff.1 h
    exact Option.map_eq_some_iff.2 ⟨p, h1, h2⟩
  rw [if_neg e] at h ⊢
  clear e
  by_cases e : f = 27
  · subst e
    rw [if_pos rfl] at h ⊢
    obtain ⟨p, h1, h2⟩ := Option.map_eq_some_iff.1 h
    exact Option.map_eq_some_iff.2 ⟨p, value_val_hash.mono _ _ _ _ _ _ _ _ _ k _ h1, h2⟩
  rw [if_neg e] at h ⊢
  clear e
  by_cases e : f = 28
  · subst e
    rw [if_pos rfl] at h ⊢
    obtain ⟨p, h1, h2⟩ := Option.map_eq_some_iff.1 h
    exact Option.map_eq_some_iff.2 ⟨p, h1, h2⟩
  rw [if_neg e] at h ⊢
  clear e
  cases h
theorem value_Do.D_calls (k : Nat) (f : Nat) (x y z r : XOps.Sv) (w : World) (hT : Tabs w) (h : value_Do.D k f x y z = some r) : Calls Tryd.prog f #[XOps.enV x, XOps.enV y, XOps.enV z] w fun e w' => e = .returned (XOps.enV r) ∧ Below w.heap.size w w' := by
  unfold value_Do.D at h
  by_cases e : f = 11
  · subst e
    rw [if_pos rfl] at h
    obtain ⟨⟨p1, p2, p3⟩, h1, rfl⟩ := Option.map_eq_some_iff.1 h
    exact value_val_add.calls _ _ _ _ _ _ _ _ _ _ _ _ w hT h1
  rw [if_neg e] at h
  clear e
  by_cases e : f = 12
  · subst e
    rw [if_pos rfl] at h
    obtain ⟨⟨p1, p2, p3⟩, h1, rfl⟩ := Option.map_eq_some_iff.1 h
    exact value_val_sub.calls _ _ _ _ _ _ _ _ _ _ _ _ w hT h1
  rw [if_neg e] at h
  clear e
  by_cases e : f = 13
  · subst e
    rw [if_pos rfl] at h
    obtain ⟨⟨p1, p2, p3⟩, h1, rfl⟩ := Option.map_eq_some_iff.1 h
    exact value_val_mul.calls _ _ _ _ _ _ _ _ _ _ _ _ w hT h1
  rw [if_neg e] at h
  clear e
  by_cases e : f = 14
  · subst e
    rw [if_pos rfl] at h
    obtain ⟨⟨p1, p2, p3⟩, h1, rfl⟩ := Option.map_eq_some_iff.1 h
    exact value_val_div.calls _ _ _ _ _ _ _ _ _ _ _ _ w hT h1
  rw [if_neg e] at h
  clear e
  by_cases e : f = 15
  · subst e
    rw [if_pos rfl] at h
    obtain ⟨⟨p1, p2, p3⟩, h1, rfl⟩ := Option.map_eq_some_iff.1 h
    exact value_val_mod.calls _ _ _ _ _ _ _ _ _ _ _ _ w hT h1
  rw [if_neg e] at h
  clear e
  by_cases e : f = 16
  · subst e
    rw [if_pos rfl] at h
    obtain ⟨⟨p1, p2, p3⟩, h1, rfl⟩ := Option.map_eq_some_iff.1 h
    exact value_val_join.calls _ _ _ _ _ _ _ _ _ _ _ _ w hT h1
  rw [if_neg e] at h
  clear e
  by_cases e : f = 17
  · subst e
    rw [if_pos rfl] at h
    obtain ⟨⟨p1, p2, p3⟩, h1, rfl⟩ := Option.map_eq_some_iff.1 h
    exact value_val_long.calls _ _ _ _ _ _ _ _ _ _ _ _ w hT h1
  rw [if_neg e] at h
  clear e
  by_cases e : f = 18
  · subst e
    rw [if_pos rfl] at h
    obtain ⟨⟨p1, p2, p3⟩, h1, rfl⟩ := Option.map_eq_some_iff.1 h
    exact value_val_slice.calls _ _ _ _ _ _ _ _ _ _ _ _ w hT h1
  rw [if_neg e] at h
  clear e
  by_cases e : f = 19
  · subst e
    rw [if_pos rfl] at h
    obtain ⟨⟨p1, p2, p3⟩, h1, rfl⟩ := Option.map_eq_some_iff.1 h
    exact value_val_upper.calls _ _ _ _ _ _ _ _ _ _ _ _ w hT h1
  rw [if_neg e] at h
  clear e
  by_cases e : f = 20
  · subst e
    rw [if_pos rfl] at h
    obtain ⟨⟨p1, p2, p3⟩, h1, rfl⟩ := Option.map_eq_some_iff.1 h
    exact value_val_lower.calls _ _ _ _ _ _ _ _ _ _ _ _ w hT h1
  rw [if_neg e] at h
  clear e
  by_cases e : f = 21
  · subst e
    rw [if_pos rfl] at h
    obtain ⟨⟨p1, p2, p3⟩, h1, rfl⟩ := Option.map_eq_some_iff.1 h
    exact value_val_eq.calls k _ _ _ _ _ _ _ _ _ _ _ _ w hT h1
  rw [if_neg e] at h
  clear e
  by_cases e : f = 22
  · subst e
    rw [if_pos rfl] at h
    obtain ⟨⟨p1, p2, p3⟩, h1, rfl⟩ := Option.map_eq_some_iff.1 h
    exact value_val_less.calls k _ _ _ _ _ _ _ _ _ _ _ _ w hT h1
  rw [if_neg e] at h
  clear e
  by_cases e : f = 23
  · subst e
    rw [if_pos rfl] at h
    obtain ⟨⟨p1, p2, p3⟩, h1, rfl⟩ := Option.map_eq_some_iff.1 h
    exact value_val_not.calls _ _ _ _ _ _ _ _ _ _ _ _ w hT h1
  rw [if_neg e] at h
  clear e
  by_cases e : f = 24
  · subst e
    rw [if_pos rfl] at h
    obtain ⟨⟨p1, p2, p3⟩, h1, rfl⟩ := Option.map_eq_some_iff.1 h
    exact value_val_choose.calls _ _ _ _ _ _ _ _ _ _ _ _ w hT h1
  rw [if_neg e] at h
  clear e
  by_cases e : f = 25
  · subst e
    rw [if_pos rfl] at h
    obtain ⟨⟨p1, p2, p3⟩, h1, rfl⟩ := Option.map_eq_some_iff.1 h
    exact value_val_number.calls k _ _ _ _ _ _ _ _ _ _ _ _ w hT h1
  rw [if_neg e] at h
  clear e
  by_cases e : f = 26
  · subst e
    rw [if_pos rfl] at h
    obtain ⟨⟨p1, p2, p3⟩, h1, rfl⟩ := Option.map_eq_some_iff.1 h
    exact value_val_text.calls _ _ _ _ _ _ _ _ _ _ _ _ w hT h1
  rw [if_neg e] at h
  clear e
  by_cases e : f = 27
  · subst e
    rw [if_pos rfl] at h
    obtain ⟨⟨p1, p2, p3⟩, h1, rfl⟩ := Option.map_eq_some_iff.1 h
    exact value_val_hash.calls k _ _ _ _ _ _ _ _ _ _ _ _ w hT h1
  rw [if_neg e] at h
  clear e
  by_cases e : f = 28
  · subst e
    rw [if_pos rfl] at h
    obtain ⟨⟨p1, p2, p3⟩, h1, rfl⟩ := Option.map_eq_some_iff.1 h
    exact value_val_find.calls _ _ _ _ _ _ _ _ _ _ _ _ w hT h1
  rw [if_neg e] at h
  clear e
  cases h
theorem value_Do.isVal (x : XOps.Sv) (w : World) (hT : Tabs w) : Calls Tryd.prog 8 #[XOps.enV x] w fun e w' => e = .returned (.bool (XOps.isValB x)) ∧ Below w.heap.size w w' := by
  refine value_isVal.calls x.f0 x.f1 x.f2 (XOps.isValB x) w hT ?_
  unfold value_isVal.f XOps.isValB
  by_cases h1 : x.f0 = true
  · rw [if_pos h1, if_pos h1]
    by_cases h2 : x.f1 = 0
    · rw [if_pos h2, decide_eq_true h2, Bool.true_and]
    · rw [if_neg h2, decide_eq_false h2, Bool.false_and]
  · rw [if_neg h1, if_neg h1]
def value_Do.f (k : Nat) (a0 : Int) (l1 : List (S24)) : Option (Bool × Int × ByteArray × Int) := if l1.length ≤ 1000000 then (XOps.doF (value_Do.D k) a0 l1).map fun p => (p.1.f0, p.1.f1, p.1.f2, p.2) else none
theorem value_Do.mono : ∀ a0 a1 k, LeO (value_Do.f k a0 a1) (value_Do.f (k + 1) a0 a1) := by
  intro a0 a1 k r h
  unfold value_Do.f at h ⊢
  by_cases hl : a1.length ≤ 1000000
  · rw [if_pos hl] at h ⊢
    obtain ⟨p, h1, h2⟩ := Option.map_eq_some_iff.1 h
    exact Option.map_eq_some_iff.2 ⟨p, XOps.doF_mono (value_Do.D_mono k) h1, h2⟩
  · rw [if_neg hl] at h
    cases h
theorem value_Do.calls (k : Nat) (a0 : Int) (A1 : Option Addr) (c1 : Nat) (l1 : List (S24)) (r1 : Bool) (r2 : Int) (r3 : ByteArray) (r4 : Int) (w : World) (hT : Tabs w) (hr1 : Kd.C k24 w A1 l1.length l1) (hc1 : l1.length ≤ c1) (h : value_Do.f k a0 l1 = some (r1, r2, r3, r4)) :
    Calls Tryd.prog 7 #[.int .i64 a0, .slice A1 l1.length c1] w fun e w' => e = .returned (.tuple #[.agg #[.bool r1, .int .i64 r2, .string r3], .int .i64 r4]) ∧ Below w.heap.size w w' := by
  unfold value_Do.f at h
  by_cases hl : l1.length ≤ 1000000
  · rw [if_pos hl] at h
    obtain ⟨⟨r, er⟩, h1, h2⟩ := Option.map_eq_some_iff.1 h
    simp only [Prod.mk.injEq] at h2
    obtain ⟨rfl, rfl, rfl, rfl⟩ := h2
    exact XOps.do_calls (T := Tabs) (fun w w' h hb => h.below hb) value_Do.isVal (value_Do.D k) (value_Do.D_calls k) a0 A1 c1 l1 r er w hT hr1 hc1 h1 (by omega)
  · rw [if_neg hl] at h
    cases h


end Go.Proofs.YtejmgcfjpofniaaDoor.PX
