/- Walked functions, by this session's program over the kit's print. -/
import Derived.Test.YtpgddpkljbgjpaaGreatDoorPXx0
import Derived.Test.YtpgddpkljbgjpaaGreatDoorPXx10
namespace Go.Proofs.YtpgddpkljbgjpaaGreatDoor.PX
open Go.RowKit Go.Proofs.YtpgddpkljbgjpaaGreatDoorW.PrintWords Go.Proofs.YtpgddpkljbgjpaaGreatDoorW.PrintLast Go.Proofs.YtpgddpkljbgjpaaGreatDoorW.PrintMore
attribute [local go_sem] xm_gtr max2_int min2_int max_two min_two max_three min_three max_four min_four   -- for this text's walks alone
set_option linter.unusedVariables false
set_option linter.unusedSimpArgs false

/-! ### threshingref13_reckoned: function 32 -/
def threshingref13_reckoned.f (k : Nat) (a0 : Int) (a1_0 : Bool) (a1_1 : Int) (a1_2 : ByteArray) (a2_0 : Bool) (a2_1 : Int) (a2_2 : ByteArray) (a3_0 : Bool) (a3_1 : Int) (a3_2 : ByteArray) : Option (Bool × Int × ByteArray) := (threshingref13_div.f a1_1 a2_1).bind fun d => (if a0 = 4 then (threshingref13_Num.f (wrap64 (a1_1 + a2_1))) else (if a0 = 5 then (threshingref13_Num.f (wrap64 (a1_1 - a2_1))) else (if a0 = 6 then (threshingref13_Num.f (wrap64 (a1_1 * a2_1))) else (if a0 = 7 then (threshingref13_Num.f d.1) else (if a0 = 8 then (threshingref13_Num.f d.2) else (if a0 = 14 then ((threshingref13_Compare.f k a1_0 a1_1 a1_2 a2_0 a2_1 a2_2).bind fun t => threshingref13_yes.f (t == 0)) else (if a0 = 15 then ((threshingref13_Compare.f k a1_0 a1_1 a1_2 a2_0 a2_1 a2_2).bind fun t => threshingref13_yes.f (decide (t < 0))) else (if a0 = 16 then (threshingref13_yes.f (a1_1 == 0)) else (if a0 = 17 then (if a1_1 = 0 then (some (a3_0, a3_1, a3_2)) else (some (a2_0, a2_1, a2_2))) else none)))))))))
theorem threshingref13_reckoned.mono : ∀ a0 a1 a2 a3 a4 a5 a6 a7 a8 a9 k, LeO (threshingref13_reckoned.f k a0 a1 a2 a3 a4 a5 a6 a7 a8 a9) (threshingref13_reckoned.f (k + 1) a0 a1 a2 a3 a4 a5 a6 a7 a8 a9) := by
  intro a0 a1 a2 a3 a4 a5 a6 a7 a8 a9 k r h
  unfold threshingref13_reckoned.f at h ⊢
  obtain ⟨d, hd, h⟩ := Option.bind_eq_some_iff.1 h
  refine Option.bind_eq_some_iff.2 ⟨d, hd, ?_⟩
  by_cases c14 : a0 = 14
  · subst c14
    obtain ⟨t, ht, h⟩ := Option.bind_eq_some_iff.1 h
    exact Option.bind_eq_some_iff.2 ⟨t, threshingref13_Compare.mono _ _ _ _ _ _ k _ ht, h⟩
  by_cases c15 : a0 = 15
  · subst c15
    obtain ⟨t, ht, h⟩ := Option.bind_eq_some_iff.1 h
    exact Option.bind_eq_some_iff.2 ⟨t, threshingref13_Compare.mono _ _ _ _ _ _ k _ ht, h⟩
  simp only [if_neg c14, if_neg c15] at h ⊢
  exact h
/-- What lies in memory on the way: the three values, the result's place. -/
structure threshingref13_reckoned.Box (w W : World) (a b c : S27) (r : Array Value) : Prop where
  ba : W.heap[w.heap.size]? = some (.cells #[.bool a.f0, .int .i64 a.f1, .string a.f2] 27 (0, 0))
  bb : W.heap[w.heap.size + 1]? = some (.cells #[.bool b.f0, .int .i64 b.f1, .string b.f2] 27 (0, 0))
  bc : W.heap[w.heap.size + 1 + 1]? = some (.cells #[.bool c.f0, .int .i64 c.f1, .string c.f2] 27 (0, 0))
  br : W.heap[w.heap.size + 1 + 1 + 1]? = some (.cells r 27 (0, 0))
  below : Below w.heap.size w W
theorem threshingref13_reckoned.Box.then_ {w W W' : World} {a b c : S27} {r : Array Value} (h : threshingref13_reckoned.Box w W a b c r) (hb : Below W.heap.size W W') : threshingref13_reckoned.Box w W' a b c r :=
  ⟨(hb.block _ (blk_lt h.ba)).trans h.ba, (hb.block _ (blk_lt h.bb)).trans h.bb, (hb.block _ (blk_lt h.bc)).trans h.bc, (hb.block _ (blk_lt h.br)).trans h.br, below_then h.below h.below.size hb⟩
theorem threshingref13_reckoned.Box.start (w : World) (a b c : S27) (r : Array Value) : threshingref13_reckoned.Box w ((((w.alloc (.cells #[.bool a.f0, .int .i64 a.f1, .string a.f2] 27)).alloc (.cells #[.bool b.f0, .int .i64 b.f1, .string b.f2] 27)).alloc (.cells #[.bool c.f0, .int .i64 c.f1, .string c.f2] 27)).alloc (.cells r 27)) a b c r := by
  generalize h0 : w.alloc (.cells #[.bool a.f0, .int .i64 a.f1, .string a.f2] 27) = w1
  have e1 : w1.heap.size = w.heap.size + 1 := by rw [← h0]; simp
  have k1 : w1.heap[w.heap.size]? = some (.cells #[.bool a.f0, .int .i64 a.f1, .string a.f2] 27 (0, 0)) := by rw [← h0]; exact heap_alloc_new w _
  have b1 : Below w.heap.size w w1 := by rw [← h0]; exact below_alloc (Below.refl _ _) _
  clear h0
  generalize h0 : w1.alloc (.cells #[.bool b.f0, .int .i64 b.f1, .string b.f2] 27) = w2
  have e2 : w2.heap.size = w.heap.size + 1 + 1 := by rw [← h0, ← e1]; simp
  have k2 : w2.heap[w.heap.size + 1]? = some (.cells #[.bool b.f0, .int .i64 b.f1, .string b.f2] 27 (0, 0)) := by rw [← h0, ← e1]; exact heap_alloc_new w1 _
  have b2 : Below w1.heap.size w1 w2 := by rw [← h0]; exact below_alloc (Below.refl _ _) _
  clear h0
  generalize h0 : w2.alloc (.cells #[.bool c.f0, .int .i64 c.f1, .string c.f2] 27) = w3
  have e3 : w3.heap.size = w.heap.size + 1 + 1 + 1 := by rw [← h0, ← e2]; simp
  have k3 : w3.heap[w.heap.size + 1 + 1]? = some (.cells #[.bool c.f0, .int .i64 c.f1, .string c.f2] 27 (0, 0)) := by rw [← h0, ← e2]; exact heap_alloc_new w2 _
  have b3 : Below w2.heap.size w2 w3 := by rw [← h0]; exact below_alloc (Below.refl _ _) _
  clear h0
  have k4 := heap_alloc_new w3 (.cells r 27)
  rw [e3] at k4
  have b4 : Below w3.heap.size w3 (w3.alloc (.cells r 27)) := below_alloc (Below.refl _ _) _
  have f3 : ∀ g, g < w3.heap.size → (w3.alloc (.cells r 27)).heap[g]? = w3.heap[g]? := fun g hg => b4.block g hg
  have f2 : ∀ g, g < w2.heap.size → (w3.alloc (.cells r 27)).heap[g]? = w2.heap[g]? := fun g hg => (f3 g (by omega)).trans (b3.block g hg)
  have f1 : ∀ g, g < w1.heap.size → (w3.alloc (.cells r 27)).heap[g]? = w1.heap[g]? := fun g hg => (f2 g (by omega)).trans (b2.block g hg)
  exact ⟨(f1 _ (by omega)).trans k1, (f2 _ (by omega)).trans k2, (f3 _ (by omega)).trans k3, k4, below_then (below_then (below_then b1 b1.size b2) (by omega) b3) (by omega) b4⟩
set_option maxHeartbeats 8000000 in
set_option maxRecDepth 100000 in
theorem threshingref13_reckoned.calls (k : Nat) (a0 : Int) (a1_0 : Bool) (a1_1 : Int) (a1_2 : ByteArray) (a2_0 : Bool) (a2_1 : Int) (a2_2 : ByteArray) (a3_0 : Bool) (a3_1 : Int) (a3_2 : ByteArray) (r1 : Bool) (r2 : Int) (r3 : ByteArray) (w : World) (hT : Tabs w) (h : threshingref13_reckoned.f k a0 a1_0 a1_1 a1_2 a2_0 a2_1 a2_2 a3_0 a3_1 a3_2 = some (r1, r2, r3)) :
    Calls Tryz.prog 32 #[.int .i64 a0, .agg #[.bool a1_0, .int .i64 a1_1, .string a1_2], .agg #[.bool a2_0, .int .i64 a2_1, .string a2_2], .agg #[.bool a3_0, .int .i64 a3_1, .string a3_2]] w fun e w' => e = .returned (.agg #[.bool r1, .int .i64 r2, .string r3]) ∧ Below w.heap.size w w' := by
  have hu1 := Tryz.underlying27
  have HS := fun w => threshingref13_reckoned.Box.start w ⟨a1_0, a1_1, a1_2⟩ ⟨a2_0, a2_1, a2_2⟩ ⟨a3_0, a3_1, a3_2⟩ #[.bool false, .int .i64 0, .string (⟨#[]⟩ : ByteArray)]
  unfold threshingref13_reckoned.f at h
  obtain ⟨⟨q1, q2⟩, hd, h⟩ := Option.bind_eq_some_iff.1 h
  have Hd := Lib.hid hd
  clear hd
  by_cases c4 : a0 = 4
  · subst c4
    replace h : threshingref13_Num.f (wrap64 (a1_1 + a2_1)) = some (r1, r2, r3) := h
    have Hh := Lib.hid h
    clear h
    go_enter Tryz.func32, Tryz.ntmps32
    go_wp2_with (first | (go_at_call 59; refine (threshingref13_div.calls _ _ q1 q2 _ (hT.below (HS w).below) Hd.out).mono ?_; rintro e W1 ⟨rfl, n1, rfl⟩; have HX0 := (HS w).then_ (pw_below_drewN (Below.refl _ _) n1); generalize hW1 : World.drewN _ n1 = W1 at HX0; have HX := HX0; clear hW1; have pa0 := (blk_cell HX.ba 0).trans rfl; have pa1 := (blk_cell HX.ba 1).trans rfl; have pa2 := (blk_cell HX.ba 2).trans rfl; have pb0 := (blk_cell HX.bb 0).trans rfl; have pb1 := (blk_cell HX.bb 1).trans rfl; have pb2 := (blk_cell HX.bb 2).trans rfl; have pc0 := (blk_cell HX.bc 0).trans rfl; have pc1 := (blk_cell HX.bc 1).trans rfl; have pc2 := (blk_cell HX.bc 2).trans rfl; have pr0 := (blk_cell HX.br 0).trans rfl; have pr1 := (blk_cell HX.br 1).trans rfl; have pr2 := (blk_cell HX.br 2).trans rfl; have fr0 := blk_frozen HX.br 0; have fr1 := blk_frozen HX.br 1; have fr2 := blk_frozen HX.br 2; clear HX) | (go_at_call 60; refine (threshingref13_Num.calls _ _ _ _ _ (hT.below HX0.below) Hh.out).mono ?_; rintro e W2 ⟨rfl, hb2⟩; have HX2 := HX0.then_ hb2; clear pa0 pa1 pa2 pb0 pb1 pb2 pc0 pc1 pc2 pr0 pr1 pr2 fr0 fr1 fr2; have HX := HX2; have pa0 := (blk_cell HX.ba 0).trans rfl; have pa1 := (blk_cell HX.ba 1).trans rfl; have pa2 := (blk_cell HX.ba 2).trans rfl; have pb0 := (blk_cell HX.bb 0).trans rfl; have pb1 := (blk_cell HX.bb 1).trans rfl; have pb2 := (blk_cell HX.bb 2).trans rfl; have pc0 := (blk_cell HX.bc 0).trans rfl; have pc1 := (blk_cell HX.bc 1).trans rfl; have pc2 := (blk_cell HX.bc 2).trans rfl; have pr0 := (blk_cell HX.br 0).trans rfl; have pr1 := (blk_cell HX.br 1).trans rfl; have pr2 := (blk_cell HX.br 2).trans rfl; have fr0 := blk_frozen HX.br 0; have fr1 := blk_frozen HX.br 1; have fr2 := blk_frozen HX.br 2; clear HX))
    refine bodyPost_ret (results_cell_row rfl _ _ (w.heap.size + 1 + 1 + 1) 27 #[.bool r1, .int .i64 r2, .string r3] (0, 0) _ rfl (blk_set (blk_set (blk_set HX2.br 0 _) 1 _) 2 _) hu1 rfl (by kernel_rfl)) rfl ?_
    exact ⟨rfl, below_set (below_set (below_set HX2.below (by show w.heap.size ≤ w.heap.size + 1 + 1 + 1; omega)) (by show w.heap.size ≤ w.heap.size + 1 + 1 + 1; omega)) (by show w.heap.size ≤ w.heap.size + 1 + 1 + 1; omega)⟩
  by_cases c5 : a0 = 5
  · subst c5
    replace h : threshingref13_Num.f (wrap64 (a1_1 - a2_1)) = some (r1, r2, r3) := h
    have Hh := Lib.hid h
    clear h
    go_enter Tryz.func32, Tryz.ntmps32
    go_wp2_with (first | (go_at_call 59; refine (threshingref13_div.calls _ _ q1 q2 _ (hT.below (HS w).below) Hd.out).mono ?_; rintro e W1 ⟨rfl, n1, rfl⟩; have HX0 := (HS w).then_ (pw_below_drewN (Below.refl _ _) n1); generalize hW1 : World.drewN _ n1 = W1 at HX0; have HX := HX0; clear hW1; have pa0 := (blk_cell HX.ba 0).trans rfl; have pa1 := (blk_cell HX.ba 1).trans rfl; have pa2 := (blk_cell HX.ba 2).trans rfl; have pb0 := (blk_cell HX.bb 0).trans rfl; have pb1 := (blk_cell HX.bb 1).trans rfl; have pb2 := (blk_cell HX.bb 2).trans rfl; have pc0 := (blk_cell HX.bc 0).trans rfl; have pc1 := (blk_cell HX.bc 1).trans rfl; have pc2 := (blk_cell HX.bc 2).trans rfl; have pr0 := (blk_cell HX.br 0).trans rfl; have pr1 := (blk_cell HX.br 1).trans rfl; have pr2 := (blk_cell HX.br 2).trans rfl; have fr0 := blk_frozen HX.br 0; have fr1 := blk_frozen HX.br 1; have fr2 := blk_frozen HX.br 2; clear HX) | (go_at_call 60; refine (threshingref13_Num.calls _ _ _ _ _ (hT.below HX0.below) Hh.out).mono ?_; rintro e W2 ⟨rfl, hb2⟩; have HX2 := HX0.then_ hb2; clear pa0 pa1 pa2 pb0 pb1 pb2 pc0 pc1 pc2 pr0 pr1 pr2 fr0 fr1 fr2; have HX := HX2; have pa0 := (blk_cell HX.ba 0).trans rfl; have pa1 := (blk_cell HX.ba 1).trans rfl; have pa2 := (blk_cell HX.ba 2).trans rfl; have pb0 := (blk_cell HX.bb 0).trans rfl; have pb1 := (blk_cell HX.bb 1).trans rfl; have pb2 := (blk_cell HX.bb 2).trans rfl; have pc0 := (blk_cell HX.bc 0).trans rfl; have pc1 := (blk_cell HX.bc 1).trans rfl; have pc2 := (blk_cell HX.bc 2).trans rfl; have pr0 := (blk_cell HX.br 0).trans rfl; have pr1 := (blk_cell HX.br 1).trans rfl; have pr2 := (blk_cell HX.br 2).trans rfl; have fr0 := blk_frozen HX.br 0; have fr1 := blk_frozen HX.br 1; have fr2 := blk_frozen HX.br 2; clear HX))
    refine bodyPost_ret (results_cell_row rfl _ _ (w.heap.size + 1 + 1 + 1) 27 #[.bool r1, .int .i64 r2, .string r3] (0, 0) _ rfl (blk_set (blk_set (blk_set HX2.br 0 _) 1 _) 2 _) hu1 rfl (by kernel_rfl)) rfl ?_
    exact ⟨rfl, below_set (below_set (below_set HX2.below (by show w.heap.size ≤ w.heap.size + 1 + 1 + 1; omega)) (by show w.heap.size ≤ w.heap.size + 1 + 1 + 1; omega)) (by show w.heap.size ≤ w.heap.size + 1 + 1 + 1; omega)⟩
  by_cases c6 : a0 = 6
  · subst c6
    replace h : threshingref13_Num.f (wrap64 (a1_1 * a2_1)) = some (r1, r2, r3) := h
    have Hh := Lib.hid h
    clear h
    go_enter Tryz.func32, Tryz.ntmps32
    go_wp2_with (first | (go_at_call 59; refine (threshingref13_div.calls _ _ q1 q2 _ (hT.below (HS w).below) Hd.out).mono ?_; rintro e W1 ⟨rfl, n1, rfl⟩; have HX0 := (HS w).then_ (pw_below_drewN (Below.refl _ _) n1); generalize hW1 : World.drewN _ n1 = W1 at HX0; have HX := HX0; clear hW1; have pa0 := (blk_cell HX.ba 0).trans rfl; have pa1 := (blk_cell HX.ba 1).trans rfl; have pa2 := (blk_cell HX.ba 2).trans rfl; have pb0 := (blk_cell HX.bb 0).trans rfl; have pb1 := (blk_cell HX.bb 1).trans rfl; have pb2 := (blk_cell HX.bb 2).trans rfl; have pc0 := (blk_cell HX.bc 0).trans rfl; have pc1 := (blk_cell HX.bc 1).trans rfl; have pc2 := (blk_cell HX.bc 2).trans rfl; have pr0 := (blk_cell HX.br 0).trans rfl; have pr1 := (blk_cell HX.br 1).trans rfl; have pr2 := (blk_cell HX.br 2).trans rfl; have fr0 := blk_frozen HX.br 0; have fr1 := blk_frozen HX.br 1; have fr2 := blk_frozen HX.br 2; clear HX) | (go_at_call 60; refine (threshingref13_Num.calls _ _ _ _ _ (hT.below HX0.below) Hh.out).mono ?_; rintro e W2 ⟨rfl, hb2⟩; have HX2 := HX0.then_ hb2; clear pa0 pa1 pa2 pb0 pb1 pb2 pc0 pc1 pc2 pr0 pr1 pr2 fr0 fr1 fr2; have HX := HX2; have pa0 := (blk_cell HX.ba 0).trans rfl; have pa1 := (blk_cell HX.ba 1).trans rfl; have pa2 := (blk_cell HX.ba 2).trans rfl; have pb0 := (blk_cell HX.bb 0).trans rfl; have pb1 := (blk_cell HX.bb 1).trans rfl; have pb2 := (blk_cell HX.bb 2).trans rfl; have pc0 := (blk_cell HX.bc 0).trans rfl; have pc1 := (blk_cell HX.bc 1).trans rfl; have pc2 := (blk_cell HX.bc 2).trans rfl; have pr0 := (blk_cell HX.br 0).trans rfl; have pr1 := (blk_cell HX.br 1).trans rfl; have pr2 := (blk_cell HX.br 2).trans rfl; have fr0 := blk_frozen HX.br 0; have fr1 := blk_frozen HX.br 1; have fr2 := blk_frozen HX.br 2; clear HX))
    refine bodyPost_ret (results_cell_row rfl _ _ (w.heap.size + 1 + 1 + 1) 27 #[.bool r1, .int .i64 r2, .string r3] (0, 0) _ rfl (blk_set (blk_set (blk_set HX2.br 0 _) 1 _) 2 _) hu1 rfl (by kernel_rfl)) rfl ?_
    exact ⟨rfl, below_set (below_set (below_set HX2.below (by show w.heap.size ≤ w.heap.size + 1 + 1 + 1; omega)) (by show w.heap.size ≤ w.heap.size + 1 + 1 + 1; omega)) (by show w.heap.size ≤ w.heap.size + 1 + 1 + 1; omega)⟩
  by_cases c7 : a0 = 7
  · subst c7
    replace h : threshingref13_Num.f q1 = some (r1, r2, r3) := h
    have Hh := Lib.hid h
    clear h
    go_enter Tryz.func32, Tryz.ntmps32
    go_wp2_with (first | (go_at_call 59; refine (threshingref13_div.calls _ _ q1 q2 _ (hT.below (HS w).below) Hd.out).mono ?_; rintro e W1 ⟨rfl, n1, rfl⟩; have HX0 := (HS w).then_ (pw_below_drewN (Below.refl _ _) n1); generalize hW1 : World.drewN _ n1 = W1 at HX0; have HX := HX0; clear hW1; have pa0 := (blk_cell HX.ba 0).trans rfl; have pa1 := (blk_cell HX.ba 1).trans rfl; have pa2 := (blk_cell HX.ba 2).trans rfl; have pb0 := (blk_cell HX.bb 0).trans rfl; have pb1 := (blk_cell HX.bb 1).trans rfl; have pb2 := (blk_cell HX.bb 2).trans rfl; have pc0 := (blk_cell HX.bc 0).trans rfl; have pc1 := (blk_cell HX.bc 1).trans rfl; have pc2 := (blk_cell HX.bc 2).trans rfl; have pr0 := (blk_cell HX.br 0).trans rfl; have pr1 := (blk_cell HX.br 1).trans rfl; have pr2 := (blk_cell HX.br 2).trans rfl; have fr0 := blk_frozen HX.br 0; have fr1 := blk_frozen HX.br 1; have fr2 := blk_frozen HX.br 2; clear HX) | (go_at_call 60; refine (threshingref13_Num.calls _ _ _ _ _ (hT.below HX0.below) Hh.out).mono ?_; rintro e W2 ⟨rfl, hb2⟩; have HX2 := HX0.then_ hb2; clear pa0 pa1 pa2 pb0 pb1 pb2 pc0 pc1 pc2 pr0 pr1 pr2 fr0 fr1 fr2; have HX := HX2; have pa0 := (blk_cell HX.ba 0).trans rfl; have pa1 := (blk_cell HX.ba 1).trans rfl; have pa2 := (blk_cell HX.ba 2).trans rfl; have pb0 := (blk_cell HX.bb 0).trans rfl; have pb1 := (blk_cell HX.bb 1).trans rfl; have pb2 := (blk_cell HX.bb 2).trans rfl; have pc0 := (blk_cell HX.bc 0).trans rfl; have pc1 := (blk_cell HX.bc 1).trans rfl; have pc2 := (blk_cell HX.bc 2).trans rfl; have pr0 := (blk_cell HX.br 0).trans rfl; have pr1 := (blk_cell HX.br 1).trans rfl; have pr2 := (blk_cell HX.br 2).trans rfl; have fr0 := blk_frozen HX.br 0; have fr1 := blk_frozen HX.br 1; have fr2 := blk_frozen HX.br 2; clear HX))
    refine bodyPost_ret (results_cell_row rfl _ _ (w.heap.size + 1 + 1 + 1) 27 #[.bool r1, .int .i64 r2, .string r3] (0, 0) _ rfl (blk_set (blk_set (blk_set HX2.br 0 _) 1 _) 2 _) hu1 rfl (by kernel_rfl)) rfl ?_
    exact ⟨rfl, below_set (below_set (below_set HX2.below (by show w.heap.size ≤ w.heap.size + 1 + 1 + 1; omega)) (by show w.heap.size ≤ w.heap.size + 1 + 1 + 1; omega)) (by show w.heap.size ≤ w.heap.size + 1 + 1 + 1; omega)⟩
  by_cases c8 : a0 = 8
  · subst c8
    replace h : threshingref13_Num.f q2 = some (r1, r2, r3) := h
    have Hh := Lib.hid h
    clear h
    go_enter Tryz.func32, Tryz.ntmps32
    go_wp2_with (first | (go_at_call 59; refine (threshingref13_div.calls _ _ q1 q2 _ (hT.below (HS w).below) Hd.out).mono ?_; rintro e W1 ⟨rfl, n1, rfl⟩; have HX0 := (HS w).then_ (pw_below_drewN (Below.refl _ _) n1); generalize hW1 : World.drewN _ n1 = W1 at HX0; have HX := HX0; clear hW1; have pa0 := (blk_cell HX.ba 0).trans rfl; have pa1 := (blk_cell HX.ba 1).trans rfl; have pa2 := (blk_cell HX.ba 2).trans rfl; have pb0 := (blk_cell HX.bb 0).trans rfl; have pb1 := (blk_cell HX.bb 1).trans rfl; have pb2 := (blk_cell HX.bb 2).trans rfl; have pc0 := (blk_cell HX.bc 0).trans rfl; have pc1 := (blk_cell HX.bc 1).trans rfl; have pc2 := (blk_cell HX.bc 2).trans rfl; have pr0 := (blk_cell HX.br 0).trans rfl; have pr1 := (blk_cell HX.br 1).trans rfl; have pr2 := (blk_cell HX.br 2).trans rfl; have fr0 := blk_frozen HX.br 0; have fr1 := blk_frozen HX.br 1; have fr2 := blk_frozen HX.br 2; clear HX) | (go_at_call 60; refine (threshingref13_Num.calls _ _ _ _ _ (hT.below HX0.below) Hh.out).mono ?_; rintro e W2 ⟨rfl, hb2⟩; have HX2 := HX0.then_ hb2; clear pa0 pa1 pa2 pb0 pb1 pb2 pc0 pc1 pc2 pr0 pr1 pr2 fr0 fr1 fr2; have HX := HX2; have pa0 := (blk_cell HX.ba 0).trans rfl; have pa1 := (blk_cell HX.ba 1).trans rfl; have pa2 := (blk_cell HX.ba 2).trans rfl; have pb0 := (blk_cell HX.bb 0).trans rfl; have pb1 := (blk_cell HX.bb 1).trans rfl; have pb2 := (blk_cell HX.bb 2).trans rfl; have pc0 := (blk_cell HX.bc 0).trans rfl; have pc1 := (blk_cell HX.bc 1).trans rfl; have pc2 := (blk_cell HX.bc 2).trans rfl; have pr0 := (blk_cell HX.br 0).trans rfl; have pr1 := (blk_cell HX.br 1).trans rfl; have pr2 := (blk_cell HX.br 2).trans rfl; have fr0 := blk_frozen HX.br 0; have fr1 := blk_frozen HX.br 1; have fr2 := blk_frozen HX.br 2; clear HX))
    refine bodyPost_ret (results_cell_row rfl _ _ (w.heap.size + 1 + 1 + 1) 27 #[.bool r1, .int .i64 r2, .string r3] (0, 0) _ rfl (blk_set (blk_set (blk_set HX2.br 0 _) 1 _) 2 _) hu1 rfl (by kernel_rfl)) rfl ?_
    exact ⟨rfl, below_set (below_set (below_set HX2.below (by show w.heap.size ≤ w.heap.size + 1 + 1 + 1; omega)) (by show w.heap.size ≤ w.heap.size + 1 + 1 + 1; omega)) (by show w.heap.size ≤ w.heap.size + 1 + 1 + 1; omega)⟩
  by_cases c14 : a0 = 14
  · subst c14
    obtain ⟨t, ht, h⟩ := Option.bind_eq_some_iff.1 (show (threshingref13_Compare.f k a1_0 a1_1 a1_2 a2_0 a2_1 a2_2).bind (fun t => threshingref13_yes.f (t == 0)) = some (r1, r2, r3) from h)
    have Ht := Lib.hid ht
    have Hh := Lib.hid h
    clear h ht
    go_enter Tryz.func32, Tryz.ntmps32
    go_wp2_with (first | (go_at_call 59; refine (threshingref13_div.calls _ _ q1 q2 _ (hT.below (HS w).below) Hd.out).mono ?_; rintro e W1 ⟨rfl, n1, rfl⟩; have HX0 := (HS w).then_ (pw_below_drewN (Below.refl _ _) n1); generalize hW1 : World.drewN _ n1 = W1 at HX0; have HX := HX0; clear hW1; have pa0 := (blk_cell HX.ba 0).trans rfl; have pa1 := (blk_cell HX.ba 1).trans rfl; have pa2 := (blk_cell HX.ba 2).trans rfl; have pb0 := (blk_cell HX.bb 0).trans rfl; have pb1 := (blk_cell HX.bb 1).trans rfl; have pb2 := (blk_cell HX.bb 2).trans rfl; have pc0 := (blk_cell HX.bc 0).trans rfl; have pc1 := (blk_cell HX.bc 1).trans rfl; have pc2 := (blk_cell HX.bc 2).trans rfl; have pr0 := (blk_cell HX.br 0).trans rfl; have pr1 := (blk_cell HX.br 1).trans rfl; have pr2 := (blk_cell HX.br 2).trans rfl; have fr0 := blk_frozen HX.br 0; have fr1 := blk_frozen HX.br 1; have fr2 := blk_frozen HX.br 2; clear HX) | (go_at_call 62; refine (threshingref13_Compare.calls k _ _ _ _ _ _ t _ (hT.below HX0.below) Ht.out).mono ?_; rintro e W3 ⟨rfl, hb3⟩; have HX1 := HX0.then_ hb3; clear pa0 pa1 pa2 pb0 pb1 pb2 pc0 pc1 pc2 pr0 pr1 pr2 fr0 fr1 fr2; have HX := HX1; have pa0 := (blk_cell HX.ba 0).trans rfl; have pa1 := (blk_cell HX.ba 1).trans rfl; have pa2 := (blk_cell HX.ba 2).trans rfl; have pb0 := (blk_cell HX.bb 0).trans rfl; have pb1 := (blk_cell HX.bb 1).trans rfl; have pb2 := (blk_cell HX.bb 2).trans rfl; have pc0 := (blk_cell HX.bc 0).trans rfl; have pc1 := (blk_cell HX.bc 1).trans rfl; have pc2 := (blk_cell HX.bc 2).trans rfl; have pr0 := (blk_cell HX.br 0).trans rfl; have pr1 := (blk_cell HX.br 1).trans rfl; have pr2 := (blk_cell HX.br 2).trans rfl; have fr0 := blk_frozen HX.br 0; have fr1 := blk_frozen HX.br 1; have fr2 := blk_frozen HX.br 2; clear HX) | (go_at_call 61; refine (threshingref13_yes.calls _ _ _ _ _ (hT.below HX1.below) Hh.out).mono ?_; rintro e W2 ⟨rfl, hb2⟩; have HX2 := HX1.then_ hb2; clear pa0 pa1 pa2 pb0 pb1 pb2 pc0 pc1 pc2 pr0 pr1 pr2 fr0 fr1 fr2; have HX := HX2; have pa0 := (blk_cell HX.ba 0).trans rfl; have pa1 := (blk_cell HX.ba 1).trans rfl; have pa2 := (blk_cell HX.ba 2).trans rfl; have pb0 := (blk_cell HX.bb 0).trans rfl; have pb1 := (blk_cell HX.bb 1).trans rfl; have pb2 := (blk_cell HX.bb 2).trans rfl; have pc0 := (blk_cell HX.bc 0).trans rfl; have pc1 := (blk_cell HX.bc 1).trans rfl; have pc2 := (blk_cell HX.bc 2).trans rfl; have pr0 := (blk_cell HX.br 0).trans rfl; have pr1 := (blk_cell HX.br 1).trans rfl; have pr2 := (blk_cell HX.br 2).trans rfl; have fr0 := blk_frozen HX.br 0; have fr1 := blk_frozen HX.br 1; have fr2 := blk_frozen HX.br 2; clear HX))
    refine bodyPost_ret (results_cell_row rfl _ _ (w.heap.size + 1 + 1 + 1) 27 #[.bool r1, .int .i64 r2, .string r3] (0, 0) _ rfl (blk_set (blk_set (blk_set HX2.br 0 _) 1 _) 2 _) hu1 rfl (by kernel_rfl)) rfl ?_
    exact ⟨rfl, below_set (below_set (below_set HX2.below (by show w.heap.size ≤ w.heap.size + 1 + 1 + 1; omega)) (by show w.heap.size ≤ w.heap.size + 1 + 1 + 1; omega)) (by show w.heap.size ≤ w.heap.size + 1 + 1 + 1; omega)⟩
  by_cases c15 : a0 = 15
  · subst c15
    obtain ⟨t, ht, h⟩ := Option.bind_eq_some_iff.1 (show (threshingref13_Compare.f k a1_0 a1_1 a1_2 a2_0 a2_1 a2_2).bind (fun t => threshingref13_yes.f (decide (t < 0))) = some (r1, r2, r3) from h)
    have Ht := Lib.hid ht
    have Hh := Lib.hid h
    clear h ht
    go_enter Tryz.func32, Tryz.ntmps32
    go_wp2_with (first | (go_at_call 59; refine (threshingref13_div.calls _ _ q1 q2 _ (hT.below (HS w).below) Hd.out).mono ?_; rintro e W1 ⟨rfl, n1, rfl⟩; have HX0 := (HS w).then_ (pw_below_drewN (Below.refl _ _) n1); generalize hW1 : World.drewN _ n1 = W1 at HX0; have HX := HX0; clear hW1; have pa0 := (blk_cell HX.ba 0).trans rfl; have pa1 := (blk_cell HX.ba 1).trans rfl; have pa2 := (blk_cell HX.ba 2).trans rfl; have pb0 := (blk_cell HX.bb 0).trans rfl; have pb1 := (blk_cell HX.bb 1).trans rfl; have pb2 := (blk_cell HX.bb 2).trans rfl; have pc0 := (blk_cell HX.bc 0).trans rfl; have pc1 := (blk_cell HX.bc 1).trans rfl; have pc2 := (blk_cell HX.bc 2).trans rfl; have pr0 := (blk_cell HX.br 0).trans rfl; have pr1 := (blk_cell HX.br 1).trans rfl; have pr2 := (blk_cell HX.br 2).trans rfl; have fr0 := blk_frozen HX.br 0; have fr1 := blk_frozen HX.br 1; have fr2 := blk_frozen HX.br 2; clear HX) | (go_at_call 62; refine (threshingref13_Compare.calls k _ _ _ _ _ _ t _ (hT.below HX0.below) Ht.out).mono ?_; rintro e W3 ⟨rfl, hb3⟩; have HX1 := HX0.then_ hb3; clear pa0 pa1 pa2 pb0 pb1 pb2 pc0 pc1 pc2 pr0 pr1 pr2 fr0 fr1 fr2; have HX := HX1; have pa0 := (blk_cell HX.ba 0).trans rfl; have pa1 := (blk_cell HX.ba 1).trans rfl; have pa2 := (blk_cell HX.ba 2).trans rfl; have pb0 := (blk_cell HX.bb 0).trans rfl; have pb1 := (blk_cell HX.bb 1).trans rfl; have pb2 := (blk_cell HX.bb 2).trans rfl; have pc0 := (blk_cell HX.bc 0).trans rfl; have pc1 := (blk_cell HX.bc 1).trans rfl; have pc2 := (blk_cell HX.bc 2).trans rfl; have pr0 := (blk_cell HX.br 0).trans rfl; have pr1 := (blk_cell HX.br 1).trans rfl; have pr2 := (blk_cell HX.br 2).trans rfl; have fr0 := blk_frozen HX.br 0; have fr1 := blk_frozen HX.br 1; have fr2 := blk_frozen HX.br 2; clear HX) | (go_at_call 61; refine (threshingref13_yes.calls _ _ _ _ _ (hT.below HX1.below) Hh.out).mono ?_; rintro e W2 ⟨rfl, hb2⟩; have HX2 := HX1.then_ hb2; clear pa0 pa1 pa2 pb0 pb1 pb2 pc0 pc1 pc2 pr0 pr1 pr2 fr0 fr1 fr2; have HX := HX2; have pa0 := (blk_cell HX.ba 0).trans rfl; have pa1 := (blk_cell HX.ba 1).trans rfl; have pa2 := (blk_cell HX.ba 2).trans rfl; have pb0 := (blk_cell HX.bb 0).trans rfl; have pb1 := (blk_cell HX.bb 1).trans rfl; have pb2 := (blk_cell HX.bb 2).trans rfl; have pc0 := (blk_cell HX.bc 0).trans rfl; have pc1 := (blk_cell HX.bc 1).trans rfl; have pc2 := (blk_cell HX.bc 2).trans rfl; have pr0 := (blk_cell HX.br 0).trans rfl; have pr1 := (blk_cell HX.br 1).trans rfl; have pr2 := (blk_cell HX.br 2).trans rfl; have fr0 := blk_frozen HX.br 0; have fr1 := blk_frozen HX.br 1; have fr2 := blk_frozen HX.br 2; clear HX))
    refine bodyPost_ret (results_cell_row rfl _ _ (w.heap.size + 1 + 1 + 1) 27 #[.bool r1, .int .i64 r2, .string r3] (0, 0) _ rfl (blk_set (blk_set (blk_set HX2.br 0 _) 1 _) 2 _) hu1 rfl (by kernel_rfl)) rfl ?_
    exact ⟨rfl, below_set (below_set (below_set HX2.below (by show w.heap.size ≤ w.heap.size + 1 + 1 + 1; omega)) (by show w.heap.size ≤ w.heap.size + 1 + 1 + 1; omega)) (by show w.heap.size ≤ w.heap.size + 1 + 1 + 1; omega)⟩
  by_cases c16 : a0 = 16
  · subst c16
    replace h : threshingref13_yes.f (a1_1 == 0) = some (r1, r2, r3) := h
    have Hh := Lib.hid h
    clear h
    go_enter Tryz.func32, Tryz.ntmps32
    go_wp2_with (first | (go_at_call 59; refine (threshingref13_div.calls _ _ q1 q2 _ (hT.below (HS w).below) Hd.out).mono ?_; rintro e W1 ⟨rfl, n1, rfl⟩; have HX0 := (HS w).then_ (pw_below_drewN (Below.refl _ _) n1); generalize hW1 : World.drewN _ n1 = W1 at HX0; have HX := HX0; clear hW1; have pa0 := (blk_cell HX.ba 0).trans rfl; have pa1 := (blk_cell HX.ba 1).trans rfl; have pa2 := (blk_cell HX.ba 2).trans rfl; have pb0 := (blk_cell HX.bb 0).trans rfl; have pb1 := (blk_cell HX.bb 1).trans rfl; have pb2 := (blk_cell HX.bb 2).trans rfl; have pc0 := (blk_cell HX.bc 0).trans rfl; have pc1 := (blk_cell HX.bc 1).trans rfl; have pc2 := (blk_cell HX.bc 2).trans rfl; have pr0 := (blk_cell HX.br 0).trans rfl; have pr1 := (blk_cell HX.br 1).trans rfl; have pr2 := (blk_cell HX.br 2).trans rfl; have fr0 := blk_frozen HX.br 0; have fr1 := blk_frozen HX.br 1; have fr2 := blk_frozen HX.br 2; clear HX) | (go_at_call 61; refine (threshingref13_yes.calls _ _ _ _ _ (hT.below HX0.below) Hh.out).mono ?_; rintro e W2 ⟨rfl, hb2⟩; have HX2 := HX0.then_ hb2; clear pa0 pa1 pa2 pb0 pb1 pb2 pc0 pc1 pc2 pr0 pr1 pr2 fr0 fr1 fr2; have HX := HX2; have pa0 := (blk_cell HX.ba 0).trans rfl; have pa1 := (blk_cell HX.ba 1).trans rfl; have pa2 := (blk_cell HX.ba 2).trans rfl; have pb0 := (blk_cell HX.bb 0).trans rfl; have pb1 := (blk_cell HX.bb 1).trans rfl; have pb2 := (blk_cell HX.bb 2).trans rfl; have pc0 := (blk_cell HX.bc 0).trans rfl; have pc1 := (blk_cell HX.bc 1).trans rfl; have pc2 := (blk_cell HX.bc 2).trans rfl; have pr0 := (blk_cell HX.br 0).trans rfl; have pr1 := (blk_cell HX.br 1).trans rfl; have pr2 := (blk_cell HX.br 2).trans rfl; have fr0 := blk_frozen HX.br 0; have fr1 := blk_frozen HX.br 1; have fr2 := blk_frozen HX.br 2; clear HX))
    refine bodyPost_ret (results_cell_row rfl _ _ (w.heap.size + 1 + 1 + 1) 27 #[.bool r1, .int .i64 r2, .string r3] (0, 0) _ rfl (blk_set (blk_set (blk_set HX2.br 0 _) 1 _) 2 _) hu1 rfl (by kernel_rfl)) rfl ?_
    exact ⟨rfl, below_set (below_set (below_set HX2.below (by show w.heap.size ≤ w.heap.size + 1 + 1 + 1; omega)) (by show w.heap.size ≤ w.heap.size + 1 + 1 + 1; omega)) (by show w.heap.size ≤ w.heap.size + 1 + 1 + 1; omega)⟩
  by_cases c17 : a0 = 17
  case neg =>
    simp only [if_neg c4, if_neg c5, if_neg c6, if_neg c7, if_neg c8, if_neg c14, if_neg c15, if_neg c16, if_neg c17] at h
    cases h
  subst c17
  replace h : (if a1_1 = 0 then (some (a3_0, a3_1, a3_2)) else (some (a2_0, a2_1, a2_2))) = some (r1, r2, r3) := h
  clear c4 c5 c6 c7 c8 c14 c15 c16
  by_cases c : a1_1 = 0
  · rw [if_pos c] at h
    simp only [Option.some.injEq, Prod.mk.injEq] at h
    obtain ⟨rfl, rfl, rfl⟩ := h
    have cb : (a1_1 != 0) = false := by simp [c]
    clear c
    go_enter Tryz.func32, Tryz.ntmps32
    go_wp2_with (first | (go_at_call 59; refine (threshingref13_div.calls _ _ q1 q2 _ (hT.below (HS w).below) Hd.out).mono ?_; rintro e W1 ⟨rfl, n1, rfl⟩; have HX0 := (HS w).then_ (pw_below_drewN (Below.refl _ _) n1); generalize hW1 : World.drewN _ n1 = W1 at HX0; have HX := HX0; clear hW1; have pa0 := (blk_cell HX.ba 0).trans rfl; have pa1 := (blk_cell HX.ba 1).trans rfl; have pa2 := (blk_cell HX.ba 2).trans rfl; have pb0 := (blk_cell HX.bb 0).trans rfl; have pb1 := (blk_cell HX.bb 1).trans rfl; have pb2 := (blk_cell HX.bb 2).trans rfl; have pc0 := (blk_cell HX.bc 0).trans rfl; have pc1 := (blk_cell HX.bc 1).trans rfl; have pc2 := (blk_cell HX.bc 2).trans rfl; have pr0 := (blk_cell HX.br 0).trans rfl; have pr1 := (blk_cell HX.br 1).trans rfl; have pr2 := (blk_cell HX.br 2).trans rfl; have fr0 := blk_frozen HX.br 0; have fr1 := blk_frozen HX.br 1; have fr2 := blk_frozen HX.br 2; clear HX))
    have HX2 := HX0
    refine bodyPost_ret (results_cell_row rfl _ _ (w.heap.size + 1 + 1 + 1) 27 #[.bool a3_0, .int .i64 a3_1, .string a3_2] (0, 0) _ rfl (blk_set (blk_set (blk_set HX2.br 0 _) 1 _) 2 _) hu1 rfl (by kernel_rfl)) rfl ?_
    exact ⟨rfl, below_set (below_set (below_set HX2.below (by show w.heap.size ≤ w.heap.size + 1 + 1 + 1; omega)) (by show w.heap.size ≤ w.heap.size + 1 + 1 + 1; omega)) (by show w.heap.size ≤ w.heap.size + 1 + 1 + 1; omega)⟩
  · rw [if_neg c] at h
    simp only [Option.some.injEq, Prod.mk.injEq] at h
    obtain ⟨rfl, rfl, rfl⟩ := h
    have cb : (a1_1 != 0) = true := by simp [c]
    clear c
    go_enter Tryz.func32, Tryz.ntmps32
    go_wp2_with (first | (go_at_call 59; refine (threshingref13_div.calls _ _ q1 q2 _ (hT.below (HS w).below) Hd.out).mono ?_; rintro e W1 ⟨rfl, n1, rfl⟩; have HX0 := (HS w).then_ (pw_below_drewN (Below.refl _ _) n1); generalize hW1 : World.drewN _ n1 = W1 at HX0; have HX := HX0; clear hW1; have pa0 := (blk_cell HX.ba 0).trans rfl; have pa1 := (blk_cell HX.ba 1).trans rfl; have pa2 := (blk_cell HX.ba 2).trans rfl; have pb0 := (blk_cell HX.bb 0).trans rfl; have pb1 := (blk_cell HX.bb 1).trans rfl; have pb2 := (blk_cell HX.bb 2).trans rfl; have pc0 := (blk_cell HX.bc 0).trans rfl; have pc1 := (blk_cell HX.bc 1).trans rfl; have pc2 := (blk_cell HX.bc 2).trans rfl; have pr0 := (blk_cell HX.br 0).trans rfl; have pr1 := (blk_cell HX.br 1).trans rfl; have pr2 := (blk_cell HX.br 2).trans rfl; have fr0 := blk_frozen HX.br 0; have fr1 := blk_frozen HX.br 1; have fr2 := blk_frozen HX.br 2; clear HX))
    have HX2 := HX0
    refine bodyPost_ret (results_cell_row rfl _ _ (w.heap.size + 1 + 1 + 1) 27 #[.bool a2_0, .int .i64 a2_1, .string a2_2] (0, 0) _ rfl (blk_set (blk_set (blk_set HX2.br 0 _) 1 _) 2 _) hu1 rfl (by kernel_rfl)) rfl ?_
    exact ⟨rfl, below_set (below_set (below_set HX2.below (by show w.heap.size ≤ w.heap.size + 1 + 1 + 1; omega)) (by show w.heap.size ≤ w.heap.size + 1 + 1 + 1; omega)) (by show w.heap.size ≤ w.heap.size + 1 + 1 + 1; omega)⟩


/-! ### threshingref13_clip: function 81 -/
def threshingref13_clip.f (a0 : ByteArray) : Option (ByteArray) := if 0 ≤ (mn (a0.size : Int) 1000) then (if (mn (a0.size : Int) 1000) ≤ (a0.size : Int) then (some (a0.extract 0 ((mn (a0.size : Int) 1000) : Int).toNat)) else (none)) else (none)
set_option maxHeartbeats 8000000 in
set_option maxRecDepth 100000 in
theorem threshingref13_clip.calls (a0 : ByteArray) (r : ByteArray) (w : World) (hT : Tabs w) (h : threshingref13_clip.f a0 = some r) :
    Calls Tryz.prog 81 #[.string a0] w fun e w' => e = .returned (.string r) ∧ Below w.heap.size w w' := by
  have HB := Aside0.mk (Below.refl w.heap.size w)
  have H : (if 0 ≤ (mn (a0.size : Int) 1000) then (if (mn (a0.size : Int) 1000) ≤ (a0.size : Int) then (some (a0.extract 0 ((mn (a0.size : Int) 1000) : Int).toNat)) else (none)) else (none)) = some r := h
  clear h
  obtain ⟨ji2, hji2⟩ : ∃ j_ : Int, (mn (a0.size : Int) 1000) = j_ := ⟨_, rfl⟩
  replace H : (if 0 ≤ (ji2) then (if (ji2) ≤ (a0.size : Int) then (some (a0.extract 0 ((ji2) : Int).toNat)) else (none)) else (none)) = some r := by first | (rw [hji2] at H; exact H) | (simp only [hji2] at H ⊢; exact H)
  (try (have hji2h : ji2 ≤ 1000 := by (rw [← hji2]; unfold mn; (repeat' split) <;> omega)))
  (try (have hji2g : ji2 ≤ 64 := by omega))
  (try (have hji2l : 0 ≤ ji2 := by (rw [← hji2]; unfold mn; (repeat' split) <;> omega)))
  (try (have hji2m : 0 ≤ ji2 := by omega))
  have hji2_ : (if 1000 < (a0.size : Int) then 1000 else (a0.size : Int)) = ji2 := hji2
  by_cases c3 : 0 ≤ (ji2)
  · rw [if_pos c3] at H
    have c3b0 := eq_true c3
    have c3b1 : decide (0 ≤ (ji2)) = true := decide_eq_true c3
    clear c3
    by_cases c4 : (ji2) ≤ (a0.size : Int)
    · rw [if_pos c4] at H
      have c4b0 := eq_true c4
      have c4b1 : decide ((ji2) ≤ (a0.size : Int)) = true := decide_eq_true c4
      clear c4
      obtain rfl := Option.some.inj H
      go_enter Tryz.func81, Tryz.ntmps81
      go_wp2
      go_ret
      exact ⟨by first | rfl | (simp [errW_none, errW_some] <;> rfl) | (simp only [← hji2]; first | rfl | (simp [errW_none, errW_some] <;> rfl)) | (simp [*, errW_none, errW_some] <;> rfl), xb⟩
    · rw [if_neg c4] at H
      exact absurd H (by simp)
  · rw [if_neg c3] at H
    exact absurd H (by simp)

/-! ### threshingref13_Text: function 63 -/
def threshingref13_Text.f (a0 : ByteArray) : Option (Bool × Int × ByteArray) := (threshingref13_clip.f a0).bind fun t336 => (some (true, 0, t336))
set_option maxHeartbeats 8000000 in
set_option maxRecDepth 100000 in
theorem threshingref13_Text.calls (a0 : ByteArray) (r1 : Bool) (r2 : Int) (r3 : ByteArray) (w : World) (hT : Tabs w) (h : threshingref13_Text.f a0 = some (r1, r2, r3)) :
    Calls Tryz.prog 63 #[.string a0] w fun e w' => e = .returned (.agg #[.bool r1, .int .i64 r2, .string r3]) ∧ Below w.heap.size w w' := by
  have hu27 := Tryz.underlying27
  have HB := Aside0.mk (Below.refl w.heap.size w)
  have H : ((threshingref13_clip.f a0).bind fun t336 => (some (true, 0, t336))) = some (r1, r2, r3) := h
  clear h
  replace H := Option.bind_eq_some_iff.mp H
  obtain ⟨t336, A20, H⟩ := H
  replace H : (some (true, 0, t336)) = some (r1, r2, r3) := H
  have A2 := Aside0.mk A20
  clear A20
  simp only [Option.some.injEq, Prod.mk.injEq] at H
  obtain ⟨rfl, rfl, rfl⟩ := H
  go_enter Tryz.func63, Tryz.ntmps63
  go_wp2_with (first | ((with_reducible refine gate_dst (N := 2) rfl ?_); refine box_event ?hg (N := 2) ?hd (cs := #[.bool false, .int .i64 0, .string (⟨#[]⟩ : ByteArray)]) (t := 27) ?hr ?_; (case hd => rfl); (case hg => rfl); (case hr => first | (go_simp; done) | (go_simp; rfl)); intro gb335 hg w3 hbox hb; have n0_ := Aside0.mk (below_step xb hb); have n1_ := Aside0.mk (hbox); have n2_ := xs w hg; have n3_ := xs w hg; clear HB; have HB := n0_; have BK335 := n1_; have GW335 := n2_; have GE335 := n3_; clear n0_ n1_ n2_ n3_; clear hb hbox hg) | ((with_reducible refine gate_callee (f := 81) rfl ?_); refine goesL_ (some 4) rfl rfl Tryz.func81 (by kernel_rfl) rfl #[.string a0] rfl xr ?_; (with_reducible refine (threshingref13_clip.calls a0 t336 _ (Tabs.below hT xf) A2.out).mono ?_); rintro e w4 ⟨rfl, hb⟩; refine ⟨_, rfl, ?_⟩; have n0_ := xd BK335.out hb; have n1_ := Aside0.mk (below_step xb hb); clear BK335; clear HB; have BK335 := n0_; have HB := n1_; clear n0_ n1_; (try clear hb); (try clear hb2); (try clear hk); (try clear hi); have hcz5_0 : w4.cell? ⟨gb335, 0, none⟩ = some (.bool false) := (blk_cell BK335.out 0).trans rfl; have hcz5_1 : w4.cell? ⟨gb335, 1, none⟩ = some (.int .i64 0) := (blk_cell BK335.out 1).trans rfl; have hcz5_2 : w4.cell? ⟨gb335, 2, none⟩ = some (.string (⟨#[]⟩ : ByteArray)) := (blk_cell BK335.out 2).trans rfl; have hfz5_0 := blk_frozen BK335.out 0; have hfz5_1 := blk_frozen BK335.out 1; have hfz5_2 := blk_frozen BK335.out 2))
  refine bodyPost_ret (results_cell_row rfl _ _ gb335 27 #[.bool true, .int .i64 0, .string t336] (0, 0) _ rfl (by (with_reducible repeat (first | refine blk_drewN ?_ _ | refine blk_drew ?_ | refine blk_alloc ?_ _)); refine blk_put (cs := #[.bool true, .int .i64 0, .string (⟨#[]⟩ : ByteArray)]) ?_ 2 _ rfl; (with_reducible repeat (first | refine blk_drewN ?_ _ | refine blk_drew ?_ | refine blk_alloc ?_ _)); refine blk_put (cs := #[.bool true, .int .i64 0, .string (⟨#[]⟩ : ByteArray)]) ?_ 1 _ rfl; (with_reducible repeat (first | refine blk_drewN ?_ _ | refine blk_drew ?_ | refine blk_alloc ?_ _)); refine blk_put (cs := #[.bool false, .int .i64 0, .string (⟨#[]⟩ : ByteArray)]) ?_ 0 _ rfl; (with_reducible repeat (first | refine blk_drewN ?_ _ | refine blk_drew ?_ | refine blk_alloc ?_ _)); exact BK335.out) Tryz.underlying27 rfl (by kernel_rfl)) rfl ?_
  exact ⟨by first | rfl | (simp [errW_none, errW_some] <;> rfl) | (simp [*, errW_none, errW_some] <;> rfl), xb⟩

/-! ### threshingref13_slice: function 64 -/
def threshingref13_slice.f (a0 : ByteArray) (a1 : Int) (a2 : Int) : Option (ByteArray) := if 0 ≤ (mn (mx a1 0) (a0.size : Int)) then (if (mn (mx a1 0) (a0.size : Int)) ≤ (wrap64 ((mn (mx a1 0) (a0.size : Int)) + (mn (mx a2 0) (wrap64 ((a0.size : Int) - (mn (mx a1 0) (a0.size : Int))))))) then (if (wrap64 ((mn (mx a1 0) (a0.size : Int)) + (mn (mx a2 0) (wrap64 ((a0.size : Int) - (mn (mx a1 0) (a0.size : Int))))))) ≤ (a0.size : Int) then (some (a0.extract ((mn (mx a1 0) (a0.size : Int)) : Int).toNat ((wrap64 ((mn (mx a1 0) (a0.size : Int)) + (mn (mx a2 0) (wrap64 ((a0.size : Int) - (mn (mx a1 0) (a0.size : Int))))))) : Int).toNat)) else (none)) else (none)) else (none)
set_option maxHeartbeats 8000000 in
set_option maxRecDepth 100000 in
theorem threshingref13_slice.calls (a0 : ByteArray) (a1 : Int) (a2 : Int) (r : ByteArray) (w : World) (hT : Tabs w) (h : threshingref13_slice.f a0 a1 a2 = some r) :
    Calls Tryz.prog 64 #[.string a0, .int .i64 a1, .int .i64 a2] w fun e w' => e = .returned (.string r) ∧ Below w.heap.size w w' := by
  have HB := Aside0.mk (Below.refl w.heap.size w)
  have H : (if 0 ≤ (mn (mx a1 0) (a0.size : Int)) then (if (mn (mx a1 0) (a0.size : Int)) ≤ (wrap64 ((mn (mx a1 0) (a0.size : Int)) + (mn (mx a2 0) (wrap64 ((a0.size : Int) - (mn (mx a1 0) (a0.size : Int))))))) then (if (wrap64 ((mn (mx a1 0) (a0.size : Int)) + (mn (mx a2 0) (wrap64 ((a0.size : Int) - (mn (mx a1 0) (a0.size : Int))))))) ≤ (a0.size : Int) then (some (a0.extract ((mn (mx a1 0) (a0.size : Int)) : Int).toNat ((wrap64 ((mn (mx a1 0) (a0.size : Int)) + (mn (mx a2 0) (wrap64 ((a0.size : Int) - (mn (mx a1 0) (a0.size : Int))))))) : Int).toNat)) else (none)) else (none)) else (none)) = some r := h
  clear h
  obtain ⟨ji4, hji4⟩ : ∃ j_ : Int, (mx a1 0) = j_ := ⟨_, rfl⟩
  replace H : (if 0 ≤ (mn (ji4) (a0.size : Int)) then (if (mn (ji4) (a0.size : Int)) ≤ (wrap64 ((mn (ji4) (a0.size : Int)) + (mn (mx a2 0) (wrap64 ((a0.size : Int) - (mn (ji4) (a0.size : Int))))))) then (if (wrap64 ((mn (ji4) (a0.size : Int)) + (mn (mx a2 0) (wrap64 ((a0.size : Int) - (mn (ji4) (a0.size : Int))))))) ≤ (a0.size : Int) then (some (a0.extract ((mn (ji4) (a0.size : Int)) : Int).toNat ((wrap64 ((mn (ji4) (a0.size : Int)) + (mn (mx a2 0) (wrap64 ((a0.size : Int) - (mn (ji4) (a0.size : Int))))))) : Int).toNat)) else (none)) else (none)) else (none)) = some r := by first | (rw [hji4] at H; exact H) | (simp only [hji4] at H ⊢; exact H)
  (try (have hji4l : 0 ≤ ji4 := by (rw [← hji4]; unfold mx; (repeat' split) <;> omega)))
  (try (have hji4m : 0 ≤ ji4 := by omega))
  have hji4_ : (if a1 < 0 then 0 else a1) = ji4 := hji4
  obtain ⟨ji5, hji5⟩ : ∃ j_ : Int, (mn (ji4) (a0.size : Int)) = j_ := ⟨_, rfl⟩
  replace H : (if 0 ≤ (ji5) then (if (ji5) ≤ (wrap64 ((ji5) + (mn (mx a2 0) (wrap64 ((a0.size : Int) - (ji5)))))) then (if (wrap64 ((ji5) + (mn (mx a2 0) (wrap64 ((a0.size : Int) - (ji5)))))) ≤ (a0.size : Int) then (some (a0.extract ((ji5) : Int).toNat ((wrap64 ((ji5) + (mn (mx a2 0) (wrap64 ((a0.size : Int) - (ji5)))))) : Int).toNat)) else (none)) else (none)) else (none)) = some r := by first | (rw [hji5] at H; exact H) | (simp only [hji5] at H ⊢; exact H)
  have hji5_ : (if (a0.size : Int) < (ji4) then (a0.size : Int) else (ji4)) = ji5 := hji5
  obtain ⟨ji6, hji6⟩ : ∃ j_ : Int, (mx a2 0) = j_ := ⟨_, rfl⟩
  replace H : (if 0 ≤ (ji5) then (if (ji5) ≤ (wrap64 ((ji5) + (mn (ji6) (wrap64 ((a0.size : Int) - (ji5)))))) then (if (wrap64 ((ji5) + (mn (ji6) (wrap64 ((a0.size : Int) - (ji5)))))) ≤ (a0.size : Int) then (some (a0.extract ((ji5) : Int).toNat ((wrap64 ((ji5) + (mn (ji6) (wrap64 ((a0.size : Int) - (ji5)))))) : Int).toNat)) else (none)) else (none)) else (none)) = some r := by first | (rw [hji6] at H; exact H) | (simp only [hji6] at H ⊢; exact H)
  (try (have hji6l : 0 ≤ ji6 := by (rw [← hji6]; unfold mx; (repeat' split) <;> omega)))
  (try (have hji6m : 0 ≤ ji6 := by omega))
  have hji6_ : (if a2 < 0 then 0 else a2) = ji6 := hji6
  obtain ⟨ji7, hji7⟩ : ∃ j_ : Int, (mn (ji6) (wrap64 ((a0.size : Int) - (ji5)))) = j_ := ⟨_, rfl⟩
  replace H : (if 0 ≤ (ji5) then (if (ji5) ≤ (wrap64 ((ji5) + (ji7))) then (if (wrap64 ((ji5) + (ji7))) ≤ (a0.size : Int) then (some (a0.extract ((ji5) : Int).toNat ((wrap64 ((ji5) + (ji7))) : Int).toNat)) else (none)) else (none)) else (none)) = some r := by first | (rw [hji7] at H; exact H) | (simp only [hji7] at H ⊢; exact H)
  have hji7_ : (if (wrap64 ((a0.size : Int) - (ji5))) < (ji6) then (wrap64 ((a0.size : Int) - (ji5))) else (ji6)) = ji7 := hji7
  by_cases c8 : 0 ≤ (ji5)
  · rw [if_pos c8] at H
    have c8b0 := eq_true c8
    have c8b1 : decide (0 ≤ (ji5)) = true := decide_eq_true c8
    clear c8
    by_cases c9 : (ji5) ≤ (wrap64 ((ji5) + (ji7)))
    · rw [if_pos c9] at H
      have c9b0 := eq_true c9
      have c9b1 : decide ((ji5) ≤ (wrap64 ((ji5) + (ji7)))) = true := decide_eq_true c9
      by_cases c10 : (wrap64 ((ji5) + (ji7))) ≤ (a0.size : Int)
      · rw [if_pos c10] at H
        have c10b0 := eq_true c10
        have c10b1 : decide ((wrap64 ((ji5) + (ji7))) ≤ (a0.size : Int)) = true := decide_eq_true c10
        obtain rfl := Option.some.inj H
        go_enter Tryz.func64, Tryz.ntmps64
        go_wp2
        go_ret
        exact ⟨by first | rfl | (simp [errW_none, errW_some] <;> rfl) | (simp only [← hji4, ← hji5, ← hji6, ← hji7]; first | rfl | (simp [errW_none, errW_some] <;> rfl)) | (simp [*, errW_none, errW_some] <;> rfl), xb⟩
      · rw [if_neg c10] at H
        exact absurd H (by simp)
    · rw [if_neg c9] at H
      exact absurd H (by simp)
  · rw [if_neg c8] at H
    exact absurd H (by simp)

/-! ### threshingref13_turned: function 65 -/
def threshingref13_turned.l0 : Nat → ByteArray → Int → List Int → Int → Option (ByteArray)
  | 0, _, _, _, _ => none
  | k + 1, x0, x1, x5, x6 => if x6 < (x0.size : Int) then (if 0 ≤ x6 then (if (bt x0 x6) ≥ x1 then (if (bt x0 x6) < ((x1 + 26) % 256) then (if x5.length < 140737488355328 then (threshingref13_turned.l0 k x0 x1 (x5 ++ [Go.bits .xor .u8 (bt x0 x6) 32]) (wrap64 (x6 + 1))) else (none)) else (if x5.length < 140737488355328 then (threshingref13_turned.l0 k x0 x1 (x5 ++ [bt x0 x6]) (wrap64 (x6 + 1))) else (none))) else (if x5.length < 140737488355328 then (threshingref13_turned.l0 k x0 x1 (x5 ++ [bt x0 x6]) (wrap64 (x6 + 1))) else (none))) else (none)) else (some (strOfNums x5))
def threshingref13_turned.f (k : Nat) (a0 : ByteArray) (a1 : Int) : Option (ByteArray) := threshingref13_turned.l0 k a0 a1 (([] : List Int)) 0
theorem threshingref13_turned.mono_l : ∀ k, (∀ y0 y1 y2 y3, LeO (threshingref13_turned.l0 k y0 y1 y2 y3) (threshingref13_turned.l0 (k + 1) y0 y1 y2 y3))
  | 0 => fun _ _ _ _ r h => by simp [threshingref13_turned.l0] at h
  | k + 1 => by
    have ih0 := threshingref13_turned.mono_l k
    · intro y0 y1 y2 y3
      unfold threshingref13_turned.l0
      repeat' first
      | (with_reducible exact ih0 _ _ _ _)
      | (with_reducible exact LeO.refl _)
      | (with_reducible exact LeO.none _)
      | (with_reducible refine LeO.ite ?_ ?_)
      | (with_reducible refine LeO.bind ?_ (fun _ => ?_))
      | exact ih0 _ _ _ _
      | exact LeO.none _
      | refine LeO.ite ?_ ?_
      | refine LeO.bind ?_ (fun _ => ?_)
theorem threshingref13_turned.mono : ∀ a0 a1 k, LeO (threshingref13_turned.f k a0 a1) (threshingref13_turned.f (k + 1) a0 a1) := by
  intro a0 a1 k
  have ih0 := threshingref13_turned.mono_l k
  unfold threshingref13_turned.f
  repeat' first
      | (with_reducible exact ih0 _ _ _ _)
      | (with_reducible exact LeO.refl _)
      | (with_reducible exact LeO.none _)
      | (with_reducible refine LeO.ite ?_ ?_)
      | (with_reducible refine LeO.bind ?_ (fun _ => ?_))
      | exact ih0 _ _ _ _
      | exact LeO.none _
      | refine LeO.ite ?_ ?_
      | refine LeO.bind ?_ (fun _ => ?_)
set_option maxHeartbeats 8000000 in
set_option maxRecDepth 100000 in
theorem threshingref13_turned.calls (k : Nat) (a0 : ByteArray) (a1 : Int) (r : ByteArray) (w : World) (hT : Tabs w) (h : threshingref13_turned.f k a0 a1 = some r) :
    Calls Tryz.prog 65 #[.string a0, .int .u8 a1] w fun e w' => e = .returned (.string r) ∧ Below w.heap.size w w' := by
  have HB := Aside0.mk (Below.refl w.heap.size w)
  have H : (threshingref13_turned.l0 k a0 a1 (([] : List Int)) 0) = some r := h
  clear h
  obtain ⟨y337, hy337⟩ : ∃ y_ : List Int, y_ = (([] : List Int)) := ⟨_, rfl⟩
  replace H : (threshingref13_turned.l0 k a0 a1 y337 0) = some r := by first | (rw [hy337]; with_reducible exact H) | (have H2_ := (Option.bind_some _ _).symm.trans H; rw [hy337]; with_reducible exact H2_) | (have H2_ := (Option.bind_some _ _).symm.trans H; with_reducible exact H2_) | with_reducible exact H | (rw [hy337]; exact H) | exact H
  have Ny337 := Aside0.mk hy337
  clear hy337
  have H' := Aside0.mk H
  clear H
  go_enter Tryz.func65, Tryz.ntmps65
  go_wp2_with (first | ((with_reducible refine gate_dst (N := 8) rfl ?_); refine Kd.R_lit (Kd.int .u8) _ 5 ?hg (N := 8) ?hd (xs := ([] : List Int)) (inner := []) (ok := fun _ => True) (okp := fun _ => True) ?hr ?hp (fun _ hk => hk) trivial (Below.refl _ _) (Nat.le_refl _) (by simp) ?_; (case hd => rfl); (case hg => rfl); (case hr => first | (go_simp; done) | (go_simp; rfl)); (case hp => exact (Reps.none _ _)); intro v338 w3 ho4 hb hg_ hnew_; clear hg_ hnew_; (first | rw [← Ny337.out] at ho4 | (simp only [Int.reduceToNat] at ho4; rw [← Ny337.out] at ho4)); have n0_ := Aside0.mk (Kd.R_lower ho4 (below_size xb)); have n1_ := Aside0.mk (below_step xb hb); clear HB; have HO339 := n0_; have HB := n1_; clear n0_ n1_; clear hb ho4))
  go_loopg [5, 6] k (fun kq v5 v6 w' => ∃ (x5_1 : List Int) (x6_1 : Int), v6 = .int .i64 x6_1 ∧ Aside0 (threshingref13_turned.l0 kq a0 a1 x5_1 x6_1 = some r) ∧ Aside0 (kq ≤ k) ∧ Aside0 (Kd.R (Kd.int .u8) 5 w' w.heap.size (fun _ => True) v5 x5_1) ∧ Aside0 (Below w.heap.size w w'))
  case atStart => exact ⟨(y337), (0), (by first | rfl | (simp; done) | (simp [*]; done) | exact congrArg Value.bool (xm_ne_nil _) | exact congrArg Value.bool (xm_ne_nil _).symm), H', ⟨Nat.le_refl _⟩, ⟨by (with_reducible repeat (first | apply Kd.R_alloc | apply Kd.R_drewN | apply Kd.R_drew)); exact HO339.out⟩, ⟨xb⟩⟩
  case round =>
    clear H'
    try clear p2
    obtain ⟨x5_1, x6_1, rfl, HA, HK1, HO_5, HB⟩ := hrel
    cases gk with
    | zero => exact absurd HA.out (by simp [threshingref13_turned.l0])
    | succ k1 =>
      have H := HA.out
      clear HA
      simp only [threshingref13_turned.l0] at H
      by_cases c5 : x6_1 < (a0.size : Int)
      · rw [if_pos c5] at H
        have c5b0 : decide (x6_1 < (a0.size : Int)) = true := decide_eq_true c5
        clear c5
        by_cases c6 : 0 ≤ x6_1
        · rw [if_pos c6] at H
          have c6b0 : decide (0 ≤ x6_1) = true := decide_eq_true c6
          clear c6
          by_cases c8 : (bt a0 x6_1) ≥ a1
          · rw [if_pos c8] at H
            have c8b0 : decide (a1 ≤ (bt a0 x6_1)) = true := decide_eq_true c8
            clear c8
            by_cases c9 : (bt a0 x6_1) < ((a1 + 26) % 256)
            · rw [if_pos c9] at H
              have c9b0 : decide ((bt a0 x6_1) < ((a1 + 26) % 256)) = true := decide_eq_true c9
              clear c9
              by_cases c10 : x5_1.length < 140737488355328
              · rw [if_pos c10] at H
                have LMc10 := Aside0.mk c10
                clear c10
                obtain ⟨y340, hy340⟩ : ∃ y_ : List Int, y_ = (x5_1 ++ [Go.bits .xor .u8 (bt a0 x6_1) 32]) := ⟨_, rfl⟩
                replace H : (threshingref13_turned.l0 k1 a0 a1 y340 (wrap64 (x6_1 + 1))) = some r := by first | (rw [hy340]; with_reducible exact H) | (have H2_ := (Option.bind_some _ _).symm.trans H; rw [hy340]; with_reducible exact H2_) | (have H2_ := (Option.bind_some _ _).symm.trans H; with_reducible exact H2_) | with_reducible exact H | (rw [hy340]; exact H) | exact H
                have Ny340 := Aside0.mk hy340
                clear hy340
                have H' := Aside0.mk H
                clear H
                have p7 : 0 ≤ (x6_1 : Int) := of_decide_eq_true (by first | (with_reducible assumption) | assumption)
                have q7 : x6_1 < (a0.size : Int) := of_decide_eq_true (by first | (with_reducible assumption) | assumption)
                have hx7 := bt_at a0 x6_1
                replace p7 := eq_true p7
                replace q7 := eq_true q7
                go_wp2_with (first | ((with_reducible refine gate_builtin (b := .append) (xs := #[.tmp 29, .tmp 31]) rfl ?_); at_builtin; refine Kd.R_append (Kd.int .u8) (w0 := w) w.heap.size rfl (.tmp 29) (.tmp 31) 94 5 (.int .u8 0) 1 rfl Tryz.underlying94 info5 rfl (by decide) (by omega) u5 x5_1 (Go.bits .xor .u8 (bt a0 x6_1) 32) [.int .u8 (Go.bits .xor .u8 (bt a0 x6_1) 32)] (fun _ => True) (fun _ => False) rfl rfl ?aP (fun _ hk => hk.elim) ?aF ?aO ?aB ?aS ?aL ?_; (case aP => exact rfl); (case aB => exact xb); (case aF => exact (fun _ _ => trivial)); (case aO => exact (by (with_reducible repeat (first | apply Kd.R_alloc | apply Kd.R_drewN | apply Kd.R_drew)); exact HO_5.out)); (case aS => exact (below_size xb)); (case aL => have := LMc10.out; omega); intro v341 w11 ho hb hg hat; rw [← Ny340.out] at ho; have n0_ := Aside0.mk (hb); have n1_ := Aside0.mk (ho); clear HB; clear HO_5; have HB := n0_; have HO342 := n1_; clear n0_ n1_; clear ho hb hg hat))
                go_roundg k1
                case measure => have := HK1.out; omega
                case rel => exact ⟨(y340), (wrap64 (x6_1 + 1)), (by first | rfl | (simp; done) | (simp [*]; done) | exact congrArg Value.bool (xm_ne_nil _) | exact congrArg Value.bool (xm_ne_nil _).symm), H', ⟨by have := HK1.out; omega⟩, ⟨by (with_reducible repeat (first | apply Kd.R_alloc | apply Kd.R_drewN | apply Kd.R_drew)); exact HO342.out⟩, ⟨xb⟩⟩
              · rw [if_neg c10] at H
                exact absurd H (by simp)
            · rw [if_neg c9] at H
              have c9b0 : decide ((bt a0 x6_1) < ((a1 + 26) % 256)) = false := decide_eq_false c9
              clear c9
              by_cases c12 : x5_1.length < 140737488355328
              · rw [if_pos c12] at H
                have LMc12 := Aside0.mk c12
                clear c12
                obtain ⟨y343, hy343⟩ : ∃ y_ : List Int, y_ = (x5_1 ++ [bt a0 x6_1]) := ⟨_, rfl⟩
                replace H : (threshingref13_turned.l0 k1 a0 a1 y343 (wrap64 (x6_1 + 1))) = some r := by first | (rw [hy343]; with_reducible exact H) | (have H2_ := (Option.bind_some _ _).symm.trans H; rw [hy343]; with_reducible exact H2_) | (have H2_ := (Option.bind_some _ _).symm.trans H; with_reducible exact H2_) | with_reducible exact H | (rw [hy343]; exact H) | exact H
                have Ny343 := Aside0.mk hy343
                clear hy343
                have H' := Aside0.mk H
                clear H
                have p7 : 0 ≤ (x6_1 : Int) := of_decide_eq_true (by first | (with_reducible assumption) | assumption)
                have q7 : x6_1 < (a0.size : Int) := of_decide_eq_true (by first | (with_reducible assumption) | assumption)
                have hx7 := bt_at a0 x6_1
                replace p7 := eq_true p7
                replace q7 := eq_true q7
                go_wp2_with (first | ((with_reducible refine gate_builtin (b := .append) (xs := #[.tmp 29, .tmp 31]) rfl ?_); at_builtin; refine Kd.R_append (Kd.int .u8) (w0 := w) w.heap.size rfl (.tmp 29) (.tmp 31) 94 5 (.int .u8 0) 1 rfl Tryz.underlying94 info5 rfl (by decide) (by omega) u5 x5_1 (bt a0 x6_1) [.int .u8 (bt a0 x6_1)] (fun _ => True) (fun _ => False) rfl rfl ?aP (fun _ hk => hk.elim) ?aF ?aO ?aB ?aS ?aL ?_; (case aP => exact rfl); (case aB => exact xb); (case aF => exact (fun _ _ => trivial)); (case aO => exact (by (with_reducible repeat (first | apply Kd.R_alloc | apply Kd.R_drewN | apply Kd.R_drew)); exact HO_5.out)); (case aS => exact (below_size xb)); (case aL => have := LMc12.out; omega); intro v344 w13 ho hb hg hat; rw [← Ny343.out] at ho; have n0_ := Aside0.mk (hb); have n1_ := Aside0.mk (ho); clear HB; clear HO_5; have HB := n0_; have HO345 := n1_; clear n0_ n1_; clear ho hb hg hat))
                go_roundg k1
                case measure => have := HK1.out; omega
                case rel => exact ⟨(y343), (wrap64 (x6_1 + 1)), (by first | rfl | (simp; done) | (simp [*]; done) | exact congrArg Value.bool (xm_ne_nil _) | exact congrArg Value.bool (xm_ne_nil _).symm), H', ⟨by have := HK1.out; omega⟩, ⟨by (with_reducible repeat (first | apply Kd.R_alloc | apply Kd.R_drewN | apply Kd.R_drew)); exact HO345.out⟩, ⟨xb⟩⟩
              · rw [if_neg c12] at H
                exact absurd H (by simp)
          · rw [if_neg c8] at H
            have c8b0 : decide (a1 ≤ (bt a0 x6_1)) = false := decide_eq_false c8
            clear c8
            by_cases c14 : x5_1.length < 140737488355328
            · rw [if_pos c14] at H
              have LMc14 := Aside0.mk c14
              clear c14
              obtain ⟨y346, hy346⟩ : ∃ y_ : List Int, y_ = (x5_1 ++ [bt a0 x6_1]) := ⟨_, rfl⟩
              replace H : (threshingref13_turned.l0 k1 a0 a1 y346 (wrap64 (x6_1 + 1))) = some r := by first | (rw [hy346]; with_reducible exact H) | (have H2_ := (Option.bind_some _ _).symm.trans H; rw [hy346]; with_reducible exact H2_) | (have H2_ := (Option.bind_some _ _).symm.trans H; with_reducible exact H2_) | with_reducible exact H | (rw [hy346]; exact H) | exact H
              have Ny346 := Aside0.mk hy346
              clear hy346
              have H' := Aside0.mk H
              clear H
              have p7 : 0 ≤ (x6_1 : Int) := of_decide_eq_true (by first | (with_reducible assumption) | assumption)
              have q7 : x6_1 < (a0.size : Int) := of_decide_eq_true (by first | (with_reducible assumption) | assumption)
              have hx7 := bt_at a0 x6_1
              replace p7 := eq_true p7
              replace q7 := eq_true q7
              go_wp2_with (first | ((with_reducible refine gate_builtin (b := .append) (xs := #[.tmp 29, .tmp 31]) rfl ?_); at_builtin; refine Kd.R_append (Kd.int .u8) (w0 := w) w.heap.size rfl (.tmp 29) (.tmp 31) 94 5 (.int .u8 0) 1 rfl Tryz.underlying94 info5 rfl (by decide) (by omega) u5 x5_1 (bt a0 x6_1) [.int .u8 (bt a0 x6_1)] (fun _ => True) (fun _ => False) rfl rfl ?aP (fun _ hk => hk.elim) ?aF ?aO ?aB ?aS ?aL ?_; (case aP => exact rfl); (case aB => exact xb); (case aF => exact (fun _ _ => trivial)); (case aO => exact (by (with_reducible repeat (first | apply Kd.R_alloc | apply Kd.R_drewN | apply Kd.R_drew)); exact HO_5.out)); (case aS => exact (below_size xb)); (case aL => have := LMc14.out; omega); intro v347 w15 ho hb hg hat; rw [← Ny346.out] at ho; have n0_ := Aside0.mk (hb); have n1_ := Aside0.mk (ho); clear HB; clear HO_5; have HB := n0_; have HO348 := n1_; clear n0_ n1_; clear ho hb hg hat))
              go_roundg k1
              case measure => have := HK1.out; omega
              case rel => exact ⟨(y346), (wrap64 (x6_1 + 1)), (by first | rfl | (simp; done) | (simp [*]; done) | exact congrArg Value.bool (xm_ne_nil _) | exact congrArg Value.bool (xm_ne_nil _).symm), H', ⟨by have := HK1.out; omega⟩, ⟨by (with_reducible repeat (first | apply Kd.R_alloc | apply Kd.R_drewN | apply Kd.R_drew)); exact HO348.out⟩, ⟨xb⟩⟩
            · rw [if_neg c14] at H
              exact absurd H (by simp)
        · rw [if_neg c6] at H
          exact absurd H (by simp)
      · rw [if_neg c5] at H
        have c5b0 : decide (x6_1 < (a0.size : Int)) = false := decide_eq_false c5
        clear c5
        obtain rfl := Option.some.inj H
        have hcv16 := own_string (P := Tryz.prog) Tryz.underlying94 Tryz.underlying5 Tryz.underlying9 (Kd.own_of_R HO_5.out)
        have hcv17 := fun (nq_ : Nat) => own_string (P := Tryz.prog) Tryz.underlying94 Tryz.underlying5 Tryz.underlying9 (Kd.own_of_R (Kd.R_drewN HO_5.out nq_))
        go_wp2
        go_ret
        exact ⟨by first | rfl | (simp [errW_none, errW_some] <;> rfl) | (simp [*, errW_none, errW_some] <;> rfl), xb⟩

end Go.Proofs.YtpgddpkljbgjpaaGreatDoor.PX
