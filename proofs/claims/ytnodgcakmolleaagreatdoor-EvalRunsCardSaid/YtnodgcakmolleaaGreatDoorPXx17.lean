/- Walked functions, by this session's program over the kit's print. -/
import Derived.Test.YtnodgcakmolleaaGreatDoorPXx0
import Derived.Test.YtnodgcakmolleaaGreatDoorPXx15
namespace Go.Proofs.YtnodgcakmolleaaGreatDoor.PX
open Go.RowKit Go.Proofs.YtnodgcakmolleaaGreatDoorW.PrintWords Go.Proofs.YtnodgcakmolleaaGreatDoorW.PrintLast Go.Proofs.YtnodgcakmolleaaGreatDoorW.PrintMore
attribute [local go_sem] xm_gtr max2_int min2_int max_two min_two max_three min_three max_four min_four
set_option linter.unusedVariables false
set_option linter.unusedSimpArgs false
/- Walked functions, by this session's program over the kit's print. -/
def r13_reckoned.f (k : Nat) (a0 : Int) (a1_0 : Bool) (a1_1 : Int) (a1_2 : ByteArray) (a2_0 : Bool) (a2_1 : Int) (a2_2 : ByteArray) (a3_0 : Bool) (a3_1 : Int) (a3_2 : ByteArray) : Option (Bool × Int × ByteArray) := (r13_div.f a1_1 a2_1).bind fun d => (if a0 = 4 then (r13_Num.f (wrap64 (a1_1 + a2_1))) else (if a0 = 5 then (r13_Num.f (wrap64 (a1_1 - a2_1))) else (if a0 = 6 then (r13_Num.f (wrap64 (a1_1 * a2_1))) else (if a0 = 7 then (r13_Num.f d.1) else (if a0 = 8 then (r13_Num.f d.2) else (if a0 = 14 then ((r13_Compare.f k a1_0 a1_1 a1_2 a2_0 a2_1 a2_2).bind fun t => r13_yes.f (t == 0)) else (if a0 = 15 then ((r13_Compare.f k a1_0 a1_1 a1_2 a2_0 a2_1 a2_2).bind fun t => r13_yes.f (decide (t < 0))) else (if a0 = 16 then (r13_yes.f (a1_1 == 0)) else (if a0 = 17 then (if a1_1 = 0 then (some (a3_0, a3_1, a3_2)) else (some (a2_0, a2_1, a2_2))) else none)))))))))
theorem r13_reckoned.mono : ∀ a0 a1 a2 a3 a4 a5 a6 a7 a8 a9 k, LeO (r13_reckoned.f k a0 a1 a2 a3 a4 a5 a6 a7 a8 a9) (r13_reckoned.f (k + 1) a0 a1 a2 a3 a4 a5 a6 a7 a8 a9) := by
 intro a0 a1 a2 a3 a4 a5 a6 a7 a8 a9 k r h
 unfold r13_reckoned.f at h ⊢
 obtain ⟨d, hd, h⟩ := Option.bind_eq_some_iff.1 h
 refine Option.bind_eq_some_iff.2 ⟨d, hd, ?_⟩
 by_cases c14 : a0 = 14
 ·subst c14
  obtain ⟨t, ht, h⟩ := Option.bind_eq_some_iff.1 h
  exact Option.bind_eq_some_iff.2 ⟨t, r13_Compare.mono _ _ _ _ _ _ k _ ht, h⟩
 by_cases c15 : a0 = 15
 ·subst c15
  obtain ⟨t, ht, h⟩ := Option.bind_eq_some_iff.1 h
  exact Option.bind_eq_some_iff.2 ⟨t, r13_Compare.mono _ _ _ _ _ _ k _ ht, h⟩
 simp only [if_neg c14, if_neg c15] at h ⊢
 exact h
structure r13_reckoned.Box (w W : World) (a b c : S32) (r : Array Value) : Prop where
 ba : W.heap[w.heap.size]? = some (.cells #[.bool a.f0, .int .i64 a.f1, .string a.f2] 32 (0, 0))
 bb : W.heap[w.heap.size + 1]? = some (.cells #[.bool b.f0, .int .i64 b.f1, .string b.f2] 32 (0, 0))
 bc : W.heap[w.heap.size + 1 + 1]? = some (.cells #[.bool c.f0, .int .i64 c.f1, .string c.f2] 32 (0, 0))
 br : W.heap[w.heap.size + 1 + 1 + 1]? = some (.cells r 32 (0, 0))
 below : Below w.heap.size w W
theorem r13_reckoned.Box.then_ {w W W' : World} {a b c : S32} {r : Array Value} (h : r13_reckoned.Box w W a b c r) (hb : Below W.heap.size W W') : r13_reckoned.Box w W' a b c r :=
 ⟨(hb.block _ (blk_lt h.ba)).trans h.ba, (hb.block _ (blk_lt h.bb)).trans h.bb, (hb.block _ (blk_lt h.bc)).trans h.bc, (hb.block _ (blk_lt h.br)).trans h.br, below_then h.below h.below.size hb⟩
theorem r13_reckoned.Box.start (w : World) (a b c : S32) (r : Array Value) : r13_reckoned.Box w ((((w.alloc (.cells #[.bool a.f0, .int .i64 a.f1, .string a.f2] 32)).alloc (.cells #[.bool b.f0, .int .i64 b.f1, .string b.f2] 32)).alloc (.cells #[.bool c.f0, .int .i64 c.f1, .string c.f2] 32)).alloc (.cells r 32)) a b c r := by
 generalize h0 : w.alloc (.cells #[.bool a.f0, .int .i64 a.f1, .string a.f2] 32) = w1
 have e1 : w1.heap.size = w.heap.size + 1 := by rw [← h0]; simp
 have k1 : w1.heap[w.heap.size]? = some (.cells #[.bool a.f0, .int .i64 a.f1, .string a.f2] 32 (0, 0)) := by rw [← h0]; exact heap_alloc_new w _
 have b1 : Below w.heap.size w w1 := by rw [← h0]; exact below_alloc (Below.refl _ _) _
 clear h0
 generalize h0 : w1.alloc (.cells #[.bool b.f0, .int .i64 b.f1, .string b.f2] 32) = w2
 have e2 : w2.heap.size = w.heap.size + 1 + 1 := by rw [← h0, ← e1]; simp
 have k2 : w2.heap[w.heap.size + 1]? = some (.cells #[.bool b.f0, .int .i64 b.f1, .string b.f2] 32 (0, 0)) := by rw [← h0, ← e1]; exact heap_alloc_new w1 _
 have b2 : Below w1.heap.size w1 w2 := by rw [← h0]; exact below_alloc (Below.refl _ _) _
 clear h0
 generalize h0 : w2.alloc (.cells #[.bool c.f0, .int .i64 c.f1, .string c.f2] 32) = w3
 have e3 : w3.heap.size = w.heap.size + 1 + 1 + 1 := by rw [← h0, ← e2]; simp
 have k3 : w3.heap[w.heap.size + 1 + 1]? = some (.cells #[.bool c.f0, .int .i64 c.f1, .string c.f2] 32 (0, 0)) := by rw [← h0, ← e2]; exact heap_alloc_new w2 _
 have b3 : Below w2.heap.size w2 w3 := by rw [← h0]; exact below_alloc (Below.refl _ _) _
 clear h0
 have k4 := heap_alloc_new w3 (.cells r 32)
 rw [e3] at k4
 have b4 : Below w3.heap.size w3 (w3.alloc (.cells r 32)) := below_alloc (Below.refl _ _) _
 have f3 : ∀ g, g < w3.heap.size → (w3.alloc (.cells r 32)).heap[g]? = w3.heap[g]? := fun g hg => b4.block g hg
 have f2 : ∀ g, g < w2.heap.size → (w3.alloc (.cells r 32)).heap[g]? = w2.heap[g]? := fun g hg => (f3 g (by omega)).trans (b3.block g hg)
 have f1 : ∀ g, g < w1.heap.size → (w3.alloc (.cells r 32)).heap[g]? = w1.heap[g]? := fun g hg => (f2 g (by omega)).trans (b2.block g hg)
 exact ⟨(f1 _ (by omega)).trans k1, (f2 _ (by omega)).trans k2, (f3 _ (by omega)).trans k3, k4, below_then (below_then (below_then b1 b1.size b2) (by omega) b3) (by omega) b4⟩
set_option maxHeartbeats 8000000 in
set_option maxRecDepth 100000 in
theorem r13_reckoned.calls (k : Nat) (a0 : Int) (a1_0 : Bool) (a1_1 : Int) (a1_2 : ByteArray) (a2_0 : Bool) (a2_1 : Int) (a2_2 : ByteArray) (a3_0 : Bool) (a3_1 : Int) (a3_2 : ByteArray) (r1 : Bool) (r2 : Int) (r3 : ByteArray) (w : World) (hT : Tabs w) (h : r13_reckoned.f k a0 a1_0 a1_1 a1_2 a2_0 a2_1 a2_2 a3_0 a3_1 a3_2 = some (r1, r2, r3)) :
  Calls Tryz.prog 51 #[.int .i64 a0, .agg #[.bool a1_0, .int .i64 a1_1, .string a1_2], .agg #[.bool a2_0, .int .i64 a2_1, .string a2_2], .agg #[.bool a3_0, .int .i64 a3_1, .string a3_2]] w fun e w' => e = .returned (.agg #[.bool r1, .int .i64 r2, .string r3]) ∧ Below w.heap.size w w' := by
 have hu1 := Tryz.underlying32
 have HS := fun w => r13_reckoned.Box.start w ⟨a1_0, a1_1, a1_2⟩ ⟨a2_0, a2_1, a2_2⟩ ⟨a3_0, a3_1, a3_2⟩ #[.bool false, .int .i64 0, .string (⟨#[]⟩ : ByteArray)]
 unfold r13_reckoned.f at h
 obtain ⟨⟨q1, q2⟩, hd, h⟩ := Option.bind_eq_some_iff.1 h
 have Hd := Lib.hid hd
 clear hd
 by_cases c4 : a0 = 4
 ·subst c4
  replace h : r13_Num.f (wrap64 (a1_1 + a2_1)) = some (r1, r2, r3) := h
  have Hh := Lib.hid h
  clear h
  go_enter Tryz.func51, Tryz.ntmps51
  go_wp2_with (first | (go_at_call 59; refine (r13_div.calls _ _ q1 q2 _ (hT.below (HS w).below) Hd.out).mono ?_; rintro e W1 ⟨rfl, n1, rfl⟩; have HX0 := (HS w).then_ (pw_below_drewN (Below.refl _ _) n1); generalize hW1 : World.drewN _ n1 = W1 at HX0; have HX := HX0; clear hW1; have pa0 := (blk_cell HX.ba 0).trans rfl; have pa1 := (blk_cell HX.ba 1).trans rfl; have pa2 := (blk_cell HX.ba 2).trans rfl; have pb0 := (blk_cell HX.bb 0).trans rfl; have pb1 := (blk_cell HX.bb 1).trans rfl; have pb2 := (blk_cell HX.bb 2).trans rfl; have pc0 := (blk_cell HX.bc 0).trans rfl; have pc1 := (blk_cell HX.bc 1).trans rfl; have pc2 := (blk_cell HX.bc 2).trans rfl; have pr0 := (blk_cell HX.br 0).trans rfl; have pr1 := (blk_cell HX.br 1).trans rfl; have pr2 := (blk_cell HX.br 2).trans rfl; have fr0 := blk_frozen HX.br 0; have fr1 := blk_frozen HX.br 1; have fr2 := blk_frozen HX.br 2; clear HX) | (go_at_call 31; refine (r13_Num.calls _ _ _ _ _ (hT.below HX0.below) Hh.out).mono ?_; rintro e W2 ⟨rfl, hb2⟩; have HX2 := HX0.then_ hb2; clear pa0 pa1 pa2 pb0 pb1 pb2 pc0 pc1 pc2 pr0 pr1 pr2 fr0 fr1 fr2; have HX := HX2; have pa0 := (blk_cell HX.ba 0).trans rfl; have pa1 := (blk_cell HX.ba 1).trans rfl; have pa2 := (blk_cell HX.ba 2).trans rfl; have pb0 := (blk_cell HX.bb 0).trans rfl; have pb1 := (blk_cell HX.bb 1).trans rfl; have pb2 := (blk_cell HX.bb 2).trans rfl; have pc0 := (blk_cell HX.bc 0).trans rfl; have pc1 := (blk_cell HX.bc 1).trans rfl; have pc2 := (blk_cell HX.bc 2).trans rfl; have pr0 := (blk_cell HX.br 0).trans rfl; have pr1 := (blk_cell HX.br 1).trans rfl; have pr2 := (blk_cell HX.br 2).trans rfl; have fr0 := blk_frozen HX.br 0; have fr1 := blk_frozen HX.br 1; have fr2 := blk_frozen HX.br 2; clear HX))
  refine bodyPost_ret (results_cell_row rfl _ _ (w.heap.size + 1 + 1 + 1) 32 #[.bool r1, .int .i64 r2, .string r3] (0, 0) _ rfl (blk_set (blk_set (blk_set HX2.br 0 _) 1 _) 2 _) hu1 rfl (by kernel_rfl)) rfl ?_
  exact ⟨rfl, below_set (below_set (below_set HX2.below (by show w.heap.size ≤ w.heap.size + 1 + 1 + 1; omega)) (by show w.heap.size ≤ w.heap.size + 1 + 1 + 1; omega)) (by show w.heap.size ≤ w.heap.size + 1 + 1 + 1; omega)⟩
 by_cases c5 : a0 = 5
 ·subst c5
  replace h : r13_Num.f (wrap64 (a1_1 - a2_1)) = some (r1, r2, r3) := h
  have Hh := Lib.hid h
  clear h
  go_enter Tryz.func51, Tryz.ntmps51
  go_wp2_with (first | (go_at_call 59; refine (r13_div.calls _ _ q1 q2 _ (hT.below (HS w).below) Hd.out).mono ?_; rintro e W1 ⟨rfl, n1, rfl⟩; have HX0 := (HS w).then_ (pw_below_drewN (Below.refl _ _) n1); generalize hW1 : World.drewN _ n1 = W1 at HX0; have HX := HX0; clear hW1; have pa0 := (blk_cell HX.ba 0).trans rfl; have pa1 := (blk_cell HX.ba 1).trans rfl; have pa2 := (blk_cell HX.ba 2).trans rfl; have pb0 := (blk_cell HX.bb 0).trans rfl; have pb1 := (blk_cell HX.bb 1).trans rfl; have pb2 := (blk_cell HX.bb 2).trans rfl; have pc0 := (blk_cell HX.bc 0).trans rfl; have pc1 := (blk_cell HX.bc 1).trans rfl; have pc2 := (blk_cell HX.bc 2).trans rfl; have pr0 := (blk_cell HX.br 0).trans rfl; have pr1 := (blk_cell HX.br 1).trans rfl; have pr2 := (blk_cell HX.br 2).trans rfl; have fr0 := blk_frozen HX.br 0; have fr1 := blk_frozen HX.br 1; have fr2 := blk_frozen HX.br 2; clear HX) | (go_at_call 31; refine (r13_Num.calls _ _ _ _ _ (hT.below HX0.below) Hh.out).mono ?_; rintro e W2 ⟨rfl, hb2⟩; have HX2 := HX0.then_ hb2; clear pa0 pa1 pa2 pb0 pb1 pb2 pc0 pc1 pc2 pr0 pr1 pr2 fr0 fr1 fr2; have HX := HX2; have pa0 := (blk_cell HX.ba 0).trans rfl; have pa1 := (blk_cell HX.ba 1).trans rfl; have pa2 := (blk_cell HX.ba 2).trans rfl; have pb0 := (blk_cell HX.bb 0).trans rfl; have pb1 := (blk_cell HX.bb 1).trans rfl; have pb2 := (blk_cell HX.bb 2).trans rfl; have pc0 := (blk_cell HX.bc 0).trans rfl; have pc1 := (blk_cell HX.bc 1).trans rfl; have pc2 := (blk_cell HX.bc 2).trans rfl; have pr0 := (blk_cell HX.br 0).trans rfl; have pr1 := (blk_cell HX.br 1).trans rfl; have pr2 := (blk_cell HX.br 2).trans rfl; have fr0 := blk_frozen HX.br 0; have fr1 := blk_frozen HX.br 1; have fr2 := blk_frozen HX.br 2; clear HX))
  refine bodyPost_ret (results_cell_row rfl _ _ (w.heap.size + 1 + 1 + 1) 32 #[.bool r1, .int .i64 r2, .string r3] (0, 0) _ rfl (blk_set (blk_set (blk_set HX2.br 0 _) 1 _) 2 _) hu1 rfl (by kernel_rfl)) rfl ?_
  exact ⟨rfl, below_set (below_set (below_set HX2.below (by show w.heap.size ≤ w.heap.size + 1 + 1 + 1; omega)) (by show w.heap.size ≤ w.heap.size + 1 + 1 + 1; omega)) (by show w.heap.size ≤ w.heap.size + 1 + 1 + 1; omega)⟩
 by_cases c6 : a0 = 6
 ·subst c6
  replace h : r13_Num.f (wrap64 (a1_1 * a2_1)) = some (r1, r2, r3) := h
  have Hh := Lib.hid h
  clear h
  go_enter Tryz.func51, Tryz.ntmps51
  go_wp2_with (first | (go_at_call 59; refine (r13_div.calls _ _ q1 q2 _ (hT.below (HS w).below) Hd.out).mono ?_; rintro e W1 ⟨rfl, n1, rfl⟩; have HX0 := (HS w).then_ (pw_below_drewN (Below.refl _ _) n1); generalize hW1 : World.drewN _ n1 = W1 at HX0; have HX := HX0; clear hW1; have pa0 := (blk_cell HX.ba 0).trans rfl; have pa1 := (blk_cell HX.ba 1).trans rfl; have pa2 := (blk_cell HX.ba 2).trans rfl; have pb0 := (blk_cell HX.bb 0).trans rfl; have pb1 := (blk_cell HX.bb 1).trans rfl; have pb2 := (blk_cell HX.bb 2).trans rfl; have pc0 := (blk_cell HX.bc 0).trans rfl; have pc1 := (blk_cell HX.bc 1).trans rfl; have pc2 := (blk_cell HX.bc 2).trans rfl; have pr0 := (blk_cell HX.br 0).trans rfl; have pr1 := (blk_cell HX.br 1).trans rfl; have pr2 := (blk_cell HX.br 2).trans rfl; have fr0 := blk_frozen HX.br 0; have fr1 := blk_frozen HX.br 1; have fr2 := blk_frozen HX.br 2; clear HX) | (go_at_call 31; refine (r13_Num.calls _ _ _ _ _ (hT.below HX0.below) Hh.out).mono ?_; rintro e W2 ⟨rfl, hb2⟩; have HX2 := HX0.then_ hb2; clear pa0 pa1 pa2 pb0 pb1 pb2 pc0 pc1 pc2 pr0 pr1 pr2 fr0 fr1 fr2; have HX := HX2; have pa0 := (blk_cell HX.ba 0).trans rfl; have pa1 := (blk_cell HX.ba 1).trans rfl; have pa2 := (blk_cell HX.ba 2).trans rfl; have pb0 := (blk_cell HX.bb 0).trans rfl; have pb1 := (blk_cell HX.bb 1).trans rfl; have pb2 := (blk_cell HX.bb 2).trans rfl; have pc0 := (blk_cell HX.bc 0).trans rfl; have pc1 := (blk_cell HX.bc 1).trans rfl; have pc2 := (blk_cell HX.bc 2).trans rfl; have pr0 := (blk_cell HX.br 0).trans rfl; have pr1 := (blk_cell HX.br 1).trans rfl; have pr2 := (blk_cell HX.br 2).trans rfl; have fr0 := blk_frozen HX.br 0; have fr1 := blk_frozen HX.br 1; have fr2 := blk_frozen HX.br 2; clear HX))
  refine bodyPost_ret (results_cell_row rfl _ _ (w.heap.size + 1 + 1 + 1) 32 #[.bool r1, .int .i64 r2, .string r3] (0, 0) _ rfl (blk_set (blk_set (blk_set HX2.br 0 _) 1 _) 2 _) hu1 rfl (by kernel_rfl)) rfl ?_
  exact ⟨rfl, below_set (below_set (below_set HX2.below (by show w.heap.size ≤ w.heap.size + 1 + 1 + 1; omega)) (by show w.heap.size ≤ w.heap.size + 1 + 1 + 1; omega)) (by show w.heap.size ≤ w.heap.size + 1 + 1 + 1; omega)⟩
 by_cases c7 : a0 = 7
 ·subst c7
  replace h : r13_Num.f q1 = some (r1, r2, r3) := h
  have Hh := Lib.hid h
  clear h
  go_enter Tryz.func51, Tryz.ntmps51
  go_wp2_with (first | (go_at_call 59; refine (r13_div.calls _ _ q1 q2 _ (hT.below (HS w).below) Hd.out).mono ?_; rintro e W1 ⟨rfl, n1, rfl⟩; have HX0 := (HS w).then_ (pw_below_drewN (Below.refl _ _) n1); generalize hW1 : World.drewN _ n1 = W1 at HX0; have HX := HX0; clear hW1; have pa0 := (blk_cell HX.ba 0).trans rfl; have pa1 := (blk_cell HX.ba 1).trans rfl; have pa2 := (blk_cell HX.ba 2).trans rfl; have pb0 := (blk_cell HX.bb 0).trans rfl; have pb1 := (blk_cell HX.bb 1).trans rfl; have pb2 := (blk_cell HX.bb 2).trans rfl; have pc0 := (blk_cell HX.bc 0).trans rfl; have pc1 := (blk_cell HX.bc 1).trans rfl; have pc2 := (blk_cell HX.bc 2).trans rfl; have pr0 := (blk_cell HX.br 0).trans rfl; have pr1 := (blk_cell HX.br 1).trans rfl; have pr2 := (blk_cell HX.br 2).trans rfl; have fr0 := blk_frozen HX.br 0; have fr1 := blk_frozen HX.br 1; have fr2 := blk_frozen HX.br 2; clear HX) | (go_at_call 31; refine (r13_Num.calls _ _ _ _ _ (hT.below HX0.below) Hh.out).mono ?_; rintro e W2 ⟨rfl, hb2⟩; have HX2 := HX0.then_ hb2; clear pa0 pa1 pa2 pb0 pb1 pb2 pc0 pc1 pc2 pr0 pr1 pr2 fr0 fr1 fr2; have HX := HX2; have pa0 := (blk_cell HX.ba 0).trans rfl; have pa1 := (blk_cell HX.ba 1).trans rfl; have pa2 := (blk_cell HX.ba 2).trans rfl; have pb0 := (blk_cell HX.bb 0).trans rfl; have pb1 := (blk_cell HX.bb 1).trans rfl; have pb2 := (blk_cell HX.bb 2).trans rfl; have pc0 := (blk_cell HX.bc 0).trans rfl; have pc1 := (blk_cell HX.bc 1).trans rfl; have pc2 := (blk_cell HX.bc 2).trans rfl; have pr0 := (blk_cell HX.br 0).trans rfl; have pr1 := (blk_cell HX.br 1).trans rfl; have pr2 := (blk_cell HX.br 2).trans rfl; have fr0 := blk_frozen HX.br 0; have fr1 := blk_frozen HX.br 1; have fr2 := blk_frozen HX.br 2; clear HX))
  refine bodyPost_ret (results_cell_row rfl _ _ (w.heap.size + 1 + 1 + 1) 32 #[.bool r1, .int .i64 r2, .string r3] (0, 0) _ rfl (blk_set (blk_set (blk_set HX2.br 0 _) 1 _) 2 _) hu1 rfl (by kernel_rfl)) rfl ?_
  exact ⟨rfl, below_set (below_set (below_set HX2.below (by show w.heap.size ≤ w.heap.size + 1 + 1 + 1; omega)) (by show w.heap.size ≤ w.heap.size + 1 + 1 + 1; omega)) (by show w.heap.size ≤ w.heap.size + 1 + 1 + 1; omega)⟩
 by_cases c8 : a0 = 8
 ·subst c8
  replace h : r13_Num.f q2 = some (r1, r2, r3) := h
  have Hh := Lib.hid h
  clear h
  go_enter Tryz.func51, Tryz.ntmps51
  go_wp2_with (first | (go_at_call 59; refine (r13_div.calls _ _ q1 q2 _ (hT.below (HS w).below) Hd.out).mono ?_; rintro e W1 ⟨rfl, n1, rfl⟩; have HX0 := (HS w).then_ (pw_below_drewN (Below.refl _ _) n1); generalize hW1 : World.drewN _ n1 = W1 at HX0; have HX := HX0; clear hW1; have pa0 := (blk_cell HX.ba 0).trans rfl; have pa1 := (blk_cell HX.ba 1).trans rfl; have pa2 := (blk_cell HX.ba 2).trans rfl; have pb0 := (blk_cell HX.bb 0).trans rfl; have pb1 := (blk_cell HX.bb 1).trans rfl; have pb2 := (blk_cell HX.bb 2).trans rfl; have pc0 := (blk_cell HX.bc 0).trans rfl; have pc1 := (blk_cell HX.bc 1).trans rfl; have pc2 := (blk_cell HX.bc 2).trans rfl; have pr0 := (blk_cell HX.br 0).trans rfl; have pr1 := (blk_cell HX.br 1).trans rfl; have pr2 := (blk_cell HX.br 2).trans rfl; have fr0 := blk_frozen HX.br 0; have fr1 := blk_frozen HX.br 1; have fr2 := blk_frozen HX.br 2; clear HX) | (go_at_call 31; refine (r13_Num.calls _ _ _ _ _ (hT.below HX0.below) Hh.out).mono ?_; rintro e W2 ⟨rfl, hb2⟩; have HX2 := HX0.then_ hb2; clear pa0 pa1 pa2 pb0 pb1 pb2 pc0 pc1 pc2 pr0 pr1 pr2 fr0 fr1 fr2; have HX := HX2; have pa0 := (blk_cell HX.ba 0).trans rfl; have pa1 := (blk_cell HX.ba 1).trans rfl; have pa2 := (blk_cell HX.ba 2).trans rfl; have pb0 := (blk_cell HX.bb 0).trans rfl; have pb1 := (blk_cell HX.bb 1).trans rfl; have pb2 := (blk_cell HX.bb 2).trans rfl; have pc0 := (blk_cell HX.bc 0).trans rfl; have pc1 := (blk_cell HX.bc 1).trans rfl; have pc2 := (blk_cell HX.bc 2).trans rfl; have pr0 := (blk_cell HX.br 0).trans rfl; have pr1 := (blk_cell HX.br 1).trans rfl; have pr2 := (blk_cell HX.br 2).trans rfl; have fr0 := blk_frozen HX.br 0; have fr1 := blk_frozen HX.br 1; have fr2 := blk_frozen HX.br 2; clear HX))
  refine bodyPost_ret (results_cell_row rfl _ _ (w.heap.size + 1 + 1 + 1) 32 #[.bool r1, .int .i64 r2, .string r3] (0, 0) _ rfl (blk_set (blk_set (blk_set HX2.br 0 _) 1 _) 2 _) hu1 rfl (by kernel_rfl)) rfl ?_
  exact ⟨rfl, below_set (below_set (below_set HX2.below (by show w.heap.size ≤ w.heap.size + 1 + 1 + 1; omega)) (by show w.heap.size ≤ w.heap.size + 1 + 1 + 1; omega)) (by show w.heap.size ≤ w.heap.size + 1 + 1 + 1; omega)⟩
 by_cases c14 : a0 = 14
 ·subst c14
  obtain ⟨t, ht, h⟩ := Option.bind_eq_some_iff.1 (show (r13_Compare.f k a1_0 a1_1 a1_2 a2_0 a2_1 a2_2).bind (fun t => r13_yes.f (t == 0)) = some (r1, r2, r3) from h)
  have Ht := Lib.hid ht
  have Hh := Lib.hid h
  clear h ht
  go_enter Tryz.func51, Tryz.ntmps51
  go_wp2_with (first | (go_at_call 59; refine (r13_div.calls _ _ q1 q2 _ (hT.below (HS w).below) Hd.out).mono ?_; rintro e W1 ⟨rfl, n1, rfl⟩; have HX0 := (HS w).then_ (pw_below_drewN (Below.refl _ _) n1); generalize hW1 : World.drewN _ n1 = W1 at HX0; have HX := HX0; clear hW1; have pa0 := (blk_cell HX.ba 0).trans rfl; have pa1 := (blk_cell HX.ba 1).trans rfl; have pa2 := (blk_cell HX.ba 2).trans rfl; have pb0 := (blk_cell HX.bb 0).trans rfl; have pb1 := (blk_cell HX.bb 1).trans rfl; have pb2 := (blk_cell HX.bb 2).trans rfl; have pc0 := (blk_cell HX.bc 0).trans rfl; have pc1 := (blk_cell HX.bc 1).trans rfl; have pc2 := (blk_cell HX.bc 2).trans rfl; have pr0 := (blk_cell HX.br 0).trans rfl; have pr1 := (blk_cell HX.br 1).trans rfl; have pr2 := (blk_cell HX.br 2).trans rfl; have fr0 := blk_frozen HX.br 0; have fr1 := blk_frozen HX.br 1; have fr2 := blk_frozen HX.br 2; clear HX) | (go_at_call 61; refine (r13_Compare.calls k _ _ _ _ _ _ t _ (hT.below HX0.below) Ht.out).mono ?_; rintro e W3 ⟨rfl, hb3⟩; have HX1 := HX0.then_ hb3; clear pa0 pa1 pa2 pb0 pb1 pb2 pc0 pc1 pc2 pr0 pr1 pr2 fr0 fr1 fr2; have HX := HX1; have pa0 := (blk_cell HX.ba 0).trans rfl; have pa1 := (blk_cell HX.ba 1).trans rfl; have pa2 := (blk_cell HX.ba 2).trans rfl; have pb0 := (blk_cell HX.bb 0).trans rfl; have pb1 := (blk_cell HX.bb 1).trans rfl; have pb2 := (blk_cell HX.bb 2).trans rfl; have pc0 := (blk_cell HX.bc 0).trans rfl; have pc1 := (blk_cell HX.bc 1).trans rfl; have pc2 := (blk_cell HX.bc 2).trans rfl; have pr0 := (blk_cell HX.br 0).trans rfl; have pr1 := (blk_cell HX.br 1).trans rfl; have pr2 := (blk_cell HX.br 2).trans rfl; have fr0 := blk_frozen HX.br 0; have fr1 := blk_frozen HX.br 1; have fr2 := blk_frozen HX.br 2; clear HX) | (go_at_call 60; refine (r13_yes.calls _ _ _ _ _ (hT.below HX1.below) Hh.out).mono ?_; rintro e W2 ⟨rfl, hb2⟩; have HX2 := HX1.then_ hb2; clear pa0 pa1 pa2 pb0 pb1 pb2 pc0 pc1 pc2 pr0 pr1 pr2 fr0 fr1 fr2; have HX := HX2; have pa0 := (blk_cell HX.ba 0).trans rfl; have pa1 := (blk_cell HX.ba 1).trans rfl; have pa2 := (blk_cell HX.ba 2).trans rfl; have pb0 := (blk_cell HX.bb 0).trans rfl; have pb1 := (blk_cell HX.bb 1).trans rfl; have pb2 := (blk_cell HX.bb 2).trans rfl; have pc0 := (blk_cell HX.bc 0).trans rfl; have pc1 := (blk_cell HX.bc 1).trans rfl; have pc2 := (blk_cell HX.bc 2).trans rfl; have pr0 := (blk_cell HX.br 0).trans rfl; have pr1 := (blk_cell HX.br 1).trans rfl; have pr2 := (blk_cell HX.br 2).trans rfl; have fr0 := blk_frozen HX.br 0; have fr1 := blk_frozen HX.br 1; have fr2 := blk_frozen HX.br 2; clear HX))
  refine bodyPost_ret (results_cell_row rfl _ _ (w.heap.size + 1 + 1 + 1) 32 #[.bool r1, .int .i64 r2, .string r3] (0, 0) _ rfl (blk_set (blk_set (blk_set HX2.br 0 _) 1 _) 2 _) hu1 rfl (by kernel_rfl)) rfl ?_
  exact ⟨rfl, below_set (below_set (below_set HX2.below (by show w.heap.size ≤ w.heap.size + 1 + 1 + 1; omega)) (by show w.heap.size ≤ w.heap.size + 1 + 1 + 1; omega)) (by show w.heap.size ≤ w.heap.size + 1 + 1 + 1; omega)⟩
 by_cases c15 : a0 = 15
 ·subst c15
  obtain ⟨t, ht, h⟩ := Option.bind_eq_some_iff.1 (show (r13_Compare.f k a1_0 a1_1 a1_2 a2_0 a2_1 a2_2).bind (fun t => r13_yes.f (decide (t < 0))) = some (r1, r2, r3) from h)
  have Ht := Lib.hid ht
  have Hh := Lib.hid h
  clear h ht
  go_enter Tryz.func51, Tryz.ntmps51
  go_wp2_with (first | (go_at_call 59; refine (r13_div.calls _ _ q1 q2 _ (hT.below (HS w).below) Hd.out).mono ?_; rintro e W1 ⟨rfl, n1, rfl⟩; have HX0 := (HS w).then_ (pw_below_drewN (Below.refl _ _) n1); generalize hW1 : World.drewN _ n1 = W1 at HX0; have HX := HX0; clear hW1; have pa0 := (blk_cell HX.ba 0).trans rfl; have pa1 := (blk_cell HX.ba 1).trans rfl; have pa2 := (blk_cell HX.ba 2).trans rfl; have pb0 := (blk_cell HX.bb 0).trans rfl; have pb1 := (blk_cell HX.bb 1).trans rfl; have pb2 := (blk_cell HX.bb 2).trans rfl; have pc0 := (blk_cell HX.bc 0).trans rfl; have pc1 := (blk_cell HX.bc 1).trans rfl; have pc2 := (blk_cell HX.bc 2).trans rfl; have pr0 := (blk_cell HX.br 0).trans rfl; have pr1 := (blk_cell HX.br 1).trans rfl; have pr2 := (blk_cell HX.br 2).trans rfl; have fr0 := blk_frozen HX.br 0; have fr1 := blk_frozen HX.br 1; have fr2 := blk_frozen HX.br 2; clear HX) | (go_at_call 61; refine (r13_Compare.calls k _ _ _ _ _ _ t _ (hT.below HX0.below) Ht.out).mono ?_; rintro e W3 ⟨rfl, hb3⟩; have HX1 := HX0.then_ hb3; clear pa0 pa1 pa2 pb0 pb1 pb2 pc0 pc1 pc2 pr0 pr1 pr2 fr0 fr1 fr2; have HX := HX1; have pa0 := (blk_cell HX.ba 0).trans rfl; have pa1 := (blk_cell HX.ba 1).trans rfl; have pa2 := (blk_cell HX.ba 2).trans rfl; have pb0 := (blk_cell HX.bb 0).trans rfl; have pb1 := (blk_cell HX.bb 1).trans rfl; have pb2 := (blk_cell HX.bb 2).trans rfl; have pc0 := (blk_cell HX.bc 0).trans rfl; have pc1 := (blk_cell HX.bc 1).trans rfl; have pc2 := (blk_cell HX.bc 2).trans rfl; have pr0 := (blk_cell HX.br 0).trans rfl; have pr1 := (blk_cell HX.br 1).trans rfl; have pr2 := (blk_cell HX.br 2).trans rfl; have fr0 := blk_frozen HX.br 0; have fr1 := blk_frozen HX.br 1; have fr2 := blk_frozen HX.br 2; clear HX) | (go_at_call 60; refine (r13_yes.calls _ _ _ _ _ (hT.below HX1.below) Hh.out).mono ?_; rintro e W2 ⟨rfl, hb2⟩; have HX2 := HX1.then_ hb2; clear pa0 pa1 pa2 pb0 pb1 pb2 pc0 pc1 pc2 pr0 pr1 pr2 fr0 fr1 fr2; have HX := HX2; have pa0 := (blk_cell HX.ba 0).trans rfl; have pa1 := (blk_cell HX.ba 1).trans rfl; have pa2 := (blk_cell HX.ba 2).trans rfl; have pb0 := (blk_cell HX.bb 0).trans rfl; have pb1 := (blk_cell HX.bb 1).trans rfl; have pb2 := (blk_cell HX.bb 2).trans rfl; have pc0 := (blk_cell HX.bc 0).trans rfl; have pc1 := (blk_cell HX.bc 1).trans rfl; have pc2 := (blk_cell HX.bc 2).trans rfl; have pr0 := (blk_cell HX.br 0).trans rfl; have pr1 := (blk_cell HX.br 1).trans rfl; have pr2 := (blk_cell HX.br 2).trans rfl; have fr0 := blk_frozen HX.br 0; have fr1 := blk_frozen HX.br 1; have fr2 := blk_frozen HX.br 2; clear HX))
  refine bodyPost_ret (results_cell_row rfl _ _ (w.heap.size + 1 + 1 + 1) 32 #[.bool r1, .int .i64 r2, .string r3] (0, 0) _ rfl (blk_set (blk_set (blk_set HX2.br 0 _) 1 _) 2 _) hu1 rfl (by kernel_rfl)) rfl ?_
  exact ⟨rfl, below_set (below_set (below_set HX2.below (by show w.heap.size ≤ w.heap.size + 1 + 1 + 1; omega)) (by show w.heap.size ≤ w.heap.size + 1 + 1 + 1; omega)) (by show w.heap.size ≤ w.heap.size + 1 + 1 + 1; omega)⟩
 by_cases c16 : a0 = 16
 ·subst c16
  replace h : r13_yes.f (a1_1 == 0) = some (r1, r2, r3) := h
  have Hh := Lib.hid h
  clear h
  go_enter Tryz.func51, Tryz.ntmps51
  go_wp2_with (first | (go_at_call 59; refine (r13_div.calls _ _ q1 q2 _ (hT.below (HS w).below) Hd.out).mono ?_; rintro e W1 ⟨rfl, n1, rfl⟩; have HX0 := (HS w).then_ (pw_below_drewN (Below.refl _ _) n1); generalize hW1 : World.drewN _ n1 = W1 at HX0; have HX := HX0; clear hW1; have pa0 := (blk_cell HX.ba 0).trans rfl; have pa1 := (blk_cell HX.ba 1).trans rfl; have pa2 := (blk_cell HX.ba 2).trans rfl; have pb0 := (blk_cell HX.bb 0).trans rfl; have pb1 := (blk_cell HX.bb 1).trans rfl; have pb2 := (blk_cell HX.bb 2).trans rfl; have pc0 := (blk_cell HX.bc 0).trans rfl; have pc1 := (blk_cell HX.bc 1).trans rfl; have pc2 := (blk_cell HX.bc 2).trans rfl; have pr0 := (blk_cell HX.br 0).trans rfl; have pr1 := (blk_cell HX.br 1).trans rfl; have pr2 := (blk_cell HX.br 2).trans rfl; have fr0 := blk_frozen HX.br 0; have fr1 := blk_frozen HX.br 1; have fr2 := blk_frozen HX.br 2; clear HX) | (go_at_call 60; refine (r13_yes.calls _ _ _ _ _ (hT.below HX0.below) Hh.out).mono ?_; rintro e W2 ⟨rfl, hb2⟩; have HX2 := HX0.then_ hb2; clear pa0 pa1 pa2 pb0 pb1 pb2 pc0 pc1 pc2 pr0 pr1 pr2 fr0 fr1 fr2; have HX := HX2; have pa0 := (blk_cell HX.ba 0).trans rfl; have pa1 := (blk_cell HX.ba 1).trans rfl; have pa2 := (blk_cell HX.ba 2).trans rfl; have pb0 := (blk_cell HX.bb 0).trans rfl; have pb1 := (blk_cell HX.bb 1).trans rfl; have pb2 := (blk_cell HX.bb 2).trans rfl; have pc0 := (blk_cell HX.bc 0).trans rfl; have pc1 := (blk_cell HX.bc 1).trans rfl; have pc2 := (blk_cell HX.bc 2).trans rfl; have pr0 := (blk_cell HX.br 0).trans rfl; have pr1 := (blk_cell HX.br 1).trans rfl; have pr2 := (blk_cell HX.br 2).trans rfl; have fr0 := blk_frozen HX.br 0; have fr1 := blk_frozen HX.br 1; have fr2 := blk_frozen HX.br 2; clear HX))
  refine bodyPost_ret (results_cell_row rfl _ _ (w.heap.size + 1 + 1 + 1) 32 #[.bool r1, .int .i64 r2, .string r3] (0, 0) _ rfl (blk_set (blk_set (blk_set HX2.br 0 _) 1 _) 2 _) hu1 rfl (by kernel_rfl)) rfl ?_
  exact ⟨rfl, below_set (below_set (below_set HX2.below (by show w.heap.size ≤ w.heap.size + 1 + 1 + 1; omega)) (by show w.heap.size ≤ w.heap.size + 1 + 1 + 1; omega)) (by show w.heap.size ≤ w.heap.size + 1 + 1 + 1; omega)⟩
 by_cases c17 : a0 = 17
 case neg =>
  simp only [if_neg c4, if_neg c5, if_neg c6, if_neg c7, if_neg c8, if_neg c14, if_neg c15, if_neg c16, if_neg c17] at h
  cases h
 subst c17
 replace h : (if a1_1 = 0 then (some (a3_0, a3_1, a3_2)) else (some (a2_0, a2_1, a2_2))) = some (r1, r2, r3) := h
 clear c4 c5 c6 c7 c8 c14 c15 c16
 by_cases c : a1_1 = 0
 ·rw [if_pos c] at h
  simp only [Option.some.injEq, Prod.mk.injEq] at h
  obtain ⟨rfl, rfl, rfl⟩ := h
  have cb : (a1_1 != 0) = false := by simp [c]
  clear c
  go_enter Tryz.func51, Tryz.ntmps51
  go_wp2_with ((go_at_call 59; refine (r13_div.calls _ _ q1 q2 _ (hT.below (HS w).below) Hd.out).mono ?_; rintro e W1 ⟨rfl, n1, rfl⟩; have HX0 := (HS w).then_ (pw_below_drewN (Below.refl _ _) n1); generalize hW1 : World.drewN _ n1 = W1 at HX0; have HX := HX0; clear hW1; have pa0 := (blk_cell HX.ba 0).trans rfl; have pa1 := (blk_cell HX.ba 1).trans rfl; have pa2 := (blk_cell HX.ba 2).trans rfl; have pb0 := (blk_cell HX.bb 0).trans rfl; have pb1 := (blk_cell HX.bb 1).trans rfl; have pb2 := (blk_cell HX.bb 2).trans rfl; have pc0 := (blk_cell HX.bc 0).trans rfl; have pc1 := (blk_cell HX.bc 1).trans rfl; have pc2 := (blk_cell HX.bc 2).trans rfl; have pr0 := (blk_cell HX.br 0).trans rfl; have pr1 := (blk_cell HX.br 1).trans rfl; have pr2 := (blk_cell HX.br 2).trans rfl; have fr0 := blk_frozen HX.br 0; have fr1 := blk_frozen HX.br 1; have fr2 := blk_frozen HX.br 2; clear HX))
  have HX2 := HX0
  refine bodyPost_ret (results_cell_row rfl _ _ (w.heap.size + 1 + 1 + 1) 32 #[.bool a3_0, .int .i64 a3_1, .string a3_2] (0, 0) _ rfl (blk_set (blk_set (blk_set HX2.br 0 _) 1 _) 2 _) hu1 rfl (by kernel_rfl)) rfl ?_
  exact ⟨rfl, below_set (below_set (below_set HX2.below (by show w.heap.size ≤ w.heap.size + 1 + 1 + 1; omega)) (by show w.heap.size ≤ w.heap.size + 1 + 1 + 1; omega)) (by show w.heap.size ≤ w.heap.size + 1 + 1 + 1; omega)⟩
 ·rw [if_neg c] at h
  simp only [Option.some.injEq, Prod.mk.injEq] at h
  obtain ⟨rfl, rfl, rfl⟩ := h
  have cb : (a1_1 != 0) = true := by simp [c]
  clear c
  go_enter Tryz.func51, Tryz.ntmps51
  go_wp2_with ((go_at_call 59; refine (r13_div.calls _ _ q1 q2 _ (hT.below (HS w).below) Hd.out).mono ?_; rintro e W1 ⟨rfl, n1, rfl⟩; have HX0 := (HS w).then_ (pw_below_drewN (Below.refl _ _) n1); generalize hW1 : World.drewN _ n1 = W1 at HX0; have HX := HX0; clear hW1; have pa0 := (blk_cell HX.ba 0).trans rfl; have pa1 := (blk_cell HX.ba 1).trans rfl; have pa2 := (blk_cell HX.ba 2).trans rfl; have pb0 := (blk_cell HX.bb 0).trans rfl; have pb1 := (blk_cell HX.bb 1).trans rfl; have pb2 := (blk_cell HX.bb 2).trans rfl; have pc0 := (blk_cell HX.bc 0).trans rfl; have pc1 := (blk_cell HX.bc 1).trans rfl; have pc2 := (blk_cell HX.bc 2).trans rfl; have pr0 := (blk_cell HX.br 0).trans rfl; have pr1 := (blk_cell HX.br 1).trans rfl; have pr2 := (blk_cell HX.br 2).trans rfl; have fr0 := blk_frozen HX.br 0; have fr1 := blk_frozen HX.br 1; have fr2 := blk_frozen HX.br 2; clear HX))
  have HX2 := HX0
  refine bodyPost_ret (results_cell_row rfl _ _ (w.heap.size + 1 + 1 + 1) 32 #[.bool a2_0, .int .i64 a2_1, .string a2_2] (0, 0) _ rfl (blk_set (blk_set (blk_set HX2.br 0 _) 1 _) 2 _) hu1 rfl (by kernel_rfl)) rfl ?_
  exact ⟨rfl, below_set (below_set (below_set HX2.below (by show w.heap.size ≤ w.heap.size + 1 + 1 + 1; omega)) (by show w.heap.size ≤ w.heap.size + 1 + 1 + 1; omega)) (by show w.heap.size ≤ w.heap.size + 1 + 1 + 1; omega)⟩
def r13_slice.f (a0 : ByteArray) (a1 : Int) (a2 : Int) : Option (ByteArray) := if 0 ≤ (mn (mx a1 0) (a0.size : Int)) then (if (mn (mx a1 0) (a0.size : Int)) ≤ (wrap64 ((mn (mx a1 0) (a0.size : Int)) + (mn (mx a2 0) (wrap64 ((a0.size : Int) - (mn (mx a1 0) (a0.size : Int))))))) then (if (wrap64 ((mn (mx a1 0) (a0.size : Int)) + (mn (mx a2 0) (wrap64 ((a0.size : Int) - (mn (mx a1 0) (a0.size : Int))))))) ≤ (a0.size : Int) then (some (a0.extract ((mn (mx a1 0) (a0.size : Int)) : Int).toNat ((wrap64 ((mn (mx a1 0) (a0.size : Int)) + (mn (mx a2 0) (wrap64 ((a0.size : Int) - (mn (mx a1 0) (a0.size : Int))))))) : Int).toNat)) else (none)) else (none)) else (none)
set_option maxHeartbeats 8000000 in
set_option maxRecDepth 100000 in
theorem r13_slice.calls (a0 : ByteArray) (a1 : Int) (a2 : Int) (r : ByteArray) (w : World) (hT : Tabs w) (h : r13_slice.f a0 a1 a2 = some r) :
  Calls Tryz.prog 62 #[.string a0, .int .i64 a1, .int .i64 a2] w fun e w' => e = .returned (.string r) ∧ Below w.heap.size w w' := by
 have HB := xy (Below.refl w.heap.size w)
 unfold r13_slice.f at h
 have H := h
 clear h
 obtain ⟨ji4, hji4⟩ : ∃ j_ : Int, (mx a1 0) = j_ := ⟨_, rfl⟩
 replace H : (if 0 ≤ (mn (ji4) (a0.size : Int)) then (if (mn (ji4) (a0.size : Int)) ≤ (wrap64 ((mn (ji4) (a0.size : Int)) + (mn (mx a2 0) (wrap64 ((a0.size : Int) - (mn (ji4) (a0.size : Int))))))) then (if (wrap64 ((mn (ji4) (a0.size : Int)) + (mn (mx a2 0) (wrap64 ((a0.size : Int) - (mn (ji4) (a0.size : Int))))))) ≤ (a0.size : Int) then (some (a0.extract ((mn (ji4) (a0.size : Int)) : Int).toNat ((wrap64 ((mn (ji4) (a0.size : Int)) + (mn (mx a2 0) (wrap64 ((a0.size : Int) - (mn (ji4) (a0.size : Int))))))) : Int).toNat)) else (none)) else (none)) else (none)) = some r := by first | (rw [hji4] at H; exact H) | (simp only [hji4] at H ⊢; exact H)
 (try (have hji4l : 0 ≤ ji4 := by (rw [← hji4]; unfold mx; (repeat' split) <;> omega)))
 (try (have hji4m : 0 ≤ ji4 := by omega))
 have hji4_ : (if a1 < 0 then 0 else a1) = ji4 := hji4
 obtain ⟨ji5, hji5⟩ : ∃ j_ : Int, (mn (ji4) (a0.size : Int)) = j_ := ⟨_, rfl⟩
 replace H : (if 0 ≤ (ji5) then (if (ji5) ≤ (wrap64 ((ji5) + (mn (mx a2 0) (wrap64 ((a0.size : Int) - (ji5)))))) then (if (wrap64 ((ji5) + (mn (mx a2 0) (wrap64 ((a0.size : Int) - (ji5)))))) ≤ (a0.size : Int) then (some (a0.extract ((ji5) : Int).toNat ((wrap64 ((ji5) + (mn (mx a2 0) (wrap64 ((a0.size : Int) - (ji5)))))) : Int).toNat)) else (none)) else (none)) else (none)) = some r := by first | (rw [hji5] at H; exact H) | (simp only [hji5] at H ⊢; exact H)
 have hji5_ : (if (a0.size : Int) < (ji4) then (a0.size : Int) else (ji4)) = ji5 := hji5
 obtain ⟨ji6, hji6⟩ : ∃ j_ : Int, (mx a2 0) = j_ := ⟨_, rfl⟩
 replace H : (if 0 ≤ (ji5) then (if (ji5) ≤ (wrap64 ((ji5) + (mn (ji6) (wrap64 ((a0.size : Int) - (ji5)))))) then (if (wrap64 ((ji5) + (mn (ji6) (wrap64 ((a0.size : Int) - (ji5)))))) ≤ (a0.size : Int) then (some (a0.extract ((ji5) : Int).toNat ((wrap64 ((ji5) + (mn (ji6) (wrap64 ((a0.size : Int) - (ji5)))))) : Int).toNat)) else (none)) else (none)) else (none)) = some r := by first | (rw [hji6] at H; exact H) | (simp only [hji6] at H ⊢; exact H)
 (try (have hji6l : 0 ≤ ji6 := by (rw [← hji6]; unfold mx; (repeat' split) <;> omega)))
 (try (have hji6m : 0 ≤ ji6 := by omega))
 have hji6_ : (if a2 < 0 then 0 else a2) = ji6 := hji6
 obtain ⟨ji7, hji7⟩ : ∃ j_ : Int, (mn (ji6) (wrap64 ((a0.size : Int) - (ji5)))) = j_ := ⟨_, rfl⟩
 replace H : (if 0 ≤ (ji5) then (if (ji5) ≤ (wrap64 ((ji5) + (ji7))) then (if (wrap64 ((ji5) + (ji7))) ≤ (a0.size : Int) then (some (a0.extract ((ji5) : Int).toNat ((wrap64 ((ji5) + (ji7))) : Int).toNat)) else (none)) else (none)) else (none)) = some r := by first | (rw [hji7] at H; exact H) | (simp only [hji7] at H ⊢; exact H)
 have hji7_ : (if (wrap64 ((a0.size : Int) - (ji5))) < (ji6) then (wrap64 ((a0.size : Int) - (ji5))) else (ji6)) = ji7 := hji7
 by_cases c8 : 0 ≤ (ji5)
 ·rw [if_pos c8] at H
  have c8b0 := eq_true c8
  have c8b1 : decide (0 ≤ (ji5)) = true := decide_eq_true c8
  clear c8
  by_cases c9 : (ji5) ≤ (wrap64 ((ji5) + (ji7)))
  ·rw [if_pos c9] at H
   have c9b0 := eq_true c9
   have c9b1 : decide ((ji5) ≤ (wrap64 ((ji5) + (ji7)))) = true := decide_eq_true c9
   by_cases c10 : (wrap64 ((ji5) + (ji7))) ≤ (a0.size : Int)
   ·rw [if_pos c10] at H
    have c10b0 := eq_true c10
    have c10b1 : decide ((wrap64 ((ji5) + (ji7))) ≤ (a0.size : Int)) = true := decide_eq_true c10
    obtain rfl := Option.some.inj H
    go_enter Tryz.func62, Tryz.ntmps62
    go_wp2
    go_ret
    exact ⟨by first | rfl | (simp [errW_none, errW_some] <;> rfl) | (simp only [← hji4, ← hji5, ← hji6, ← hji7]; first | rfl | (simp [errW_none, errW_some] <;> rfl)) | (simp [*, errW_none, errW_some] <;> rfl), xb⟩
   ·rw [if_neg c10] at H
    exact absurd H (by simp)
  ·rw [if_neg c9] at H
   exact absurd H (by simp)
 ·rw [if_neg c8] at H
  exact absurd H (by simp)
def r13_turned.l0 : Nat → ByteArray → Int → List Int → Int → Option (ByteArray)
 | 0, _, _, _, _ => none
 | k + 1, x0, x1, x5, x6 => if x6 < (x0.size : Int) then (if 0 ≤ x6 then (if (bt x0 x6) ≥ x1 then (if (bt x0 x6) < ((x1 + 26) % 256) then (if x5.length < 140737488355328 then (r13_turned.l0 k x0 x1 (x5 ++ [Go.bits .xor .u8 (bt x0 x6) 32]) (wrap64 (x6 + 1))) else (none)) else (if x5.length < 140737488355328 then (r13_turned.l0 k x0 x1 (x5 ++ [bt x0 x6]) (wrap64 (x6 + 1))) else (none))) else (if x5.length < 140737488355328 then (r13_turned.l0 k x0 x1 (x5 ++ [bt x0 x6]) (wrap64 (x6 + 1))) else (none))) else (none)) else (some (strOfNums x5))
def r13_turned.f (k : Nat) (a0 : ByteArray) (a1 : Int) : Option (ByteArray) := r13_turned.l0 k a0 a1 (([] : List Int)) 0
theorem r13_turned.mono_l : ∀ k, (∀ y0 y1 y2 y3, LeO (r13_turned.l0 k y0 y1 y2 y3) (r13_turned.l0 (k + 1) y0 y1 y2 y3))
 | 0 => fun _ _ _ _ r h => by simp [r13_turned.l0] at h
 | k + 1 => by
  have ih0 := r13_turned.mono_l k
  ·intro y0 y1 y2 y3
   unfold r13_turned.l0
   repeat' (with_reducible first | exact ih0 _ _ _ _ | exact LeO.refl _ | exact LeO.none _ | refine LeO.ite ?_ ?_ | refine LeO.bind ?_ (fun _ => ?_))
theorem r13_turned.mono : ∀ a0 a1 k, LeO (r13_turned.f k a0 a1) (r13_turned.f (k + 1) a0 a1) := by
 intro a0 a1 k
 have ih0 := r13_turned.mono_l k
 unfold r13_turned.f
 repeat' (with_reducible first | exact ih0 _ _ _ _ | exact LeO.refl _ | exact LeO.none _ | refine LeO.ite ?_ ?_ | refine LeO.bind ?_ (fun _ => ?_))
set_option maxHeartbeats 8000000 in
set_option maxRecDepth 100000 in
theorem r13_turned.calls (k : Nat) (a0 : ByteArray) (a1 : Int) (r : ByteArray) (w : World) (hT : Tabs w) (h : r13_turned.f k a0 a1 = some r) :
  Calls Tryz.prog 63 #[.string a0, .int .u8 a1] w fun e w' => e = .returned (.string r) ∧ Below w.heap.size w w' := by
 have HB := xy (Below.refl w.heap.size w)
 unfold r13_turned.f at h
 have H := h
 clear h
 obtain ⟨y387, hy387⟩ : ∃ y_ : List Int, y_ = (([] : List Int)) := ⟨_, rfl⟩
 replace H : (r13_turned.l0 k a0 a1 y387 0) = some r := by first | (rw [hy387]; with_reducible exact H) | (have H2_ := (Option.bind_some _ _).symm.trans H; rw [hy387]; with_reducible exact H2_) | (have H2_ := (Option.bind_some _ _).symm.trans H; with_reducible exact H2_) | with_reducible exact H | (rw [hy387]; exact H) | exact H
 have Ny387 := xy hy387
 clear hy387
 have H' := xy H
 clear H
 go_enter Tryz.func63, Tryz.ntmps63
 go_wp2_with (((with_reducible refine gate_dst (N := 8) rfl ?_); refine Kd.R_lit (Kd.int .u8) _ 5 ?hg (N := 8) ?hd (xs := ([] : List Int)) (inner := []) (ok := fun _ => True) (okp := fun _ => True) ?hr ?hp (fun _ hk => hk) trivial (Below.refl _ _) (Nat.le_refl _) (by simp) ?_; (case hd => rfl); (case hg => rfl); (case hr => exact xh); (case hp => exact (Reps.none _ _)); intro v388 w3 ho4 hb hg_ hnew_; clear hg_ hnew_; (first | rw [← Ny387.out] at ho4 | (simp only [Int.reduceToNat] at ho4; rw [← Ny387.out] at ho4)); have HO389 := xy (Kd.R_lower ho4 (below_size xb)); replace HB := xy (below_step xb hb); clear hb ho4))
 go_loopg [5, 6] k (fun kq v5 v6 w' => ∃ (x5_1 : List Int) (x6_1 : Int), v6 = .int .i64 x6_1 ∧ Aside0 (r13_turned.l0 kq a0 a1 x5_1 x6_1 = some r) ∧ Aside0 (kq ≤ k) ∧ Aside0 (Kd.R (Kd.int .u8) 5 w' w.heap.size (fun _ => True) v5 x5_1) ∧ Aside0 (Below w.heap.size w w'))
 case atStart => exact ⟨(y387), (0), xg, H', ⟨Nat.le_refl _⟩, ⟨by (with_reducible repeat (first | apply Kd.R_alloc | apply Kd.R_drewN | apply Kd.R_drew)); exact HO389.out⟩, ⟨xb⟩⟩
 case round =>
  clear H'
  try clear p2
  obtain ⟨x5_1, x6_1, rfl, HA, HK1, HO_5, HB⟩ := hrel
  cases gk with
  | zero => exact absurd HA.out (by simp [r13_turned.l0])
  | succ k1 =>
   have H := HA.out
   clear HA
   simp only [r13_turned.l0] at H
   by_cases c5 : x6_1 < (a0.size : Int)
   ·rw [if_pos c5] at H
    have c5b0 : decide (x6_1 < (a0.size : Int)) = true := decide_eq_true c5
    clear c5
    by_cases c6 : 0 ≤ x6_1
    ·rw [if_pos c6] at H
     have c6b0 : decide (0 ≤ x6_1) = true := decide_eq_true c6
     clear c6
     by_cases c8 : (bt a0 x6_1) ≥ a1
     ·rw [if_pos c8] at H
      have c8b0 : decide (a1 ≤ (bt a0 x6_1)) = true := decide_eq_true c8
      clear c8
      by_cases c9 : (bt a0 x6_1) < ((a1 + 26) % 256)
      ·rw [if_pos c9] at H
       have c9b0 : decide ((bt a0 x6_1) < ((a1 + 26) % 256)) = true := decide_eq_true c9
       clear c9
       by_cases c10 : x5_1.length < 140737488355328
       ·rw [if_pos c10] at H
        have LMc10 := xy c10
        clear c10
        obtain ⟨y390, hy390⟩ : ∃ y_ : List Int, y_ = (x5_1 ++ [Go.bits .xor .u8 (bt a0 x6_1) 32]) := ⟨_, rfl⟩
        replace H : (r13_turned.l0 k1 a0 a1 y390 (wrap64 (x6_1 + 1))) = some r := by first | (rw [hy390]; with_reducible exact H) | (have H2_ := (Option.bind_some _ _).symm.trans H; rw [hy390]; with_reducible exact H2_) | (have H2_ := (Option.bind_some _ _).symm.trans H; with_reducible exact H2_) | with_reducible exact H | (rw [hy390]; exact H) | exact H
        have Ny390 := xy hy390
        clear hy390
        have H' := xy H
        clear H
        have p7 : 0 ≤ (x6_1 : Int) := xi
        have q7 : x6_1 < (a0.size : Int) := xi
        have hx7 := bt_at a0 x6_1
        replace p7 := eq_true p7
        replace q7 := eq_true q7
        go_wp2_with (((with_reducible refine gate_builtin (b := .append) (xs := #[.tmp 29, .tmp 31]) rfl ?_); at_builtin; refine Kd.R_append (Kd.int .u8) (w0 := w) w.heap.size rfl (.tmp 29) (.tmp 31) 106 5 (.int .u8 0) 1 rfl Tryz.underlying106 info5 rfl (by decide) (by omega) u5 x5_1 (Go.bits .xor .u8 (bt a0 x6_1) 32) [.int .u8 (Go.bits .xor .u8 (bt a0 x6_1) 32)] (fun _ => True) (fun _ => False) rfl rfl ?aP (fun _ hk => hk.elim) ?aF ?aO ?aB ?aS ?aL ?_; (case aP => exact rfl); (case aB => exact xb); (case aF => exact (fun _ _ => trivial)); (case aO => exact (xo HO_5.out)); (case aS => exact (below_size xb)); (case aL => have := LMc10.out; omega); intro v391 w11 ho hb hg hat; rw [← Ny390.out] at ho; replace HB := xy (hb); have HO392 := xy (ho); clear HO_5; clear ho hb hg hat))
        go_roundg k1
        case measure => have := HK1.out; omega
        case rel => exact ⟨(y390), (wrap64 (x6_1 + 1)), xg, H', ⟨by have := HK1.out; omega⟩, ⟨by (with_reducible repeat (first | apply Kd.R_alloc | apply Kd.R_drewN | apply Kd.R_drew)); exact HO392.out⟩, ⟨xb⟩⟩
       ·rw [if_neg c10] at H
        exact absurd H (by simp)
      ·rw [if_neg c9] at H
       have c9b0 : decide ((bt a0 x6_1) < ((a1 + 26) % 256)) = false := decide_eq_false c9
       clear c9
       by_cases c12 : x5_1.length < 140737488355328
       ·rw [if_pos c12] at H
        have LMc12 := xy c12
        clear c12
        obtain ⟨y393, hy393⟩ : ∃ y_ : List Int, y_ = (x5_1 ++ [bt a0 x6_1]) := ⟨_, rfl⟩
        replace H : (r13_turned.l0 k1 a0 a1 y393 (wrap64 (x6_1 + 1))) = some r := by first | (rw [hy393]; with_reducible exact H) | (have H2_ := (Option.bind_some _ _).symm.trans H; rw [hy393]; with_reducible exact H2_) | (have H2_ := (Option.bind_some _ _).symm.trans H; with_reducible exact H2_) | with_reducible exact H | (rw [hy393]; exact H) | exact H
        have Ny393 := xy hy393
        clear hy393
        have H' := xy H
        clear H
        have p7 : 0 ≤ (x6_1 : Int) := xi
        have q7 : x6_1 < (a0.size : Int) := xi
        have hx7 := bt_at a0 x6_1
        replace p7 := eq_true p7
        replace q7 := eq_true q7
        go_wp2_with (((with_reducible refine gate_builtin (b := .append) (xs := #[.tmp 29, .tmp 31]) rfl ?_); at_builtin; refine Kd.R_append (Kd.int .u8) (w0 := w) w.heap.size rfl (.tmp 29) (.tmp 31) 106 5 (.int .u8 0) 1 rfl Tryz.underlying106 info5 rfl (by decide) (by omega) u5 x5_1 (bt a0 x6_1) [.int .u8 (bt a0 x6_1)] (fun _ => True) (fun _ => False) rfl rfl ?aP (fun _ hk => hk.elim) ?aF ?aO ?aB ?aS ?aL ?_; (case aP => exact rfl); (case aB => exact xb); (case aF => exact (fun _ _ => trivial)); (case aO => exact (xo HO_5.out)); (case aS => exact (below_size xb)); (case aL => have := LMc12.out; omega); intro v394 w13 ho hb hg hat; rw [← Ny393.out] at ho; replace HB := xy (hb); have HO395 := xy (ho); clear HO_5; clear ho hb hg hat))
        go_roundg k1
        case measure => have := HK1.out; omega
        case rel => exact ⟨(y393), (wrap64 (x6_1 + 1)), xg, H', ⟨by have := HK1.out; omega⟩, ⟨by (with_reducible repeat (first | apply Kd.R_alloc | apply Kd.R_drewN | apply Kd.R_drew)); exact HO395.out⟩, ⟨xb⟩⟩
       ·rw [if_neg c12] at H
        exact absurd H (by simp)
     ·rw [if_neg c8] at H
      have c8b0 : decide (a1 ≤ (bt a0 x6_1)) = false := decide_eq_false c8
      clear c8
      by_cases c14 : x5_1.length < 140737488355328
      ·rw [if_pos c14] at H
       have LMc14 := xy c14
       clear c14
       obtain ⟨y396, hy396⟩ : ∃ y_ : List Int, y_ = (x5_1 ++ [bt a0 x6_1]) := ⟨_, rfl⟩
       replace H : (r13_turned.l0 k1 a0 a1 y396 (wrap64 (x6_1 + 1))) = some r := by first | (rw [hy396]; with_reducible exact H) | (have H2_ := (Option.bind_some _ _).symm.trans H; rw [hy396]; with_reducible exact H2_) | (have H2_ := (Option.bind_some _ _).symm.trans H; with_reducible exact H2_) | with_reducible exact H | (rw [hy396]; exact H) | exact H
       have Ny396 := xy hy396
       clear hy396
       have H' := xy H
       clear H
       have p7 : 0 ≤ (x6_1 : Int) := xi
       have q7 : x6_1 < (a0.size : Int) := xi
       have hx7 := bt_at a0 x6_1
       replace p7 := eq_true p7
       replace q7 := eq_true q7
       go_wp2_with (((with_reducible refine gate_builtin (b := .append) (xs := #[.tmp 29, .tmp 31]) rfl ?_); at_builtin; refine Kd.R_append (Kd.int .u8) (w0 := w) w.heap.size rfl (.tmp 29) (.tmp 31) 106 5 (.int .u8 0) 1 rfl Tryz.underlying106 info5 rfl (by decide) (by omega) u5 x5_1 (bt a0 x6_1) [.int .u8 (bt a0 x6_1)] (fun _ => True) (fun _ => False) rfl rfl ?aP (fun _ hk => hk.elim) ?aF ?aO ?aB ?aS ?aL ?_; (case aP => exact rfl); (case aB => exact xb); (case aF => exact (fun _ _ => trivial)); (case aO => exact (xo HO_5.out)); (case aS => exact (below_size xb)); (case aL => have := LMc14.out; omega); intro v397 w15 ho hb hg hat; rw [← Ny396.out] at ho; replace HB := xy (hb); have HO398 := xy (ho); clear HO_5; clear ho hb hg hat))
       go_roundg k1
       case measure => have := HK1.out; omega
       case rel => exact ⟨(y396), (wrap64 (x6_1 + 1)), xg, H', ⟨by have := HK1.out; omega⟩, ⟨by (with_reducible repeat (first | apply Kd.R_alloc | apply Kd.R_drewN | apply Kd.R_drew)); exact HO398.out⟩, ⟨xb⟩⟩
      ·rw [if_neg c14] at H
       exact absurd H (by simp)
    ·rw [if_neg c6] at H
     exact absurd H (by simp)
   ·rw [if_neg c5] at H
    have c5b0 : decide (x6_1 < (a0.size : Int)) = false := decide_eq_false c5
    clear c5
    obtain rfl := Option.some.inj H
    have hcv16 := own_string (P := Tryz.prog) Tryz.underlying106 Tryz.underlying5 Tryz.underlying9 (Kd.own_of_R HO_5.out)
    have hcv17 := fun (nq_ : Nat) => own_string (P := Tryz.prog) Tryz.underlying106 Tryz.underlying5 Tryz.underlying9 (Kd.own_of_R (Kd.R_drewN HO_5.out nq_))
    go_wp2
    go_ret
    exact ⟨xe, xb⟩
/- Walked functions, by this session's program over the kit's print. -/
mutual
def r13_number.j0 : Nat → ByteArray → Int → Bool → Option (Int)
 | 0, _, _, _ => none
 | k + 1, x0, x3, x13 => if x13 = true then (if 1 ≤ (x0.size : Int) then (r13_number.j1 k (x0.extract 1 x0.size) (-1)) else (none)) else (r13_number.j1 k x0 x3)
def r13_number.j1 : Nat → ByteArray → Int → Option (Int)
 | 0, _, _ => none
 | k + 1, x0, x3 => if (x0.size : Int) < 1 then (r13_number.j2 k x0 x3 true) else (r13_number.j2 k x0 x3 (decide ((x0.size : Int) > 18)))
def r13_number.j2 : Nat → ByteArray → Int → Bool → Option (Int)
 | 0, _, _, _ => none
 | k + 1, x0, x3, x23 => if x23 = true then (some 0) else (r13_number.l0 k x0 x3 0 0)
def r13_number.l0 : Nat → ByteArray → Int → Int → Int → Option (Int)
 | 0, _, _, _, _ => none
 | k + 1, x0, x3, x4, x5 => if x5 < (x0.size : Int) then (if 0 ≤ x5 then (if (bt x0 x5) < 48 then (some 0) else (if (bt x0 x5) > 57 then (some 0) else (r13_number.l0 k x0 x3 (wrap64 ((wrap64 (10 * x4)) + (((bt x0 x5) - 48) % 256))) (wrap64 (x5 + 1))))) else (none)) else (some (wrap64 (x3 * x4)))
end
def r13_number.f (k : Nat) (a0 : ByteArray) : Option (Int) := if (a0.size : Int) > 0 then (if 0 < (a0.size : Int) then (r13_number.j0 k a0 1 ((bt a0 0) == 45)) else (none)) else (r13_number.j0 k a0 1 false)
theorem r13_number.mono_l : ∀ k, (∀ y0 y1 y2, LeO (r13_number.j0 k y0 y1 y2) (r13_number.j0 (k + 1) y0 y1 y2)) ∧ (∀ y0 y1, LeO (r13_number.j1 k y0 y1) (r13_number.j1 (k + 1) y0 y1)) ∧ (∀ y0 y1 y2, LeO (r13_number.j2 k y0 y1 y2) (r13_number.j2 (k + 1) y0 y1 y2)) ∧ (∀ y0 y1 y2 y3, LeO (r13_number.l0 k y0 y1 y2 y3) (r13_number.l0 (k + 1) y0 y1 y2 y3))
 | 0 => ⟨fun _ _ _ r h => by simp [r13_number.j0] at h, fun _ _ r h => by simp [r13_number.j1] at h, fun _ _ _ r h => by simp [r13_number.j2] at h, fun _ _ _ _ r h => by simp [r13_number.l0] at h⟩
 | k + 1 => by
  obtain ⟨ih0, ih1, ih2, ih3⟩ := r13_number.mono_l k
  refine ⟨?_, ?_, ?_, ?_⟩
  ·intro y0 y1 y2
   unfold r13_number.j0
   repeat' (with_reducible first | exact ih0 _ _ _ | exact ih1 _ _ | exact ih2 _ _ _ | exact ih3 _ _ _ _ | exact LeO.refl _ | exact LeO.none _ | refine LeO.ite ?_ ?_ | refine LeO.bind ?_ (fun _ => ?_))
  ·intro y0 y1
   unfold r13_number.j1
   repeat' (with_reducible first | exact ih0 _ _ _ | exact ih1 _ _ | exact ih2 _ _ _ | exact ih3 _ _ _ _ | exact LeO.refl _ | exact LeO.none _ | refine LeO.ite ?_ ?_ | refine LeO.bind ?_ (fun _ => ?_))
  ·intro y0 y1 y2
   unfold r13_number.j2
   repeat' (with_reducible first | exact ih0 _ _ _ | exact ih1 _ _ | exact ih2 _ _ _ | exact ih3 _ _ _ _ | exact LeO.refl _ | exact LeO.none _ | refine LeO.ite ?_ ?_ | refine LeO.bind ?_ (fun _ => ?_))
  ·intro y0 y1 y2 y3
   unfold r13_number.l0
   repeat' (with_reducible first | exact ih0 _ _ _ | exact ih1 _ _ | exact ih2 _ _ _ | exact ih3 _ _ _ _ | exact LeO.refl _ | exact LeO.none _ | refine LeO.ite ?_ ?_ | refine LeO.bind ?_ (fun _ => ?_))
theorem r13_number.mono : ∀ a0 k, LeO (r13_number.f k a0) (r13_number.f (k + 1) a0) := by
 intro a0 k
 obtain ⟨ih0, ih1, ih2, ih3⟩ := r13_number.mono_l k
 unfold r13_number.f
 repeat' (with_reducible first | exact ih0 _ _ _ | exact ih1 _ _ | exact ih2 _ _ _ | exact ih3 _ _ _ _ | exact LeO.refl _ | exact LeO.none _ | refine LeO.ite ?_ ?_ | refine LeO.bind ?_ (fun _ => ?_))
set_option maxHeartbeats 8000000 in
set_option maxRecDepth 100000 in
theorem r13_number.calls (k : Nat) (a0 : ByteArray) (r : Int) (w : World) (hT : Tabs w) (h : r13_number.f k a0 = some r) :
  Calls Tryz.prog 64 #[.string a0] w fun e w' => e = .returned (.int .i64 r) ∧ Drawn0 w w' := by
 unfold r13_number.f at h
 have H := h
 clear h
 have HC2 := xy H
 clear H
 go_enter Tryz.func64, Tryz.ntmps64
 go_upto_region 2 with (fail)
 go_cut [13] (fun v13 wc => ∃ (kq : Nat) (x13_1 : Bool), v13 = .bool x13_1 ∧ Aside0 (r13_number.j0 kq a0 1 x13_1 = some r) ∧ Aside0 (kq ≤ k) ∧ Drawn0 w wc)
 case first =>
  have H := HC2.out
  clear HC2
  by_cases c3 : (a0.size : Int) > 0
  ·rw [if_pos c3] at H
   have c3b0 : decide (0 < (a0.size : Int)) = true := decide_eq_true c3
   have c3b1 : decide (0 < a0.size) = true := decide_eq_true (by omega)
   clear c3
   (first | rw [c3b0] | (simp only [i64_w, i32_w]; rw [c3b0]) | skip)
   by_cases c4 : 0 < (a0.size : Int)
   ·rw [if_pos c4] at H
    have c4b0 : decide (0 < (a0.size : Int)) = true := decide_eq_true c4
    have c4b1 : decide (0 < a0.size) = true := decide_eq_true (by omega)
    clear c4
    have H' := xy H
    clear H
    have p5 : 0 ≤ (0 : Int) := (by omega)
    have q5 : 0 < a0.size := (by have : (0 : Int) < (a0.size : Int) := xi; omega)
    have hx5 : ∀ h : 0 < a0.size, ((a0[0]'h).toNat : Int) = bt a0 0 := bt_at a0 0
    clear p5
    have qi5 : (0 < (a0.size : Int)) = True := eq_true xi
    replace q5 := eq_true q5
    go_wp2
    go_meet
    case rel => exact ⟨_, (((bt a0 0) == 45)), xg, H', ⟨by first | omega | exact Nat.le_refl _⟩, by repeat (first | exact Drawn0.refl _ | apply Drawn0.step)⟩
   ·rw [if_neg c4] at H
    exact absurd H (by simp)
  ·rw [if_neg c3] at H
   have c3b0 : decide (0 < (a0.size : Int)) = false := decide_eq_false c3
   have c3b1 : decide (0 < a0.size) = false := decide_eq_false (by omega)
   clear c3
   (first | rw [c3b0] | (simp only [i64_w, i32_w]; rw [c3b0]) | skip)
   have H' := xy H
   clear H
   go_wp2
   go_meet
   case rel => exact ⟨_, (false), xg, H', ⟨by first | omega | exact Nat.le_refl _⟩, by repeat (first | exact Drawn0.refl _ | apply Drawn0.step)⟩
 case rest =>
  clear HC2
  try clear p2
  try clear c3
  try clear c3b0
  try clear c3b1
  try clear c4
  try clear c4b0
  try clear c4b1
  try clear p5
  try clear q5
  try clear hx5
  try clear qi5
  try clear p5
  try clear q5
  obtain ⟨kq, x13_1, rfl, HA, HJ1, ⟨mc1, rfl⟩⟩ := hcut
  cases kq with
  | zero => exact absurd HA.out (by simp [r13_number.j0])
  | succ kj1 =>
   have H := HA.out
   clear HA
   simp only [r13_number.j0] at H
   have HC6 := xy H
   clear H
   go_upto_if 13 with (fail)
   go_cut [0, 3] (fun v0 v3 wc => ∃ (kq : Nat) (x0_5 : ByteArray) (x3_5 : Int), v0 = .string x0_5 ∧ v3 = .int .i64 x3_5 ∧ Aside0 (r13_number.j1 kq x0_5 x3_5 = some r) ∧ Aside0 (kq ≤ kj1) ∧ Drawn0 w wc)
   case first =>
    have H := HC6.out
    clear HC6
    by_cases c7 : x13_1 = true
    ·subst c7
     rw [if_pos rfl] at H
     by_cases c8 : 1 ≤ (a0.size : Int)
     ·rw [if_pos c8] at H
      have c8b0 := eq_true c8
      have c8b1 : decide (1 ≤ (a0.size : Int)) = true := decide_eq_true c8
      clear c8
      have H' := xy H
      clear H
      go_wp2
      go_meet
      case rel => exact ⟨_, (a0.extract 1 a0.size), ((-1)), xg, xg, H', ⟨by have := HJ1.out; first | omega | exact Nat.le_refl _⟩, by repeat (first | exact Drawn0.refl _ | apply Drawn0.step)⟩
     ·rw [if_neg c8] at H
      exact absurd H (by simp)
    ·replace c7 := Bool.eq_false_iff.mpr c7
     subst c7
     rw [if_neg (show ¬ (false = true) by decide)] at H
     have H' := xy H
     clear H
     go_wp2
     go_meet
     case rel => exact ⟨_, (a0), (1), xg, xg, H', ⟨by have := HJ1.out; first | omega | exact Nat.le_refl _⟩, by repeat (first | exact Drawn0.refl _ | apply Drawn0.step)⟩
   case rest =>
    clear HC6
    try clear c1
    try clear p2
    try clear c3
    try clear c3b0
    try clear c3b1
    try clear c4
    try clear c4b0
    try clear c4b1
    try clear p5
    try clear q5
    try clear hx5
    try clear qi5
    try clear c6
    try clear c7
    try clear c8
    try clear c8b0
    try clear c8b1
    try clear p2
    try clear p5
    try clear q5
    obtain ⟨kq, x0_5, x3_5, rfl, rfl, HA, HJ5, ⟨mc5, rfl⟩⟩ := hcut
    cases kq with
    | zero => exact absurd HA.out (by simp [r13_number.j1])
    | succ kj5 =>
     have H := HA.out
     clear HA
     simp only [r13_number.j1] at H
     have HC9 := xy H
     clear H
     go_upto_region 5 with (fail)
     go_cut [23] (fun v23 wc => ∃ (kq : Nat) (x23_8 : Bool), v23 = .bool x23_8 ∧ Aside0 (r13_number.j2 kq x0_5 x3_5 x23_8 = some r) ∧ Aside0 (kq ≤ kj5) ∧ Drawn0 w wc)
     case first =>
      have H := HC9.out
      clear HC9
      by_cases c10 : (x0_5.size : Int) < 1
      ·rw [if_pos c10] at H
       have c10b0 : decide ((x0_5.size : Int) < 1) = true := decide_eq_true c10
       have c10b1 : decide (x0_5.size < 1) = true := decide_eq_true (by omega)
       clear c10
       (first | rw [c10b0] | (simp only [i64_w, i32_w]; rw [c10b0]) | skip)
       have H' := xy H
       clear H
       go_wp2
       go_meet
       case rel => exact ⟨_, (true), xg, H', ⟨by have := HJ1.out; have := HJ5.out; first | omega | exact Nat.le_refl _⟩, by repeat (first | exact Drawn0.refl _ | apply Drawn0.step)⟩
      ·rw [if_neg c10] at H
       have c10b0 : decide ((x0_5.size : Int) < 1) = false := decide_eq_false c10
       have c10b1 : decide (x0_5.size < 1) = false := decide_eq_false (by omega)
       clear c10
       (first | rw [c10b0] | (simp only [i64_w, i32_w]; rw [c10b0]) | skip)
       have H' := xy H
       clear H
       go_wp2
       go_meet
       case rel => exact ⟨_, (decide ((x0_5.size : Int) > 18)), xg, H', ⟨by have := HJ1.out; have := HJ5.out; first | omega | exact Nat.le_refl _⟩, by repeat (first | exact Drawn0.refl _ | apply Drawn0.step)⟩
     case rest =>
      clear HC9
      try clear c1
      try clear p2
      try clear c3
      try clear c3b0
      try clear c3b1
      try clear c4
      try clear c4b0
      try clear c4b1
      try clear c5
      try clear p5
      try clear q5
      try clear hx5
      try clear qi5
      try clear c6
      try clear c7
      try clear c8
      try clear c8b0
      try clear c8b1
      try clear c10
      try clear c10b0
      try clear c10b1
      try clear p2
      try clear p5
      try clear q5
      obtain ⟨kq, x23_8, rfl, HA, HJ8, ⟨mc8, rfl⟩⟩ := hcut
      cases kq with
      | zero => exact absurd HA.out (by simp [r13_number.j2])
      | succ kj8 =>
       have H := HA.out
       clear HA
       simp only [r13_number.j2] at H
       by_cases c11 : x23_8 = true
       ·subst c11
        rw [if_pos rfl] at H
        obtain rfl := Option.some.inj H
        go_wp2
        go_ret
        exact ⟨xg, xz⟩
       ·replace c11 := Bool.eq_false_iff.mpr c11
        subst c11
        rw [if_neg (show ¬ (false = true) by decide)] at H
        have H' := xy H
        clear H
        go_wp2
        go_loopg [4, 5] kj8 (fun kq v4 v5 w' => ∃ (x4_4 : Int) (x5_4 : Int), v4 = .int .i64 x4_4 ∧ v5 = .int .i64 x5_4 ∧ Aside0 (r13_number.l0 kq x0_5 x3_5 x4_4 x5_4 = some r) ∧ Aside0 (kq ≤ kj8) ∧ Drawn0 w w')
        case atStart => exact ⟨(0), (0), xg, xg, H', ⟨Nat.le_refl _⟩, by repeat (first | exact Drawn0.refl _ | apply Drawn0.step)⟩
        case round =>
         clear H'
         try clear c1
         try clear p2
         try clear c3
         try clear c3b0
         try clear c3b1
         try clear c4
         try clear c4b0
         try clear c4b1
         try clear c5
         try clear p5
         try clear q5
         try clear hx5
         try clear qi5
         try clear c6
         try clear c7
         try clear c8
         try clear c8b0
         try clear c8b1
         try clear c10
         try clear c10b0
         try clear c10b1
         try clear c11
         try clear p2
         try clear p5
         try clear q5
         obtain ⟨x4_4, x5_4, rfl, rfl, HA, HK4, ⟨m4, rfl⟩⟩ := hrel
         cases gk with
         | zero => exact absurd HA.out (by simp [r13_number.l0])
         | succ k4 =>
          have H := HA.out
          clear HA
          simp only [r13_number.l0] at H
          by_cases c12 : x5_4 < (x0_5.size : Int)
          ·rw [if_pos c12] at H
           have c12b0 : decide (x5_4 < (x0_5.size : Int)) = true := decide_eq_true c12
           clear c12
           by_cases c13 : 0 ≤ x5_4
           ·rw [if_pos c13] at H
            have c13b0 : decide (0 ≤ x5_4) = true := decide_eq_true c13
            clear c13
            by_cases c15 : (bt x0_5 x5_4) < 48
            ·rw [if_pos c15] at H
             have c15b0 : decide ((bt x0_5 x5_4) < 48) = true := decide_eq_true c15
             clear c15
             obtain rfl := Option.some.inj H
             have p14 : 0 ≤ (x5_4 : Int) := xi
             have q14 : x5_4 < (x0_5.size : Int) := xi
             have hx14 := bt_at x0_5 x5_4
             replace p14 := eq_true p14
             replace q14 := eq_true q14
             go_wp2
             go_ret
             exact ⟨xg, xz⟩
            ·rw [if_neg c15] at H
             have c15b0 : decide ((bt x0_5 x5_4) < 48) = false := decide_eq_false c15
             clear c15
             by_cases c17 : (bt x0_5 x5_4) > 57
             ·rw [if_pos c17] at H
              have c17b0 : decide (57 < (bt x0_5 x5_4)) = true := decide_eq_true c17
              clear c17
              obtain rfl := Option.some.inj H
              have p14 : 0 ≤ (x5_4 : Int) := xi
              have q14 : x5_4 < (x0_5.size : Int) := xi
              have hx14 := bt_at x0_5 x5_4
              replace p14 := eq_true p14
              replace q14 := eq_true q14
              have p16 : 0 ≤ (x5_4 : Int) := xi
              have q16 : x5_4 < (x0_5.size : Int) := xi
              have hx16 := bt_at x0_5 x5_4
              replace p16 := eq_true p16
              replace q16 := eq_true q16
              go_wp2
              go_ret
              exact ⟨xg, xz⟩
             ·rw [if_neg c17] at H
              have c17b0 : decide (57 < (bt x0_5 x5_4)) = false := decide_eq_false c17
              clear c17
              have H' := xy H
              clear H
              have p14 : 0 ≤ (x5_4 : Int) := xi
              have q14 : x5_4 < (x0_5.size : Int) := xi
              have hx14 := bt_at x0_5 x5_4
              replace p14 := eq_true p14
              replace q14 := eq_true q14
              have p16 : 0 ≤ (x5_4 : Int) := xi
              have q16 : x5_4 < (x0_5.size : Int) := xi
              have hx16 := bt_at x0_5 x5_4
              replace p16 := eq_true p16
              replace q16 := eq_true q16
              have p18 : 0 ≤ (x5_4 : Int) := xi
              have q18 : x5_4 < (x0_5.size : Int) := xi
              have hx18 := bt_at x0_5 x5_4
              replace p18 := eq_true p18
              replace q18 := eq_true q18
              go_wp2
              go_roundg k4
              case measure => have := HJ1.out; have := HJ5.out; have := HJ8.out; have := HK4.out; omega
              case rel => exact ⟨(wrap64 ((wrap64 (10 * x4_4)) + (((bt x0_5 x5_4) - 48) % 256))), (wrap64 (x5_4 + 1)), xg, xg, H', ⟨by have := HJ1.out; have := HJ5.out; have := HJ8.out; have := HK4.out; omega⟩, by repeat (first | exact Drawn0.refl _ | apply Drawn0.step)⟩
           ·rw [if_neg c13] at H
            exact absurd H (by simp)
          ·rw [if_neg c12] at H
           have c12b0 : decide (x5_4 < (x0_5.size : Int)) = false := decide_eq_false c12
           clear c12
           obtain rfl := Option.some.inj H
           go_wp2
           go_ret
           exact ⟨xg, xz⟩
/- Walked functions, by this session's program over the kit's print. -/
def r13_figures.f : Nat → Int → Option (ByteArray)
 | 0, _ => none
 | k + 1, a0 => (some (([(IntKind.u64.wrap (48 + (Int.tmod a0 10))) % 256] : List Int) : List Int)).bind fun y399 => (if a0 < 10 then (some (strOfNums y399)) else ((r13_figures.f k (IntKind.u64.wrap (Int.tdiv a0 10))).bind fun t402 => (if t402.size + (strOfNums y399).size ≤ 9223372036854775807 then (some (t402 ++ (strOfNums y399))) else (none))))
theorem r13_figures.mono_l : ∀ k, (∀ y0, LeO (r13_figures.f k y0) (r13_figures.f (k + 1) y0))
 | 0 => fun _ r h => by simp [r13_figures.f] at h
 | k + 1 => by
  have ih0 := r13_figures.mono_l k
  ·intro y0
   unfold r13_figures.f
   repeat' (with_reducible first | exact ih0 _ | exact LeO.refl _ | exact LeO.none _ | refine LeO.ite ?_ ?_ | refine LeO.bind ?_ (fun _ => ?_))
theorem r13_figures.mono : ∀ a0 k, LeO (r13_figures.f k a0) (r13_figures.f (k + 1) a0) := by
 intro a0 k
 have ih0 := r13_figures.mono_l k
 exact ih0 a0
set_option maxHeartbeats 8000000 in
set_option maxRecDepth 100000 in
theorem r13_figures.calls (k : Nat) : ∀ (a0 : Int) (r : ByteArray) (w : World) (hT : Tabs w) (h : r13_figures.f k a0 = some r),
  Calls Tryz.prog 89 #[.int .u64 a0] w fun e w' => e = .returned (.string r) ∧ Below w.heap.size w w' := by
 induction k using Nat.strongRecOn with
 | _ k ih =>
 intro a0 r w hT h
 cases k with
 | zero => exact absurd h (by simp [r13_figures.f])
 | succ k =>
 simp only [r13_figures.f] at h
 have HB := xy (Below.refl w.heap.size w)
 have H : ((some (([(IntKind.u64.wrap (48 + (Int.tmod a0 10))) % 256] : List Int) : List Int)).bind fun y399 => (if a0 < 10 then (some (strOfNums y399)) else ((r13_figures.f k (IntKind.u64.wrap (Int.tdiv a0 10))).bind fun t402 => (if t402.size + (strOfNums y399).size ≤ 9223372036854775807 then (some (t402 ++ (strOfNums y399))) else (none))))) = some r := h
 clear h
 obtain ⟨y399, hy399⟩ : ∃ y_ : List Int, y_ = (([(IntKind.u64.wrap (48 + (Int.tmod a0 10))) % 256] : List Int)) := ⟨_, rfl⟩
 replace H : (if a0 < 10 then (some (strOfNums y399)) else ((r13_figures.f k (IntKind.u64.wrap (Int.tdiv a0 10))).bind fun t402 => (if t402.size + (strOfNums y399).size ≤ 9223372036854775807 then (some (t402 ++ (strOfNums y399))) else (none)))) = some r := by first | (rw [hy399]; with_reducible exact H) | (have H2_ := (Option.bind_some _ _).symm.trans H; rw [hy399]; with_reducible exact H2_) | (have H2_ := (Option.bind_some _ _).symm.trans H; with_reducible exact H2_) | with_reducible exact H | (rw [hy399]; exact H) | exact H
 have Ny399 := xy hy399
 clear hy399
 by_cases c2 : a0 < 10
 ·rw [if_pos c2] at H
  have c2b0 : decide (a0 < 10) = true := decide_eq_true c2
  clear c2
  obtain rfl := Option.some.inj H
  go_enter Tryz.func89, Tryz.ntmps89
  go_wp2_with (((with_reducible refine gate_dst (N := 8) rfl ?_); refine Kd.R_lit (Kd.int .u8) _ 5 ?hg (N := 8) ?hd (xs := ([(IntKind.u64.wrap (48 + (Int.tmod a0 10))) % 256] : List Int)) (inner := [.int .u8 ((IntKind.u64.wrap (48 + (Int.tmod a0 10))) % 256)]) (ok := fun _ => True) (okp := fun _ => True) ?hr ?hp (fun _ hk => hk) trivial (Below.refl _ _) (Nat.le_refl _) (by simp) ?_; (case hd => rfl); (case hg => rfl); (case hr => exact xh); (case hp => exact (Reps.one (show Kd.M (Kd.int .u8) _ _ _ ((IntKind.u64.wrap (48 + (Int.tmod a0 10))) % 256) [.int .u8 ((IntKind.u64.wrap (48 + (Int.tmod a0 10))) % 256)] from rfl) (Reps.none _ _))); intro v400 w3 ho4 hb hg_ hnew_; clear hg_ hnew_; (first | rw [← Ny399.out] at ho4 | (simp only [Int.reduceToNat] at ho4; rw [← Ny399.out] at ho4)); have HO401 := xy (Kd.R_lower ho4 (below_size xb)); replace HB := xy (below_step xb hb); clear hb ho4; have hcv5 := own_string (P := Tryz.prog) Tryz.underlying106 Tryz.underlying5 Tryz.underlying9 (Kd.own_of_R HO401.out); have hcv6 := fun (nq_ : Nat) => own_string (P := Tryz.prog) Tryz.underlying106 Tryz.underlying5 Tryz.underlying9 (Kd.own_of_R (Kd.R_drewN HO401.out nq_))))
  go_ret
  exact ⟨xe, xb⟩
 ·rw [if_neg c2] at H
  have c2b0 : decide (a0 < 10) = false := decide_eq_false c2
  clear c2
  replace H := xj H
  obtain ⟨t402, A70, H⟩ := H
  replace H : (if t402.size + (strOfNums y399).size ≤ 9223372036854775807 then (some (t402 ++ (strOfNums y399))) else (none)) = some r := H
  have A7 := xy A70
  clear A70
  by_cases c8 : t402.size + (strOfNums y399).size ≤ 9223372036854775807
  ·rw [if_pos c8] at H
   have c8b0 := eq_true c8
   have c8b1 : decide (t402.size + (strOfNums y399).size ≤ 9223372036854775807) = true := decide_eq_true c8
   try have c8b2 : (9223372036854775807 < t402.size + (strOfNums y399).size) = False := eq_false (Nat.not_lt.2 c8)
   obtain rfl := Option.some.inj H
   go_enter Tryz.func89, Tryz.ntmps89
   go_wp2_with (first | ((with_reducible refine gate_dst (N := 8) rfl ?_); refine Kd.R_lit (Kd.int .u8) _ 5 ?hg (N := 8) ?hd (xs := ([(IntKind.u64.wrap (48 + (Int.tmod a0 10))) % 256] : List Int)) (inner := [.int .u8 ((IntKind.u64.wrap (48 + (Int.tmod a0 10))) % 256)]) (ok := fun _ => True) (okp := fun _ => True) ?hr ?hp (fun _ hk => hk) trivial (Below.refl _ _) (Nat.le_refl _) (by simp) ?_; (case hd => rfl); (case hg => rfl); (case hr => exact xh); (case hp => exact (Reps.one (show Kd.M (Kd.int .u8) _ _ _ ((IntKind.u64.wrap (48 + (Int.tmod a0 10))) % 256) [.int .u8 ((IntKind.u64.wrap (48 + (Int.tmod a0 10))) % 256)] from rfl) (Reps.none _ _))); intro v400 w9 ho10 hb hg_ hnew_; clear hg_ hnew_; (first | rw [← Ny399.out] at ho10 | (simp only [Int.reduceToNat] at ho10; rw [← Ny399.out] at ho10)); have HO401 := xy (Kd.R_lower ho10 (below_size xb)); replace HB := xy (below_step xb hb); clear hb ho10; have hcv11 := own_string (P := Tryz.prog) Tryz.underlying106 Tryz.underlying5 Tryz.underlying9 (Kd.own_of_R HO401.out); have hcv12 := fun (nq_ : Nat) => own_string (P := Tryz.prog) Tryz.underlying106 Tryz.underlying5 Tryz.underlying9 (Kd.own_of_R (Kd.R_drewN HO401.out nq_))) | ((with_reducible refine gate_callee (f := 89) rfl ?_); refine goesL_ (some 15) rfl rfl Tryz.func89 (by kernel_rfl) rfl #[.int .u64 (IntKind.u64.wrap (Int.tdiv a0 10))] rfl xr ?_; (with_reducible refine (ih k (by omega) (IntKind.u64.wrap (Int.tdiv a0 10)) t402 _ (Tabs.below hT xf) A7.out).mono ?_); rintro e w13 ⟨rfl, hb⟩; refine ⟨_, rfl, ?_⟩; replace HO401 := xy (Kd.R_below (xo HO401.out) hb); replace HB := xy (below_step xb hb); (try clear hb); (try clear hb2); (try clear hk); (try clear hi)))
   go_ret
   exact ⟨xe, xb⟩
  ·rw [if_neg c8] at H
   exact absurd H (by simp)
def r13_Figures.f (k : Nat) (a0 : Int) : Option (ByteArray) := if a0 < 0 then ((r13_figures.f k (IntKind.u64.wrap (-(IntKind.u64.wrap (a0))))).bind fun t403 => (if 1 + t403.size ≤ 9223372036854775807 then (some ((⟨#[45]⟩ : ByteArray) ++ t403)) else (none))) else ((r13_figures.f k (IntKind.u64.wrap (a0))).bind fun t404 => (some t404))
theorem r13_Figures.mono : ∀ a0 k, LeO (r13_Figures.f k a0) (r13_Figures.f (k + 1) a0) := by
 intro a0 k
 unfold r13_Figures.f
 repeat' (with_reducible first | exact r13_figures.mono _ _ | exact LeO.refl _ | exact LeO.none _ | refine LeO.ite ?_ ?_ | refine LeO.bind ?_ (fun _ => ?_))
set_option maxHeartbeats 8000000 in
set_option maxRecDepth 100000 in
theorem r13_Figures.calls (k : Nat) (a0 : Int) (r : ByteArray) (w : World) (hT : Tabs w) (h : r13_Figures.f k a0 = some r) :
  Calls Tryz.prog 65 #[.int .i64 a0] w fun e w' => e = .returned (.string r) ∧ Below w.heap.size w w' := by
 have HB := xy (Below.refl w.heap.size w)
 unfold r13_Figures.f at h
 have H := h
 clear h
 by_cases c2 : a0 < 0
 ·rw [if_pos c2] at H
  have c2b0 : decide (a0 < 0) = true := decide_eq_true c2
  clear c2
  replace H := xj H
  obtain ⟨t403, A30, H⟩ := H
  replace H : (if 1 + t403.size ≤ 9223372036854775807 then (some ((⟨#[45]⟩ : ByteArray) ++ t403)) else (none)) = some r := H
  have A3 := xy A30
  clear A30
  by_cases c4 : 1 + t403.size ≤ 9223372036854775807
  ·rw [if_pos c4] at H
   have c4b0 := eq_true c4
   have c4b1 : decide (1 + t403.size ≤ 9223372036854775807) = true := decide_eq_true c4
   try have c4b2 : (9223372036854775807 < 1 + t403.size) = False := eq_false (Nat.not_lt.2 c4)
   obtain rfl := Option.some.inj H
   go_enter Tryz.func65, Tryz.ntmps65
   go_wp2_with (((with_reducible refine gate_callee (f := 89) rfl ?_); refine goesL_ (some 8) rfl rfl Tryz.func89 (by kernel_rfl) rfl #[.int .u64 (IntKind.u64.wrap (-(IntKind.u64.wrap (a0))))] rfl xr ?_; (with_reducible refine (r13_figures.calls k (IntKind.u64.wrap (-(IntKind.u64.wrap (a0)))) t403 _ (Tabs.below hT xf) A3.out).mono ?_); rintro e w5 ⟨rfl, hb⟩; refine ⟨_, rfl, ?_⟩; replace HB := xy (below_step xb hb); (try clear hb); (try clear hb2); (try clear hk); (try clear hi)))
   go_ret
   exact ⟨xe, xb⟩
  ·rw [if_neg c4] at H
   exact absurd H (by simp)
 ·rw [if_neg c2] at H
  have c2b0 : decide (a0 < 0) = false := decide_eq_false c2
  clear c2
  replace H := xj H
  obtain ⟨t404, A60, H⟩ := H
  replace H : (some t404) = some r := H
  have A6 := xy A60
  clear A60
  obtain rfl := Option.some.inj H
  go_enter Tryz.func65, Tryz.ntmps65
  go_wp2_with (((with_reducible refine gate_callee (f := 89) rfl ?_); refine goesL_ (some 12) rfl rfl Tryz.func89 (by kernel_rfl) rfl #[.int .u64 (IntKind.u64.wrap (a0))] rfl xr ?_; (with_reducible refine (r13_figures.calls k (IntKind.u64.wrap (a0)) t404 _ (Tabs.below hT xf) A6.out).mono ?_); rintro e w7 ⟨rfl, hb⟩; refine ⟨_, rfl, ?_⟩; replace HB := xy (below_step xb hb); (try clear hb); (try clear hb2); (try clear hk); (try clear hi)))
  go_ret
  exact ⟨xe, xb⟩
def r13_Hash.l0 : Nat → ByteArray → Int → Int → Option (Int)
 | 0, _, _, _ => none
 | k + 1, x0, x3, x4 => if x4 < (x0.size : Int) then (if 0 ≤ x4 then (r13_Hash.l0 k x0 (((Go.bits .xor .u32 x3 ((bt x0 x4) % 4294967296)) * 16777619) % 4294967296) (wrap64 (x4 + 1))) else (none)) else (some (wrap64 (Int.tmod x3 2147483648)))
def r13_Hash.f (k : Nat) (a0 : ByteArray) : Option (Int) := r13_Hash.l0 k a0 2166136261 0
theorem r13_Hash.mono_l : ∀ k, (∀ y0 y1 y2, LeO (r13_Hash.l0 k y0 y1 y2) (r13_Hash.l0 (k + 1) y0 y1 y2))
 | 0 => fun _ _ _ r h => by simp [r13_Hash.l0] at h
 | k + 1 => by
  have ih0 := r13_Hash.mono_l k
  ·intro y0 y1 y2
   unfold r13_Hash.l0
   repeat' (with_reducible first | exact ih0 _ _ _ | exact LeO.refl _ | exact LeO.none _ | refine LeO.ite ?_ ?_ | refine LeO.bind ?_ (fun _ => ?_))
theorem r13_Hash.mono : ∀ a0 k, LeO (r13_Hash.f k a0) (r13_Hash.f (k + 1) a0) := by
 intro a0 k
 have ih0 := r13_Hash.mono_l k
 unfold r13_Hash.f
 repeat' (with_reducible first | exact ih0 _ _ _ | exact LeO.refl _ | exact LeO.none _ | refine LeO.ite ?_ ?_ | refine LeO.bind ?_ (fun _ => ?_))
set_option maxHeartbeats 8000000 in
set_option maxRecDepth 100000 in
theorem r13_Hash.calls (k : Nat) (a0 : ByteArray) (r : Int) (w : World) (hT : Tabs w) (h : r13_Hash.f k a0 = some r) :
  Calls Tryz.prog 66 #[.string a0] w fun e w' => e = .returned (.int .i64 r) ∧ Drawn0 w w' := by
 unfold r13_Hash.f at h
 have H := h
 clear h
 have H' := xy H
 clear H
 go_enter Tryz.func66, Tryz.ntmps66
 go_wp2
 go_loopg [3, 4] k (fun kq v3 v4 w' => ∃ (x3_1 : Int) (x4_1 : Int), v3 = .int .u32 x3_1 ∧ v4 = .int .i64 x4_1 ∧ Aside0 (r13_Hash.l0 kq a0 x3_1 x4_1 = some r) ∧ Aside0 (kq ≤ k) ∧ Drawn0 w w')
 case atStart => exact ⟨(2166136261), (0), xg, xg, H', ⟨Nat.le_refl _⟩, by repeat (first | exact Drawn0.refl _ | apply Drawn0.step)⟩
 case round =>
  clear H'
  obtain ⟨x3_1, x4_1, rfl, rfl, HA, HK1, ⟨m1, rfl⟩⟩ := hrel
  cases gk with
  | zero => exact absurd HA.out (by simp [r13_Hash.l0])
  | succ k1 =>
   have H := HA.out
   clear HA
   simp only [r13_Hash.l0] at H
   by_cases c2 : x4_1 < (a0.size : Int)
   ·rw [if_pos c2] at H
    have c2b0 : decide (x4_1 < (a0.size : Int)) = true := decide_eq_true c2
    clear c2
    by_cases c3 : 0 ≤ x4_1
    ·rw [if_pos c3] at H
     have c3b0 : decide (0 ≤ x4_1) = true := decide_eq_true c3
     clear c3
     have H' := xy H
     clear H
     have p4 : 0 ≤ (x4_1 : Int) := xi
     have q4 : x4_1 < (a0.size : Int) := xi
     have hx4 := bt_at a0 x4_1
     replace p4 := eq_true p4
     replace q4 := eq_true q4
     go_wp2
     go_roundg k1
     case measure => have := HK1.out; omega
     case rel => exact ⟨(((Go.bits .xor .u32 x3_1 ((bt a0 x4_1) % 4294967296)) * 16777619) % 4294967296), (wrap64 (x4_1 + 1)), xg, xg, H', ⟨by have := HK1.out; omega⟩, by repeat (first | exact Drawn0.refl _ | apply Drawn0.step)⟩
    ·rw [if_neg c3] at H
     exact absurd H (by simp)
   ·rw [if_neg c2] at H
    have c2b0 : decide (x4_1 < (a0.size : Int)) = false := decide_eq_false c2
    clear c2
    obtain rfl := Option.some.inj H
    go_wp2
    go_ret
    exact ⟨xg, xz⟩
def r13_find.l0 : Nat → ByteArray → ByteArray → Int → Option (Int)
 | 0, _, _, _ => none
 | k + 1, x0, x1, x5 => if (wrap64 (x5 + (x1.size : Int))) ≤ (x0.size : Int) then (if 0 ≤ x5 then (if x5 ≤ (wrap64 (x5 + (x1.size : Int))) then (if (x0.extract (x5 : Int).toNat ((wrap64 (x5 + (x1.size : Int))) : Int).toNat).toList = x1.toList then (some x5) else (r13_find.l0 k x0 x1 (wrap64 (x5 + 1)))) else (none)) else (none)) else (some (-1))
def r13_find.f (k : Nat) (a0 : ByteArray) (a1 : ByteArray) : Option (Int) := r13_find.l0 k a0 a1 0
theorem r13_find.mono_l : ∀ k, (∀ y0 y1 y2, LeO (r13_find.l0 k y0 y1 y2) (r13_find.l0 (k + 1) y0 y1 y2))
 | 0 => fun _ _ _ r h => by simp [r13_find.l0] at h
 | k + 1 => by
  have ih0 := r13_find.mono_l k
  ·intro y0 y1 y2
   unfold r13_find.l0
   repeat' (with_reducible first | exact ih0 _ _ _ | exact LeO.refl _ | exact LeO.none _ | refine LeO.ite ?_ ?_ | refine LeO.bind ?_ (fun _ => ?_))
theorem r13_find.mono : ∀ a0 a1 k, LeO (r13_find.f k a0 a1) (r13_find.f (k + 1) a0 a1) := by
 intro a0 a1 k
 have ih0 := r13_find.mono_l k
 unfold r13_find.f
 repeat' (with_reducible first | exact ih0 _ _ _ | exact LeO.refl _ | exact LeO.none _ | refine LeO.ite ?_ ?_ | refine LeO.bind ?_ (fun _ => ?_))
set_option maxHeartbeats 8000000 in
set_option maxRecDepth 100000 in
theorem r13_find.calls (k : Nat) (a0 : ByteArray) (a1 : ByteArray) (r : Int) (w : World) (hT : Tabs w) (h : r13_find.f k a0 a1 = some r) :
  Calls Tryz.prog 67 #[.string a0, .string a1] w fun e w' => e = .returned (.int .i64 r) ∧ Drawn0 w w' := by
 unfold r13_find.f at h
 have H := h
 clear h
 have H' := xy H
 clear H
 go_enter Tryz.func67, Tryz.ntmps67
 go_wp2
 go_loopg [5] k (fun kq v5 w' => ∃ (x5_1 : Int), v5 = .int .i64 x5_1 ∧ Aside0 (r13_find.l0 kq a0 a1 x5_1 = some r) ∧ Aside0 (kq ≤ k) ∧ Drawn0 w w')
 case atStart => exact ⟨(0), xg, H', ⟨Nat.le_refl _⟩, by repeat (first | exact Drawn0.refl _ | apply Drawn0.step)⟩
 case round =>
  clear H'
  try clear p2
  obtain ⟨x5_1, rfl, HA, HK1, ⟨m1, rfl⟩⟩ := hrel
  cases gk with
  | zero => exact absurd HA.out (by simp [r13_find.l0])
  | succ k1 =>
   have H := HA.out
   clear HA
   simp only [r13_find.l0] at H
   by_cases c3 : (wrap64 (x5_1 + (a1.size : Int))) ≤ (a0.size : Int)
   ·rw [if_pos c3] at H
    have c3b0 : decide ((wrap64 (x5_1 + (a1.size : Int))) ≤ (a0.size : Int)) = true := decide_eq_true c3
    clear c3
    by_cases c4 : 0 ≤ x5_1
    ·rw [if_pos c4] at H
     have c4b0 := eq_true c4
     have c4b1 : decide (0 ≤ x5_1) = true := decide_eq_true c4
     clear c4
     by_cases c5 : x5_1 ≤ (wrap64 (x5_1 + (a1.size : Int)))
     ·rw [if_pos c5] at H
      have c5b0 := eq_true c5
      have c5b1 : decide (x5_1 ≤ (wrap64 (x5_1 + (a1.size : Int)))) = true := decide_eq_true c5
      have c6b0 := eq_true (xi : (wrap64 (x5_1 + (a1.size : Int))) ≤ (a0.size : Int))
      by_cases c7 : (a0.extract (x5_1 : Int).toNat ((wrap64 (x5_1 + (a1.size : Int))) : Int).toNat).toList = a1.toList
      ·rw [if_pos c7] at H
       have c7b0 : ((a0.extract (x5_1 : Int).toNat ((wrap64 (x5_1 + (a1.size : Int))) : Int).toNat).toList == a1.toList) = true := beq_iff_eq.mpr c7
       (try (have c7b0s := c7b0; simp only [ByteArray.size_extract, Nat.min_self] at c7b0s))
       have c7b1 : ((a0.extract (x5_1 : Int).toNat ((wrap64 (x5_1 + (a1.size : Int))) : Int).toNat).toList != a1.toList) = false := bne_eq_false_iff_eq.mpr c7
       (try (have c7b1s := c7b1; simp only [ByteArray.size_extract, Nat.min_self] at c7b1s))
       clear c7
       obtain rfl := Option.some.inj H
       go_wp2
       go_ret
       exact ⟨xg, xz⟩
      ·rw [if_neg c7] at H
       have c7b0 : ((a0.extract (x5_1 : Int).toNat ((wrap64 (x5_1 + (a1.size : Int))) : Int).toNat).toList == a1.toList) = false := beq_eq_false_iff_ne.mpr c7
       (try (have c7b0s := c7b0; simp only [ByteArray.size_extract, Nat.min_self] at c7b0s))
       have c7b1 : ((a0.extract (x5_1 : Int).toNat ((wrap64 (x5_1 + (a1.size : Int))) : Int).toNat).toList != a1.toList) = true := bne_iff_ne.mpr c7
       (try (have c7b1s := c7b1; simp only [ByteArray.size_extract, Nat.min_self] at c7b1s))
       have H' := xy H
       clear H
       go_wp2
       go_roundg k1
       case measure => have := HK1.out; omega
       case rel => exact ⟨(wrap64 (x5_1 + 1)), xg, H', ⟨by have := HK1.out; omega⟩, by repeat (first | exact Drawn0.refl _ | apply Drawn0.step)⟩
     ·rw [if_neg c5] at H
      exact absurd H (by simp)
    ·rw [if_neg c4] at H
     exact absurd H (by simp)
   ·rw [if_neg c3] at H
    have c3b0 : decide ((wrap64 (x5_1 + (a1.size : Int))) ≤ (a0.size : Int)) = false := decide_eq_false c3
    clear c3
    obtain rfl := Option.some.inj H
    go_wp2
    go_ret
    exact ⟨xg, xz⟩
end Go.Proofs.YtnodgcakmolleaaGreatDoor.PX
