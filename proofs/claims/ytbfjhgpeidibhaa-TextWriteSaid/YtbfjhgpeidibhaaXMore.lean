/- Words beside the print's own: a constant's bytes, and a string's, as a row that is only read. -/
import Derived.Test.YtbfjhgpeidibhaaWWords
import Derived.Test.YtbfjhgpeidibhaaWN
import Derived.Test.YtbfjhgpeidibhaaWMore
import Derived.Lib.SlBytesConst
import Derived.Lib.ConvBytes
namespace Go.Proofs.YtbfjhgpeidibhaaW.PrintMore
open Go.RowKit Go.Proofs.YtbfjhgpeidibhaaW.PrintWords
section
variable {P : Program} {ops : Array Oper} {rest : List Oper} {o : Oper} {a : Act} {Q : Exit → Act → World → Prop}

theorem xm_V_block {w : World} {g : Nat} {e : TypeId} {C : Array Value} {fr : Nat × Nat} {n c : Nat} {xs : List Int} (hg : w.heap[g]? = some (.cells C e fr)) (hn : xs.length = n) (hc : n ≤ c) (hm : n ≤ 9223372036854775807)
    (hC : ∀ j, j < n → C[j]? = some (.int .u8 (xs.getD j 0))) (base : Nat) (ok : Nat → Prop) (hok : ok g) : Kd.V (Kd.int .u8) e w base ok (.slice (some ⟨g, 0, none⟩) n c) xs := by
  subst hn
  refine ⟨_, c, rfl, hc, fun W' hW' => ?_⟩
  have hlt : g < w.heap.size := (Array.getElem?_eq_some_iff.1 hg).1
  have h2 : W'.heap[g]? = some (.cells C e fr) := (hW' g hok hlt).trans hg
  refine Kd.C_of_reads (d := (0 : Int)) (h1 := fun _ => rfl) ⟨rfl, hm, fun _ => ⟨_, rfl, fun j hj => ?_⟩⟩
  rw [add_plain]
  simp only [World.cell?, h2]
  simpa using hC j hj

theorem bconst_event {W : World} {N : Tmp} (C : Array Value) (cs : List Int) (t e : TypeId) (hgd : o.guard = none) (_hd : o.dst = some N) (x : Operand) (ho : o.op = .convert t t x) (ht : P.underlying t = some (.slice e)) (he : P.underlying e = some (.int .u8))
    (hx : a.eval x = .slice (some ⟨W.heap.size, 0, none⟩) cs.length cs.length) (hC : C = (nums .u8 cs).toArray) (hm : cs.length ≤ 9223372036854775807)
    (h : ∀ v w2, Kd.V (Kd.int .u8) e w2 W.heap.size (fun k_ => W.heap.size ≤ k_) v cs → Below W.heap.size W w2 → wpList P ops Q rest (a.put o.dst v) w2) :
    wpList P ops Q (o :: rest) a (W.alloc (.cells C e)) := by
  refine Kd.event_run hgd ?_ (h (.slice (some ⟨W.heap.size, 0, none⟩) cs.length cs.length) (W.alloc (.cells C e (C.size, C.size + 1))) ?_ (below_alloc (Below.refl _ _) _))
  · unfold execOp
    simp only [ho, hx, Sem.run_bind, Lib.run_convert_bytes_const W t e C _ _ ht he, Result.andThen_ok, Sem.run_pure]
  · refine xm_V_block (heap_alloc_new W _) rfl (Nat.le_refl _) hm (fun j hj => ?_) _ _ (Nat.le_refl _)
    subst hC
    simp [nums, List.getElem?_eq_getElem hj, List.getD_eq_getElem?_getD]

theorem bytesof_event {W : World} {N : Tmp} (s : ByteArray) (t u e : TypeId) (hgd : o.guard = none) (_hd : o.dst = some N) (x : Operand) (ho : o.op = .convert u t x) (hu : P.underlying u = some .string) (ht : P.underlying t = some (.slice e)) (he : P.underlying e = some (.int .u8))
    (hx : a.eval x = .string s) (hm : s.size ≤ 140737488355328)
    (h : ∀ v w2, Kd.V (Kd.int .u8) e w2 W.heap.size (fun k_ => W.heap.size ≤ k_) v (bytesOf s) → Below W.heap.size W w2 → wpList P ops Q rest (a.put o.dst v) w2) :
    wpList P ops Q (o :: rest) a W := by
  refine Kd.event_run hgd ?_ (h (.slice (some ⟨W.heap.size, 0, none⟩) s.size (grownCap W s.size 0 e)) (Lib.bytesWorld W e s) ?_ (bytes_below (Below.refl _ _) (Nat.le_refl _) e s))
  · unfold execOp
    simp only [ho, hx, Sem.run_bind, print_bytes u t e hu ht he s W, Result.andThen_ok, Sem.run_pure]
  · refine xm_V_block (Lib.bytesWorld_at_new W e s) (bytesOf_length s) (grownCap_ge _ _ _ _) (by omega) (fun j hj => ?_) _ _ (Nat.le_refl _)
    have h1 := Lib.bytesWorld_cell W e s j hj
    simp only [World.cell?, Lib.bytesWorld_at_new] at h1
    have h' : j < s.data.toList.length := by rw [data_length]; exact hj
    replace h1 : (Lib.bytesCells W e s)[j]? = _ := h1
    rw [h1]
    simp [bytesOf, List.getD_eq_getElem?_getD, List.getElem?_eq_getElem h']

/-- Pseudo-calls: a constant's bytes; a string's. -/
def bconst.f (cs : List Int) : Option (List Int) := some cs
def bytesof.f (s : ByteArray) : Option (List Int) := if s.size ≤ 140737488355328 then some (bytesOf s) else none
theorem bconst_call {W : World} {N : Tmp} {xs : List Int} (C : Array Value) (cs : List Int) (hf : bconst.f cs = some xs) (t e : TypeId) (hgd : o.guard = none) (hd : o.dst = some N) (x : Operand) (ho : o.op = .convert t t x) (ht : P.underlying t = some (.slice e)) (he : P.underlying e = some (.int .u8))
    (hx : a.eval x = .slice (some ⟨W.heap.size, 0, none⟩) cs.length cs.length) (hC : C = (nums .u8 cs).toArray) (hm : cs.length ≤ 9223372036854775807)
    (h : ∀ v w2, Kd.V (Kd.int .u8) e w2 W.heap.size (fun k_ => W.heap.size ≤ k_) v xs → Below W.heap.size W w2 → wpList P ops Q rest (a.put o.dst v) w2) :
    wpList P ops Q (o :: rest) a (W.alloc (.cells C e)) := by
  obtain rfl := Option.some.inj hf
  exact bconst_event C cs t e hgd hd x ho ht he hx hC hm h
theorem bytesof_call {W : World} {N : Tmp} {xs : List Int} (s : ByteArray) (hf : bytesof.f s = some xs) (t u e : TypeId) (hgd : o.guard = none) (hd : o.dst = some N) (x : Operand) (ho : o.op = .convert u t x) (hu : P.underlying u = some .string) (ht : P.underlying t = some (.slice e)) (he : P.underlying e = some (.int .u8))
    (hx : a.eval x = .string s)
    (h : ∀ v w2, Kd.V (Kd.int .u8) e w2 W.heap.size (fun k_ => W.heap.size ≤ k_) v xs → Below W.heap.size W w2 → wpList P ops Q rest (a.put o.dst v) w2) :
    wpList P ops Q (o :: rest) a W := by
  unfold bytesof.f at hf
  split at hf
  · obtain rfl := Option.some.inj hf
    exact bytesof_event s t u e hgd hd x ho hu ht he hx (by assumption) h
  · cases hf
end
end Go.Proofs.YtbfjhgpeidibhaaW.PrintMore
