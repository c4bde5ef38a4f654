/- Words beside the print's own: a map with whole numbers as keys, filled entry by entry and looked up; a call of a function value. -/
import Derived.Test.YtebofnoljebakaaGreatDoorWWords
import Derived.Test.YtebofnoljebakaaGreatDoorWLast
import Derived.MapKept
set_option linter.unusedVariables false
set_option linter.unusedSimpArgs false
namespace Go.Proofs.YtebofnoljebakaaGreatDoorW.PrintMore
open Go.RowKit Go.Proofs.YtebofnoljebakaaGreatDoorW.PrintWords Go.Proofs.YtebofnoljebakaaGreatDoorW.PrintLast
section
variable {P : Program} {ops : Array Oper} {rest : List Oper} {o : Oper} {a : Act} {Q : Exit → Act → World → Prop}
theorem xm_findNow_none {n : Int} : ∀ {l : List (Int × Value)} {i : Nat} {born : Nat → Nat}, (∀ x ∈ l, x.1 ≠ n) → ∀ {es : List MapEntry}, es.map (fun e => (e.key, e.val)) = l.map (fun x => (Value.int .i64 x.1, x.2)) → Instr.findNow (.int .i64) (.int .i64 n) es i = some none
 | [], i, _, _, es, he => by
  have : es = [] := by simpa using he
  subst this
  rfl
 | x :: l, i, born, h, es, he => by
  match es, he with
  | e :: es, he =>
   simp only [List.map_cons, List.cons.injEq, Prod.mk.injEq] at he
   obtain ⟨⟨hk, _⟩, he⟩ := he
   have hne : (n == x.1) = false := by
    have := h x List.mem_cons_self
    simp only [beq_eq_false_iff_ne, ne_eq]
    exact fun e => this e.symm
   simp only [Instr.findNow, hk, Instr.sameNow, if_true, hne]
   exact xm_findNow_none (born := born) (fun y hy => h y (List.mem_cons_of_mem _ hy)) he
theorem xm_findNow_some {n : Int} {v : Value} : ∀ {l : List (Int × Value)} {i : Nat}, l.find? (fun x => x.1 == n) = some (n, v) → ∀ {es : List MapEntry}, es.map (fun e => (e.key, e.val)) = l.map (fun x => (Value.int .i64 x.1, x.2)) → ∃ j, Instr.findNow (.int .i64) (.int .i64 n) es i = some (some (j, v))
 | [], i, h, es, he => by simp at h
 | x :: l, i, h, es, he => by
  match es, he with
  | e :: es, he =>
   simp only [List.map_cons, List.cons.injEq, Prod.mk.injEq] at he
   obtain ⟨⟨hk, hv⟩, he⟩ := he
   rw [List.find?_cons] at h
   simp only [Instr.findNow, hk, Instr.sameNow, if_true]
   by_cases hx : x.1 = n
   ·have h1 : (x.1 == n) = true := by simp [hx]
    have h2 : (n == x.1) = true := by simp [hx]
    rw [h1] at h
    have : x = (n, v) := by simpa using h
    rw [h2]
    exact ⟨i, by rw [hv, this]⟩
   ·have h1 : (x.1 == n) = false := by simp [hx]
    have h2 : (n == x.1) = false := by simp only [beq_eq_false_iff_ne, ne_eq]; exact fun e => hx e.symm
    rw [h1] at h
    rw [h2]
    exact xm_findNow_some h he
def MapAt (w : World) (b : Nat) (l : List (Int × Value)) : Prop := ∃ es c, w.heap[b]? = some (.map es c) ∧ es.toList.map (fun e => (e.key, e.val)) = l.map (fun x => (Value.int .i64 x.1, x.2))
theorem MapAt.keep {w w1 : World} {b : Nat} {l : List (Int × Value)} (h : MapAt w b l) (hb : w1.heap[b]? = w.heap[b]?) : MapAt w1 b l := by
 obtain ⟨es, c, h1, h2⟩ := h
 exact ⟨es, c, hb.trans h1, h2⟩
theorem MapAt.lt {w : World} {b : Nat} {l : List (Int × Value)} (h : MapAt w b l) : b < w.heap.size := by
 obtain ⟨es, c, h1, _⟩ := h
 exact (Array.getElem?_eq_some_iff.1 h1).1
theorem MapAt.below {w w1 : World} {b : Nat} {l : List (Int × Value)} (h : MapAt w b l) (hb : Below w.heap.size w w1) : MapAt w1 b l := h.keep (hb.block b h.lt)
structure ButMap (w w1 : World) (b : Nat) : Prop where
 os : w1.os = w.os
 tape : w1.tape = w.tape
 output : w1.output = w.output
 size : w1.heap.size = w.heap.size
 block : ∀ i, i ≠ b → w1.heap[i]? = w.heap[i]?
theorem ButMap.below {w0 w w1 : World} {b B : Nat} (h : ButMap w w1 b) (k : Below B w0 w) (hb : B ≤ b) : Below B w0 w1 :=
 ⟨h.os.trans k.os, h.tape.trans k.tape, h.output.trans k.output, by rw [h.size]; exact k.size, fun i hi => (h.block i (by omega)).trans (k.block i hi)⟩
theorem lookup_some {W : World} {b : Nat} {l : List (Int × Value)} {t kt et : TypeId} (ht : P.underlying t = some (.map kt et)) (hk : P.underlying kt = some (.int .i64)) (HM : MapAt W b l) {n : Int} {v : Value} (hf : l.find? (fun x => x.1 == n) = some (n, v)) (ok : Bool) :
  (Instr.lookup t (.map (some b)) (.int .i64 n) ok).run P W = .ok (if ok then .tuple #[v, .bool true] else v) W := by
 obtain ⟨es, c, h1, h2⟩ := HM
 obtain ⟨j, hj⟩ := xm_findNow_some (i := 0) hf h2
 have hfk : (Instr.findKey kt (.int .i64 n) es.toList).run P W = .ok (some (j, v)) W := by
  unfold Instr.findKey
  simp only [Sem.run_bind, run_underlying hk, Result.andThen_ok, hj, Sem.run_pure]
 have hck : (Instr.checkKey es.isEmpty 10000 kt (.int .i64 n)).run P W = .ok () W := by
  rw [show (10000 : Nat) = 9999 + 1 from rfl]
  unfold Instr.checkKey
  simp only [Sem.run_bind, run_underlying hk, Result.andThen_ok, Sem.run_pure]
 unfold Instr.lookup
 simp only [Sem.run_bind, run_underlying ht, Result.andThen_ok, MapKept.run_getObj_map h1, hck, hfk, Sem.run_pure]
theorem lookup_none {W : World} {b : Nat} {l : List (Int × Value)} {t kt et : TypeId} {z : Value} (ht : P.underlying t = some (.map kt et)) (hk : P.underlying kt = some (.int .i64)) (hz : (zeroValue et).run P W = .ok z W) (HM : MapAt W b l) {n : Int} (hf : ∀ y ∈ l, y.1 ≠ n) (ok : Bool) :
  (Instr.lookup t (.map (some b)) (.int .i64 n) ok).run P W = .ok (if ok then .tuple #[z, .bool false] else z) W := by
 obtain ⟨es, c, h1, h2⟩ := HM
 have hfk : (Instr.findKey kt (.int .i64 n) es.toList).run P W = .ok none W := by
  unfold Instr.findKey
  simp only [Sem.run_bind, run_underlying hk, Result.andThen_ok, xm_findNow_none (born := fun i => i) hf h2, Sem.run_pure]
 have hck : (Instr.checkKey es.isEmpty 10000 kt (.int .i64 n)).run P W = .ok () W := by
  rw [show (10000 : Nat) = 9999 + 1 from rfl]
  unfold Instr.checkKey
  simp only [Sem.run_bind, run_underlying hk, Result.andThen_ok, Sem.run_pure]
 unfold Instr.lookup
 simp only [Sem.run_bind, run_underlying ht, Result.andThen_ok, MapKept.run_getObj_map h1, hck, hfk, hz, Sem.run_pure]
end
end Go.Proofs.YtebofnoljebakaaGreatDoorW.PrintMore
