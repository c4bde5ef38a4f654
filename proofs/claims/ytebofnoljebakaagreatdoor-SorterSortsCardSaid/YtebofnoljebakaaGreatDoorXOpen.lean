/- Generic opening of a law's arguments: from the reading of a parameter (ints, bools, strings, slices, structs, nested) to the printed kinds, with the sizes that the row's weights allow. -/
import Derived.OpenShut
import Derived.Test.YtebofnoljebakaaGreatDoorWWords
import Derived.Test.YtebofnoljebakaaGreatDoorWN
import Derived.SizedLaws
import Derived.ChangeArms
import Derived.ChangeSlices
import Derived.Carry
import Derived.WideShapes
namespace Go.Proofs.YtebofnoljebakaaGreatDoorX
open Go.Proofs.YtebofnoljebakaaGreatDoorW.PrintWords Go.WideShapes
structure Opens {α : Type} (P : Program) (t : TypeId) (d : Kd α) (Sz : α → Prop) : Prop where
 cells : P.cellsOf t = d.sz
 opens : ∀ {H : Type} {enc : TypeId × Value → H} {w : World} {fuel : Nat} {cs : List Value} {y : DataW H × List MemPlace},
  DataW.trod enc P w 0 (fun _ => true) true fuel t cs = some y → (∀ n ∈ DataW.weights P t y.1, n ≤ reachBytes) → ∃ x : α, d.K w x cs ∧ Sz x
theorem opens_int {P : Program} {t : TypeId} {k : IntKind} (ht : P.underlying t = some (.int k)) (hc : P.cellsOf t = 1) : Opens P t (Kd.int k) (fun x => (Lit.int k x).wf = true) :=
 ⟨hc, fun h _ => by
  obtain ⟨n, rfl, rfl, hw⟩ := DataW.trod_int ht h
  exact ⟨n, rfl, hw⟩⟩
theorem opens_bool {P : Program} {t : TypeId} (ht : P.underlying t = some .bool) (hc : P.cellsOf t = 1) : Opens P t Kd.bool (fun _ => True) :=
 ⟨hc, fun h _ => by
  obtain ⟨n, rfl, rfl⟩ := DataW.trod_bool ht h
  exact ⟨n, rfl, trivial⟩⟩
theorem opens_string {P : Program} {t : TypeId} (ht : P.underlying t = some .string) (hc : P.cellsOf t = 1) : Opens P t Kd.string (fun x => x.size ≤ 140737488351232) :=
 ⟨hc, fun h hs => by
  obtain ⟨s, rfl, rfl, _⟩ := DataW.trod_string ht h
  refine ⟨s, rfl, ?_⟩
  have := hs s.data.toList.length (by simp [DataW.weights])
  simpa [reachBytes] using this⟩
theorem weightsAll_mem {H : Type} {P : Program} {e : TypeId} : ∀ {l : List (DataW H)} {d : DataW H}, d ∈ l → ∀ n ∈ DataW.weights P e d, n ∈ DataW.weightsAll P e l
 | d0 :: l, d, hd, n, hn => by
  simp only [DataW.weightsAll, List.mem_append]
  rcases List.mem_cons.1 hd with rfl | hd
  ·exact .inl hn
  ·exact .inr (weightsAll_mem hd n hn)
 | [], _, hd, _, _ => by cases hd
theorem cells?_get {w : World} {a : Addr} {n : Nat} {cs : List Value} (h : w.cells? 0 a n = some cs) : cs.length = n ∧ ∀ i u, cs[i]? = some u → w.cell? (a.add i) = some u := by
 have hl := (World.cells?_some h).1
 refine ⟨by simpa using (World.cells?_some h).2.1, fun i u hu => ?_⟩
 have := (World.cells?_some h).2.2 i (by have := (List.getElem?_eq_some_iff.1 hu).1; have := (World.cells?_some h).2.1; omega)
 rw [this, hu]
theorem opens_slice {α : Type} {P : Program} {t e : TypeId} {d : Kd α} {Sz : α → Prop} {B : Nat} (ht : P.underlying t = some (.slice e)) (hc : P.cellsOf t = 1) (hB : P.bytesOf e = B) (o : Opens P e d Sz) :
  Opens P t (Kd.slice e d) (fun xs => xs.length * B ≤ 140737488351232 ∧ ∀ x ∈ xs, Sz x) :=
 ⟨hc, fun {H enc w fuel cs y} h hs => by
  rcases DataW.trod_slice ht h with ⟨rfl, rfl⟩ | ⟨a, len, cap, elems, rest, n, rfl, rfl, rfl, _, hl, hm, hlen, hel, _, _⟩
  ·exact ⟨[], ⟨none, 0, rfl, Nat.le_refl _, rfl, by simp, fun h0 => by simp at h0⟩, by simp, fun x hx => by cases hx⟩
  ·have each : ∀ i, i < len → ∃ x : α, ∃ c, c.length = d.sz ∧ d.K w x c ∧ Sz x ∧ ∀ j u, c[j]? = some u → w.cell? (a.add (i * d.sz + j)) = some u := by
    intro i hi
    have h1 := hel i hi
    have h2 : elems[i]? = some (elems[i]'(by omega)) := List.getElem?_eq_getElem (by omega)
    rw [h2, Option.bind_eq_some_iff] at h1
    obtain ⟨c, hcs, htr⟩ := h1
    obtain ⟨hcl, hcg⟩ := cells?_get hcs
    obtain ⟨x, hK, hS⟩ := o.opens htr (fun m hm' => hs m (by
     simp only [DataW.weights, ht, List.mem_cons, List.mem_append]
     exact .inr (.inl (weightsAll_mem (List.mem_map.2 ⟨_, List.getElem_mem (by omega), rfl⟩) m hm'))))
    refine ⟨x, c, by rw [hcl, o.cells], hK, hS, fun j u hu => ?_⟩
    have := hcg j u hu
    rw [o.cells] at this
    rw [← this]
    congr 1
    unfold Addr.add
    by_cases h3 : i * d.sz = 0 <;> by_cases h4 : j = 0 <;> simp [h3, h4, Nat.add_assoc]
   have hlist : ∀ m, m ≤ len → ∃ xs : List α, xs.length = m ∧ (∀ x ∈ xs, Sz x) ∧ ∀ j p, xs[j]? = some p → ∃ c, c.length = d.sz ∧ d.K w p c ∧ ∀ i u, c[i]? = some u → w.cell? (a.add (j * d.sz + i)) = some u := by
    intro m
    induction m with
    | zero => exact fun _ => ⟨[], rfl, (fun x hx => by cases hx), (fun j p hj => by simp at hj)⟩
    | succ m ih =>
     intro hm'
     obtain ⟨xs, hx1, hx2, hx3⟩ := ih (by omega)
     obtain ⟨x, c, hc1, hK, hS, hcell⟩ := each m (by omega)
     refine ⟨xs ++ [x], by simp [hx1], fun z hz => ?_, fun j p hj => ?_⟩
     ·rcases List.mem_append.1 hz with hz | hz
      ·exact hx2 z hz
      ·rw [List.mem_singleton.1 hz]; exact hS
     ·rcases Nat.lt_or_ge j xs.length with hj' | hj'
      ·rw [List.getElem?_append_left hj'] at hj
       exact hx3 j p hj
      ·have hj2 : j = m := by
        have := (List.getElem?_eq_some_iff.1 hj).1
        simp at this
        omega
       subst hj2
       have : x = p := by simpa [hx1] using hj
       subst this
       exact ⟨c, hc1, hK, hcell⟩
   obtain ⟨xs, hx1, hx2, hx3⟩ := hlist len (Nat.le_refl _)
   subst hx1
   refine ⟨xs, ⟨some a, cap, rfl, hl, rfl, by simp only [maxLen] at hm; omega, fun _ => ⟨a, rfl, hx3⟩⟩, ?_, hx2⟩
   have hz := hs _ (by simp only [DataW.weights, ht]; exact List.mem_cons_self)
   rw [hB] at hz
   simp only [List.length_map, reachBytes] at hz
   exact Nat.le_trans (Nat.mul_le_mul_right _ (by omega)) hz⟩
structure OpensFs {α : Type} (P : Program) (fs : List Field) (o : Nat) (d : Kd α) (Sz : α → Prop) : Prop where
 opens : ∀ {H : Type} {enc : TypeId × Value → H} {w : World} {fuel : Nat} {cs : List Value} {xs : List (DataW H × List MemPlace)}, cs.length = o + d.sz → xs.length = fs.length →
  (∀ (i : Nat) (f : Field), fs[i]? = some f → DataW.trod enc P w 0 (fun _ => true) true fuel f.type ((cs.drop f.offset).take (P.cellsOf f.type)) = xs[i]?) →
  (∀ n ∈ DataW.weightsEach P (fs.map (·.type)) (xs.map (·.1)), n ≤ reachBytes) → ∃ x : α, d.K w x (cs.drop o) ∧ Sz x
theorem opens_last {α : Type} {P : Program} {f : Field} {o : Nat} {d : Kd α} {Sz : α → Prop} (hf : f.offset = o) (op : Opens P f.type d Sz) : OpensFs P [f] o d Sz :=
 ⟨fun {H enc w fuel cs xs} hcs hxs h hs => by
  obtain ⟨y, rfl⟩ : ∃ y, xs = [y] := by
   match xs, hxs with
   | [y], _ => exact ⟨y, rfl⟩
  have h1 := h 0 f rfl
  rw [hf, op.cells, List.take_of_length_le (by rw [List.length_drop]; omega)] at h1
  exact op.opens h1 (fun n hn => hs n (by simp [DataW.weightsEach, hn]))⟩
theorem opens_more {α β : Type} {P : Program} {f : Field} {fs : List Field} {o o' : Nat} {a : Kd α} {b : Kd β} {Sa : α → Prop} {Sb : β → Prop} (hf : f.offset = o) (ho : o + a.sz = o') (op : Opens P f.type a Sa) (rest : OpensFs P fs o' b Sb) :
  OpensFs P (f :: fs) o (Kd.pair a b) (fun x => Sa x.1 ∧ Sb x.2) :=
 ⟨fun {H enc w fuel cs xs} hcs hxs h hs => by
  subst ho
  obtain ⟨y, ys, rfl⟩ : ∃ y ys, xs = y :: ys := by
   match xs, hxs with
   | y :: ys, _ => exact ⟨y, ys, rfl⟩
  have h1 := h 0 f rfl
  rw [hf, op.cells] at h1
  obtain ⟨x, hK, hS⟩ := op.opens h1 (fun n hn => hs n (by simp [DataW.weightsEach, hn]))
  obtain ⟨x2, hK2, hS2⟩ := rest.opens (cs := cs) (xs := ys) (by rw [hcs]; show o + (a.sz + b.sz) = _; omega) (by simpa using hxs) (fun i g hg => by simpa using h (i + 1) g (by simpa using hg)) (fun n hn => hs n (by
   simp only [List.map_cons, DataW.weightsEach, List.mem_append]
   exact .inr hn))
  refine ⟨(x, x2), ⟨_, _, ?_, hK, hK2⟩, hS, hS2⟩
  rw [← List.drop_drop, List.take_append_drop]⟩
theorem opens_struct {α β : Type} {P : Program} {t : TypeId} {fs : Array Field} {d : Kd α} {f : β → α} (g : α → β) {Sz : α → Prop} {Sb : β → Prop} (ht : P.underlying t = some (.struct fs)) (hc : P.cellsOf t = d.sz) (hg : ∀ x, f (g x) = x) (hS : ∀ x, Sz (f x) → Sb x) (op : OpensFs P fs.toList 0 d Sz) :
  Opens P t (Kd.iso d f) Sb :=
 ⟨hc, fun {H enc w fuel cs y} h hs => by
  obtain ⟨xs, n, rfl, rfl, hl, hx, hf⟩ := DataW.trod_struct ht h
  obtain ⟨x, hK, hS'⟩ := op.opens (cs := cs) (xs := xs) (by rw [hl, hc, Nat.zero_add]) (by simpa using hx) (fun i g' hg' => hf i g' (by simpa using hg')) (fun m hm => hs m (by
   simp only [DataW.weights, ht]
   exact hm))
  refine ⟨g x, ?_, hS (g x) (by rw [hg]; exact hS')⟩
  show d.K w (f (g x)) cs
  rw [hg]
  simpa using hK⟩
theorem sized_of {H : Type} {P : Program} {ts : List TypeId} {ds : List (DataW H)} (h : (DataW.weightsEach P ts ds).all (· ≤ reachBytes) = true) {j : Nat} {t : TypeId} {d : DataW H} (ht : ts[j]? = some t) (hd : ds[j]? = some d) : ∀ n ∈ DataW.weights P t d, n ≤ reachBytes :=
 fun n hn => by simpa using List.all_eq_true.1 h n (DataW.weights_mem_each ht hd n hn)
section
variable {P : Program} {w : World} {r : Reach} {base : Nat} {t : TypeId} {v : Value}
theorem shape_slice {e : TypeId} {A : Option Addr} {n c : Nat} (ht : P.underlying t = some (.slice e)) (h : Value.okWide P w r base t v) (hc : v.cells.toList = [.slice A n c]) : v = .slice A n c := by
 obtain ⟨a, l, cp, rfl⟩ := okWide_slice ht h
 simpa [Value.cells] using hc
theorem shape_struct {fs : Array Field} {cs : List Value} (ht : P.underlying t = some (.struct fs)) (h : Value.okWide P w r base t v) (hc : v.cells.toList = cs) : v = .agg cs.toArray := by
 obtain ⟨c, rfl, _⟩ := okWide_struct ht h
 subst hc
 simp [Value.cells]
end
end Go.Proofs.YtebofnoljebakaaGreatDoorX
