/- A buffer of the sorter: what its block holds; its methods, walked. -/
import Derived.Test.YtebofnoljebakaaGreatDoorXSC
import Derived.Deep.RegionHeld
import Derived.StillTail
import Derived.RegionTactic
import Derived.Deep.RegionHeld3
import Derived.BigQuiet
import Derived.Test.YtebofnoljebakaaGreatDoorXSD
set_option linter.unusedVariables false
set_option linter.unusedSimpArgs false
set_option linter.unusedSectionVars false
namespace Go.Proofs.YtebofnoljebakaaGreatDoor.XSort
open Go.RowKit Go.Lib Go.Sort Go.Proofs.YtebofnoljebakaaGreatDoor.Stb Go.Proofs Go.Proofs.YtebofnoljebakaaGreatDoorW.PrintWords Go.Proofs.YtebofnoljebakaaGreatDoorW.PrintLast Go.Proofs.YtebofnoljebakaaGreatDoorW.PrintMore Go.Proofs.YtebofnoljebakaaGreatDoor.PX
def bufC (J : Array Value) (m : Int) (vin : Value) (held : Int) (vr : Value) : Array Value := J ++ #[.int .i64 m, vin, .int .i64 held, vr]
section
variable {J : Array Value} {m held : Int} {vin vr : Value}
theorem bufC_14 (hJ : J.size = 14) : (bufC J m vin held vr)[14]? = some (.int .i64 m) := by unfold bufC; rw [Array.getElem?_append_right (by omega), hJ]; rfl
theorem bufC_15 (hJ : J.size = 14) : (bufC J m vin held vr)[15]? = some vin := by unfold bufC; rw [Array.getElem?_append_right (by omega), hJ]; rfl
theorem bufC_16 (hJ : J.size = 14) : (bufC J m vin held vr)[16]? = some (.int .i64 held) := by unfold bufC; rw [Array.getElem?_append_right (by omega), hJ]; rfl
theorem bufC_17 (hJ : J.size = 14) : (bufC J m vin held vr)[17]? = some vr := by unfold bufC; rw [Array.getElem?_append_right (by omega), hJ]; rfl
theorem bufC_set15 (hJ : J.size = 14) (v : Value) : (bufC J m vin held vr).setIfInBounds 15 v = bufC J m v held vr := by
  obtain ⟨l⟩ := J
  have hl : l.length = 14 := hJ
  unfold bufC
  apply Array.ext'
  simp [List.set_append_right, hl]
theorem bufC_set16 (hJ : J.size = 14) (h' : Int) : (bufC J m vin held vr).setIfInBounds 16 (.int .i64 h') = bufC J m vin h' vr := by
  obtain ⟨l⟩ := J
  have hl : l.length = 14 := hJ
  unfold bufC
  apply Array.ext'
  simp [List.set_append_right, hl]
theorem bufC_set17 (hJ : J.size = 14) (v : Value) : (bufC J m vin held vr).setIfInBounds 17 v = bufC J m vin held v := by
  obtain ⟨l⟩ := J
  have hl : l.length = 14 := hJ
  unfold bufC
  apply Array.ext'
  simp [List.set_append_right, hl]
end
theorem load_pre {W : World} {g : Nat} {J : Array Value} {m held : Int} {vin vr : Value} {t : TypeId} (hJ : J.size = 14) (h : W.heap[g]? = some (.cells (bufC J m vin held vr) t (0, 0))) : Sem.run Tryz.prog (loadCellsFrom ⟨g, 0, none⟩ 0 kJ #[]) W = .ok J W := by
  have := run_loadCellsFrom_list Tryz.prog W ⟨g, 0, none⟩ J.toList kJ (by simp [hJ]; rfl) (fun j v hv => by
    have := blk_cell h j
    rw [show (⟨g, 0, none⟩ : Addr).add j = ⟨g, j, none⟩ by (simp [Addr.add] <;> omega)]
    rw [this]
    unfold bufC
    have hj : j < J.size := by have := (List.getElem?_eq_some_iff.1 hv).1; simpa using this
    rw [Array.getElem?_append_left hj]; simpa using hv)
  simpa using this
abbrev kR := Kd.slice 38 k38
structure Buf (w0 : World) (B : Nat) (J : Array Value) (m : Int) (inL : List It) (held : Int) (rs : List (List It)) (vin vr : Value) (W : World) : Prop where
  blk : W.heap[B]? = some (.cells (bufC J m vin held vr) 79 (0, 0))
  own : Kd.R k38 38 W w0.heap.size (fun k => k ≠ B) vin inL
  runs : Kd.R kR 27 W w0.heap.size (fun k => k ≠ B ∧ some k ≠ vin.ownBlock) vr rs
  below : Below w0.heap.size w0 W
  base : w0.heap.size ≤ B
theorem Buf.then_ {w0 : World} {B : Nat} {J : Array Value} {m : Int} {inL : List It} {held : Int} {rs : List (List It)} {vin vr : Value} {W W1 : World} (h : Buf w0 B J m inL held rs vin vr W) (hb : Below W.heap.size W W1) : Buf w0 B J m inL held rs vin vr W1 :=
  ⟨(hb.block B (blk_lt h.blk)).trans h.blk, Kd.R_below h.own hb, Kd.R_below h.runs hb, h.below.trans (hb.mono h.below.size), h.base⟩
def Keeps (B : Nat) (W W1 : World) : Prop := W.heap.size ≤ W1.heap.size ∧ ∀ k, k < W.heap.size → k ≠ B → W1.heap[k]? = W.heap[k]?
theorem weight_calls (x : It) (h1 : x.f0.size ≤ 140737488351232) (h2 : x.f1.f2.size ≤ 140737488351232) (W : World) : Calls Tryz.prog 35 #[.agg #[.string x.f0, .bool x.f1.f0, .int .i64 x.f1.f1, .string x.f1.f2]] W fun e w' => e = .returned (.int .i64 ((x.f0.size : Int) + (x.f1.f2.size : Int) + 16)) ∧ Below W.heap.size W w' := by
  have a1 : IntKind.i64.wrap ((x.f0.size : Int) + (x.f1.f2.size : Int)) = (x.f0.size : Int) + (x.f1.f2.size : Int) := by rw [IntKind.wrap_i64]; omega
  have a2 : IntKind.i64.wrap ((x.f0.size : Int) + (x.f1.f2.size : Int) + 16) = (x.f0.size : Int) + (x.f1.f2.size : Int) + 16 := by rw [IntKind.wrap_i64]; omega
  go_enter Tryz.func35, Tryz.ntmps35
  go_wp2
  go_ret
  exact ⟨rfl, below_alloc (Below.refl _ _) _⟩
theorem held_calls {w0 : World} {B : Nat} {J : Array Value} {m : Int} {inL : List It} {held : Int} {rs : List (List It)} {vin vr : Value} {W : World} (hJ : J.size = 14) (h : Buf w0 B J m inL held rs vin vr W) :
    Calls Tryz.prog 24 #[.pointer (some ⟨B, 0, none⟩)] W fun e w' => e = .returned (.int .i64 held) ∧ w' = W := by
  have c16 : W.cell? ⟨B, 16, none⟩ = some (.int .i64 held) := (blk_cell h.blk 16).trans (bufC_16 hJ)
  clear h
  go_enter Tryz.func24, Tryz.ntmps24
  go_wp2
  go_ret
  exact ⟨rfl, rfl⟩
theorem infoL : (Tryz.prog.info? 27).map (fun i => (i.zero, i.size, i.bytes)) = some (some (.slice none 0 0), 1, 24) := by kernel_rfl
section
variable {w0 : World} {B : Nat} {J : Array Value} {m : Int} {inL : List It} {held : Int} {rs : List (List It)} {vin vr : Value} {W : World}
theorem Buf.c14 (hJ : J.size = 14) (h : Buf w0 B J m inL held rs vin vr W) : W.cell? ⟨B, 14, none⟩ = some (.int .i64 m) := (blk_cell h.blk 14).trans (bufC_14 hJ)
theorem Buf.c15 (hJ : J.size = 14) (h : Buf w0 B J m inL held rs vin vr W) : W.cell? ⟨B, 15, none⟩ = some vin := (blk_cell h.blk 15).trans (bufC_15 hJ)
theorem Buf.c16 (hJ : J.size = 14) (h : Buf w0 B J m inL held rs vin vr W) : W.cell? ⟨B, 16, none⟩ = some (.int .i64 held) := (blk_cell h.blk 16).trans (bufC_16 hJ)
theorem Buf.c17 (hJ : J.size = 14) (h : Buf w0 B J m inL held rs vin vr W) : W.cell? ⟨B, 17, none⟩ = some vr := (blk_cell h.blk 17).trans (bufC_17 hJ)
theorem Buf.fr (h : Buf w0 B J m inL held rs vin vr W) (i : Nat) : W.frozen? ⟨B, i, none⟩ = false := blk_frozen h.blk i
theorem Keeps.refl (B : Nat) (W : World) : Keeps B W W := ⟨Nat.le_refl _, fun _ _ _ => rfl⟩
theorem Keeps.set {B : Nat} {W W1 : World} (h : Keeps B W W1) (i : Nat) (v : Value) : Keeps B W (W1.setCell ⟨B, i, none⟩ v) :=
  ⟨by simpa [World.setCell] using h.1, fun k h1 h2 => (Below.heap_setCell W1 ⟨B, i, none⟩ v k h2).trans (h.2 k h1 h2)⟩
theorem Keeps.below {B : Nat} {W W1 : World} (h : Below W.heap.size W W1) : Keeps B W W1 := ⟨h.size, fun k h1 _ => h.block k h1⟩
theorem Buf.clear (hJ : J.size = 14) (h : Buf w0 B J m inL held rs vin vr W) : Buf w0 B J m [] 0 rs (.slice none 0 0) vr ((W.setCell ⟨B, 15, none⟩ (.slice none 0 0)).setCell ⟨B, 16, none⟩ (.int .i64 0)) where
  blk := blk_put (blk_put h.blk 15 _ (bufC_set15 hJ _)) 16 _ (bufC_set16 hJ _)
  own := Kd.R_nil _ _ _ _ _
  runs := Kd.R_mono (Kd.R_far (p := ⟨B, 16, none⟩) (Kd.R_far (p := ⟨B, 15, none⟩) h.runs (fun k hk => hk.1) _) (fun k hk => hk.1) _) (fun k hk => ⟨hk.1, by simp [Value.ownBlock]⟩)
  below := below_set (below_set h.below h.base) h.base
  base := h.base
set_option maxHeartbeats 1000000 in
set_option maxRecDepth 100000 in
theorem spill_none (hJ : J.size = 14) (h : Buf w0 B J m [] held rs vin vr W) :
    Calls Tryz.prog 36 #[.pointer (some ⟨B, 0, none⟩)] W fun e w' => e = .returned (.tuple #[]) ∧ Buf w0 B J m [] 0 rs (.slice none 0 0) vr w' ∧ Keeps B W w' := by
  obtain ⟨A, c, hv⟩ := Kd.R_slice h.own
  have hv : vin = .slice A 0 c := hv
  subst hv
  have H := Lib.hid h
  have c15 := h.c15 hJ; have c16 := h.c16 hJ; have f15 := h.fr 15; have f16 := h.fr 16
  clear h
  go_enter Tryz.func36, Tryz.ntmps36
  go_wp2
  go_end0
  exact ⟨rfl, H.out.clear hJ, ((Keeps.refl B W).set 15 _).set 16 _⟩
end
end Go.Proofs.YtebofnoljebakaaGreatDoor.XSort
namespace Go.Proofs.YtebofnoljebakaaGreatDoor.Stb
open Go.RowKit Go.Sort Go.Proofs Go.Proofs.YtebofnoljebakaaGreatDoor.PX
def wtI (x : XSort.It) : Int := (x.f0.size : Int) + (x.f1.f2.size : Int) + 16
def wtS (l : List XSort.It) : Int := (l.map wtI).sum
def runStep (lt : XSort.It → XSort.It → Bool) (most : Int) (p : List (List XSort.It) × List XSort.It) (x : XSort.It) : List (List XSort.It) × List XSort.It :=
  if p.2 ≠ [] ∧ wtS p.2 + wtI x > most then (p.1 ++ [sortRef lt p.2], [x]) else (p.1, p.2 ++ [x])
def runFlush (lt : XSort.It → XSort.It → Bool) (p : List (List XSort.It) × List XSort.It) : List (List XSort.It) := if p.2 = [] then p.1 else p.1 ++ [sortRef lt p.2]
def runSt (lt : XSort.It → XSort.It → Bool) (most : Int) (l : List XSort.It) : List (List XSort.It) × List XSort.It := l.foldl (runStep lt most) ([], [])
def runsP (lt : XSort.It → XSort.It → Bool) (most : Int) (l : List XSort.It) : List (List XSort.It) := runFlush lt (runSt lt most l)
theorem wtI_pos (x : XSort.It) : 16 ≤ wtI x := by unfold wtI; omega
theorem wtS_append (a b : List XSort.It) : wtS (a ++ b) = wtS a + wtS b := by unfold wtS; rw [List.map_append, List.sum_append]
theorem wtS_one (x : XSort.It) : wtS [x] = wtI x := by simp [wtS]
theorem wtS_nil : wtS [] = 0 := rfl
theorem wtS_nonneg : ∀ l : List XSort.It, 0 ≤ wtS l
  | [] => by rw [wtS_nil]; omega
  | x :: l => by
    have h1 := wtS_append [x] l
    rw [List.singleton_append, wtS_one] at h1
    have h2 := wtI_pos x
    have h3 := wtS_nonneg l
    omega
theorem wtS_le (c : Int) : ∀ l : List XSort.It, (∀ x ∈ l, wtI x ≤ c) → wtS l ≤ (l.length : Int) * c
  | [], _ => by rw [wtS_nil]; simp
  | x :: l, h => by
    have h1 := wtS_append [x] l
    rw [List.singleton_append, wtS_one] at h1
    have h2 := h x List.mem_cons_self
    have h3 := wtS_le c l fun y hy => h y (List.mem_cons_of_mem _ hy)
    rw [h1, List.length_cons, show ((l.length + 1 : Nat) : Int) * c = c + (l.length : Int) * c by rw [Int.natCast_add, Int.add_mul]; omega]
    omega
theorem runs_cut (lt : XSort.It → XSort.It → Bool) (most : Int) (l : List XSort.It) (f i : Nat) (out : List (List XSort.It)) (hf : f < i) (hi : i < l.length) :
    runStep lt most (out, (l.take i).drop f) l[i] = if wtS ((l.take (i + 1)).drop f) > most then (out ++ [sortRef lt ((l.take i).drop f)], (l.take (i + 1)).drop i) else (out, (l.take (i + 1)).drop f) := by
  have hne : (l.take i).drop f ≠ [] := fun e => by
    have := congrArg List.length e
    rw [List.length_drop, List.length_take, List.length_nil] at this
    omega
  have e1 : (l.take (i + 1)).drop f = (l.take i).drop f ++ [l[i]] := by
    rw [List.take_add_one, List.getElem?_eq_getElem hi, List.drop_append_of_le_length (by rw [List.length_take]; omega)]; rfl
  have e2 : (l.take (i + 1)).drop i = [l[i]] := by
    rw [List.take_add_one, List.getElem?_eq_getElem hi, List.drop_append_of_le_length (by rw [List.length_take]; omega), List.drop_of_length_le (by rw [List.length_take]; omega)]; rfl
  unfold runStep
  rw [e1, e2, wtS_append, wtS_one]
  by_cases c : wtS ((l.take i).drop f) + wtI l[i] > most
  · rw [if_pos ⟨hne, c⟩, if_pos c]
  · rw [if_neg (fun h => c h.2), if_neg c]
section
variable (lt : XSort.It → XSort.It → Bool) (most : Int) (l : List XSort.It)
theorem runSt_succ {i : Nat} (hi : i < l.length) : runSt lt most (l.take (i + 1)) = runStep lt most (runSt lt most (l.take i)) l[i] := by
  unfold runSt
  rw [List.take_add_one, List.getElem?_eq_getElem hi, List.foldl_append]
  rfl
theorem runStep_mem {p : List (List XSort.It) × List XSort.It} {x y : XSort.It} (h : y ∈ (runStep lt most p x).2) : y ∈ p.2 ∨ y = x := by
  unfold runStep at h
  split at h
  · exact Or.inr (List.mem_singleton.1 h)
  · rcases List.mem_append.1 h with h | h
    · exact Or.inl h
    · exact Or.inr (List.mem_singleton.1 h)
theorem runStep_len (p : List (List XSort.It) × List XSort.It) (x : XSort.It) : (runStep lt most p x).2.length ≤ p.2.length + 1 ∧ (runStep lt most p x).1.length ≤ p.1.length + 1 ∧ (runStep lt most p x).2 ≠ [] := by
  unfold runStep
  split
  · refine ⟨by simp, by simp, by simp⟩
  · refine ⟨by simp, by simp, by simp⟩
theorem runSt_mem : ∀ i, i ≤ l.length → (runSt lt most (l.take i)).2.length ≤ i ∧ (runSt lt most (l.take i)).1.length ≤ i ∧ ∀ y ∈ (runSt lt most (l.take i)).2, y ∈ l
  | 0, _ => by
    rw [List.take_zero]
    exact ⟨Nat.le_refl _, Nat.le_refl _, fun y h => by cases h⟩
  | i + 1, hi => by
    obtain ⟨h1, h2, h3⟩ := runSt_mem i (by omega)
    rw [runSt_succ lt most l (show i < l.length by omega)]
    obtain ⟨a1, a2, _⟩ := runStep_len lt most (runSt lt most (l.take i)) l[i]
    refine ⟨by omega, by omega, fun y hy => ?_⟩
    rcases runStep_mem lt most hy with h | h
    · exact h3 y h
    · rw [h]; exact List.getElem_mem _
end
end Go.Proofs.YtebofnoljebakaaGreatDoor.Stb
namespace Go.Proofs.YtebofnoljebakaaGreatDoor.XSort
open Go.RowKit Go.Lib Go.Sort Go.Proofs.YtebofnoljebakaaGreatDoor.Stb Go.Proofs Go.Proofs.YtebofnoljebakaaGreatDoorW.PrintWords Go.Proofs.YtebofnoljebakaaGreatDoorW.PrintLast Go.Proofs.YtebofnoljebakaaGreatDoorW.PrintMore Go.Proofs.YtebofnoljebakaaGreatDoor.PX
section
variable {w0 : World} {B : Nat} {J : Array Value} {m : Int} {inL : List It} {held : Int} {rs : List (List It)} {vin vr : Value} {W : World}
abbrev AheadOn (AH : ByteArray → ByteArray → Bool) (J : Array Value) (l : List It) (W : World) : Prop := ∀ W', Below W.heap.size W W' → ∀ x ∈ l, ∀ y ∈ l, Calls Tryz.prog 39 #[.agg J, .string x.f0, .string y.f0] W' fun e w' => e = .returned (.bool (AH x.f0 y.f0)) ∧ Below W'.heap.size W' w'
def KeepsR (B : Nat) (row : Option Nat) (W W1 : World) : Prop := ∀ k, k < W.heap.size → k ≠ B → some k ≠ row → W1.heap[k]? = W.heap[k]?
theorem Buf.cleared (hJ : J.size = 14) (blk : W.heap[B]? = some (.cells (bufC J m vin held vr) 79 (0, 0))) (runs : Kd.R kR 27 W w0.heap.size (fun k => k ≠ B) vr rs) (below : Below w0.heap.size w0 W) (base : w0.heap.size ≤ B) : Buf w0 B J m [] 0 rs (.slice none 0 0) vr ((W.setCell ⟨B, 15, none⟩ (.slice none 0 0)).setCell ⟨B, 16, none⟩ (.int .i64 0)) where
  blk := blk_put (blk_put blk 15 _ (bufC_set15 hJ _)) 16 _ (bufC_set16 hJ _)
  own := Kd.R_nil _ _ _ _ _
  runs := Kd.R_mono (Kd.R_far (p := ⟨B, 16, none⟩) (Kd.R_far (p := ⟨B, 15, none⟩) runs (fun k hk => hk) _) (fun k hk => hk) _) (fun k hk => ⟨hk, by simp [Value.ownBlock]⟩)
  below := below_set (below_set below base) base
  base := base
attribute [local go_sem ↓ high] szJ
set_option maxHeartbeats 1000000 in
set_option maxRecDepth 100000 in
theorem spill_some (AH : ByteArray → ByteArray → Bool) (hS : SWO fun x y : It => AH x.f0 y.f0) (hJ : J.size = 14) (h : Buf w0 B J m inL held rs vin vr W) (h0 : 0 < inL.length) (hl : inL.length < 1000000000000) (hrl : (rs.length + 1) * 24 ≤ 140737488355328)
    (hA : AheadOn AH J inL W) :
    Calls Tryz.prog 36 #[.pointer (some ⟨B, 0, none⟩)] W fun e w' => e = .returned (.tuple #[]) ∧ ∃ vr', Buf w0 B J m [] 0 (rs ++ [sortRef (fun x y : It => AH x.f0 y.f0) inL]) (.slice none 0 0) vr' w' ∧ KeepsR B vr.ownBlock W w' := by
  obtain ⟨A, c, hv⟩ := Kd.R_slice h.own
  subst hv
  have hB := blk_lt h.blk
  have hvi := Kd.R_lt h.own
  have hvr := Kd.R_lt h.runs
  have c15 := h.c15 hJ
  have hn0 : ((inL.length : Nat) : Int) > 0 := by omega
  have hn0' : (0 : Int) < ((inL.length : Nat) : Int) := by omega
  have HD := Lib.hid (h.then_ (below_drew (Below.refl _ _)))
  have HC := Lib.hid (Kd.R_reads' HD.out.own)
  have CS := Lib.hid (sort_calls AH hS hJ A c inL W.drew HC.out.2.2 hl (fun W' hb => hA W' ((below_drew (Below.refl _ _)).trans hb)))
  have RL := Lib.hid hrl
  have HVI := Lib.hid hvi
  have HVR := Lib.hid hvr
  have HBB := Lib.hid hB
  clear hA hrl hvi hvr hB h
  go_enter Tryz.func36, Tryz.ntmps36
  go_wp2_with fail
  have c17 := HD.out.c17 hJ
  have c15 := HD.out.c15 hJ
  have f17 := HD.out.fr 17
  have L := load_pre hJ HD.out.blk
  have hkJ : ¬ kJ = 0 := show ¬ (14 : Nat) = 0 by decide
  go_region_law
    (first
      | (go_simp; go_at_call 10; refine CS.out.mono ?_; rintro e w1 ⟨v0, rfl, hR, hb⟩; have H1 := Lib.hid (HD.out.then_ hb); clear L c15 c17; have L := load_pre hJ H1.out.blk; have c15 := H1.out.c15 hJ; have c17 := H1.out.c17 hJ; have f17 := H1.out.fr 17; obtain ⟨Av, cv, rfl⟩ := Kd.R_slice hR; have HR1 := Lib.hid (Kd.R_bound hR); have BA := blk_alloc H1.out.blk (.cells #[Value.slice Av (sortRef (fun x y => AH x.f0 y.f0) inL).length cv] 27); have La := load_pre hJ BA; have f17a := blk_frozen BA 17; have c15a := (blk_cell BA 15).trans (bufC_15 hJ); have c17a := (blk_cell BA 17).trans (bufC_17 hJ); have HSz := Lib.hid (show W.heap.size ≤ w1.heap.size from hb.size); have HKB := Lib.hid (show ∀ k, k < W.heap.size → w1.heap[k]? = W.heap[k]? from fun k hk => hb.block k hk); clear hR hb)
      | (refine Kd.R_append_step kR (w0 := w0) (W := w1) w0.heap.size (by rfl) (.tmp 12) (.tmp 22) 55 27 (.slice none 0 0) 24 (by rfl) Tryz.underlying55 infoL rfl (by decide) (by decide) vr rs (sortRef (fun x y : It => AH x.f0 y.f0) inL) [.slice Av (sortRef (fun x y : It => AH x.f0 y.f0) inL).length cv] (fun k => k ≠ B ∧ some k ≠ (Value.slice A inL.length c).ownBlock) (fun k => W.heap.size ≤ k) (by rfl) (by rfl) ⟨_, rfl, Kd.R_mono (Kd.R_lower HR1.out HD.out.below.size) (fun k hk => hk.2.1)⟩ ?okp ?fresh H1.out.runs H1.out.below H1.out.below.size RL.out ?_
         case okp => exact fun k hk => ⟨⟨fun e => by have := HBB.out; omega, fun e => by have := HVI.out k e.symm; omega⟩, fun e => by have := HVR.out k e.symm; omega⟩
         case fresh => exact fun k hk => ⟨fun e => by have h1 := HBB.out; have h2 := HSz.out; omega, fun e => by have h1 := HVI.out k e.symm; have h2 := HSz.out; omega⟩
         intro v1 w2 ho1 hb1 hg1 hat1
         obtain ⟨A1, k1, hv1⟩ := Kd.R_slice ho1
         obtain ⟨N1, hN1⟩ : ∃ N1, (rs ++ [sortRef (fun x y : It => AH x.f0 y.f0) inL]).length = N1 := ⟨_, rfl⟩
         rw [hN1] at hv1
         subst hv1
         clear hN1
         have BB := blk_grown H1.out.blk hg1 (Kd.R_away H1.out.runs (fun k hk => hk.1))
         have Lb := load_pre hJ BB
         have c15b := (blk_cell BB 15).trans (bufC_15 hJ)
         have c17b := (blk_cell BB 17).trans (bufC_17 hJ)
         have f17b := blk_frozen BB 17
         have BC := blk_put BB 17 (.slice A1 N1 k1) (bufC_set17 hJ (.slice A1 N1 k1))
         have Lc := load_pre hJ BC
         have c15c := (blk_cell BC 15).trans (bufC_15 hJ)))
  all_goals
    (have c16c := (blk_cell BC 16).trans (bufC_16 hJ)
     have f15c := blk_frozen BC 15
     have f16c := blk_frozen BC 16
     clear L La Lb Lc c15 c15a c15b c17 c17a c17b f17 f17a f17b
     have H1b := Lib.hid H1.out.base
     clear H1 CS HC HD
     have HO := Lib.hid ho1
     have HB1 := Lib.hid hb1
     have HBC := Lib.hid BC
     have HG := Lib.hid (show ∀ k, k < w1.heap.size → some k ≠ vr.ownBlock → w2.heap[k]? = w1.heap[k]? from fun k h1 h2 => hg1.block k h1 h2)
     clear ho1 hb1 hg1 hat1 BB BA BC
     go_wp2
     go_end0
     exact ⟨rfl, _, Buf.cleared hJ HBC.out (Kd.R_mono (Kd.R_far (p := ⟨B, 17, none⟩) HO.out (fun k hk => hk.1) _) (fun k hk => hk.1)) (below_set HB1.out H1b.out) H1b.out, fun k hk hkB hkr => ((Below.heap_setCell _ ⟨B, 16, none⟩ _ k hkB).trans (Below.heap_setCell _ ⟨B, 15, none⟩ _ k hkB)).trans ((Below.heap_setCell _ ⟨B, 17, none⟩ _ k hkB).trans ((HG.out k (Nat.lt_of_lt_of_le hk HSz.out) hkr).trans (HKB.out k hk)))⟩)
end
end Go.Proofs.YtebofnoljebakaaGreatDoor.XSort
namespace Go.Proofs.YtebofnoljebakaaGreatDoor.XSort
open Go.RowKit Go.Lib Go.Sort Go.Proofs.YtebofnoljebakaaGreatDoor.Stb Go.Proofs Go.Proofs.YtebofnoljebakaaGreatDoorW.PrintWords Go.Proofs.YtebofnoljebakaaGreatDoorW.PrintLast Go.Proofs.YtebofnoljebakaaGreatDoorW.PrintMore Go.Proofs.YtebofnoljebakaaGreatDoor.PX
theorem buf_new (v0 v1 v2 v3 v4 v5 v6 v7 v8 v9 v10 v11 v12 v13 : Value) (m : Int) (W W1 : World) (g : Nat) (hg : g = W1.heap.size) (hb : Below W.heap.size W W1) :
    Buf W g #[v0, v1, v2, v3, v4, v5, v6, v7, v8, v9, v10, v11, v12, v13] m [] 0 [] (.slice none 0 0) (.slice none 0 0) (W1.alloc (.cells #[v0, v1, v2, v3, v4, v5, v6, v7, v8, v9, v10, v11, v12, v13, .int .i64 m, .slice none 0 0, .int .i64 0, .slice none 0 0] 79)) where
  blk := by rw [hg]; exact blk_new W1 _
  own := Kd.R_nil _ _ _ _ _
  runs := Kd.R_nil _ _ _ _ _
  below := below_alloc hb _
  base := by rw [hg]; exact hb.size
section
attribute [local go_sem ↓ high] szJ
set_option maxHeartbeats 4000000 in
set_option maxRecDepth 100000 in
theorem new_buf (v0 v1 v2 v3 v4 v5 v6 v7 v8 v9 v10 v11 v12 v13 : Value) (m : Int) (hm : ¬ m < 1) (W : World) :
    Calls Tryz.prog 27 #[.agg #[v0, v1, v2, v3, v4, v5, v6, v7, v8, v9, v10, v11, v12, v13], .int .i64 m] W fun e w' => ∃ g, e = .returned (.tuple #[.pointer (some ⟨g, 0, none⟩), .int .i64 0]) ∧ Buf W g #[v0, v1, v2, v3, v4, v5, v6, v7, v8, v9, v10, v11, v12, v13] m [] 0 [] (.slice none 0 0) (.slice none 0 0) w' := by
  have L1 := load_job (J := #[v0, v1, v2, v3, v4, v5, v6, v7, v8, v9, v10, v11, v12, v13]) rfl (blk_new W (.cells #[v0, v1, v2, v3, v4, v5, v6, v7, v8, v9, v10, v11, v12, v13] 26))
  go_enter Tryz.func27, Tryz.ntmps27
  go_wp2
  all_goals first
    | exact absurd (show (14 : Nat) = kJ from rfl) (by assumption)
    | go_ret2
  exact ⟨_, rfl, buf_new v0 v1 v2 v3 v4 v5 v6 v7 v8 v9 v10 v11 v12 v13 m W (W.alloc (.cells #[v0, v1, v2, v3, v4, v5, v6, v7, v8, v9, v10, v11, v12, v13] 26)) _ (Array.size_push _).symm (below_alloc (Below.refl _ _) _)⟩
end
section
variable {w0 : World} {B : Nat} {J : Array Value} {m : Int} {inL : List It} {held : Int} {rs : List (List It)} {vin vr : Value} {W : World}
theorem spill_calls (AH : ByteArray → ByteArray → Bool) (hS : SWO fun x y : It => AH x.f0 y.f0) (hJ : J.size = 14) (h : Buf w0 B J m inL held rs vin vr W) (hl : inL.length < 1000000000000) (hrl : (rs.length + 1) * 24 ≤ 140737488355328)
    (hA : AheadOn AH J inL W) :
    Calls Tryz.prog 36 #[.pointer (some ⟨B, 0, none⟩)] W fun e w' => e = .returned (.tuple #[]) ∧ ∃ vr', Buf w0 B J m [] 0 (runFlush (fun x y : It => AH x.f0 y.f0) (rs, inL)) (.slice none 0 0) vr' w' ∧ KeepsR B vr.ownBlock W w' := by
  cases inL with
  | nil =>
    refine (spill_none hJ h).mono ?_
    rintro e w1 ⟨rfl, h1, hk⟩
    exact ⟨rfl, _, h1, fun k h2 h3 _ => hk.2 k h2 h3⟩
  | cons x l =>
    refine (spill_some AH hS hJ h (by simp) hl hrl hA).mono ?_
    rintro e w1 ⟨rfl, vr', h1, hk⟩
    exact ⟨rfl, vr', h1, hk⟩
set_option maxHeartbeats 1000000 in
set_option maxRecDepth 100000 in
theorem flush_calls (AH : ByteArray → ByteArray → Bool) (hS : SWO fun x y : It => AH x.f0 y.f0) (hJ : J.size = 14) (h : Buf w0 B J m inL held rs vin vr W) (hl : inL.length < 1000000000000) (hrl : (rs.length + 1) * 24 ≤ 140737488355328)
    (hA : AheadOn AH J inL W) :
    Calls Tryz.prog 23 #[.pointer (some ⟨B, 0, none⟩)] W fun e w' => ∃ v, e = .returned v ∧ Kd.R kR 27 w' w0.heap.size (fun k => k ≠ B) v (runFlush (fun x y : It => AH x.f0 y.f0) (rs, inL)) ∧ Buf w0 B J m [] 0 [] (.slice none 0 0) (.slice none 0 0) w' := by
  have CS := Lib.hid (spill_calls AH hS hJ h hl hrl hA)
  clear hA h
  go_enter Tryz.func23, Tryz.ntmps23
  go_wp2_with (go_at_call 36; refine CS.out.mono ?_; rintro e w1 ⟨rfl, vr', h1, _⟩; have H1 := Lib.hid h1; obtain ⟨A1, k1, hv1⟩ := Kd.R_slice h1.runs; obtain ⟨N1, hN1⟩ : ∃ N1, (runFlush (fun x y : It => AH x.f0 y.f0) (rs, inL)).length = N1 := ⟨_, rfl⟩; rw [hN1] at hv1; subst hv1; clear hN1; have c17 := h1.c17 hJ; have f17 := h1.fr 17; clear h1)
  go_ret
  exact ⟨_, rfl, Kd.R_mono (Kd.R_far (p := ⟨B, 17, none⟩) H1.out.runs (fun k hk => hk.1) _) (fun k hk => hk.1), blk_put H1.out.blk 17 _ (bufC_set17 hJ _), Kd.R_nil _ _ _ _ _, Kd.R_nil _ _ _ _ _, below_set H1.out.below H1.out.base, H1.out.base⟩
end
end Go.Proofs.YtebofnoljebakaaGreatDoor.XSort
namespace Go.Proofs.YtebofnoljebakaaGreatDoor.Tail
open Go
section
variable {P : Program} {ops : Array Oper} {Q : Exit → Act → World → Prop} {md : Region.Mode} {S : World → Prop} {n : Nat} {L : Array Bool → Act → World → Prop}
def wpT (P : Program) (md : Region.Mode) (ops : Array Oper) (Q : Exit → Act → World → Prop) (S : World → Prop) (n : Nat) (L : Array Bool → Act → World → Prop) : Nat → Array Bool → Act → World → Prop
  | 0, listed, a, w => L listed a w
  | f + 1, listed, a, w => Region.ready md ops listed ≠ [] ∧ ∀ i ∈ Region.ready md ops listed, i < n ∧ wpOp P ops Q i (fun a' w' => S w' ∧ wpT P md ops Q S n L f (listed.setIfInBounds i true) a' w') a w
theorem any_of_T {g : Nat} (hL : ∀ listed a w, L listed a w → wpAny P md ops Q g listed a w) : ∀ (f : Nat) (listed : Array Bool) (a : Act) (w : World), wpT P md ops Q S n L f listed a w → wpAny P md ops Q (f + g) listed a w
  | 0, listed, a, w, h => by rw [Nat.zero_add]; exact hL _ _ _ h
  | f + 1, listed, a, w, h => by
    rw [show f + 1 + g = (f + g) + 1 by omega]
    exact ⟨fun h0 => absurd h0 h.1, fun i hi => wpOp_mono (fun a' w' h' => any_of_T hL f _ a' w' h'.2) (h.2 i hi).2⟩
def reach (md : Region.Mode) (ops : Array Oper) (i : Nat) : Nat → Nat → Bool
  | 0, _ => false
  | f + 1, t => match ops[t]? with
    | some o => o.after.any fun e => Region.binds md e && (e.on == i || reach md ops i f e.on)
    | none => false
structure HInv (md : Region.Mode) (ops : Array Oper) (E : List Nat) (listed : Array Bool) : Prop where
  closed : ∀ j oj, ops[j]? = some oj → listed.getD j false = true → ∀ e ∈ oj.after, Region.binds md e = true → listed.getD e.on false = true
  early : ∀ e ∈ E, listed.getD e false = true
theorem HInv.set {E : List Nat} {listed : Array Bool} {i : Nat} (inv : HInv md ops E listed) (hi : i ∈ Region.ready md ops listed) : HInv md ops E (listed.setIfInBounds i true) := by
  obtain ⟨_, oi, hoi, hall⟩ := mem_ready.1 hi
  refine ⟨fun j oj hj hl e he hb => ?_, fun e he => getD_set_true (inv.early e he)⟩
  by_cases hij : i = j
  · subst hij
    have : oj = oi := Option.some.inj (hj.symm.trans hoi)
    subst this
    exact getD_set_true (hall e he hb)
  · rw [getD_set_ne false hij] at hl
    exact getD_set_true (inv.closed j oj hj hl e he hb)
theorem reach_listed {E : List Nat} {listed : Array Bool} {i : Nat} (inv : HInv md ops E listed) : ∀ (f t : Nat), reach md ops i f t = true → (∀ o, ops[t]? = some o → ∀ e ∈ o.after, Region.binds md e = true → listed.getD e.on false = true) → listed.getD i false = true
  | 0, _, h, _ => by cases h
  | f + 1, t, h, hd => by
    unfold reach at h
    split at h
    · rename_i o ho
      obtain ⟨e, he, hb⟩ := Array.any_eq_true'.1 h
      simp only [Bool.and_eq_true, Bool.or_eq_true, beq_iff_eq] at hb
      have hl := hd o ho e he hb.1
      rcases hb.2 with h1 | h1
      · rw [← h1]; exact hl
      · exact reach_listed inv f e.on h1 fun o' ho' e' he' hb' => inv.closed e.on o' ho' hl e' he' hb'
    · cases h
def okB (md : Region.Mode) (ops : Array Oper) (n : Nat) (E : List Nat) : Bool := Region.noSelect ops && (List.range ops.size).all fun t => decide (t < n) || (List.range n).all fun i => E.contains i || reach md ops i ops.size t
theorem waits {E : List Nat} {listed : Array Bool} {i j : Nat} (hB : okB md ops n E = true) (inv : HInv md ops E listed) (hin : i < n) (hun : listed.getD i true = false) (hj : j ∈ Region.ready md ops listed) : j < n := by
  rcases Nat.lt_or_ge j n with h | h
  · exact h
  · obtain ⟨_, oj, hoj, hall⟩ := mem_ready.1 hj
    have hjl : j < ops.size := (Array.getElem?_eq_some_iff.1 hoj).1
    simp only [okB, Bool.and_eq_true] at hB
    have h1 := List.all_eq_true.1 hB.2 j (List.mem_range.2 hjl)
    simp only [Bool.or_eq_true, decide_eq_true_eq] at h1
    rcases h1 with h1 | h1
    · omega
    · have h2 := List.all_eq_true.1 h1 i (List.mem_range.2 hin)
      have hf := getD_both hun
      simp only [Bool.or_eq_true] at h2
      rcases h2 with h2 | h2
      · have := inv.early i (by simpa using h2)
        rw [hf] at this; cases this
      · have := reach_listed inv _ _ h2 fun o' ho' e he hb => by
          have : o' = oj := Option.some.inj (ho'.symm.trans hoj)
          subst this
          exact hall e he hb
        rw [hf] at this; cases this
theorem T_first {i : Nat} {oi : Oper} {v : Value} (hi : ops[i]? = some oi) (hsel : ∀ (j : Nat) (o : Oper) cs b, ops[j]? = some o → o.op ≠ .select cs b)
    (hQ : ∀ c a w, Q (.panic c) (a.put oi.dst v) w → Q (.panic c) a w) {E : List Nat} (hB : okB md ops n E = true) (hin : i < n)
    (hdone : ∀ listed a w, L listed a w → ∀ j ∈ Region.ready md ops listed, n ≤ j) :
    ∀ (f : Nat) (listed : Array Bool) (a : Act) (w : World), HInv md ops E listed →
      (∀ j oj, ops[j]? = some oj → j ≠ i → listed.getD j true = false → (∀ e ∈ oj.after, Region.binds md e = true → e.on ≠ i) → oi.apart ops oj = true) →
      i ∈ Region.ready md ops listed → YieldsIf P ops S oi v a → S w →
      wpT P md ops Q S n L f (listed.setIfInBounds i true) (a.put oi.dst v) w → wpT P md ops Q S n L (f + 1) listed a w := by
  intro f
  induction f with
  | zero =>
    intro listed a w inv _ hr hy hS H
    have hun := (mem_ready.1 hr).1
    refine ⟨fun h => (by rw [h] at hr; cases hr), fun j hj => ?_⟩
    have hjn : j < n := waits hB inv hin hun hj
    refine ⟨hjn, ?_⟩
    by_cases hji : j = i
    · subst hji; exact hy.wpOp hi hS ⟨hS, H⟩
    · have := hdone _ _ _ H j (ready_mono hj hji)
      omega
  | succ f ih =>
    intro listed a w inv hfree hr hy hS H
    have hun := (mem_ready.1 hr).1
    refine ⟨fun h => (by rw [h] at hr; cases hr), fun j hj => ?_⟩
    have hjn : j < n := waits hB inv hin hun hj
    refine ⟨hjn, ?_⟩
    by_cases hji : j = i
    · subst hji; exact hy.wpOp hi hS ⟨hS, H⟩
    · have h1 := (H.2 j (ready_mono hj hji)).2
      obtain ⟨hjun, oj, hoj, hall⟩ := mem_ready.1 hj
      have hnot : ∀ e ∈ oj.after, Region.binds md e = true → e.on ≠ i := fun e he hb heq => by
        have h1 := hall e he hb
        rw [heq, getD_both hun] at h1
        cases h1
      have h2 := wpOp_putIf hoj (hfree j oj hoj hji hjun hnot) (fun cs b => hsel i oi cs b hi) (fun cs b => hsel j oj cs b hoj) hQ hy h1
      have hfree' : ∀ k ok, ops[k]? = some ok → k ≠ i → (listed.setIfInBounds j true).getD k true = false →
          (∀ e ∈ ok.after, Region.binds md e = true → e.on ≠ i) → oi.apart ops ok = true := fun k ok hk hki hun hno => by
        refine hfree k ok hk hki ?_ hno
        by_cases hjk : j = k
        · subst hjk; exact hjun
        · rw [getD_set_ne true hjk] at hun; exact hun
      refine wpOp_mono (fun a' w' h3 => ⟨h3.2.1, ih (listed.setIfInBounds j true) a' w' (inv.set hj) hfree' (ready_mono hr (Ne.symm hji)) h3.1 h3.2.1 ?_⟩) h2
      rw [Array.setIfInBounds_comm _ _ hji]
      exact h3.2.2
structure Go1 (P : Program) (md : Region.Mode) (ops : Array Oper) (Q : Exit → Act → World → Prop) (S : World → Prop) (n g : Nat) (E : List Nat) (f : Nat) (listed : Array Bool) (a : Act) (w : World) : Prop where
  out : HInv md ops E listed → wpT P md ops Q S n (fun listed a w => (∀ j, j < n → listed.getD j false = true) ∧ wpAny P md ops Q g listed a w) f listed a w
theorem doneL {g : Nat} : ∀ (listed : Array Bool) (a : Act) (w : World), ((∀ j, j < n → listed.getD j false = true) ∧ wpAny P md ops Q g listed a w) → ∀ j ∈ Region.ready md ops listed, n ≤ j := fun listed a w h j hj => by
  rcases Nat.lt_or_ge j n with hl | hl
  · have h1 := getD_both (mem_ready.1 hj).1
    rw [h.1 j hl] at h1; cases h1
  · exact hl
variable {g : Nat} {E : List Nat}
theorem take (ok : okB md ops n E = true) (i : Nat) {oi : Oper} {v : Value} {f : Nat} {listed : Array Bool} {a : Act} {w : World} (hi : ops[i]? = some oi) (hS : S w) (hy : ∀ w, S w → (execOp a.eval oi).run P w = .ok (.value v) w)
    (h : Go1 P md ops Q S n g E f (listed.setIfInBounds i true) (a.put oi.dst v) w) (hin : decide (i < n) = true := by rfl) (hf : Region.free md ops listed i = true := by kernel_rfl) (hr : (Region.ready md ops listed).contains i = true := by decide +kernel)
    (hQ : ∀ c a w, Q (.panic c) (a.put oi.dst v) w → Q (.panic c) a w := by exact fun _ _ _ h => h) (hw : Region.wanted oi (yielded ops a.tmps) = true := by rfl) : Go1 P md ops Q S n g E (f + 1) listed a w :=
  ⟨fun inv => T_first hi (Region.noSelect_spec (by simp only [okB, Bool.and_eq_true] at ok; exact ok.1)) hQ ok (of_decide_eq_true hin) doneL f listed a w inv (Region.free_spec hi hf) (by simpa using hr) (Or.inl ⟨hw, hy⟩) hS (h.out (inv.set (by simpa using hr)))⟩
theorem one (i : Nat) {o : Oper} {f : Nat} {listed : Array Bool} {a : Act} {w : World} (ho : ops[i]? = some o) (hr : Region.ready md ops listed = [i]) (hin : decide (i < n) = true)
    (h : ∀ K' : Act → World → Prop, Shut (∀ a w, S w → (S w → Go1 P md ops Q S n g E f (listed.setIfInBounds i true) a w) → K' a w) → if Region.wanted o (yielded ops a.tmps) = true then Oper.wp P o a w K' Q else K' (a.put o.dst undef) w) :
    Go1 P md ops Q S n g E (f + 1) listed a w := by
  have hin' := of_decide_eq_true hin
  refine ⟨fun inv => ⟨by rw [hr]; simp, fun j hj => ?_⟩⟩
  have hj' : j = i := by rw [hr] at hj; simpa using hj
  subst hj'
  exact ⟨hin', wpOp_step ho fun K' hK => h K' fun a w hS hW => hK a w ⟨hS, (hW hS).out (inv.set hj)⟩⟩
theorem enter {f : Nat} {listed : Array Bool} {a : Act} {w : World} (n g : Nat) (E : List Nat) (S : World → Prop) (hl : decide (∀ j, j < ops.size → listed.getD j false = true → (ops[j]?.map fun o => o.after.all fun e => !Region.binds md e || listed.getD e.on false) = some true) = true) (he : E.all (fun e => listed.getD e false) = true)
    (h : Go1 P md ops Q S n g E f listed a w) : wpAny P md ops Q (f + g) listed a w := by
  have inv : HInv md ops E listed := by
    refine ⟨fun j oj hj hlj e hee hb => ?_, fun e hee => List.all_eq_true.1 he e hee⟩
    have h1 := of_decide_eq_true hl j (Array.getElem?_eq_some_iff.1 hj).1 hlj
    rw [hj, Option.map_some, Option.some.injEq] at h1
    have h2 := Array.all_eq_true'.1 h1 e hee
    rw [hb] at h2
    simpa using h2
  exact any_of_T (fun listed a w hL => hL.2) f listed a w (h.out inv)
theorem fin {listed : Array Bool} {a : Act} {w : World} (hl : decide (∀ j, j < n → listed.getD j false = true) = true) (h : wpAny P md ops Q g listed a w) : Go1 P md ops Q S n g E 0 listed a w := ⟨fun _ => ⟨of_decide_eq_true hl, h⟩⟩
theorem seq {l : List Oper} (k : Nat) {listed : Array Bool} {a : Act} {w : World} (hB : Region.seqB .any l.toArray (l.drop k).length k listed = true) (h : wpList P l.toArray Q (l.drop k) a w) : wpAny P .any l.toArray Q (l.drop k).length listed a w :=
  wpAny_of_seq (l.drop k) k listed a w (fun j => by simp [List.getElem?_drop]) hB h
end
end Go.Proofs.YtebofnoljebakaaGreatDoor.Tail
namespace Go.Proofs.YtebofnoljebakaaGreatDoor.XSort
open Go.RowKit Go.Lib Go.Sort Go.Proofs.YtebofnoljebakaaGreatDoor.Stb Go.Proofs Go.Proofs.YtebofnoljebakaaGreatDoorW.PrintWords Go.Proofs.YtebofnoljebakaaGreatDoorW.PrintLast Go.Proofs.YtebofnoljebakaaGreatDoorW.PrintMore Go.Proofs.YtebofnoljebakaaGreatDoor.PX
theorem weight_w (x : It) (h1 : x.f0.size ≤ 140737488351232) (h2 : x.f1.f2.size ≤ 140737488351232) (W : World) : Calls Tryz.prog 35 #[.agg #[.string x.f0, .bool x.f1.f0, .int .i64 x.f1.f1, .string x.f1.f2]] W fun e w' => e = .returned (.int .i64 (wtI x)) ∧ Below W.heap.size W w' := weight_calls x h1 h2 W
theorem info38 : (Tryz.prog.info? 38).map (fun i => (i.zero, i.size, i.bytes)) = some (some (.agg #[.string (⟨#[]⟩ : ByteArray), .bool false, .int .i64 0, .string (⟨#[]⟩ : ByteArray)]), 4, 48) := by kernel_rfl
section
variable {w0 : World} {B : Nat} {J : Array Value} {m : Int} {inL : List It} {rs : List (List It)} {vin vr : Value} {W : World}
theorem xb4 {w : World} {bx : Nat} {x : It} (h : w.heap[bx]? = some (.cells #[.string x.f0, .bool x.f1.f0, .int .i64 x.f1.f1, .string x.f1.f2] 38 (0, 0))) : w.cell? ⟨bx, 0, none⟩ = some (.string x.f0) ∧ w.cell? ⟨bx, 1, none⟩ = some (.bool x.f1.f0) ∧ w.cell? ⟨bx, 2, none⟩ = some (.int .i64 x.f1.f1) ∧ w.cell? ⟨bx, 3, none⟩ = some (.string x.f1.f2) := ⟨(blk_cell h 0).trans rfl, (blk_cell h 1).trans rfl, (blk_cell h 2).trans rfl, (blk_cell h 3).trans rfl⟩
theorem Buf.added {in' : List It} {rs' : List (List It)} {vin' vr' v1 : Value} {w8 w2 w3 : World} (hJ : J.size = 14) (h8 : Buf w0 B J m in' (wtS in') rs' vin' vr' w8) (x : It) (ho1 : Kd.R k38 38 w2 w0.heap.size (fun k => k ≠ B) v1 (in' ++ [x])) (hb1 : Below w0.heap.size w0 w2) (hg1 : w8.grownBy w2 vin'.ownBlock)
    (hat1 : v1.ownBlock = vin'.ownBlock ∨ ∃ b, v1.ownBlock = some b ∧ w8.heap.size ≤ b) (hb3 : Below w2.heap.size w2 w3) :
    Buf w0 B J m (in' ++ [x]) (wtS (in' ++ [x])) rs' v1 vr' ((w3.setCell ⟨B, 15, none⟩ v1).setCell ⟨B, 16, none⟩ (.int .i64 (wtS in' + wtI x))) where
  blk := by
    rw [wtS_append, wtS_one]
    have BB := blk_grown h8.blk hg1 (Kd.R_away h8.own (fun k hk => hk))
    exact blk_put (blk_put (blk_below BB hb3) 15 _ (bufC_set15 hJ _)) 16 _ (bufC_set16 hJ _)
  own := Kd.R_far (p := ⟨B, 16, none⟩) (Kd.R_far (p := ⟨B, 15, none⟩) (Kd.R_below ho1 hb3) (fun k hk => hk) _) (fun k hk => hk) _
  runs := by
    have r2 := Kd.R_grown (Kd.R_bound h8.runs) hg1 (fun k hk => hk.1.2)
    refine Kd.R_mono (Kd.R_far (p := ⟨B, 16, none⟩) (Kd.R_far (p := ⟨B, 15, none⟩) (Kd.R_below r2 hb3) (fun k hk => hk.1.1) _) (fun k hk => hk.1.1) _) (fun k hk => ⟨hk.1.1, ?_⟩)
    rcases hat1 with e | ⟨b, e, hle⟩
    · rw [e]; exact hk.1.2
    · rw [e]
      intro z
      have := Option.some.inj z
      have := hk.2.2.1
      omega
  below := below_set (below_set (hb1.trans (hb3.mono hb1.size)) h8.base) h8.base
  base := h8.base
set_option maxHeartbeats 1000000 in
set_option maxRecDepth 100000 in
theorem add_calls (AH : ByteArray → ByteArray → Bool) (hS : SWO fun x y : It => AH x.f0 y.f0) (hJ : J.size = 14) (x : It) (h1 : x.f0.size ≤ 140737488351232) (h2 : x.f1.f2.size ≤ 140737488351232) (h : Buf w0 B J m inL (wtS inL) rs vin vr W) (hl : inL.length < 1000) (hw : wtS inL ≤ 1000000000000000000) (hrl : (rs.length + 1) * 24 ≤ 140737488355328)
    (hA : AheadOn AH J inL W) :
    Calls Tryz.prog 22 #[.pointer (some ⟨B, 0, none⟩), .agg #[.string x.f0, .bool x.f1.f0, .int .i64 x.f1.f1, .string x.f1.f2]] W fun e w' => e = .returned (.bool (decide (inL ≠ [] ∧ wtS inL + wtI x > m))) ∧ ∃ vin' vr', Buf w0 B J m (runStep (fun x y : It => AH x.f0 y.f0) m (rs, inL) x).2 (wtS (runStep (fun x y : It => AH x.f0 y.f0) m (rs, inL) x).2) (runStep (fun x y : It => AH x.f0 y.f0) m (rs, inL) x).1 vin' vr' w' := by
  obtain ⟨A, c, hv⟩ := Kd.R_slice h.own
  subst hv
  have HVI := Lib.hid (Kd.R_lt h.own)
  have HVR := Lib.hid (Kd.R_lt h.runs)
  have HD := Lib.hid (h.then_ (below_alloc (Below.refl W.heap.size W) (.cells #[.string x.f0, .bool x.f1.f0, .int .i64 x.f1.f1, .string x.f1.f2] 38)))
  have hbx := blk_new W (.cells #[.string x.f0, .bool x.f1.f0, .int .i64 x.f1.f1, .string x.f1.f2] 38)
  have HA := Lib.hid hA
  have HB := Lib.hid (blk_lt h.blk)
  have HW := Lib.hid hw
  have HN := Lib.hid (wtS_nonneg inL)
  have HU := Lib.hid (show 16 ≤ wtI x ∧ wtI x ≤ 281474976702480 by unfold wtI; omega)
  have HB5 := Lib.hid (below_alloc (Below.refl W.heap.size W) (.cells #[.string x.f0, .bool x.f1.f0, .int .i64 x.f1.f1, .string x.f1.f2] 38))
  have WC := Lib.hid (weight_w x h1 h2)
  obtain ⟨full, hfull⟩ : ∃ b, b = decide (inL ≠ [] ∧ wtS inL + wtI x > m) := ⟨_, rfl⟩
  rw [← hfull]
  have HF := Lib.hid hfull
  clear hA h hw hfull h1 h2
  go_enter Tryz.func22, Tryz.ntmps22
  go_upto_region 3 with fail
  generalize hbxx : W.heap.size = bx at *
  generalize hw5 : W.alloc (.cells #[.string x.f0, .bool x.f1.f0, .int .i64 x.f1.f1, .string x.f1.f2] 38) = w5 at *
  clear hw5
  go_cut [5] (fun s5 wx => s5 = .bool full ∧ wx.heap[bx]? = some (.cells #[.string x.f0, .bool x.f1.f0, .int .i64 x.f1.f1, .string x.f1.f2] 38 (0, 0)) ∧ Buf w0 B J m inL (wtS inL) rs (.slice A inL.length c) vr wx ∧ Below bx W wx)
  case first =>
    have c15 := HD.out.c15 hJ
    have c16 := HD.out.c16 hJ
    have c14 := HD.out.c14 hJ
    have x0 := (blk_cell hbx 0).trans rfl
    have x1 := (blk_cell hbx 1).trans rfl
    have x2 := (blk_cell hbx 2).trans rfl
    have x3 := (blk_cell hbx 3).trans rfl
    by_cases he : inL = []
    · subst he
      have e : full = false := by rw [HF.out]; simp
      subst e
      have c15 : w5.cell? ⟨B, 15, none⟩ = some (.slice A 0 c) := c15
      go_big_region
      all_goals (go_wp2_with fail; go_meet)
      all_goals exact ⟨rfl, hbx, HD.out.then_ (below_drew (Below.refl _ _)), HB5.out.trans (below_drew (Below.refl _ _))⟩
    · have hlen : (0 : Int) < ((inL.length : Nat) : Int) := by have := List.length_pos_iff.2 he; omega
      have hlen' : 0 < inL.length := List.length_pos_iff.2 he
      have hwr : IntKind.i64.wrap (wtS inL + wtI x) = wtS inL + wtI x := by have := HW.out; have := HN.out; have := HU.out; rw [IntKind.wrap_i64]; omega
      have hval : full = decide (m < wtS inL + wtI x) := by rw [HF.out]; simp [he]
      go_region_held3 (fun w' => w'.cell? ⟨B, 14, none⟩ = some (.int .i64 m) ∧ w'.cell? ⟨B, 15, none⟩ = some (.slice A inL.length c) ∧ w'.cell? ⟨B, 16, none⟩ = some (.int .i64 (wtS inL)) ∧ w'.cell? ⟨bx, 0, none⟩ = some (.string x.f0) ∧ w'.cell? ⟨bx, 1, none⟩ = some (.bool x.f1.f0) ∧ w'.cell? ⟨bx, 2, none⟩ = some (.int .i64 x.f1.f1) ∧ w'.cell? ⟨bx, 3, none⟩ = some (.string x.f1.f2))
        (exact ⟨c14, c15, c16, x0, x1, x2, x3⟩)
        (first
          | (go_at_call 35; refine (WC.out _).mono ?_; rintro e w6 ⟨rfl, hb⟩; have n1 := Lib.hid (HD.out.then_ ((below_drew (Below.refl _ _)).trans hb)); have n2 := (hb.block bx (blk_lt hbx)).trans hbx; have n3 := Lib.hid (HB5.out.trans ((below_drew (Below.refl _ _)).trans (hb.mono (hbxx ▸ HB5.out.size)))); clear HD hbx HB5 c14 c15 c16 x0 x1 x2 x3 hb; have HD := n1; have hbx := n2; have HB5 := n3; clear n1 n2 n3; have c15 := HD.out.c15 hJ; have c16 := HD.out.c16 hJ; have c14 := HD.out.c14 hJ; have x0 := (blk_cell hbx 0).trans rfl; have x1 := (blk_cell hbx 1).trans rfl; have x2 := (blk_cell hbx 2).trans rfl; have x3 := (blk_cell hbx 3).trans rfl))
      all_goals (go_wp2_with fail; go_meet)
      all_goals exact ⟨by rw [hval], hbx, HD.out, HB5.out⟩
  case rest =>
  obtain ⟨rfl, hbx6, hD6, hB6⟩ := hcut
  clear HD HB5 hbx
  have HD := Lib.hid hD6
  have HB5 := Lib.hid hB6
  have hbx := hbx6
  clear hD6 hB6 hbx6
  go_upto_if 28 with fail
  go_cut [5] (fun s5 wx => s5 = .bool full ∧ wx.heap[bx]? = some (.cells #[.string x.f0, .bool x.f1.f0, .int .i64 x.f1.f1, .string x.f1.f2] 38 (0, 0)) ∧ ∃ (in' : List It) (rs' : List (List It)) (vin' vr' : Value), Buf w0 B J m in' (wtS in') rs' vin' vr' wx ∧ Hid (∀ k, vin'.ownBlock = some k → k < bx) ∧ Hid (runStep (fun x y : It => AH x.f0 y.f0) m (rs, inL) x = (rs', in' ++ [x]) ∧ in'.length < 1000 ∧ wtS in' ≤ 1000000000000000000))
  case first =>
    cases full with
    | false =>
      go_wp2_with fail
      go_meet
      have hf : ¬ (inL ≠ [] ∧ wtS inL + wtI x > m) := fun h => by have := HF.out; simp [h] at this
      exact ⟨rfl, hbx, inL, rs, _, vr, HD.out, HVI, by show _ ∧ _; refine ⟨?_, hl, HW.out⟩; unfold runStep; rw [if_neg hf]⟩
    | true =>
      go_wp2_with (go_at_call 36; refine (spill_calls AH hS hJ HD.out (Nat.lt_trans hl (by decide)) hrl (fun W' hb => HA.out W' (by rw [hbxx]; exact HB5.out.trans (hb.mono (hbxx ▸ HB5.out.size))))).mono ?_; rintro e w7 ⟨rfl, vr7, h7, hk7⟩; have H7 := Lib.hid h7; have hbx7 := (hk7 bx (blk_lt hbx) (fun e => by have := HB.out; omega) (fun e => by have := HVR.out bx e.symm; omega)).trans hbx; clear h7 hk7)
      go_meet
      have hf : (inL ≠ [] ∧ wtS inL + wtI x > m) := of_decide_eq_true HF.out.symm
      exact ⟨rfl, hbx7, [], _, _, vr7, H7.out, by show ∀ _, _; simp [Value.ownBlock], by show _ ∧ _; refine ⟨?_, by simp, by rw [wtS_nil]; omega⟩; unfold runStep; rw [if_pos hf]; unfold runFlush; rw [if_neg hf.1]; rfl⟩
  case rest =>
  obtain ⟨rfl, hbx6, in', rs', vin', vr', hD6, hv6, hq6⟩ := hcut
  clear HD HB5 HA HVI HVR hbx
  obtain ⟨A6, c6, hv⟩ := Kd.R_slice hD6.own
  subst hv
  have H8 := Lib.hid (hD6.then_ (below_drew (Below.refl _ _)))
  have hbx := blk_drew hbx6
  have HQ := hq6
  have HV := hv6
  have hbz := Kd.R_lt hD6.own
  have HBW := Lib.hid (blk_lt hD6.blk)
  clear hD6 hv6 hbx6 hq6 hbz
  have hwr : IntKind.i64.wrap (wtS in' + wtI x) = wtS in' + wtI x := by have h1 := HQ.out.2.2; have h2 := wtS_nonneg in'; have := HU.out; rw [IntKind.wrap_i64]; omega
  have hne : bx ≠ B := fun e => by have := HB.out; omega
  have HNE := Lib.hid hne
  clear hne
  go_wp2_with fail
  have c15 := H8.out.c15 hJ
  have c16 := H8.out.c16 hJ
  have x0 := (blk_cell hbx 0).trans rfl
  have x1 := (blk_cell hbx 1).trans rfl
  have x2 := (blk_cell hbx 2).trans rfl
  have x3 := (blk_cell hbx 3).trans rfl
  have BA := blk_alloc H8.out.blk (.cells #[.string x.f0, .bool x.f1.f0, .int .i64 x.f1.f1, .string x.f1.f2] 38)
  have hbxa := blk_alloc hbx (.cells #[.string x.f0, .bool x.f1.f0, .int .i64 x.f1.f1, .string x.f1.f2] 38)
  have c15a := (blk_cell BA 15).trans (bufC_15 hJ)
  have c16a := (blk_cell BA 16).trans (bufC_16 hJ)
  have c16x : (wc.alloc (.cells #[.string x.f0, .bool x.f1.f0, .int .i64 x.f1.f1, .string x.f1.f2] 38)).cell? ⟨B, 16, none⟩ = some (.int .i64 (wtS in')) := c16a
  have c16y : (wc.alloc (.cells #[.string x.f0, .bool x.f1.f0, .int .i64 x.f1.f1, .string x.f1.f2] 38)).drew.cell? ⟨B, 16, none⟩ = some (.int .i64 (wtS in')) := c16a
  have c15x : (wc.alloc (.cells #[.string x.f0, .bool x.f1.f0, .int .i64 x.f1.f1, .string x.f1.f2] 38)).cell? ⟨B, 15, none⟩ = some (.slice A6 in'.length c6) := c15a
  have c15y : (wc.alloc (.cells #[.string x.f0, .bool x.f1.f0, .int .i64 x.f1.f1, .string x.f1.f2] 38)).drew.cell? ⟨B, 15, none⟩ = some (.slice A6 in'.length c6) := c15a
  refine wp_region_any (by kernel_rfl) ?_
  change wpAny _ _ _ _ _ _ _ (World.drew _)
  iterate 2
    (first | refine wpAny_take (i := 0) (v := ?_) rfl (by kernel_rfl) (by kernel_rfl) (by decide +kernel) (fun _ _ _ h => h) (Or.inl ⟨by rfl, ?_⟩) ?_ | refine wpAny_take (i := 1) (v := ?_) rfl (by kernel_rfl) (by kernel_rfl) (by decide +kernel) (fun _ _ _ h => h) (Or.inl ⟨by rfl, ?_⟩) ?_)
    rotate_left
    · intro w; go_simp; (try with_reducible rfl)
    simp only [Act.put, List.setIfInBounds_toArray, List.set_cons_zero, List.set_cons_succ]
  refine Tail.enter (f := 13) 15 7 [0, 1] (fun w' => (w'.cell? ⟨bx, 0, none⟩ = some (.string x.f0) ∧ w'.cell? ⟨bx, 1, none⟩ = some (.bool x.f1.f0) ∧ w'.cell? ⟨bx, 2, none⟩ = some (.int .i64 x.f1.f1) ∧ w'.cell? ⟨bx, 3, none⟩ = some (.string x.f1.f2)) ∧ w'.cell? ⟨B, 15, none⟩ = some (.slice A6 in'.length c6) ∧ w'.cell? ⟨B, 16, none⟩ = some (.int .i64 (wtS in'))) (by decide +kernel) (by decide +kernel) ?_
  have hH : ((fun w' => (w'.cell? ⟨bx, 0, none⟩ = some (.string x.f0) ∧ w'.cell? ⟨bx, 1, none⟩ = some (.bool x.f1.f0) ∧ w'.cell? ⟨bx, 2, none⟩ = some (.int .i64 x.f1.f1) ∧ w'.cell? ⟨bx, 3, none⟩ = some (.string x.f1.f2)) ∧ w'.cell? ⟨B, 15, none⟩ = some (.slice A6 in'.length c6) ∧ w'.cell? ⟨B, 16, none⟩ = some (.int .i64 (wtS in')))) wc.drew := ⟨xb4 hbx, c15, c16⟩
  iterate 10
    (first | refine Tail.take (by decide +kernel) 2 (v := ?_) rfl hH ?_ ?_ | refine Tail.take (by decide +kernel) 3 (v := ?_) rfl hH ?_ ?_ | refine Tail.take (by decide +kernel) 4 (v := ?_) rfl hH ?_ ?_ | refine Tail.take (by decide +kernel) 5 (v := ?_) rfl hH ?_ ?_ | refine Tail.take (by decide +kernel) 6 (v := ?_) rfl hH ?_ ?_ | refine Tail.take (by decide +kernel) 9 (v := ?_) rfl hH ?_ ?_ | refine Tail.take (by decide +kernel) 10 (v := ?_) rfl hH ?_ ?_ | refine Tail.take (by decide +kernel) 11 (v := ?_) rfl hH ?_ ?_ | refine Tail.take (by decide +kernel) 12 (v := ?_) rfl hH ?_ ?_ | refine Tail.take (by decide +kernel) 13 (v := ?_) rfl hH ?_ ?_)
    rotate_left
    · intro w h; (try dsimp only at h); go_simp; (try with_reducible rfl)
    simp only [Act.put, List.setIfInBounds_toArray, List.set_cons_zero, List.set_cons_succ]
  refine Tail.one 7 rfl (by kernel_rfl) rfl (fun K hK => ?_)
  go_simp
  refine hK.out _ _ ⟨xb4 hbxa, c15a, c16a⟩ (fun hH => ?_)
  clear hK K
  try simp only [Act.put, List.setIfInBounds_toArray, List.set_cons_zero, List.set_cons_succ]
  refine Tail.one 8 rfl (by kernel_rfl) rfl (fun K hK => ?_)
  refine Kd.R_append_step k38 (w0 := w0) (W := wc.drew) w0.heap.size (by rfl) (.tmp 36) (.tmp 38) 27 38 (.agg #[.string (⟨#[]⟩ : ByteArray), .bool false, .int .i64 0, .string (⟨#[]⟩ : ByteArray)]) 48 (by rfl) Tryz.underlying27 info38 rfl (by decide) (by decide) (.slice A6 in'.length c6) in' x [.string x.f0, .bool x.f1.f0, .int .i64 x.f1.f1, .string x.f1.f2] (fun k => k ≠ B) (fun _ => False) (by rfl) (by rfl) (k38_mkM _ _ _ x) (fun _ hk => hk.elim) ?fresh H8.out.own H8.out.below H8.out.below.size ?len ?_
  case fresh => exact fun k hk e => by have h1 := HBW.out; have h2 : wc.heap.size ≤ k := hk; omega
  case len => have := HQ.out.2.1; omega
  intro v1 w2 ho1 hb1 hg1 hat1
  obtain ⟨A1, k1, hv1⟩ := Kd.R_slice ho1
  obtain ⟨N1, hN1⟩ : ∃ N1, (in' ++ [x]).length = N1 := ⟨_, rfl⟩
  rw [hN1] at hv1
  subst hv1
  clear hN1
  have BB := blk_grown H8.out.blk hg1 (Kd.R_away H8.out.own (fun k hk => hk))
  have hbxb := blk_grown hbx hg1 (fun e => Nat.lt_irrefl _ (HV.out bx e.symm))
  have c16b := (blk_cell BB 16).trans (bufC_16 hJ)
  refine hK.out _ _ ⟨xb4 hbxb, (blk_cell BB 15).trans (bufC_15 hJ), c16b⟩ (fun hH => ?_)
  clear hK K
  try simp only [Act.put, List.setIfInBounds_toArray, List.set_cons_zero, List.set_cons_succ]
  refine Tail.one 14 rfl (by kernel_rfl) rfl (fun K hK => ?_)
  go_simp
  go_at_call 35
  refine (WC.out _).mono ?_
  rintro e w3 ⟨rfl, hb3⟩
  have BC := blk_below BB hb3
  have hbxc := blk_below hbxb hb3
  have c15c := (blk_cell BC 15).trans (bufC_15 hJ)
  have c16c := (blk_cell BC 16).trans (bufC_16 hJ)
  have f15c := blk_frozen BC 15
  have f16c := blk_frozen BC 16
  have BD := blk_put BC 15 (.slice A1 N1 k1) (bufC_set15 hJ (.slice A1 N1 k1))
  have hbxd := (Below.heap_setCell w3 ⟨B, 15, none⟩ (.slice A1 N1 k1) bx HNE.out).trans hbxc
  have c16d := (blk_cell BD 16).trans (bufC_16 hJ)
  have f16d := blk_frozen BD 16
  have hbxe := (Below.heap_setCell (w3.setCell ⟨B, 15, none⟩ (.slice A1 N1 k1)) ⟨B, 16, none⟩ (.int .i64 (wtS in' + wtI x)) bx HNE.out).trans hbxd
  refine hK.out _ _ ⟨xb4 hbxc, c15c, c16c⟩ (fun hH => ?_)
  clear hK K
  try simp only [Act.put, List.setIfInBounds_toArray, List.set_cons_zero, List.set_cons_succ]
  refine Tail.fin (by decide +kernel) ?_
  refine wpAny_take (i := 15) (v := ?_) rfl (by kernel_rfl) (by kernel_rfl) (by kernel_rfl) (fun _ _ _ h => h) (Or.inl ⟨by rfl, ?_⟩) ?_
  rotate_left
  · intro w; go_simp; (try with_reducible rfl)
  simp only [Act.put, List.setIfInBounds_toArray, List.set_cons_zero, List.set_cons_succ]
  refine Tail.seq 16 (by kernel_rfl) ?_
  simp only [List.drop_succ_cons, List.drop_zero]
  go_wp2_with fail
  go_ret
  rw [HQ.out.1]
  exact ⟨rfl, _, _, H8.out.added hJ x ho1 hb1 hg1 hat1 hb3⟩
end
end Go.Proofs.YtebofnoljebakaaGreatDoor.XSort
namespace Go.Proofs.YtebofnoljebakaaGreatDoor.XSort
open Go.RowKit Go.Lib Go.Sort Go.Proofs.YtebofnoljebakaaGreatDoor.Stb Go.Proofs Go.Proofs.YtebofnoljebakaaGreatDoorW.PrintWords Go.Proofs.YtebofnoljebakaaGreatDoorW.PrintLast Go.Proofs.YtebofnoljebakaaGreatDoorW.PrintMore Go.Proofs.YtebofnoljebakaaGreatDoor.PX
def Fit (l : List It) : Prop := ∀ x ∈ l, x.f0.size ≤ 140737488351232 ∧ x.f1.f2.size ≤ 140737488351232
theorem st_bounds (lt : It → It → Bool) (m : Int) (l : List It) (hl : l.length < 1000) (hz : Fit l) (i : Nat) (hi : i ≤ l.length) :
    (runSt lt m (l.take i)).2.length < 1000 ∧ ((runSt lt m (l.take i)).1.length + 1) * 24 ≤ 140737488355328 ∧ (∀ y ∈ (runSt lt m (l.take i)).2, y ∈ l) ∧ wtS (runSt lt m (l.take i)).2 ≤ 1000000000000000000 := by
  obtain ⟨h1, h2, h3⟩ := runSt_mem lt m l i hi
  refine ⟨by omega, by omega, h3, ?_⟩
  have h4 := wtS_le 281474976702480 (runSt lt m (l.take i)).2 (fun x hx => by have := hz x (h3 x hx); unfold wtI; omega)
  have h5 : ((runSt lt m (l.take i)).2.length : Int) ≤ 1000 := by omega
  have h6 : ((runSt lt m (l.take i)).2.length : Int) * 281474976702480 ≤ 1000 * 281474976702480 := Int.mul_le_mul_of_nonneg_right h5 (by omega)
  omega
theorem rd_it (l : List It) {i : Nat} (h : i < l.length) : rd_T38 l (i : Int) = l[i] := by
  unfold rd_T38
  rw [Int.toNat_natCast, List.getD_eq_getElem?_getD, List.getElem?_eq_getElem h]
  rfl
attribute [local go_sem ↓ high] szJ
set_option maxHeartbeats 1000000 in
set_option maxRecDepth 100000 in
theorem runs_calls (v0 v1 v2 v3 v4 v5 v6 v7 v8 v9 v10 v11 v12 v13 : Value) (AH : ByteArray → ByteArray → Bool) (hS : SWO fun x y : It => AH x.f0 y.f0) (A : Option Addr) (c : Nat) (l : List It) (m : Int) (hm : ¬ m < 1) (W : World) (hr : Kd.C k38 W A l.length l) (hl : l.length < 1000) (hz : Fit l)
    (hA : AheadOn AH #[v0, v1, v2, v3, v4, v5, v6, v7, v8, v9, v10, v11, v12, v13] l W) :
    Calls Tryz.prog 25 #[.agg #[v0, v1, v2, v3, v4, v5, v6, v7, v8, v9, v10, v11, v12, v13], .slice A l.length c, .int .i64 m] W fun e w' => ∃ v, e = .returned (.tuple #[v, .int .i64 0]) ∧ Kd.R kR 27 w' W.heap.size (fun _ => True) v (runsP (fun x y : It => AH x.f0 y.f0) m l) ∧ Below W.heap.size W w' := by
  have hb1 := below_alloc (Below.refl W.heap.size W) (.cells #[v0, v1, v2, v3, v4, v5, v6, v7, v8, v9, v10, v11, v12, v13] 26)
  have L1 := load_job (J := #[v0, v1, v2, v3, v4, v5, v6, v7, v8, v9, v10, v11, v12, v13]) rfl (blk_new W (.cells #[v0, v1, v2, v3, v4, v5, v6, v7, v8, v9, v10, v11, v12, v13] 26))
  have hJ : #[v0, v1, v2, v3, v4, v5, v6, v7, v8, v9, v10, v11, v12, v13].size = 14 := rfl
  have NC := Lib.hid (new_buf v0 v1 v2 v3 v4 v5 v6 v7 v8 v9 v10 v11 v12 v13 m hm)
  generalize hJJ : #[v0, v1, v2, v3, v4, v5, v6, v7, v8, v9, v10, v11, v12, v13] = J at *
  clear hJJ
  have HA := Lib.hid hA
  have HR := Lib.hid hr
  have HZ := Lib.hid hz
  have HB := Lib.hid hb1
  clear hA hr hz hb1
  go_enter Tryz.func25, Tryz.ntmps25
  go_wp2_with (go_at_call 27; refine (NC.out _).mono ?_; rintro e w1 ⟨g, rfl, h1⟩; have H1 := Lib.hid h1; clear h1)
  go_loopg [23] l.length (fun kx s23 wr => ∃ i : Nat, s23 = .int .i64 i ∧ i ≤ l.length ∧ l.length - i ≤ kx ∧ ∃ vin vr, Aside (Buf (W.alloc (.cells J 26)) g J m (runSt (fun x y : It => AH x.f0 y.f0) m (l.take i)).2 (wtS (runSt (fun x y : It => AH x.f0 y.f0) m (l.take i)).2) (runSt (fun x y : It => AH x.f0 y.f0) m (l.take i)).1 vin vr wr))
  case atStart => exact ⟨0, rfl, Nat.zero_le _, Nat.le_refl _, _, _, H1.out⟩
  case round =>
    clear H1
    obtain ⟨i, rfl, hil, hik, vin, vr, H⟩ := hrel
    obtain ⟨q1, q2, q3, q4⟩ := st_bounds (fun x y : It => AH x.f0 y.f0) m l hl HZ.out i hil
    have HBr := Lib.hid (HB.out.trans (H.out.below.mono HB.out.size))
    by_cases hlt : i < l.length
    · have hltz : (i : Int) < (l.length : Int) := by omega
      have hi0 : ¬ ((i : Int) < 0) := by omega
      obtain ⟨ad, rfl, g0, g1, g2, g3⟩ := at_T38 (Kd.C_below HR.out HBr.out) (i : Int) (by omega) hltz
      rw [rd_it l hlt, Int.toNat_natCast] at g0 g1 g2 g3
      obtain ⟨x, hx⟩ : ∃ x, x = l[i] := ⟨_, rfl⟩
      rw [← hx] at g0 g1 g2 g3
      have hmem : x ∈ l := by rw [hx]; exact List.getElem_mem hlt
      have hz := HZ.out x hmem
      have AC := Lib.hid (fun W' (h : Buf (W.alloc (.cells J 26)) g J m (runSt (fun x y : It => AH x.f0 y.f0) m (l.take i)).2 (wtS (runSt (fun x y : It => AH x.f0 y.f0) m (l.take i)).2) (runSt (fun x y : It => AH x.f0 y.f0) m (l.take i)).1 vin vr W') => add_calls AH hS hJ x hz.1 hz.2 h q1 q4 q2 (fun W'' hb y hy z hz => HA.out W'' ((HB.out.trans (h.below.mono HB.out.size)).trans (hb.mono (HB.out.trans (h.below.mono HB.out.size)).size)) y (q3 y hy) z (q3 z hz)))
      have hsucc := runSt_succ (fun x y : It => AH x.f0 y.f0) m l hlt
      rw [← hx] at hsucc
      have HSU := Lib.hid hsucc
      clear hsucc hx hz hmem q1 q2 q3 q4
      go_upto_region 7 with fail
      have hbx := blk_new wr (.cells #[.string x.f0, .bool x.f1.f0, .int .i64 x.f1.f1, .string x.f1.f2] 38)
      have H7 := Lib.hid (H.out.then_ (below_alloc (Below.refl wr.heap.size wr) (.cells #[.string x.f0, .bool x.f1.f0, .int .i64 x.f1.f1, .string x.f1.f2] 38)))
      clear g0 g1 g2 g3
      have x0 := (blk_cell hbx 0).trans rfl
      have x1 := (blk_cell hbx 1).trans rfl
      have x2 := (blk_cell hbx 2).trans rfl
      have x3 := (blk_cell hbx 3).trans rfl
      clear hbx
      go_wp2_with (go_at_call 22; refine (AC.out _ H7.out).mono ?_; rintro e w2 ⟨rfl, vin2, vr2, h2⟩; have H2 := Lib.hid h2; clear h2)
      go_roundg (l.length - (i + 1))
      case measure => omega
      case rel =>
        refine ⟨i + 1, by go_num, by omega, Nat.le_refl _, vin2, vr2, ?_⟩
        rw [HSU.out]
        exact H2.out
    · obtain rfl : i = l.length := by omega
      have hltz : ¬ ((l.length : Nat) : Int) < (l.length : Int) := by omega
      have CF := Lib.hid (flush_calls AH hS hJ H.out (Nat.lt_trans q1 (by decide)) q2 (fun W' hb x hx y hy => HA.out W' (HBr.out.trans (hb.mono HBr.out.size)) x (q3 x hx) y (q3 y hy)))
      clear q1 q2 q3 q4
      go_wp2_with (go_at_call 23; refine CF.out.mono ?_; rintro e w2 ⟨v, rfl, hv, h2⟩; have H2 := Lib.hid h2; have HV := Lib.hid hv; obtain ⟨Av, cv, rfl⟩ := Kd.R_slice hv; clear hv h2)
      go_ret2
      have e : runSt (fun x y : It => AH x.f0 y.f0) m (l.take l.length) = runSt (fun x y : It => AH x.f0 y.f0) m l := by rw [List.take_length]
      have hv := HV.out
      rw [e] at hv
      exact ⟨_, rfl, Kd.R_mono (Kd.R_lower hv HB.out.size) (fun _ _ => trivial), HB.out.trans (H2.out.below.mono HB.out.size)⟩
end Go.Proofs.YtebofnoljebakaaGreatDoor.XSort
namespace Go.Proofs.YtebofnoljebakaaGreatDoor.Stb
open Go.RowKit Go.Sort Go.Proofs Go.Proofs.YtebofnoljebakaaGreatDoor.PX
theorem insRef_len (lt : XSort.It → XSort.It → Bool) (x : XSort.It) : ∀ l : List XSort.It, (insRef lt x l).length = l.length + 1
  | [] => rfl
  | y :: t => by
    rw [insRef]
    split
    · rfl
    · rw [List.length_cons, List.length_cons, insRef_len lt x t]
theorem foldIns_len (lt : XSort.It → XSort.It → Bool) : ∀ l out : List XSort.It, (l.foldl (fun o x => insRef lt x o) out).length = l.length + out.length
  | [], _ => by simp
  | x :: t, out => by rw [List.foldl_cons, foldIns_len lt t, insRef_len, List.length_cons]; omega
theorem sortRef_len (lt : XSort.It → XSort.It → Bool) (l : List XSort.It) : (sortRef lt l).length = l.length := by
  have := foldIns_len lt l []
  rw [List.length_nil, Nat.add_zero] at this
  exact this
section
variable (lt : XSort.It → XSort.It → Bool) (most : Int) (l : List XSort.It)
theorem runStep_held (p : List (List XSort.It) × List XSort.It) (x : XSort.It) : wtI x ≤ wtS (runStep lt most p x).2 ∧ (wtS (runStep lt most p x).2 > most → wtS (runStep lt most p x).2 = wtI x) ∧ (runStep lt most p x).1.length = p.1.length + (if p.2 ≠ [] ∧ wtS p.2 + wtI x > most then 1 else 0) := by
  unfold runStep
  by_cases c : p.2 ≠ [] ∧ wtS p.2 + wtI x > most
  · rw [if_pos c, if_pos c]
    simp only [wtS_one]
    exact ⟨Int.le_refl _, fun _ => trivial, by rw [List.length_append, List.length_singleton]⟩
  · rw [if_neg c, if_neg c]
    simp only [wtS_append, wtS_one]
    refine ⟨by have := wtS_nonneg p.2; omega, fun h => ?_, rfl⟩
    have : p.2 = [] := Classical.byContradiction fun z => c ⟨z, h⟩
    rw [this, wtS_nil]; omega
theorem runSt_some' {l : List XSort.It} (h : l ≠ []) : (runSt lt most l).2 ≠ [] := by
  have h0 := List.length_pos_iff.2 h
  have := runSt_succ lt most l (show l.length - 1 < l.length by omega)
  rw [show l.length - 1 + 1 = l.length by omega, List.take_length] at this
  rw [this]
  exact (runStep_len lt most _ _).2.2
theorem runsP_len : (runsP lt most l).length = (runSt lt most l).1.length + (if l = [] then 0 else 1) := by
  unfold runsP runFlush
  cases l with
  | nil => rfl
  | cons y t =>
    have := runSt_some' lt most (l := y :: t) (by simp)
    rw [if_neg this, if_neg (by simp), List.length_append, List.length_singleton]
end
section
variable {lt lt' : XSort.It → XSort.It → Bool} {most : Int}
theorem runFold_congr {L : List XSort.It} (h : ∀ x ∈ L, ∀ y ∈ L, lt x y = lt' x y) : ∀ (l : List XSort.It) (p : List (List XSort.It) × List XSort.It), (∀ x ∈ l, x ∈ L) → (∀ x ∈ p.2, x ∈ L) → runFlush lt (l.foldl (runStep lt most) p) = runFlush lt' (l.foldl (runStep lt' most) p)
  | [], p, _, hp => by
    rw [List.foldl_nil, List.foldl_nil]
    unfold runFlush
    rw [sort_congr p.2 fun x hx y hy => h x (hp x hx) y (hp y hy)]
  | x :: t, p, hl, hp => by
    rw [List.foldl_cons, List.foldl_cons]
    have e : runStep lt most p x = runStep lt' most p x := by
      unfold runStep
      rw [sort_congr p.2 fun x hx y hy => h x (hp x hx) y (hp y hy)]
    rw [← e]
    refine runFold_congr h t _ (fun y hy => hl y (List.mem_cons_of_mem _ hy)) (fun y hy => ?_)
    rcases runStep_mem lt most hy with z | z
    · exact hp y z
    · rw [z]; exact hl x List.mem_cons_self
theorem runsP_congr (l : List XSort.It) (h : ∀ x ∈ l, ∀ y ∈ l, lt x y = lt' x y) : runsP lt most l = runsP lt' most l := runFold_congr h l ([], []) (fun _ hx => hx) (fun _ hx => by cases hx)
end
theorem runStep_all (lt : XSort.It → XSort.It → Bool) (most : Int) (n : Nat) (p : List (List XSort.It) × List XSort.It) (x : XSort.It) (h1 : ∀ r ∈ p.1, r.length ≤ n) (h2 : p.2.length ≤ n) : ∀ r ∈ (runStep lt most p x).1, r.length ≤ n := by
  intro r hr
  unfold runStep at hr
  split at hr
  · rcases List.mem_append.1 hr with z | z
    · exact h1 r z
    · rw [List.mem_singleton.1 z]
      have : (sortRef lt p.2).length = p.2.length := sortRef_len lt p.2
      omega
  · exact h1 r hr
theorem runSt_all (lt : XSort.It → XSort.It → Bool) (most : Int) (l : List XSort.It) : ∀ i, i ≤ l.length → ∀ r ∈ (runSt lt most (l.take i)).1, r.length ≤ l.length
  | 0, _ => by rw [List.take_zero]; intro r hr; cases hr
  | i + 1, hi => by
    rw [runSt_succ lt most l (show i < l.length by omega)]
    have h := runSt_mem lt most l i (by omega)
    exact runStep_all lt most l.length _ _ (runSt_all lt most l i (by omega)) (by omega)
theorem runsP_all (lt : XSort.It → XSort.It → Bool) (most : Int) (l : List XSort.It) : (∀ r ∈ runsP lt most l, r.length ≤ l.length) ∧ (runsP lt most l).length ≤ l.length + 1 := by
  have h1 := runSt_all lt most l l.length (Nat.le_refl _)
  have h2 := runSt_mem lt most l l.length (Nat.le_refl _)
  rw [List.take_length] at h1 h2
  unfold runsP runFlush
  split
  · exact ⟨h1, by omega⟩
  · refine ⟨fun r hr => ?_, by rw [List.length_append, List.length_singleton]; omega⟩
    rcases List.mem_append.1 hr with z | z
    · exact h1 r z
    · rw [List.mem_singleton.1 z]
      have : (sortRef lt (runSt lt most l).2).length = (runSt lt most l).2.length := sortRef_len lt _
      omega
end Go.Proofs.YtebofnoljebakaaGreatDoor.Stb
namespace Go.Proofs.YtebofnoljebakaaGreatDoor.XSort
open Go.RowKit Go.Lib Go.Sort Go.Proofs.YtebofnoljebakaaGreatDoor.Stb Go.Proofs Go.Proofs.YtebofnoljebakaaGreatDoorW.PrintWords Go.Proofs.YtebofnoljebakaaGreatDoorW.PrintLast Go.Proofs.YtebofnoljebakaaGreatDoorW.PrintMore Go.Proofs.YtebofnoljebakaaGreatDoor.PX
abbrev It8 := S74
abbrev k8 := k74
abbrev kR8 := Kd.slice 74 k8
structure St (J : Array Value) (W w' : World) : Prop where
  b : Below W.heap.size W w'
  j : w'.heap[W.heap.size]? = some (.cells J 26 (0, 0))
theorem St.t {J : Array Value} {W w1 w2 : World} (h : St J W w1) (hb : Below w1.heap.size w1 w2) : St J W w2 := ⟨h.b.trans (hb.mono h.b.size), blk_below h.j hb⟩
theorem St.l {J : Array Value} {W w1 : World} (hJ : J.size = 14) (h : St J W w1) : Sem.run Tryz.prog (loadCellsFrom ⟨W.heap.size, 0, none⟩ 0 kJ #[]) w1 = .ok J w1 := load_job hJ h.j
abbrev Tell (W : World) (f : FuncId) (vs : Array Value) (v : Value) : Prop := ∀ W', Below W.heap.size W W' → Calls Tryz.prog f vs W' fun e w' => e = .returned v ∧ Below W'.heap.size W' w'
structure Env (J : Array Value) (A : Option Addr) (n c : Nat) (was : List It8) (x8 y8 : List (List It8)) (m e2 : Int) (W : World) : Prop where
  li : Tell W 7 #[.agg J] (.bool true)
  fe : Tell W 8 #[.slice A n c] (.bool true)
  al : Tell W 9 #[] (.bool true)
  it : ∀ W', Below W.heap.size W W' → Calls Tryz.prog 13 #[.slice A n c] W' fun e w' => ∃ v, e = .returned v ∧ Kd.R k8 74 w' W'.heap.size (fun _ => True) v was ∧ Below W'.heap.size W' w'
  pl : ∀ W', Calls Tryz.prog 17 #[.agg J] W' fun e w' => e = .returned (.agg J) ∧ Below W'.heap.size W' w'
  rr : ∀ W' A' c', Below W.heap.size W W' → Kd.C k8 W' A' was.length was → was.length ≤ c' → Calls Tryz.prog 26 #[.agg J, .slice A' was.length c', .int .i64 m] W' fun e w' => ∃ v, e = .returned (.tuple #[v, .int .i64 e2]) ∧ Kd.S kR8 34 w' W'.heap.size (fun _ => True) v y8 ∧ Below W'.heap.size W' w'
  sr : ∀ W' A1 c1 A2 c2, Below W.heap.size W W' → Kd.C kR8 W' A1 x8.length x8 → x8.length ≤ c1 → Kd.C kR8 W' A2 y8.length y8 → y8.length ≤ c2 → Calls Tryz.prog 28 #[.slice A1 x8.length c1, .slice A2 y8.length c2] W' fun e w' => e = .returned (.bool true) ∧ Below W'.heap.size W' w'
attribute [local go_sem ↓ high] szJ
set_option maxHeartbeats 4000000 in
set_option maxRecDepth 100000 in
theorem runs_walk (v0 v1 v2 v3 v4 v5 v6 v7 v8 v9 v10 v11 v12 v13 : Value) (AH : ByteArray → ByteArray → Bool) (hS : SWO fun x y : It => AH x.f0 y.f0) (A : Option Addr) (c : Nat) (l : List It) (m : Int) (hm : ¬ m < 1) (was : List It8) (rs : List (List It)) (x8 y8 : List (List It8)) (hrs : rs = runsP (fun x y : It => AH x.f0 y.f0) m l) (W : World) (hr : Kd.C k38 W A l.length l) (hc : l.length ≤ c) (hl : l.length < 1000) (hz : Fit l)
    (E : Env #[v0, v1, v2, v3, v4, v5, v6, v7, v8, v9, v10, v11, v12, v13] A l.length c was x8 y8 m 0 W)
    (hRu : ∀ W' A' c', Below W.heap.size W W' → Kd.C kR W' A' rs.length rs → rs.length ≤ c' → Calls Tryz.prog 29 #[.slice A' rs.length c'] W' fun e w' => ∃ v, e = .returned v ∧ Kd.S kR8 34 w' W'.heap.size (fun _ => True) v x8 ∧ Below W'.heap.size W' w')
    (hWe : ∀ W' A' c' (x : It), x ∈ l → Below W.heap.size W W' → Kd.C k38 W' A' 1 [x] → 1 ≤ c' → Calls Tryz.prog 19 #[.slice A' 1 c'] W' fun e w' => e = .returned (.int .i64 (wtI x)) ∧ Below W'.heap.size W' w')
    (hA : AheadOn AH #[v0, v1, v2, v3, v4, v5, v6, v7, v8, v9, v10, v11, v12, v13] l W) :
    Calls Tryz.prog 6 #[.agg #[v0, v1, v2, v3, v4, v5, v6, v7, v8, v9, v10, v11, v12, v13], .slice A l.length c, .int .i64 m] W fun e w' => e = .returned (.bool true) ∧ Below W.heap.size W w' := by
  have mixed : Tryz.prog.follows .mixedOrders = true := by kernel_rfl
  have hJ : #[v0, v1, v2, v3, v4, v5, v6, v7, v8, v9, v10, v11, v12, v13].size = 14 := rfl
  have NC := Lib.hid (new_buf v0 v1 v2 v3 v4 v5 v6 v7 v8 v9 v10 v11 v12 v13 m hm)
  have RC := Lib.hid (fun W' (hb : Below W.heap.size W W') => runs_calls v0 v1 v2 v3 v4 v5 v6 v7 v8 v9 v10 v11 v12 v13 AH hS A c l m hm W' (Kd.C_below hr hb) hl hz (fun W'' hb' => hA W'' (hb.trans (hb'.mono hb.size))))
  rw [← hrs] at RC
  generalize hJJ : #[v0, v1, v2, v3, v4, v5, v6, v7, v8, v9, v10, v11, v12, v13] = J at *
  clear hJJ
  have HB := Lib.hid (show St J W (W.alloc (.cells J 26)) from ⟨below_alloc (Below.refl W.heap.size W) _, blk_new W _⟩)
  have L := St.l hJ HB.out
  have HR := Lib.hid hr; have HC := Lib.hid hc; have HZ := Lib.hid hz; have HRS := Lib.hid hrs
  have CLi := Lib.hid E.li; have CFe := Lib.hid E.fe; have CAl := Lib.hid E.al; have CIt := Lib.hid E.it; have CPl := Lib.hid E.pl; have CRr := Lib.hid E.rr; have CRu := Lib.hid hRu; have CSr := Lib.hid E.sr; have CWe := Lib.hid hWe; have HA := Lib.hid hA
  clear E hRu hWe hA hr hz hrs
  go_enter Tryz.func6, Tryz.ntmps6
  go_upto_region 6 with (first
    | (go_at_call 7; refine (CLi.out _ HB.out.b).mono ?_; rintro e w1 ⟨rfl, hb⟩; (have n := HB.out.t hb; clear HB L; have HB := Lib.hid n; have L := St.l hJ HB.out; clear n hb))
    | (go_at_call 8; refine (CFe.out _ HB.out.b).mono ?_; rintro e w2 ⟨rfl, hb⟩; (have n := HB.out.t hb; clear HB L; have HB := Lib.hid n; have L := St.l hJ HB.out; clear n hb))
    | (go_at_call 25; refine (RC.out _ HB.out.b).mono ?_; rintro e w3 ⟨v, rfl, hR, hb⟩; (have n := HB.out.t hb; clear HB L; have HB := Lib.hid n; have L := St.l hJ HB.out; clear n hb); obtain ⟨Ax, cx, rfl⟩ := Kd.R_slice hR; have hRR := Kd.R_reads' hR; have HXc := Lib.hid hRR.2.1; have HX := Lib.hid hRR.2.2; clear hR hRR)
    | (go_at_call 17; refine (CPl.out _).mono ?_; rintro e w4 ⟨rfl, hb⟩; (have n := HB.out.t hb; have n3 := Kd.C_below HX.out hb; clear HB L HX; have HB := Lib.hid n; have HX := Lib.hid n3; have L := St.l hJ HB.out; clear n n3 hb))
    | (go_at_call 13; refine (CIt.out _ HB.out.b).mono ?_; rintro e w5 ⟨v, rfl, hR, hb⟩; (have n := HB.out.t hb; have n3 := Kd.C_below HX.out hb; clear HB L HX; have HB := Lib.hid n; have HX := Lib.hid n3; have L := St.l hJ HB.out; clear n n3 hb); obtain ⟨Aw, cw, rfl⟩ := Kd.R_slice hR; have hRR := Kd.R_reads' hR; have HWc := Lib.hid hRR.2.1; have HW := Lib.hid hRR.2.2; clear hR hRR)
    | (go_at_call 26; refine (CRr.out _ _ _ HB.out.b HW.out HWc.out).mono ?_; rintro e w6 ⟨v, rfl, hR, hb⟩; (have n := HB.out.t hb; have n3 := Kd.C_below HX.out hb; clear HB L HX; have HB := Lib.hid n; have HX := Lib.hid n3; have L := St.l hJ HB.out; clear n n3 hb); obtain ⟨Ay, cy, rfl⟩ := Kd.S_slice hR; have hRR := Kd.S_reads' hR; have HYc := Lib.hid hRR.2.1; have HY := Lib.hid hRR.2.2; clear hR hRR HW)
    | (go_at_call 27; refine (NC.out _).mono ?_; rintro e w7 ⟨g, rfl, h7⟩; have HB6 := Lib.hid HB.out.b; have HY6 := HY; have H7 := Lib.hid h7; have hb := h7.below; (have n := HB.out.t hb; have n3 := Kd.C_below HX.out hb; clear HB L HX; have HB := Lib.hid n; have HX := Lib.hid n3; have L := St.l hJ HB.out; clear n n3 hb); clear h7))
  go_wp2_with (first
    | (go_at_call 29; refine (CRu.out _ _ _ HB.out.b HX.out HXc.out).mono ?_; rintro e w8 ⟨v, rfl, hR, hb⟩; have h8 := H7.out.then_ hb; clear H7; have H7 := Lib.hid h8; (have n := HB.out.t hb; have n3 := Kd.C_below HX.out hb; clear HB L HX; have HB := Lib.hid n; have HX := Lib.hid n3; have L := St.l hJ HB.out; clear n n3 hb); obtain ⟨Az, cz, rfl⟩ := Kd.S_slice hR; have hRR := Kd.S_reads' hR; have HZc := Lib.hid hRR.2.1; have HZz := Lib.hid hRR.2.2; clear hR hRR h8)
    | (go_at_call 28; refine (CSr.out _ _ _ _ _ HB.out.b HZz.out HZc.out (Kd.C_below HY6.out H7.out.below) HYc.out).mono ?_; rintro e w9 ⟨rfl, hb⟩; have h8 := H7.out.then_ hb; clear H7; have H7 := Lib.hid h8; (have n := HB.out.t hb; have n3 := Kd.C_below HX.out hb; clear HB L HX; have HB := Lib.hid n; have HX := Lib.hid n3; have L := St.l hJ HB.out; clear n n3 hb); clear h8 HZz HZc))
  clear L
  go_loopg [13, 14] l.length (fun kx s13 s14 wr => ∃ i : Nat, s14 = .int .i64 i ∧ i ≤ l.length ∧ l.length - i ≤ kx ∧ s13 = .int .i64 (((runSt (fun x y : It => AH x.f0 y.f0) m (l.take i)).1.length : Nat) : Int) ∧ ∃ vin vr, Aside (Buf w6 g J m (runSt (fun x y : It => AH x.f0 y.f0) m (l.take i)).2 (wtS (runSt (fun x y : It => AH x.f0 y.f0) m (l.take i)).2) (runSt (fun x y : It => AH x.f0 y.f0) m (l.take i)).1 vin vr wr))
  case atStart => exact ⟨0, rfl, Nat.zero_le _, Nat.le_refl _, rfl, _, _, H7.out⟩
  case round =>
    clear H7 HB HX
    obtain ⟨i, rfl, hil, hik, rfl, vin, vr, H⟩ := hrel
    obtain ⟨q1, q2, q3, q4⟩ := st_bounds (fun x y : It => AH x.f0 y.f0) m l hl HZ.out i hil
    have HBr := Lib.hid (HB6.out.trans (H.out.below.mono HB6.out.size))
    by_cases hlt : i < l.length
    · have hltz : (i : Int) < (l.length : Int) := by omega
      have hi0 : ¬ ((i : Int) < 0) := by omega
      have hC := Kd.C_below HR.out HBr.out
      obtain ⟨ad, rfl, g0, g1, g2, g3⟩ := at_T38 hC (i : Int) (by omega) hltz
      rw [rd_it l hlt, Int.toNat_natCast] at g0 g1 g2 g3
      obtain ⟨x, hx⟩ : ∃ x, x = l[i] := ⟨_, rfl⟩
      rw [← hx] at g0 g1 g2 g3
      have hmem : x ∈ l := by rw [hx]; exact List.getElem_mem hlt
      have hz := HZ.out x hmem
      have hAC := add_calls AH hS hJ x hz.1 hz.2 H.out q1 q4 q2 (fun W'' hb y hy z hz => HA.out W'' (HBr.out.trans (hb.mono HBr.out.size)) y (q3 y hy) z (q3 z hz))
      obtain ⟨full, hfull⟩ : ∃ b, b = decide ((runSt (fun x y : It => AH x.f0 y.f0) m (l.take i)).2 ≠ [] ∧ wtS (runSt (fun x y : It => AH x.f0 y.f0) m (l.take i)).2 + wtI x > m) := ⟨_, rfl⟩
      rw [← hfull] at hAC
      have hsucc := runSt_succ (fun x y : It => AH x.f0 y.f0) m l hlt
      rw [← hx] at hsucc
      obtain ⟨e1, e2, e3⟩ := runStep_held (fun x y : It => AH x.f0 y.f0) m (runSt (fun x y : It => AH x.f0 y.f0) m (l.take i)) x
      rw [← hsucc] at e1 e2 e3
      have AC := Lib.hid hAC
      have HSU := Lib.hid hsucc
      have HF := Lib.hid hfull
      have HM := Lib.hid hmem
      have E2 := Lib.hid e2
      have E3 := Lib.hid e3
      have Q2 := Lib.hid q2
      -- the row of one
      obtain ⟨ti, hti, _, hsz, _⟩ := info_parts info38
      have hcut := cut_mid (P := Tryz.prog) 27 38 .i64 .i64 Tryz.underlying27 hti 4 hsz (some ad) l.length c (i : Int) ((i : Int) + 1) (by omega) (by omega) (by omega) HC.out
      have hC1 := fun W' (hb : Below W.heap.size W W') => Kd.C_mid (lo := i) (hi := i + 1) (c := c) (Kd.C_below HR.out hb) (by omega) (by omega) HC.out
      have hcon : (l.take (i + 1)).drop i = [x] := by
        rw [List.take_add_one, List.getElem?_eq_getElem hlt, List.drop_append_of_le_length (by rw [List.length_take]; omega), List.drop_of_length_le (by rw [List.length_take]; omega), hx]; rfl
      simp only [hcon] at hC1
      rw [show ((i : Int) + 1).toNat = i + 1 by omega, Int.toNat_natCast, show i + 1 - i = 1 by omega] at hcut
      obtain ⟨A17, hA17⟩ : ∃ A_, A_ = (if c = i then some ad else (some ad : Option Addr).map (·.add (i * 4))) := ⟨_, rfl⟩
      obtain ⟨c17, hc17⟩ : ∃ c_, c_ = c - i := ⟨_, rfl⟩
      have hC17 : ∀ W', Below W.heap.size W W' → Kd.C k38 W' A17 1 [x] := by rw [hA17]; exact hC1
      rw [← hA17, ← hc17] at hcut
      have hcc : 1 ≤ c17 := by have := HC.out; omega
      have HC17 := Lib.hid hC17
      have HCC := Lib.hid hcc
      clear hcc hA17 hc17 hC17 hC1 hcon hti hsz hAC hsucc hfull hmem hz hx q1 q2 q3 q4 hC e2 e3
      go_upto_if 82 with (go_at_call 22; refine AC.out.mono ?_; rintro e w10 ⟨rfl, vin2, vr2, h2⟩; rw [← HSU.out] at h2; have H2 := Lib.hid h2; clear h2)
      trace_state
      go_cut [13] (fun s13 wx => s13 = .int .i64 (((runSt (fun x y : It => AH x.f0 y.f0) m (l.take (i + 1))).1.length : Nat) : Int) ∧ Aside (Buf w6 g J m (runSt (fun x y : It => AH x.f0 y.f0) m (l.take (i + 1))).2 (wtS (runSt (fun x y : It => AH x.f0 y.f0) m (l.take (i + 1))).2) (runSt (fun x y : It => AH x.f0 y.f0) m (l.take (i + 1))).1 vin2 vr2 wx))
      case first =>
        have hf := HF.out
        have h3 := E3.out
        cases full with
        | false =>
          have hf := of_decide_eq_false hf.symm
          rw [if_neg hf] at h3
          have h3 := h3.trans (Nat.add_zero _)
          go_wp2_with fail
          go_meet
          exact ⟨by rw [h3], H2.out⟩
        | true =>
          have hf := of_decide_eq_true hf.symm
          rw [if_pos hf] at h3
          go_wp2_with fail
          go_meet
          have hw : wrap64 ((((runSt (fun x y : It => AH x.f0 y.f0) m (l.take i)).1.length : Nat) : Int) + 1) = (((runSt (fun x y : It => AH x.f0 y.f0) m (l.take i)).1.length + 1 : Nat) : Int) := by have hq2 := Q2.out; unfold wrap64; omega
          exact ⟨by rw [h3, hw], H2.out⟩
      case rest =>
      obtain ⟨rfl, H2'⟩ := hcut
      clear H2 AC HF HSU
      have H3 := Lib.hid (H2'.out.then_ (below_drew (Below.refl _ _)))
      have hwr1 : IntKind.i64.wrap ((i : Int) + 1) = (i : Int) + 1 := by rw [IntKind.wrap_i64]; omega
      have hle1 : ¬ wtS (runSt (fun x y : It => AH x.f0 y.f0) m (l.take (i + 1))).2 < wtI x := by omega
      clear e1
      clear H3
      have hH : ∀ p : BB wc, Calls Tryz.prog 24 #[.pointer (some ⟨g, 0, none⟩)] p.W fun e w' => e = .returned (.int .i64 (wtS (runSt (fun x y : It => AH x.f0 y.f0) m (l.take (i + 1))).2)) ∧ _root_.Go.RowKit.Below p.W.heap.size p.W w' := fun p => (held_calls hJ (H2'.out.then_ p.h)).mono fun e w' h => ⟨h.1, by rw [h.2]; exact Below.refl _ _⟩
      have hW : ∀ p : BB wc, Calls Tryz.prog 19 #[.slice A17 1 c17] p.W fun e w' => e = .returned (.int .i64 (wtI x)) ∧ _root_.Go.RowKit.Below p.W.heap.size p.W w' := fun p => CWe.out p.W A17 c17 x HM.out (HB6.out.trans ((H2'.out.then_ p.h).below.mono HB6.out.size)) (HC17.out _ (HB6.out.trans ((H2'.out.then_ p.h).below.mono HB6.out.size))) HCC.out
      generalize hHH : wtS (runSt (fun x y : It => AH x.f0 y.f0) m (l.take (i + 1))).2 = hh at *
      go_wp2_with fail
      rcases Classical.em (hh > m) with hgt | hgt
      case' inl =>
        have hq : hh = wtI x := E2.out hgt
        have hgtx : m < wtI x := by omega
      case' inr =>
        have hgt' : hh ≤ m := by omega
        have hd1 : ∀ i : Decidable (hh < wtI x), @decide (hh < wtI x) i = false := fun i => @decide_eq_false _ i (by omega)
        have hd2 : ∀ i : Decidable (m < hh), @decide (m < hh) i = false := fun i => @decide_eq_false _ i (by omega)
        have hd3 : ∀ i : Decidable (hh > m), @decide (hh > m) i = false := fun i => @decide_eq_false _ i (by omega)
      all_goals
        (refine wp_quiet_bb mixed (by kernel_rfl) ?_
         iterate 26 (first | go_big_quiet_skip | quiet_step (first | (go_at_call 24; refine Calls.bb (hH _)) | (go_at_call 19; refine Calls.bb (hW _))))
         refine wpQuiet_nil ?_
         intro _ hw'
         obtain ⟨pq, hw''⟩ := hw'
         subst hw''
         clear hH hW
         have H3 := Lib.hid (H2'.out.then_ pq.h)
         generalize pq.W = w2 at H3 ⊢
         go_wp2_with fail
         go_roundg (l.length - (i + 1))
         case measure => omega
         case rel => exact ⟨i + 1, rfl, by omega, Nat.le_refl _, rfl, vin2, vr2, by rw [hHH]; exact H3.out⟩)
    · obtain rfl : i = l.length := by omega
      have hltz : ¬ ((l.length : Nat) : Int) < (l.length : Int) := by omega
      rw [List.take_length] at H q1 q2 q3
      simp only [List.take_length] at q4
      have hCF := flush_calls AH hS hJ H.out (Nat.lt_trans q1 (by decide)) q2 (fun W' hb x hx y hy => HA.out W' (HBr.out.trans (hb.mono HBr.out.size)) x (q3 x hx) y (q3 y hy))
      have CF := Lib.hid hCF
      have hn := runsP_len (fun x y : It => AH x.f0 y.f0) m l
      rw [← HRS.out] at hn
      have HN := Lib.hid hn
      have Q2 := Lib.hid q2
      clear H hCF hn q1 q2 q3 q4
      go_upto_region 21 with (go_at_call 23; refine CF.out.mono ?_; rintro e w13 ⟨v, rfl, hv, h3⟩; have H3 := Lib.hid h3; have hv : Kd.R kR 27 w13 w6.heap.size (fun k => k ≠ g) v rs := (by rw [HRS.out]; exact hv); obtain ⟨Az, cz, rfl⟩ := Kd.R_slice hv; have hRR := Kd.R_reads' hv; have HXc := Lib.hid hRR.2.1; have HX := Lib.hid hRR.2.2; clear hv h3 hRR)
      clear hv
      rcases Classical.em (l = []) with hl0 | hl0
      case' inl =>
        subst hl0
        have hn0 : (runSt (fun x y : It => AH x.f0 y.f0) m []).1.length = 0 := rfl
      case' inr =>
        have hne : ¬ (((l.length : Nat) : Int) = 0) := by have := List.length_pos_iff.2 hl0; omega
        have hnb : ((((l.length : Nat) : Int)) == 0) = false := by simp [hl0]
        have hwz : IntKind.i64.wrap (((rs.length : Nat) : Int) - 1) = (((runSt (fun x y : It => AH x.f0 y.f0) m l).1.length : Nat) : Int) := by
          have h1 := HN.out
          have h2 := Q2.out
          rw [if_neg hl0] at h1
          rw [IntKind.wrap_i64]
          omega
      all_goals
        (go_wp2_with (first
          | (go_at_call 9; refine (CAl.out _ (HB6.out.trans (H3.out.below.mono HB6.out.size))).mono ?_; rintro e w14 ⟨rfl, hb⟩; have h4 := H3.out.then_ hb; have h5 := Kd.C_below HX.out hb; clear H3 HX; have H3 := Lib.hid h4; have HX := Lib.hid h5; clear h4 h5; clear hb)
          | (go_at_call 29; refine (CRu.out _ _ _ (HB6.out.trans (H3.out.below.mono HB6.out.size)) HX.out HXc.out).mono ?_; rintro e w15 ⟨v, rfl, hR, hb⟩; have h4 := H3.out.then_ hb; have h5 := Kd.C_below HX.out hb; clear H3 HX; have H3 := Lib.hid h4; have HX := Lib.hid h5; clear h4 h5; obtain ⟨Au, cu, rfl⟩ := Kd.S_slice hR; have hRR := Kd.S_reads' hR; have HUc := Lib.hid hRR.2.1; have HU := Lib.hid hRR.2.2; clear hR hRR hb)
          | (go_at_call 28; refine (CSr.out _ _ _ _ _ (HB6.out.trans (H3.out.below.mono HB6.out.size)) HU.out HUc.out (Kd.C_below HY6.out H3.out.below) HYc.out).mono ?_; rintro e w16 ⟨rfl, hb⟩; have h4 := H3.out.then_ hb; have h5 := Kd.C_below HX.out hb; clear H3 HX; have H3 := Lib.hid h4; have HX := Lib.hid h5; clear h4 h5; clear hb HU HUc)
          | (go_at_call 24; refine (held_calls hJ H3.out).mono ?_; rintro e w17 ⟨rfl, rfl⟩)
          | (go_at_call 23; refine (flush_calls AH hS hJ H3.out (by simp) (by simp) (fun _ _ _ hx => absurd hx (by simp))).mono ?_; rintro e w18 ⟨v, rfl, hv, h4⟩; have hv : Kd.R kR 27 w18 w6.heap.size (fun k => k ≠ g) v [] := hv; obtain ⟨Av, cv, hv'⟩ := Kd.R_slice hv; have hv' : v = .slice Av 0 cv := hv'; subst hv'; clear hv H3; have H3 := Lib.hid h4; clear h4))
         go_ret
         exact ⟨rfl, (HB6.out.trans (H3.out.below.mono HB6.out.size))⟩)
end Go.Proofs.YtebofnoljebakaaGreatDoor.XSort
namespace Go.Proofs.YtebofnoljebakaaGreatDoor.XSort
open Go.RowKit Go.Lib Go.Sort Go.Proofs.YtebofnoljebakaaGreatDoor.Stb Go.Proofs Go.Proofs.YtebofnoljebakaaGreatDoorW.PrintWords Go.Proofs.YtebofnoljebakaaGreatDoorW.PrintLast Go.Proofs.YtebofnoljebakaaGreatDoorW.PrintMore Go.Proofs.YtebofnoljebakaaGreatDoor.PX
set_option maxHeartbeats 1000000 in
set_option maxRecDepth 100000 in
theorem plain_calls (b0 : Bool) (A1 : Option Addr) (n1 c1 : Nat) (A2 : Option Addr) (n2 c2 : Nat) (A3 : Option Addr) (n3 c3 : Nat) (i4 : Int) (A5 : Option Addr) (n5 c5 : Nat) (b6 : Bool) (i7 : Int) (s8 : ByteArray) (b9 : Bool) (i10 : Int) (b11 b12 : Bool) (i13 : Int) (W : World) : Calls Tryz.prog 17 #[.agg #[.bool b0, .slice A1 n1 c1, .slice A2 n2 c2, .slice A3 n3 c3, .int .i64 i4, .slice A5 n5 c5, .bool b6, .int .i64 i7, .string s8, .bool b9, .int .i64 i10, .bool b11, .bool b12, .int .i64 i13]] W fun e w' => e = .returned (.agg #[.bool b0, .slice A1 n1 c1, .slice A2 n2 c2, .slice A3 n3 c3, .int .i64 i4, .slice A5 n5 c5, .bool b6, .int .i64 i7, .string s8, .bool b9, .int .i64 i10, .bool b11, .bool b12, .int .i64 i13]) ∧ Below W.heap.size W w' := by
  have hu45 := Tryz.underlying45
  have hu24 := Tryz.underlying24
  go_enter Tryz.func17, Tryz.ntmps17
  go_wp2_with (first
    | ((with_reducible refine gate_dst (N := 1) rfl ?_); refine box_event ?hg (N := 1) ?hd (cs := #[.bool b0, .slice A1 n1 c1, .slice A2 n2 c2, .slice A3 n3 c3, .int .i64 i4, .slice A5 n5 c5, .bool b6, .int .i64 i7, .string s8, .bool b9, .int .i64 i10, .bool b11, .bool b12, .int .i64 i13]) (t := 26) ?hr ?_; (case hd => rfl); (case hg => rfl); (case hr => exact xh); intro g1 hg1 w2 hbox hb; have BK1 := Lib.hid hbox; have HB1 := Lib.hid hb; have G1 := Lib.hid hg1; clear hbox hb hg1)
    | ((with_reducible refine gate_dst (N := 2) rfl ?_); refine box_event ?kg (N := 2) ?kd (cs := #[.bool false, .slice none 0 0, .slice none 0 0, .slice none 0 0, .int .i64 0, .slice none 0 0, .bool false, .int .i64 0, .string (⟨#[]⟩ : ByteArray), .bool false, .int .i64 0, .bool false, .bool false, .int .i64 0]) (t := 45) ?kr ?_; (case kd => rfl); (case kg => rfl); (case kr => exact xh); intro g2 hg2 w3 hbox hb; have BK2 := Lib.hid hbox; have HB2 := Lib.hid (HB1.out.trans (hb.mono HB1.out.size)); have BK1' := Lib.hid ((hb.block g1 (blk_lt BK1.out)).trans BK1.out); have G2 := Lib.hid (show W.heap.size ≤ g2 by rw [hg2]; exact HB1.out.size); have hne : g1 ≠ g2 := (by have := blk_lt BK1.out; omega); have hne' : g2 ≠ g1 := Ne.symm hne; clear hbox hb hg2; have x0 : w3.cell? ⟨g1, 0, none⟩ = some (.bool b0) := (blk_cell BK1'.out 0).trans rfl; have x1 : w3.cell? ⟨g1, 1, none⟩ = some (.slice A1 n1 c1) := (blk_cell BK1'.out 1).trans rfl; have x2 : w3.cell? ⟨g1, 2, none⟩ = some (.slice A2 n2 c2) := (blk_cell BK1'.out 2).trans rfl; have x3 : w3.cell? ⟨g1, 3, none⟩ = some (.slice A3 n3 c3) := (blk_cell BK1'.out 3).trans rfl; have x4 : w3.cell? ⟨g1, 4, none⟩ = some (.int .i64 i4) := (blk_cell BK1'.out 4).trans rfl; have x5 : w3.cell? ⟨g1, 5, none⟩ = some (.slice A5 n5 c5) := (blk_cell BK1'.out 5).trans rfl; have x6 : w3.cell? ⟨g1, 6, none⟩ = some (.bool b6) := (blk_cell BK1'.out 6).trans rfl; have x7 : w3.cell? ⟨g1, 7, none⟩ = some (.int .i64 i7) := (blk_cell BK1'.out 7).trans rfl; have x8 : w3.cell? ⟨g1, 8, none⟩ = some (.string s8) := (blk_cell BK1'.out 8).trans rfl; have x9 : w3.cell? ⟨g1, 9, none⟩ = some (.bool b9) := (blk_cell BK1'.out 9).trans rfl; have x10 : w3.cell? ⟨g1, 10, none⟩ = some (.int .i64 i10) := (blk_cell BK1'.out 10).trans rfl; have x11 : w3.cell? ⟨g1, 11, none⟩ = some (.bool b11) := (blk_cell BK1'.out 11).trans rfl; have x12 : w3.cell? ⟨g1, 12, none⟩ = some (.bool b12) := (blk_cell BK1'.out 12).trans rfl; have x13 : w3.cell? ⟨g1, 13, none⟩ = some (.int .i64 i13) := (blk_cell BK1'.out 13).trans rfl; have y0 : w3.cell? ⟨g2, 0, none⟩ = some (.bool false) := (blk_cell BK2.out 0).trans rfl; have y1 : w3.cell? ⟨g2, 1, none⟩ = some (.slice none 0 0) := (blk_cell BK2.out 1).trans rfl; have y2 : w3.cell? ⟨g2, 2, none⟩ = some (.slice none 0 0) := (blk_cell BK2.out 2).trans rfl; have y3 : w3.cell? ⟨g2, 3, none⟩ = some (.slice none 0 0) := (blk_cell BK2.out 3).trans rfl; have y4 : w3.cell? ⟨g2, 4, none⟩ = some (.int .i64 0) := (blk_cell BK2.out 4).trans rfl; have y5 : w3.cell? ⟨g2, 5, none⟩ = some (.slice none 0 0) := (blk_cell BK2.out 5).trans rfl; have y6 : w3.cell? ⟨g2, 6, none⟩ = some (.bool false) := (blk_cell BK2.out 6).trans rfl; have y7 : w3.cell? ⟨g2, 7, none⟩ = some (.int .i64 0) := (blk_cell BK2.out 7).trans rfl; have y8 : w3.cell? ⟨g2, 8, none⟩ = some (.string (⟨#[]⟩ : ByteArray)) := (blk_cell BK2.out 8).trans rfl; have y9 : w3.cell? ⟨g2, 9, none⟩ = some (.bool false) := (blk_cell BK2.out 9).trans rfl; have y10 : w3.cell? ⟨g2, 10, none⟩ = some (.int .i64 0) := (blk_cell BK2.out 10).trans rfl; have y11 : w3.cell? ⟨g2, 11, none⟩ = some (.bool false) := (blk_cell BK2.out 11).trans rfl; have y12 : w3.cell? ⟨g2, 12, none⟩ = some (.bool false) := (blk_cell BK2.out 12).trans rfl; have y13 : w3.cell? ⟨g2, 13, none⟩ = some (.int .i64 0) := (blk_cell BK2.out 13).trans rfl; have z0 := blk_frozen BK2.out 0; have z1 := blk_frozen BK2.out 1; have z2 := blk_frozen BK2.out 2; have z3 := blk_frozen BK2.out 3; have z4 := blk_frozen BK2.out 4; have z5 := blk_frozen BK2.out 5; have z6 := blk_frozen BK2.out 6; have z7 := blk_frozen BK2.out 7; have z8 := blk_frozen BK2.out 8; have z9 := blk_frozen BK2.out 9; have z10 := blk_frozen BK2.out 10; have z11 := blk_frozen BK2.out 11; have z12 := blk_frozen BK2.out 12; have z13 := blk_frozen BK2.out 13))
  have p0 := blk_put BK2.out 0 (.bool b0) rfl
  have p1 := blk_put p0 1 (.slice A1 n1 c1) rfl
  have p2 := blk_put p1 2 (.slice A2 n2 c2) rfl
  have p3 := blk_put p2 3 (.slice A3 n3 c3) rfl
  have p4 := blk_put p3 4 (.int .i64 i4) rfl
  have p5 := blk_put p4 5 (.slice A5 n5 c5) rfl
  have p6 := blk_put p5 6 (.bool b6) rfl
  have p7 := blk_put p6 7 (.int .i64 i7) rfl
  have p8 := blk_put p7 8 (.string s8) rfl
  have p9 := blk_put p8 9 (.bool b9) rfl
  have p10 := blk_put p9 10 (.int .i64 i10) rfl
  have p11 := blk_put p10 11 (.bool b11) rfl
  have p12 := blk_put p11 12 (.bool b12) rfl
  have p13 := blk_put p12 13 (.int .i64 i13) rfl
  simp only [List.setIfInBounds_toArray, List.set_cons_zero, List.set_cons_succ] at p13
  refine bodyPost_ret (results_cell_row rfl _ _ g2 45 #[.bool b0, .slice A1 n1 c1, .slice A2 n2 c2, .slice A3 n3 c3, .int .i64 i4, .slice A5 n5 c5, .bool b6, .int .i64 i7, .string s8, .bool b9, .int .i64 i10, .bool b11, .bool b12, .int .i64 i13] (0, 0) _ rfl p13 hu45 rfl (by kernel_rfl)) rfl ?_
  refine ⟨rfl, ?_⟩
  have hG := G2.out
  exact below_set (below_set (below_set (below_set (below_set (below_set (below_set (below_set (below_set (below_set (below_set (below_set (below_set (below_set (HB2.out) hG) hG) hG) hG) hG) hG) hG) hG) hG) hG) hG) hG) hG) hG
attribute [local go_sem ↓ high] szJ
set_option maxHeartbeats 1000000 in
set_option maxRecDepth 100000 in
theorem runs_none {J : Array Value} (hJ : J.size = 14) (v : Value) (m : Int) (hm : m < 1) (W : World) : Calls Tryz.prog 25 #[.agg J, v, .int .i64 m] W fun e w' => e = .returned (.tuple #[.slice none 0 0, .int .i64 1]) ∧ Below W.heap.size W w' := by
  have HB := Lib.hid (below_alloc (Below.refl W.heap.size W) (.cells J 26))
  have L := load_job hJ (blk_new W (.cells J 26))
  have NC := Lib.hid (new_none (J := J) m hm)
  clear hm
  go_enter Tryz.func25, Tryz.ntmps25
  go_wp2_with (go_at_call 27; refine (NC.out _).mono ?_; rintro e w1 ⟨rfl, hb⟩; have HB1 := Lib.hid (HB.out.trans (hb.mono HB.out.size)); clear hb)
  go_ret2
  exact ⟨rfl, HB1.out⟩
set_option maxHeartbeats 4000000 in
set_option maxRecDepth 100000 in
theorem runs_low {J : Array Value} (hJ : J.size = 14) (A : Option Addr) (c : Nat) (l : List It) (m : Int) (hm : m < 1) (was : List It8) (x8 y8 : List (List It8)) (W : World)
    (E : Env J A l.length c was x8 y8 m 1 W)
    (hRu : ∀ W', Below W.heap.size W W' → Calls Tryz.prog 29 #[.slice none 0 0] W' fun e w' => ∃ v, e = .returned v ∧ Kd.S kR8 34 w' W'.heap.size (fun _ => True) v x8 ∧ Below W'.heap.size W' w') :
    Calls Tryz.prog 6 #[.agg J, .slice A l.length c, .int .i64 m] W fun e w' => e = .returned (.bool true) ∧ Below W.heap.size W w' := by
  have NC := Lib.hid (new_none (J := J) m hm)
  have RC := Lib.hid (runs_none hJ (.slice A l.length c) m hm)
  have HB := Lib.hid (show St J W (W.alloc (.cells J 26)) from ⟨below_alloc (Below.refl W.heap.size W) _, blk_new W _⟩)
  have L := St.l hJ HB.out
  have CLi := Lib.hid E.li; have CFe := Lib.hid E.fe; have CAl := Lib.hid E.al; have CIt := Lib.hid E.it; have CPl := Lib.hid E.pl; have CRr := Lib.hid E.rr; have CRu := Lib.hid hRu; have CSr := Lib.hid E.sr
  clear E hRu hm
  go_enter Tryz.func6, Tryz.ntmps6
  go_wp2_with (first
    | (go_at_call 7; refine (CLi.out _ HB.out.b).mono ?_; rintro e w1 ⟨rfl, hb⟩; (have n := HB.out.t hb; clear HB L; have HB := Lib.hid n; have L := St.l hJ HB.out; clear n hb))
    | (go_at_call 8; refine (CFe.out _ HB.out.b).mono ?_; rintro e w2 ⟨rfl, hb⟩; (have n := HB.out.t hb; clear HB L; have HB := Lib.hid n; have L := St.l hJ HB.out; clear n hb))
    | (go_at_call 25; refine (RC.out _).mono ?_; rintro e w3 ⟨rfl, hb⟩; (have n := HB.out.t hb; clear HB L; have HB := Lib.hid n; have L := St.l hJ HB.out; clear n hb))
    | (go_at_call 17; refine (CPl.out _).mono ?_; rintro e w4 ⟨rfl, hb⟩; (have n := HB.out.t hb; clear HB L; have HB := Lib.hid n; have L := St.l hJ HB.out; clear n hb))
    | (go_at_call 13; refine (CIt.out _ HB.out.b).mono ?_; rintro e w5 ⟨v, rfl, hR, hb⟩; (have n := HB.out.t hb; clear HB L; have HB := Lib.hid n; have L := St.l hJ HB.out; clear n hb); obtain ⟨Aw, cw, rfl⟩ := Kd.R_slice hR; have hRR := Kd.R_reads' hR; have HWc := Lib.hid hRR.2.1; have HW := Lib.hid hRR.2.2; clear hR hRR)
    | (go_at_call 26; refine (CRr.out _ _ _ HB.out.b HW.out HWc.out).mono ?_; rintro e w6 ⟨v, rfl, hR, hb⟩; (have n := HB.out.t hb; clear HB L; have HB := Lib.hid n; have L := St.l hJ HB.out; clear n hb); obtain ⟨Ay, cy, rfl⟩ := Kd.S_slice hR; have hRR := Kd.S_reads' hR; have HYc := Lib.hid hRR.2.1; have HY := Lib.hid hRR.2.2; clear hR hRR HW)
    | (go_at_call 27; refine (NC.out _).mono ?_; rintro e w7 ⟨rfl, hb⟩; (have n := HB.out.t hb; have n3 := Kd.C_below HY.out hb; clear HB L HY; have HB := Lib.hid n; have HY := Lib.hid n3; have L := St.l hJ HB.out; clear n n3 hb))
    | (go_at_call 29; refine (CRu.out _ HB.out.b).mono ?_; rintro e w8 ⟨v, rfl, hR, hb⟩; (have n := HB.out.t hb; have n3 := Kd.C_below HY.out hb; clear HB L HY; have HB := Lib.hid n; have HY := Lib.hid n3; have L := St.l hJ HB.out; clear n n3 hb); obtain ⟨Az, cz, rfl⟩ := Kd.S_slice hR; have hRR := Kd.S_reads' hR; have HZc := Lib.hid hRR.2.1; have HZz := Lib.hid hRR.2.2; clear hR hRR)
    | (go_at_call 28; refine (CSr.out _ _ _ _ _ HB.out.b HZz.out HZc.out HY.out HYc.out).mono ?_; rintro e w9 ⟨rfl, hb⟩; (have n := HB.out.t hb; clear HB L; have HB := Lib.hid n; have L := St.l hJ HB.out; clear n hb); clear HZz HZc)
    | (go_at_call 9; refine (CAl.out _ HB.out.b).mono ?_; rintro e w10 ⟨rfl, hb⟩; (have n := HB.out.t hb; clear HB L; have HB := Lib.hid n; have L := St.l hJ HB.out; clear n hb)))
  go_ret
  exact ⟨rfl, HB.out.b⟩
set_option maxHeartbeats 1000000 in
set_option maxRecDepth 100000 in
theorem runs_dead1 {J : Array Value} (hJ : J.size = 14) (v : Value) (m : Int) (W : World)
    (hLi : Tell W 7 #[.agg J] (.bool false))
    (hAl : Tell W 9 #[] (.bool true)) :
    Calls Tryz.prog 6 #[.agg J, v, .int .i64 m] W fun e w' => e = .returned (.bool true) ∧ Below W.heap.size W w' := by
  have HB := Lib.hid (below_alloc (Below.refl W.heap.size W) (.cells J 26))
  have HJ := Lib.hid (blk_new W (.cells J 26))
  have L := load_job hJ HJ.out
  have CLi := Lib.hid hLi; have CAl := Lib.hid hAl
  clear hLi hAl
  go_enter Tryz.func6, Tryz.ntmps6
  go_wp2_with (first
    | (go_at_call 7; refine (CLi.out _ HB.out).mono ?_; rintro e w1 ⟨rfl, hb⟩; have HB1 := Lib.hid (HB.out.trans (hb.mono HB.out.size)); clear hb)
    | (go_at_call 9; refine (CAl.out _ HB1.out).mono ?_; rintro e w2 ⟨rfl, hb⟩; have HB2 := Lib.hid (HB1.out.trans (hb.mono HB1.out.size)); clear hb))
  go_ret
  exact ⟨rfl, HB2.out⟩
set_option maxHeartbeats 1000000 in
set_option maxRecDepth 100000 in
theorem runs_dead2 {J : Array Value} (hJ : J.size = 14) (v : Value) (m : Int) (W : World)
    (hLi : Tell W 7 #[.agg J] (.bool true))
    (hFe : Tell W 8 #[v] (.bool false))
    (hAl : Tell W 9 #[] (.bool true)) :
    Calls Tryz.prog 6 #[.agg J, v, .int .i64 m] W fun e w' => e = .returned (.bool true) ∧ Below W.heap.size W w' := by
  have HB := Lib.hid (below_alloc (Below.refl W.heap.size W) (.cells J 26))
  have HJ := Lib.hid (blk_new W (.cells J 26))
  have L := load_job hJ HJ.out
  have CLi := Lib.hid hLi; have CFe := Lib.hid hFe; have CAl := Lib.hid hAl
  clear hLi hFe hAl
  go_enter Tryz.func6, Tryz.ntmps6
  go_wp2_with (first
    | (go_at_call 7; refine (CLi.out _ HB.out).mono ?_; rintro e w1 ⟨rfl, hb⟩; have HB1 := Lib.hid (HB.out.trans (hb.mono HB.out.size)); clear hb)
    | (go_at_call 8; refine (CFe.out _ HB1.out).mono ?_; rintro e w2 ⟨rfl, hb⟩; have HB2 := Lib.hid (HB1.out.trans (hb.mono HB1.out.size)); clear hb)
    | (go_at_call 9; refine (CAl.out _ HB2.out).mono ?_; rintro e w3 ⟨rfl, hb⟩; have HB3 := Lib.hid (HB2.out.trans (hb.mono HB2.out.size)); clear hb))
  go_ret
  exact ⟨rfl, HB3.out⟩
end Go.Proofs.YtebofnoljebakaaGreatDoor.XSort
