/- value.Do: what it tells, by what the operations' functions tell. -/
import Derived.Test.YtebofnoljebakaaGreatDoorProg
import Derived.Test.YtebofnoljebakaaGreatDoorXA
import Derived.Test.YtebofnoljebakaaGreatDoorPXx0
import Derived.Deep.RegionHeld3
import Derived.Deep.DrawnRows
import Derived.Lib.Hide
set_option linter.unusedVariables false
set_option linter.unusedSimpArgs false
namespace Go.Proofs.YtebofnoljebakaaGreatDoor.XOps
open Go.RowKit Go.Proofs Go.Proofs.YtebofnoljebakaaGreatDoorW.PrintWords Go.Proofs.YtebofnoljebakaaGreatDoorW.PrintLast Go.Proofs.YtebofnoljebakaaGreatDoorW.PrintMore Go.Proofs.YtebofnoljebakaaGreatDoor.PX
abbrev Sv := S24
abbrev zv : Sv := z24
def enV (x : Sv) : Value := .agg #[.bool x.f0, .int .i64 x.f1, .string x.f2]
def isValB (x : Sv) : Bool := if x.f0 = true then (decide (x.f1 = 0) && decide ((x.f2.size : Int) ≤ 1000)) else x.f2.toList == ([] : List UInt8)
def doF (D : Nat → Sv → Sv → Sv → Option Sv) (o : Int) (l : List Sv) : Option (Sv × Int) :=
  if l.any (fun x => !isValB x) then some (zv, 1) else
  if (resultF o (l.map (·.f0))).2 ≠ 0 then some (zv, (resultF o (l.map (·.f0))).2) else
  match opFn o with
  | none => none
  | some (_, _, f) => (D f (l.getD 0 zv) (l.getD 1 zv) (l.getD 2 zv)).map fun r => (r, 0)
theorem doF_mono {D D' : Nat → Sv → Sv → Sv → Option Sv} (h : ∀ f x y z r, D f x y z = some r → D' f x y z = some r) {o : Int} {l : List Sv} {p : Sv × Int} (e : doF D o l = some p) : doF D' o l = some p := by
  unfold doF at *
  by_cases c1 : l.any (fun x => !isValB x) = true
  · rw [if_pos c1] at *; exact e
  rw [if_neg c1] at *
  by_cases c2 : (resultF o (l.map (·.f0))).2 ≠ 0
  · rw [if_pos c2] at *; exact e
  rw [if_neg c2] at *
  rcases hq : opFn o with _ | ⟨ks, t, f⟩
  · rw [hq] at e; cases e
  · rw [hq] at e
    obtain ⟨r, h1, h2⟩ := Option.map_eq_some_iff.1 e
    exact Option.map_eq_some_iff.2 ⟨r, h _ _ _ _ _ h1, h2⟩
def isF (l : List Sv) (k : Nat) : List Bool := (l.take k).map (·.f0) ++ List.replicate (l.length - k) false
structure Loop1 (w wr : World) (l : List Sv) (k : Nat) : Prop where
  res : wr.heap[w.heap.size]? = some (.cells #[.bool false, .int .i64 0, .string (⟨#[]⟩ : ByteArray)] 24 (0, 0))
  row : wr.heap[w.heap.size + 1]? = some (.cells ((isF l k).map Value.bool).toArray 4 (0, 0))
  below : Below w.heap.size w wr
  good : ∀ j, j < k → isValB (l.getD j zv) = true
theorem Loop1.then_ {w wr w2 : World} {l : List Sv} {k : Nat} (h : Loop1 w wr l k) (hb : Below wr.heap.size wr w2) : Loop1 w w2 l k :=
  ⟨(hb.block _ (blk_lt h.res)).trans h.res, (hb.block _ (blk_lt h.row)).trans h.row, below_then h.below h.below.size hb, h.good⟩
theorem isF_set (l : List Sv) (k : Nat) (hk : k < l.length) : (isF l k).set k (l.getD k zv).f0 = isF l (k + 1) := by
  unfold isF
  apply List.ext_getElem
  · simp; omega
  · intro i h1 h2
    simp only [List.length_set, List.length_append, List.length_map, List.length_take, List.length_replicate] at h1
    rw [List.getElem_set]
    by_cases hik : k = i
    · subst hik
      rw [if_pos rfl, List.getElem_append_left (by simp; omega)]
      simp [hk]
    · rw [if_neg hik]
      by_cases hlt : i < k
      · rw [List.getElem_append_left (by simp; omega), List.getElem_append_left (by simp; omega)]
        simp
      · rw [List.getElem_append_right (by simp; omega), List.getElem_append_right (by simp; omega)]
        simp
theorem Loop1.set {w wr : World} {l : List Sv} {k : Nat} (h : Loop1 w wr l k) (hk : k < l.length) (hg : isValB (l.getD k zv) = true) : Loop1 w (wr.setCell ⟨w.heap.size + 1, k, none⟩ (.bool (l.getD k zv).f0)) l (k + 1) := by
  refine ⟨blk_far h.res (by show w.heap.size ≠ w.heap.size + 1; omega) _, ?_, below_set h.below (by omega), fun j hj => ?_⟩
  · have := blk_set h.row k (.bool (l.getD k zv).f0)
    rw [this, ← isF_set l k hk]
    congr 2
    apply Array.toList_inj.1
    simp [List.map_set]
  · rcases Nat.lt_or_ge j k with h1 | h1
    · exact h.good j h1
    · obtain rfl : j = k := by omega
      exact hg
theorem Loop1.start (w : World) (l : List Sv) : Loop1 w ((w.alloc (.cells #[.bool false, .int .i64 0, .string (⟨#[]⟩ : ByteArray)] 24)).alloc (.cells (madeCells #[.bool false] l.length) 4)) l 0 := by
  have z1 := size_alloc w (.cells #[.bool false, .int .i64 0, .string (⟨#[]⟩ : ByteArray)] 24)
  refine ⟨(heap_alloc_old _ _ (by rw [z1]; exact Nat.lt_succ_self _)).trans (heap_alloc_new w _), ?_, below_alloc (below_alloc (Below.refl _ _) _) _, fun j hj => absurd hj (Nat.not_lt_zero _)⟩
  have := heap_alloc_new (w.alloc (.cells #[.bool false, .int .i64 0, .string (⟨#[]⟩ : ByteArray)] 24)) (.cells (madeCells #[.bool false] l.length) 4)
  rw [z1] at this
  rw [this]
  congr 2
  apply Array.toList_inj.1
  apply List.ext_getElem
  · simp [isF, madeCells]
  · intro i h1 h2
    simp [isF, madeCells, Nat.mod_one]
theorem cell_keep {W w2 : World} {a : Addr} {v : Value} (hb : Below W.heap.size W w2) (h : W.cell? a = some v) : w2.cell? a = some v := by
  have hlt : a.block < W.heap.size := by
    unfold World.cell? at h
    split at h
    · rename_i hx
      exact (Array.getElem?_eq_some_iff.1 hx).1
    · cases h
  exact (hb.cell hlt).trans h
theorem isF_at (l : List Sv) (k : Nat) (hk : k < l.length) : ((isF l k).map Value.bool).toArray[k]? = some (.bool false) := by
  have h2 : (isF l k)[k]? = some false := by
    unfold isF
    rw [List.getElem?_append_right (by simp; omega)]
    have e : k - (List.map (fun x : Sv => x.f0) (List.take k l)).length = 0 := by simp; omega
    rw [e, List.getElem?_replicate]
    rw [if_pos (by omega)]
  simp [h2]
theorem isF_all (l : List Sv) : isF l l.length = l.map (·.f0) := by simp [isF]
theorem Loop1.kinds {w wr : World} {l : List Sv} (h : Loop1 w wr l l.length) (hl : l.length ≤ 9223372036854775807) : Kd.bool.C wr (some ⟨w.heap.size + 1, 0, none⟩) l.length (l.map (·.f0)) := by
  have hrow := h.row
  rw [isF_all] at hrow
  refine Kd.C_of_reads (enc := Value.bool) (d := false) ⟨by simp, hl, fun _ => ⟨_, rfl, fun j hj => ?_⟩⟩
  rw [Addr.add_mid, Nat.zero_add, blk_cell hrow j]
  simp [hj]
def el (l : List Sv) (k j : Nat) : Sv := if j < k then l.getD j zv else zv
def arrOf (a b c : Sv) : Array Value := #[.bool a.f0, .int .i64 a.f1, .string a.f2, .bool b.f0, .int .i64 b.f1, .string b.f2, .bool c.f0, .int .i64 c.f1, .string c.f2]
structure Loop2 (w : World) (g : Nat) (wr : World) (a b c : Sv) : Prop where
  res : wr.heap[w.heap.size]? = some (.cells #[.bool false, .int .i64 0, .string (⟨#[]⟩ : ByteArray)] 24 (0, 0))
  arr : wr.heap[g]? = some (.cells (arrOf a b c) 104 (0, 0))
  below : Below w.heap.size w wr
theorem Loop2.then_ {w wr w2 : World} {g : Nat} {a b c : Sv} (h : Loop2 w g wr a b c) (hb : Below wr.heap.size wr w2) : Loop2 w g w2 a b c :=
  ⟨(hb.block _ (blk_lt h.res)).trans h.res, (hb.block _ (blk_lt h.arr)).trans h.arr, below_then h.below h.below.size hb⟩
theorem Loop2.set {w wr : World} {g : Nat} {a b c a' b' c' : Sv} (h : Loop2 w g wr a b c) (hg : w.heap.size < g) (i j m : Nat) (u v x : Value) (e : ((((arrOf a b c).setIfInBounds i u).setIfInBounds j v).setIfInBounds m x) = arrOf a' b' c') :
    Loop2 w g (((wr.setCell ⟨g, i, none⟩ u).setCell ⟨g, j, none⟩ v).setCell ⟨g, m, none⟩ x) a' b' c' := by
  refine ⟨blk_far (blk_far (blk_far h.res (by show w.heap.size ≠ g; omega) _) (by show w.heap.size ≠ g; omega) _) (by show w.heap.size ≠ g; omega) _, ?_, below_set (below_set (below_set h.below (by omega)) (by omega)) (by omega)⟩
  rw [← e]
  exact blk_set (blk_set (blk_set h.arr i u) j v) m x
theorem Loop2.start {w w2 : World} {l : List Sv} {k : Nat} (h : Loop1 w w2 l k) : Loop2 w w2.heap.size (w2.alloc (.cells (arrOf zv zv zv) 104)) zv zv zv :=
  ⟨(heap_alloc_old _ _ (blk_lt h.res)).trans h.res, heap_alloc_new _ _, below_alloc h.below _⟩
theorem arr_at (a b c : Sv) (i : Nat) (h : i < 9) : ∃ v, (arrOf a b c)[i]? = some v := by
  have : i < (arrOf a b c).size := h
  exact ⟨_, Array.getElem?_eq_getElem this⟩
theorem op_fns (o : Int) : match opFn o with | none => True | some (_, _, f) => ∃ fn, Tryz.prog.funcs[f]? = some fn ∧ (fn.name == "runtime.NumGoroutine") = false ∧ fn.body.isSome = true := by
  by_cases h4 : o = 4
  · subst h4; exact ⟨_, Tryz.func74, by kernel_rfl, by kernel_rfl⟩
  by_cases h5 : o = 5
  · subst h5; exact ⟨_, Tryz.func75, by kernel_rfl, by kernel_rfl⟩
  by_cases h6 : o = 6
  · subst h6; exact ⟨_, Tryz.func76, by kernel_rfl, by kernel_rfl⟩
  by_cases h7 : o = 7
  · subst h7; exact ⟨_, Tryz.func77, by kernel_rfl, by kernel_rfl⟩
  by_cases h8 : o = 8
  · subst h8; exact ⟨_, Tryz.func78, by kernel_rfl, by kernel_rfl⟩
  by_cases h9 : o = 9
  · subst h9; exact ⟨_, Tryz.func79, by kernel_rfl, by kernel_rfl⟩
  by_cases h10 : o = 10
  · subst h10; exact ⟨_, Tryz.func80, by kernel_rfl, by kernel_rfl⟩
  by_cases h11 : o = 11
  · subst h11; exact ⟨_, Tryz.func81, by kernel_rfl, by kernel_rfl⟩
  by_cases h12 : o = 12
  · subst h12; exact ⟨_, Tryz.func82, by kernel_rfl, by kernel_rfl⟩
  by_cases h13 : o = 13
  · subst h13; exact ⟨_, Tryz.func83, by kernel_rfl, by kernel_rfl⟩
  by_cases h14 : o = 14
  · subst h14; exact ⟨_, Tryz.func84, by kernel_rfl, by kernel_rfl⟩
  by_cases h15 : o = 15
  · subst h15; exact ⟨_, Tryz.func85, by kernel_rfl, by kernel_rfl⟩
  by_cases h16 : o = 16
  · subst h16; exact ⟨_, Tryz.func86, by kernel_rfl, by kernel_rfl⟩
  by_cases h17 : o = 17
  · subst h17; exact ⟨_, Tryz.func87, by kernel_rfl, by kernel_rfl⟩
  by_cases h18 : o = 18
  · subst h18; exact ⟨_, Tryz.func88, by kernel_rfl, by kernel_rfl⟩
  by_cases h19 : o = 19
  · subst h19; exact ⟨_, Tryz.func89, by kernel_rfl, by kernel_rfl⟩
  by_cases h20 : o = 20
  · subst h20; exact ⟨_, Tryz.func90, by kernel_rfl, by kernel_rfl⟩
  by_cases h21 : o = 21
  · subst h21; exact ⟨_, Tryz.func91, by kernel_rfl, by kernel_rfl⟩
  have e : opFn o = none := by simp only [opFn, h4, h5, h6, h7, h8, h9, h10, h11, h12, h13, h14, h15, h16, h17, h18, h19, h20, h21, if_false]
  rw [e]; trivial
theorem op_fn {o : Int} {ks : List Int} {t : Int} {f : Nat} (h : opFn o = some (ks, t, f)) : ∃ fn, Tryz.prog.funcs[f]? = some fn ∧ (fn.name == "runtime.NumGoroutine") = false ∧ fn.body.isSome = true := by
  have := op_fns o
  rw [h] at this
  exact this
theorem look_ok {w w1 : World} {b : Nat} (h : OpsAt w w1 b) {o : Int} {ks : List Int} {t : Int} {f : Nat} (hf : opFn o = some (ks, t, f)) :
    ∃ blk, (Instr.lookup 110 (.map (some b)) (.int .i64 o) false).run Tryz.prog w1 = .ok (.agg #[.slice (some ⟨blk, 0, none⟩) ks.length ks.length, .int .i64 t, .func (.func f) #[] #[]]) w1 := by
  rcases look h o with ⟨hq, _, _⟩ | ⟨ks', t', f', blk, hq, _, h0, _⟩
  · rw [hq] at hf; cases hf
  · rw [hq] at hf
    injection hf with hf
    injection hf with e1 hf
    injection hf with e2 e3
    subst e1 e2 e3
    exact ⟨blk, h0⟩
attribute [local go_sem] field2
attribute [local go_sem ↓] Go.wp_at_zero Go.wp_at_succ
theorem cell_far3 {W : World} {g g' i j m n : Nat} {u v x y : Value} (hne : g' ≠ g) (h : W.cell? ⟨g', n, none⟩ = some y) : (((W.setCell ⟨g, i, none⟩ u).setCell ⟨g, j, none⟩ v).setCell ⟨g, m, none⟩ x).cell? ⟨g', n, none⟩ = some y := by
  have e : (((W.setCell ⟨g, i, none⟩ u).setCell ⟨g, j, none⟩ v).setCell ⟨g, m, none⟩ x).heap[g']? = W.heap[g']? :=
    (Below.heap_setCell _ ⟨g, m, none⟩ x g' hne).trans ((Below.heap_setCell _ ⟨g, j, none⟩ v g' hne).trans (Below.heap_setCell _ ⟨g, i, none⟩ u g' hne))
  rw [← h]
  unfold World.cell?
  rw [show (Addr.mk g' n none).block = g' from rfl, e]
theorem drew_below {W w2 : World} (h : Below W.drew.heap.size W.drew w2) : Below W.heap.size W w2 := ⟨h.os, h.tape, h.output, h.size, h.block⟩
theorem res_len {o : Int} {l : List Bool} {rb : Bool} (h : resultF o l = (rb, 0)) : ∃ ks t f, opFn o = some (ks, t, f) ∧ l.length = ks.length ∧ 0 < ks.length ∧ ks.length ≤ 3 := by
  unfold resultF at h
  rcases hq : opFn o with _ | ⟨ks, t, f⟩
  · rw [hq] at h
    simp at h
  · rw [hq] at h
    refine ⟨ks, t, f, rfl, ?_, op_len hq⟩
    simp only at h
    by_cases hl : l.length ≠ ks.length
    · rw [if_pos hl] at h
      simp at h
    · omega
theorem do_err {D : Nat → Sv → Sv → Sv → Option Sv} {o : Int} {l : List Sv} {r : Sv} {er : Int} (h : doF D o l = some (r, er)) (hg : ∀ j, j < l.length → isValB (l.getD j zv) = true) {rb : Bool} {re : Int} (hq : resultF o (l.map (·.f0)) = (rb, re)) (hre : ¬ re = 0) : r = zv ∧ er = re := by
  have : ¬ l.any (fun x => !isValB x) = true := by
    rw [List.any_eq_true]
    rintro ⟨x, hx, hx2⟩
    obtain ⟨j, hj, rfl⟩ := List.getElem_of_mem hx
    have := hg j hj
    rw [List.getD_eq_getElem?_getD, List.getElem?_eq_getElem hj, Option.getD_some] at this
    rw [this] at hx2
    cases hx2
  unfold doF at h
  rw [if_neg this, hq, if_pos hre] at h
  injection h with h
  injection h with h1 h2
  exact ⟨h1.symm, h2.symm⟩
theorem do_good {D : Nat → Sv → Sv → Sv → Option Sv} {o : Int} {l : List Sv} {r : Sv} {er : Int} (h : doF D o l = some (r, er)) (hg : ∀ j, j < l.length → isValB (l.getD j zv) = true) {rb : Bool} (hq : resultF o (l.map (·.f0)) = (rb, 0)) {ks : List Int} {t : Int} {f : Nat} (hf : opFn o = some (ks, t, f)) : D f (l.getD 0 zv) (l.getD 1 zv) (l.getD 2 zv) = some r ∧ er = 0 := by
  have : ¬ l.any (fun x => !isValB x) = true := by
    rw [List.any_eq_true]
    rintro ⟨x, hx, hx2⟩
    obtain ⟨j, hj, rfl⟩ := List.getElem_of_mem hx
    have := hg j hj
    rw [List.getD_eq_getElem?_getD, List.getElem?_eq_getElem hj, Option.getD_some] at this
    rw [this] at hx2
    cases hx2
  unfold doF at h
  rw [if_neg this, hq, if_neg (by simp), hf] at h
  simp only [Option.map_eq_some_iff] at h
  obtain ⟨a, h1, h2⟩ := h
  injection h2 with h2 h3
  exact ⟨h2 ▸ h1, h3.symm⟩
theorem do_bad {D : Nat → Sv → Sv → Sv → Option Sv} {o : Int} {l : List Sv} {r : Sv} {er : Int} (h : doF D o l = some (r, er)) {k : Nat} (hk : k < l.length) (hb : isValB (l.getD k zv) = false) : r = zv ∧ er = 1 := by
  have : l.any (fun x => !isValB x) = true := by
    rw [List.any_eq_true]
    refine ⟨l[k], List.getElem_mem hk, ?_⟩
    rw [List.getD_eq_getElem?_getD, List.getElem?_eq_getElem hk] at hb
    simp only [Option.getD_some] at hb
    simp [hb]
  unfold doF at h
  rw [if_pos this] at h
  injection h with h
  injection h with h1 h2
  exact ⟨h1.symm, h2.symm⟩
set_option maxHeartbeats 4000000 in
set_option maxRecDepth 100000 in
theorem do_calls {T : World → Prop} (hTb : ∀ w w', T w → Below w.heap.size w w' → T w') (hV : ∀ (x : Sv) (w : World), T w → Calls Tryz.prog 60 #[enV x] w fun e w' => e = .returned (.bool (isValB x)) ∧ Below w.heap.size w w')
    (D : Nat → Sv → Sv → Sv → Option Sv) (hD : ∀ (f : Nat) (x y z r : Sv) (w : World), T w → D f x y z = some r → Calls Tryz.prog f #[enV x, enV y, enV z] w fun e w' => e = .returned (enV r) ∧ Below w.heap.size w w')
    (o : Int) (A : Option Addr) (c : Nat) (l : List Sv) (r : Sv) (er : Int) (w : World) (hT : T w) (hr : Kd.C k24 w A l.length l) (hc : l.length ≤ c) (h : doF D o l = some (r, er)) (hl : l.length ≤ 281474976710656) :
    Calls Tryz.prog 51 #[.int .i64 o, .slice A l.length c] w fun e w' => e = .returned (.tuple #[enV r, .int .i64 er]) ∧ Below w.heap.size w w' := by
  have hu1 := Tryz.underlying24
  have hu2 := Tryz.underlying97
  have hu3 := Tryz.underlying104
  have hu4 := Tryz.underlying103
  obtain ⟨n, hn⟩ : ∃ n, l.length = n := ⟨_, rfl⟩
  rw [hn] at hr hc hl ⊢
  have Hn := Lib.hid hn
  clear hn
  have hmk := print_make_of (P := Tryz.prog) 97 4 (.bool false) 1 Tryz.underlying97 (by kernel_rfl) rfl (by decide) n (by omega)
  go_enter Tryz.func51, Tryz.ntmps51
  go_wp2
  go_loopw [19] (fun i wr => ∃ k : Nat, k ≤ n ∧ i = .int .i64 k ∧ Loop1 w wr l k) (fun i _ => n - (intOf i).toNat)
  case atStart => exact ⟨0, Nat.zero_le _, rfl, by rw [← Hn.out]; exact Loop1.start w l⟩
  case round =>
    obtain ⟨k, hk, rfl, HL⟩ := hrel
    by_cases hlt : k < n
    · have hi1 : (k : Int) < (n : Int) := by omega
      have hwk : wrap64 ((k : Int) + 1) = (k : Int) + 1 := by unfold wrap64; omega
      obtain ⟨ad, rfl, h0, h1, h2⟩ := at_T24 (Kd.C_below hr HL.below) (k : Int) (by omega) (by omega)
      rw [Int.toNat_natCast] at h0 h1 h2
      obtain ⟨x, hx⟩ : ∃ x, x = rd_T24 l (k : Int) := ⟨_, rfl⟩
      rw [← hx] at h0 h1 h2
      have Hx := Lib.hid hx
      clear hx
      have hVx := hV x
      simp only [enV] at hVx
      generalize hb : isValB x = b at hVx
      have Hb := Lib.hid hb
      clear hb
      have hxx : (x.f0 = (l.getD k zv).f0) := by rw [Hx.out]; rfl
      have Hxx := Lib.hid hxx
      clear hxx
      cases b
      · go_wp2_with (go_at_call 60; refine (hVx _ (hTb _ _ hT (below_alloc HL.below _))).mono ?_; rintro e w2 ⟨rfl, hb2⟩; have HL2 := HL.then_ (below_then (below_alloc (Below.refl _ _) _) (by simp) hb2); have c0 := (blk_cell HL2.res 0).trans rfl; have c1 := (blk_cell HL2.res 1).trans rfl; have c2 := (blk_cell HL2.res 2).trans rfl; have f0 := blk_frozen HL2.res 0; have f1 := blk_frozen HL2.res 1; have f2 := blk_frozen HL2.res 2)
        refine bodyPost_ret (results_ct rfl _ _ w.heap.size 24 #[.bool false, .int .i64 0, .string (⟨#[]⟩ : ByteArray)] (0, 0) _ rfl (blk_set (blk_set (blk_set HL2.res 0 _) 1 _) 2 _) Tryz.underlying24 rfl (by kernel_rfl)) rfl ?_
        have e := do_bad h (k := k) (by rw [Hn.out]; exact hlt) (by rw [← Hb.out, Hx.out]; rfl)
        obtain ⟨rfl, rfl⟩ := e
        exact ⟨rfl, below_set (below_set (below_set HL2.below (Nat.le_refl _)) (Nat.le_refl _)) (Nat.le_refl _)⟩
      · go_wp2_with (go_at_call 60; refine (hVx _ (hTb _ _ hT (below_alloc HL.below _))).mono ?_; rintro e w2 ⟨rfl, hb2⟩; have HL2 := HL.then_ (below_then (below_alloc (Below.refl _ _) _) (by simp) hb2); have hx0 := cell_keep hb2 (cell_new (W := wr) (cs := #[.bool x.f0, .int .i64 x.f1, .string x.f2]) (t := 24) (i := 0) rfl); have hic := (blk_cell HL2.row k).trans (isF_at l k (by rw [Hn.out]; exact hlt)); have hif := blk_frozen HL2.row k)
        refine ⟨⟨k + 1, by omega, by go_num, ?_⟩, by simp [intOf]; omega⟩
        rw [Hxx.out]
        exact HL2.set (by rw [Hn.out]; exact hlt) (by rw [← Hb.out, Hx.out]; rfl)
    · obtain rfl : k = n := by omega
      have hi1 : ¬ ((k : Int) < (k : Int)) := by omega
      have hres := result_calls o (some ⟨w.heap.size + 1, 0, none⟩) k (l.map (·.f0)) wr (by have := Hn.out; rw [List.length_map, this]; rw [← this] at HL ⊢; exact HL.kinds (by omega))
      rw [List.length_map, Hn.out] at hres
      rcases hq : resultF o (l.map (·.f0)) with ⟨rb, re⟩
      rw [hq] at hres
      have Hq := Lib.hid hq
      clear hq
      by_cases hre : re = 0
      · subst hre
        obtain ⟨ks, t, f, hof, hkl, hk0, hk3⟩ := res_len Hq.out
        rw [List.length_map, Hn.out] at hkl
        have hn3 : k ≤ 3 := by omega
        have Hof := Lib.hid hof
        clear hof hkl hk0 hk3
        go_wp2_with (go_at_call 61; refine hres.mono ?_; rintro e w2 ⟨rfl, hb2⟩; have HL2 := HL.then_ hb2)
        go_loopw [46] (fun i wr => ∃ q : Nat, q ≤ k ∧ i = .int .i64 q ∧ Loop2 w w2.heap.size wr (el l q 0) (el l q 1) (el l q 2)) (fun i _ => k - (intOf i).toNat)
        case atStart => exact ⟨0, Nat.zero_le _, rfl, Loop2.start HL2⟩
        case round =>
          have hg : w.heap.size < w2.heap.size := blk_lt HL2.res
          obtain ⟨q, hq, rfl, HZ⟩ := hrel
          by_cases hlt : q < k
          · have hi1 : (q : Int) < (k : Int) := by omega
            have hwk : wrap64 ((q : Int) + 1) = (q : Int) + 1 := by unfold wrap64; omega
            obtain ⟨ad, rfl, h0, h1, h2⟩ := at_T24 (Kd.C_below hr HZ.below) (q : Int) (by omega) (by omega)
            rw [Int.toNat_natCast] at h0 h1 h2
            obtain ⟨x, hx⟩ : ∃ x, x = rd_T24 l (q : Int) := ⟨_, rfl⟩
            rw [← hx] at h0 h1 h2
            have Hx := Lib.hid hx
            clear hx
            have HW := HZ.then_ (below_alloc (Below.refl _ _) (.cells #[.bool x.f0, .int .i64 x.f1, .string x.f2] 24))
            have hq3 : q = 0 ∨ q = 1 ∨ q = 2 := by omega
            have hi2 : (q : Int) < 3 := by omega
            obtain ⟨v0, e0⟩ := arr_at (el l q 0) (el l q 1) (el l q 2) (q * 3) (by omega)
            obtain ⟨v1, e1⟩ := arr_at (el l q 0) (el l q 1) (el l q 2) (q * 3 + 1) (by omega)
            obtain ⟨v2, e2⟩ := arr_at (el l q 0) (el l q 1) (el l q 2) (q * 3 + 2) (by omega)
            have c0 := (blk_cell HW.arr (q * 3)).trans e0
            have c1 := (blk_cell HW.arr (q * 3 + 1)).trans e1
            have c2 := (blk_cell HW.arr (q * 3 + 2)).trans e2
            have f0 := blk_frozen HW.arr (q * 3)
            have f1 := blk_frozen HW.arr (q * 3 + 1)
            have f2 := blk_frozen HW.arr (q * 3 + 2)
            clear e0 e1 e2
            go_wp2
            refine ⟨⟨q + 1, by omega, by go_num, HW.set hg _ _ _ _ _ _ ?_⟩, by simp [intOf]; omega⟩
            have hx := Hx.out
            have hx' : x = l.getD q zv := hx
            subst hx'
            rcases hq3 with rfl | rfl | rfl <;> simp [el, arrOf]
          · obtain rfl : q = k := by omega
            have hi1 : ¬ ((q : Int) < (q : Int)) := by omega
            have ee : ∀ j, el l q j = l.getD j zv := fun j => by
              unfold el
              split
              · rfl
              · rw [List.getD_eq_getElem?_getD, List.getElem?_eq_none (by rw [Hn.out]; omega)]; rfl
            rw [ee 0, ee 1, ee 2] at HZ
            obtain ⟨hD1, rfl⟩ := do_good h (by rw [Hn.out]; exact HL.good) Hq.out Hof.out
            have HD := Lib.hid hD1
            generalize l.getD 0 zv = a0 at HZ HD
            generalize l.getD 1 zv = a1 at HZ HD
            generalize l.getD 2 zv = a2 at HZ HD
            clear h hD1 ee
            go_wp2
            have q0 : wr.cell? ⟨w2.heap.size, 0, none⟩ = some (.bool a0.f0) := (blk_cell HZ.arr 0).trans rfl
            have q1 : wr.cell? ⟨w2.heap.size, 1, none⟩ = some (.int .i64 a0.f1) := (blk_cell HZ.arr 1).trans rfl
            have q2 : wr.cell? ⟨w2.heap.size, 2, none⟩ = some (.string a0.f2) := (blk_cell HZ.arr 2).trans rfl
            have q3 : wr.cell? ⟨w2.heap.size, 3, none⟩ = some (.bool a1.f0) := (blk_cell HZ.arr 3).trans rfl
            have q4 : wr.cell? ⟨w2.heap.size, 4, none⟩ = some (.int .i64 a1.f1) := (blk_cell HZ.arr 4).trans rfl
            have q5 : wr.cell? ⟨w2.heap.size, 5, none⟩ = some (.string a1.f2) := (blk_cell HZ.arr 5).trans rfl
            have q6 : wr.cell? ⟨w2.heap.size, 6, none⟩ = some (.bool a2.f0) := (blk_cell HZ.arr 6).trans rfl
            have q7 : wr.cell? ⟨w2.heap.size, 7, none⟩ = some (.int .i64 a2.f1) := (blk_cell HZ.arr 7).trans rfl
            have q8 : wr.cell? ⟨w2.heap.size, 8, none⟩ = some (.string a2.f2) := (blk_cell HZ.arr 8).trans rfl
            have hne : w2.heap.size ≠ w.heap.size := by omega
            obtain ⟨fn, hfn, hnm, hbd⟩ := op_fn Hof.out
            have hen := fun args W => enters_ hfn hnm hbd args W
            have hDx := fun W (hW : T W) => hD f a0 a1 a2 r W hW HD.out
            simp only [enV] at hDx
            go_region_held3 (fun w' => w'.cell? ⟨w2.heap.size, 0, none⟩ = some (.bool a0.f0) ∧ w'.cell? ⟨w2.heap.size, 1, none⟩ = some (.int .i64 a0.f1) ∧ w'.cell? ⟨w2.heap.size, 2, none⟩ = some (.string a0.f2) ∧ w'.cell? ⟨w2.heap.size, 3, none⟩ = some (.bool a1.f0) ∧ w'.cell? ⟨w2.heap.size, 4, none⟩ = some (.int .i64 a1.f1) ∧ w'.cell? ⟨w2.heap.size, 5, none⟩ = some (.string a1.f2) ∧ w'.cell? ⟨w2.heap.size, 6, none⟩ = some (.bool a2.f0) ∧ w'.cell? ⟨w2.heap.size, 7, none⟩ = some (.int .i64 a2.f1) ∧ w'.cell? ⟨w2.heap.size, 8, none⟩ = some (.string a2.f2))
              (first
                | exact ⟨q0, q1, q2, q3, q4, q5, q6, q7, q8⟩
                | (go_split_ands
                   exact ⟨cell_keep hb4 (by assumption), cell_keep hb4 (by assumption), cell_keep hb4 (by assumption), cell_keep hb4 (by assumption), cell_keep hb4 (by assumption), cell_keep hb4 (by assumption), cell_keep hb4 (by assumption), cell_keep hb4 (by assumption), cell_keep hb4 (by assumption)⟩)
                | (go_split_ands
                   with_reducible refine ⟨cell_far3 hne ?_, cell_far3 hne ?_, cell_far3 hne ?_, cell_far3 hne ?_, cell_far3 hne ?_, cell_far3 hne ?_, cell_far3 hne ?_, cell_far3 hne ?_, cell_far3 hne ?_⟩ <;> assumption)
                | go_keep
                | (go_split_ands
                   exact ⟨cell_keep hb3 (by assumption), cell_keep hb3 (by assumption), cell_keep hb3 (by assumption), cell_keep hb3 (by assumption), cell_keep hb3 (by assumption), cell_keep hb3 (by assumption), cell_keep hb3 (by assumption), cell_keep hb3 (by assumption), cell_keep hb3 (by assumption)⟩))
              ((first
                | (go_at_call 62; refine (calls _).mono ?_; rintro e w3 ⟨b, rfl, hops, hb3⟩; obtain ⟨blk, hlk⟩ := look_ok hops Hof.out)
                | (refine (hDx _ (hTb _ _ hT (HZ.then_ (drew_below hb3)).below)).mono ?_; rintro e w4 ⟨rfl, hb4⟩; have HZ4 := (HZ.then_ (drew_below hb3)).then_ hb4; have c0 := (blk_cell HZ4.res 0).trans rfl; have c1 := (blk_cell HZ4.res 1).trans rfl; have c2 := (blk_cell HZ4.res 2).trans rfl; have f0 := blk_frozen HZ4.res 0; have f1 := blk_frozen HZ4.res 1; have f2 := blk_frozen HZ4.res 2)))
            go_wp2
            refine bodyPost_ret (results_ct rfl _ _ w.heap.size 24 #[.bool r.f0, .int .i64 r.f1, .string r.f2] (0, 0) _ rfl (blk_set (blk_set (blk_set HZ4.res 0 _) 1 _) 2 _) Tryz.underlying24 rfl (by kernel_rfl)) rfl ?_
            exact ⟨rfl, below_set (below_set (below_set HZ4.below (Nat.le_refl _)) (Nat.le_refl _)) (Nat.le_refl _)⟩
      · have hre1 : (re == 0) = false := by simp [hre]
        have hre2 : (re != 0) = true := by simp [hre]
        go_wp2_with (go_at_call 61; refine hres.mono ?_; rintro e w2 ⟨rfl, hb2⟩; have HL2 := HL.then_ hb2; have c0 := (blk_cell HL2.res 0).trans rfl; have c1 := (blk_cell HL2.res 1).trans rfl; have c2 := (blk_cell HL2.res 2).trans rfl; have f0 := blk_frozen HL2.res 0; have f1 := blk_frozen HL2.res 1; have f2 := blk_frozen HL2.res 2)
        refine bodyPost_ret (results_ct rfl _ _ w.heap.size 24 #[.bool false, .int .i64 0, .string (⟨#[]⟩ : ByteArray)] (0, 0) _ rfl (blk_set (blk_set (blk_set HL2.res 0 _) 1 _) 2 _) Tryz.underlying24 rfl (by kernel_rfl)) rfl ?_
        have e := do_err h (by rw [Hn.out]; exact HL.good) Hq.out hre
        obtain ⟨rfl, rfl⟩ := e
        exact ⟨rfl, below_set (below_set (below_set HL2.below (Nat.le_refl _)) (Nat.le_refl _)) (Nat.le_refl _)⟩
end Go.Proofs.YtebofnoljebakaaGreatDoor.XOps
