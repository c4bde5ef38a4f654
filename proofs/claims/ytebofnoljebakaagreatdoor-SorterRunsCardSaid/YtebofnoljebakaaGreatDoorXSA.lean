/- A slice of structs that is being sorted: the row's own cells turn, all else that lay there stays, and what is called lays new blocks. -/
import Derived.Shelf.SlSortCmp.KitK
import Derived.Deep.Upon
import Derived.Below
import Derived.Laws.IdiomCopy
import Derived.Test.YtebofnoljebakaaGreatDoorLA
import Derived.Test.YtebofnoljebakaaGreatDoorProg
import Derived.Deep.LoopGhost
import Derived.BigRegion
import Derived.Sort.WalkB2
import Derived.Deep.Cut
set_option linter.unusedVariables false
set_option linter.unusedSimpArgs false
set_option linter.unusedSectionVars false
namespace Go.Proofs.YtebofnoljebakaaGreatDoor.XSort
open Go.RowKit Go.Lib Go.Sort Go.Proofs.YtebofnoljebakaaGreatDoor.Stb
variable {P : Program} {α : Type} [Inhabited α]
theorem run_copy_k (w : World) (dT sT ty elem : TypeId) (k b o dLen dCap : Nat) (a : Addr) (sLen sCap : Nat) (cs : List Value)
    (hu : P.underlying dT = some (.slice elem)) (hs : (P.info? elem).map (·.size) = some k) (hn : cs.length = Nat.min sLen dLen * k)
    (hsrc : ∀ j v, cs[j]? = some v → w.cell? (a.add j) = some v) (hc : ∀ j, j < cs.length → (w.cell? ⟨b, o + j, none⟩).isSome = true) (hf : ∀ j, j < cs.length → w.frozen? ⟨b, o + j, none⟩ = false) (h1 : ∀ v ∈ cs, v.oneCell' = true) :
    (Builtin.copy_ #[dT, sT] ty #[.slice (some ⟨b, o, none⟩) dLen dCap, .slice (some a) sLen sCap]).run P w = .ok (goInt (Nat.min sLen dLen)) (w.setCells b o cs) := by
  have hl := run_loadCells_list (P := P) w a cs hsrc
  have hst := run_storeCells_cells (P := P) b o cs 0 w (by simpa using hc) (by simpa using hf) h1
  cases hq : P.info? elem with
  | none => simp [hq] at hs
  | some i =>
    have hi : i.size = k := by simpa [hq] using hs
    rw [hn] at hl
    simp [Builtin.copy_, run_underlying hu, Builtin.lenOf, Builtin.firstCells, sizeOf, typeInfo, hq, hi, hl, hst]
theorem run_copy_k_none (w : World) (dT sT ty elem : TypeId) (k : Nat) (d a : Option Addr) (dLen dCap sLen sCap : Nat) (hu : P.underlying dT = some (.slice elem)) (hs : (P.info? elem).map (·.size) = some k) (hn : Nat.min sLen dLen = 0) :
    (Builtin.copy_ #[dT, sT] ty #[.slice d dLen dCap, .slice a sLen sCap]).run P w = .ok (goInt 0) w := by
  cases hq : P.info? elem with
  | none => simp [hq] at hs
  | some i =>
    have hl : ∀ (x : Addr), (loadCells x 0).run P w = .ok #[] w := fun x => by simpa using run_loadCells_list (P := P) w x [] (by simp)
    cases d <;> cases a <;> simp [Builtin.copy_, run_underlying hu, Builtin.lenOf, Builtin.firstCells, sizeOf, typeInfo, hq, hn, storeCells, hl]
structure BB (w : World) where
  W : World
  h : _root_.Go.RowKit.Below w.heap.size w W
instance (w : World) : Inhabited (BB w) := ⟨⟨w, _root_.Go.RowKit.Below.refl _ _⟩⟩
theorem wp_quiet_bb {id : Nat} {Q : Exit → Act → World → Prop} {a : Act} {w : World} {l : List Oper} (hm : P.follows .mixedOrders = true) (hB : Region.lexB .any l.toArray = true)
    (h : wpQuiet P l.toArray (fun w' => ∃ p : BB w, w' = p.W) (fun a' => ∀ w', (∃ p : BB w, w' = p.W) → Q .normal a' w') l a) : (Code.region id l.toArray true).wp P Q a w :=
  wp_region_quiet (C := fun w' => ∃ p : BB w, w' = p.W) hm hB ⟨⟨{ w with drawn := w.drawn + 1 }, ⟨rfl, rfl, rfl, Nat.le_refl _, fun _ _ => rfl⟩⟩, rfl⟩ (by simpa using h)
theorem Calls.bb {f : FuncId} {args : Array Value} {w : World} {p : BB w} {v : Value} (h : Calls P f args p.W fun e w' => e = .returned v ∧ _root_.Go.RowKit.Below p.W.heap.size p.W w') :
    Calls P f args p.W fun e w'' => e = .returned v ∧ ∃ p' : BB w, w'' = p'.W :=
  h.mono fun _ w'' ⟨he, hb⟩ => ⟨he, ⟨w'', p.h.trans (hb.mono p.h.size)⟩, rfl⟩
structure RB (enc : α → List Value) (k : Nat) : Prop where
  hk : ∀ x, (enc x).length = k
  h1 : ∀ x, ∀ v ∈ enc x, v.oneCell' = true
structure SB (enc : α → List Value) (k : Nat) (G : α → Prop) (wB : World) (blk off : Nat) (dk : Array α) (W : World) : Prop where
  good : ∀ i, i < dk.size → G dk[i]!
  holds : HoldsK enc k W blk off dk
  os : W.os = wB.os
  tape : W.tape = wB.tape
  output : W.output = wB.output
  size : wB.heap.size ≤ W.heap.size
  kept : ∀ i, i < wB.heap.size → i ≠ blk → W.heap[i]? = wB.heap[i]?
  lt : blk < wB.heap.size
  shape : ∀ cur t, wB.heap[blk]? = some (.cells cur t (0, 0)) → ∃ cur', W.heap[blk]? = some (.cells cur' t (0, 0)) ∧ cur'.size = cur.size
variable {enc : α → List Value} {k : Nat} {G : α → Prop} {wB W W' : World} {blk off : Nat} {dk : Array α}
theorem SB.start (hg : ∀ i, i < dk.size → G dk[i]!) (h : HoldsK enc k wB blk off dk) (hb : blk < wB.heap.size) : SB enc k G wB blk off dk wB := ⟨hg, h, rfl, rfl, rfl, Nat.le_refl _, fun _ _ _ => rfl, hb, fun cur t h => ⟨cur, h, rfl⟩⟩
theorem SB.below (h : SB enc k G wB blk off dk W) (hb : _root_.Go.RowKit.Below W.heap.size W W') : SB enc k G wB blk off dk W' where
  good := h.good
  holds := fun j hj => by
    have l : blk < W.heap.size := Nat.lt_of_lt_of_le h.lt h.size
    obtain ⟨a, b⟩ := h.holds j hj
    exact ⟨(hb.cell (p := ⟨blk, off + j, none⟩) l).trans a, (hb.frozen (p := ⟨blk, off + j, none⟩) l).trans b⟩
  os := hb.os.trans h.os
  tape := hb.tape.trans h.tape
  output := hb.output.trans h.output
  size := Nat.le_trans h.size hb.size
  kept := fun i hi hne => (hb.block i (Nat.lt_of_lt_of_le hi h.size)).trans (h.kept i hi hne)
  lt := h.lt
  shape := fun cur t e => by
    obtain ⟨c, e1, e2⟩ := h.shape cur t e
    exact ⟨c, (hb.block _ (Nat.lt_of_lt_of_le h.lt h.size)).trans e1, e2⟩
theorem SB.bb (h : SB enc k G wB blk off dk W) (p : BB W) : SB enc k G wB blk off dk p.W := h.below p.h
theorem SB.drew (h : SB enc k G wB blk off dk W) : SB enc k G wB blk off dk W.drew := h.below ⟨rfl, rfl, rfl, Nat.le_refl _, fun _ _ => rfl⟩
theorem SB.load (h : SB enc k G wB blk off dk W) (R : RB enc k) (P : Program) (i : Nat) (hi : i < dk.size) :
    Sem.run P (loadCellsFrom ⟨blk, off + i * k, none⟩ 0 k #[]) W = .ok (enc dk[i]!).toArray W :=
  run_loadCellsFrom_list P _ _ _ k (R.hk _) (HoldsK.cells h.holds R.hk hi)
theorem SB.ld (h : SB enc k G wB blk off dk W) (R : RB enc k) (P : Program) (i : Nat) (hi : i < dk.size) (p : BB W) :
    Sem.run P (loadCellsFrom ⟨blk, off + i * k, none⟩ 0 k #[]) p.W = .ok (enc dk[i]!).toArray p.W := (h.bb p).load R P i hi
theorem SB.ld1 (h : SB enc k G wB blk off dk W) (R : RB enc k) (P : Program) (i : Nat) (hi : i < dk.size) :
    Sem.run P (loadCellsFrom ⟨blk, off + i * k, none⟩ 0 k #[]) W.drew = .ok (enc dk[i]!).toArray W.drew := h.drew.load R P i hi
theorem SB.st1 (h : SB enc k G wB blk off dk W) (R : RB enc k) (P : Program) (i : Nat) (hi : i < dk.size) (y : α) :
    Sem.run P (storeCells ⟨blk, off + i * k, none⟩ (enc y) 0) W.drew = .ok () (W.drew.setCells blk (off + i * k) (enc y)) :=
  stores_of_holds P h.drew.holds (i * k) _ (by rw [R.hk, size_flatK]; exact rowK_bnd dk k i hi) (R.h1 _)
theorem SB.st2 (h : SB enc k G wB blk off dk W) (R : RB enc k) (P : Program) (i j : Nat) (hi : i < dk.size) (hj : j < dk.size) (y x : α) :
    Sem.run P (storeCells ⟨blk, off + j * k, none⟩ (enc x) 0) (W.drew.setCells blk (off + i * k) (enc y)) = .ok () ((W.drew.setCells blk (off + i * k) (enc y)).setCells blk (off + j * k) (enc x)) :=
  stores_of_holds P (holds_setCells_c h.drew.holds (i * k) _ (by rw [R.hk, size_flatK]; exact rowK_bnd dk k i hi)) (j * k) _ (by rw [R.hk, size_setMany, size_flatK]; exact rowK_bnd dk k j hj) (R.h1 _)
theorem kept_setCells (b o : Nat) (vs : List Value) (W : World) : (W.setCells b o vs).heap.size = W.heap.size ∧ (W.setCells b o vs).tape = W.tape := by
  induction vs generalizing o W with
  | nil => exact ⟨rfl, rfl⟩
  | cons v r ih =>
    rw [World.setCells]
    obtain ⟨a, c⟩ := ih (o + 1) (W.setCell ⟨b, o, none⟩ v)
    exact ⟨a.trans (by simp [World.setCell]), c.trans rfl⟩
theorem shape_setCells {t : TypeId} (b : Nat) : ∀ (vs : List Value) (o : Nat) (W : World) (cur : Array Value), W.heap[b]? = some (.cells cur t (0, 0)) → ∃ cur', (W.setCells b o vs).heap[b]? = some (.cells cur' t (0, 0)) ∧ cur'.size = cur.size
  | [], _, _, cur, h => ⟨cur, h, rfl⟩
  | v :: r, o, W, cur, h => by
    obtain ⟨c, e1, e2⟩ := shape_setCells (t := t) b r (o + 1) (W.setCell ⟨b, o, none⟩ v) (cur.setIfInBounds o v) (by simp [World.setCell, Array.getElem?_modify, h])
    exact ⟨c, e1, by rw [e2]; simp⟩
theorem SB.swapped (h : SB enc k G wB blk off dk W) (R : RB enc k) (i j : Nat) (hi : i < dk.size) (hj : j < dk.size) :
    SB enc k G wB blk off (swp dk i j) ((W.drew.setCells blk (off + i * k) (enc dk[j]!)).setCells blk (off + j * k) (enc dk[i]!)) := by
  have hd := h.drew
  have H1 := holds_setCells_c hd.holds (i * k) (enc dk[j]!) (by rw [R.hk, size_flatK]; exact rowK_bnd dk k i hi)
  have H2 := holds_setCells_c H1 (j * k) (enc dk[i]!) (by rw [R.hk, size_setMany, size_flatK]; exact rowK_bnd dk k j hj)
  rw [setMany_swp enc k R.hk dk i j hi hj] at H2
  refine ⟨?_, H2, ?_, ?_, ?_, ?_, ?_, h.lt, ?_⟩
  · intro q hq
    rw [size_swp] at hq
    rw [swp_get dk hi hj]
    split
    · exact h.good i hi
    · split
      · exact h.good j hj
      · exact h.good q hq
  · rw [World.os_setCells, World.os_setCells]; exact hd.os
  · rw [(kept_setCells _ _ _ _).2, (kept_setCells _ _ _ _).2]; exact hd.tape
  · rw [World.output_setCells, World.output_setCells]; exact hd.output
  · rw [(kept_setCells _ _ _ _).1, (kept_setCells _ _ _ _).1]; exact hd.size
  · intro q hq hne
    rw [World.heap_setCells_other _ _ _ _ (by rw [(kept_setCells _ _ _ _).1]; exact Nat.lt_of_lt_of_le hq hd.size) hne, World.heap_setCells_other _ _ _ _ (Nat.lt_of_lt_of_le hq hd.size) hne]
    exact hd.kept q hq hne
  · intro cur t e
    obtain ⟨c1, a1, b1⟩ := hd.shape cur t e
    obtain ⟨c2, a2, b2⟩ := shape_setCells blk (enc dk[j]!) (off + i * k) _ c1 a1
    obtain ⟨c3, a3, b3⟩ := shape_setCells blk (enc dk[i]!) (off + j * k) _ c2 a2
    exact ⟨c3, a3, by rw [b3, b2, b1]⟩
def CmpB (P : Program) (g : Nat) (cb : Array Value) (enc : α → List Value) (k : Nat) (G : α → Prop) (cf : α → α → Int) (wB : World) (blk off : Nat) : Prop :=
  ∀ (dk : Array α) (W : World), SB enc k G wB blk off dk W → ∀ x y : α, G x → G y → Calls P g (#[.agg (enc x).toArray, .agg (enc y).toArray] ++ cb) W fun e w' => e = .returned (.int .i64 (cf x y)) ∧ _root_.Go.RowKit.Below W.heap.size W w'
theorem SB.cmp {g : Nat} {cb : Array Value} {cf : α → α → Int} (h : SB enc k G wB blk off dk W) (hC : CmpB P g cb enc k G cf wB blk off) {x y : α} (hx : G x) (hy : G y) (p : BB W) :
    Calls P g (#[.agg (enc x).toArray, .agg (enc y).toArray] ++ cb) p.W fun e w' => e = .returned (.int .i64 (cf x y)) ∧ _root_.Go.RowKit.Below p.W.heap.size p.W w' := hC dk p.W (h.bb p) x y hx hy
end Go.Proofs.YtebofnoljebakaaGreatDoor.XSort
namespace Go.Proofs.YtebofnoljebakaaGreatDoor.XSort
open Go.RowKit Go.Lib Go.Sort Go.Proofs.YtebofnoljebakaaGreatDoor.Stb Go.Proofs
variable {α : Type} [Inhabited α] {enc : α → List Value} {G : α → Prop} {wB : World} {blk off : Nat}
def kI : Nat := 4
theorem szI (w : World) : (Go.sizeOf 38).run Tryz.prog w = .ok kI w := Tryz.sizeOf38 w
attribute [local go_sem ↓ high] szI
set_option maxHeartbeats 4000000 in
set_option maxRecDepth 1000000 in
theorem swap_calls (R : RB enc kI) (fv : Value) (cap a b n : Nat) (d : Array α) (w : World) (S : SB enc kI G wB blk off d w) (hab : a + n ≤ b) (hb : b + n ≤ d.size) (hsz : d.size < 4611686018427387904) :
    Calls Tryz.prog 59 #[.slice (some ⟨blk, off, none⟩) d.size cap, .int .i64 a, .int .i64 b, .int .i64 n, fv] w fun e w' => e = .returned (.tuple #[]) ∧ SB enc kI G wB blk off (swapFrom a b n 0 d) w' := by
  have mixed : Tryz.prog.follows .mixedOrders = true := by kernel_rfl
  have S0 : Aside (SB enc kI G wB blk off d w) := S
  clear S
  go_enter Tryz.func59, Tryz.ntmps59
  go_wp2
  go_loopg [10] n (fun kx s10 wr => ∃ (i : Nat) (dk : Array α), s10 = .int .i64 i ∧ i ≤ n ∧ n - i ≤ kx ∧ dk.size = d.size ∧ Aside (SB enc kI G wB blk off dk wr) ∧ Hid (swapFrom a b n i dk = swapFrom a b n 0 d))
  case atStart => exact ⟨0, d, rfl, Nat.zero_le _, Nat.le_refl _, rfl, S0, rfl⟩
  case round =>
    clear S0
    obtain ⟨i, dk, rfl, hin, hkx, hds, S1, HE⟩ := hrel
    by_cases hlt : i < n
    · have hltz : (i : Int) < (n : Int) := by omega
      go_wp2_with fail
      have ra : IntKind.i64.wrap ((a : Int) + (i : Int)) = (a : Int) + (i : Int) := by rw [IntKind.wrap_i64]; omega
      have rb : IntKind.i64.wrap ((b : Int) + (i : Int)) = (b : Int) + (i : Int) := by rw [IntKind.wrap_i64]; omega
      have ea : ((a : Int) + (i : Int)).toNat = a + i := by omega
      have eb : ((b : Int) + (i : Int)).toNat = b + i := by omega
      have pa : (0 : Int) ≤ (a : Int) + (i : Int) := by omega
      have pb : (0 : Int) ≤ (b : Int) + (i : Int) := by omega
      have ba : (a : Int) + (i : Int) < (d.size : Int) := by omega
      have bb : (b : Int) + (i : Int) < (d.size : Int) := by omega
      have S2 : Aside (SB enc kI G wB blk off (swp dk (a + i) (b + i)) ((wr.drew.setCells blk (off + (a + i) * 4) (enc dk[b + i]!)).setCells blk (off + (b + i) * 4) (enc dk[a + i]!))) := S1.out.swapped R (a + i) (b + i) (by omega) (by omega)
      have la : Sem.run Tryz.prog (loadCellsFrom ⟨blk, off + (a + i) * 4, none⟩ 0 kI #[]) wr.drew = _ := S1.out.ld1 R Tryz.prog (a + i) (by omega)
      have lb : Sem.run Tryz.prog (loadCellsFrom ⟨blk, off + (b + i) * 4, none⟩ 0 kI #[]) wr.drew = _ := S1.out.ld1 R Tryz.prog (b + i) (by omega)
      have sa : Sem.run Tryz.prog (storeCells ⟨blk, off + (a + i) * 4, none⟩ (enc dk[b + i]!) 0) wr.drew = .ok () (wr.drew.setCells blk (off + (a + i) * 4) (enc dk[b + i]!)) := S1.out.st1 R Tryz.prog (a + i) (by omega) dk[b + i]!
      have sb : Sem.run Tryz.prog (storeCells ⟨blk, off + (b + i) * 4, none⟩ (enc dk[a + i]!) 0) (wr.drew.setCells blk (off + (a + i) * 4) (enc dk[b + i]!)) = .ok () ((wr.drew.setCells blk (off + (a + i) * 4) (enc dk[b + i]!)).setCells blk (off + (b + i) * 4) (enc dk[a + i]!)) := S1.out.st2 R Tryz.prog (a + i) (b + i) (by omega) (by omega) dk[b + i]! dk[a + i]!
      have na : (enc dk[a + i]!).length = kI := R.hk _
      have nb : (enc dk[b + i]!).length = kI := R.hk _
      generalize enc dk[a + i]! = cI at S2 la sb na
      generalize enc dk[b + i]! = cJ at S2 lb sa sb nb
      clear S1
      go_wp2_with fail
      go_big_region_o
      clear la lb sa sb
      generalize (wr.drew.setCells blk (off + (a + i) * 4) cJ).setCells blk (off + (b + i) * 4) cI = w2 at S2 ⊢
      go_wp2
      go_roundg (n - (i + 1))
      case measure => omega
      case rel => exact ⟨i + 1, swp dk (a + i) (b + i), by go_num, by omega, Nat.le_refl _, by rw [size_swp]; exact hds, S2, by
        have h := HE.out
        rw [swapFrom, if_pos hlt] at h
        exact h⟩
    · have hltz : ¬ (i : Int) < (n : Int) := by omega
      go_wp2
      go_end0
      refine ⟨rfl, ?_⟩
      have h := HE.out
      rw [swapFrom, if_neg hlt] at h
      rw [← h]
      exact S1.out
set_option maxHeartbeats 4000000 in
set_option maxRecDepth 1000000 in
theorem rot_calls (R : RB enc kI) (fv : Value) (cap a m b : Nat) (d : Array α) (w : World) (S : SB enc kI G wB blk off d w) (ham : a < m) (hmb : m < b) (hb : b ≤ d.size) (hsz : d.size < 4611686018427387904) :
    Calls Tryz.prog 49 #[.slice (some ⟨blk, off, none⟩) d.size cap, .int .i64 a, .int .i64 m, .int .i64 b, fv] w fun e w' => e = .returned (.tuple #[]) ∧ SB enc kI G wB blk off (rotLoop m (m - a) (b - m) d) w' := by
  have S0 : Aside (SB enc kI G wB blk off d w) := S
  clear S
  have w1 : IntKind.i64.wrap ((m : Int) - (a : Int)) = ((m - a : Nat) : Int) := by rw [IntKind.wrap_i64]; omega
  have w2 : IntKind.i64.wrap ((b : Int) - (m : Int)) = ((b - m : Nat) : Int) := by rw [IntKind.wrap_i64]; omega
  go_enter Tryz.func49, Tryz.ntmps49
  go_wp2
  go_loopg [10, 11] (b - a) (fun kx s10 s11 wr => ∃ (i j : Nat) (dk : Array α), s10 = .int .i64 i ∧ s11 = .int .i64 j ∧ 0 < i ∧ 0 < j ∧ i ≤ m ∧ m + j ≤ d.size ∧ i + j ≤ kx ∧ dk.size = d.size ∧ Aside (SB enc kI G wB blk off dk wr) ∧ Hid (rotLoop m i j dk = rotLoop m (m - a) (b - m) d))
  case atStart => exact ⟨m - a, b - m, d, by go_num, by go_num, by omega, by omega, by omega, by omega, by omega, rfl, S0, rfl⟩
  case round =>
    clear S0 w1 w2
    obtain ⟨i, j, dk, rfl, rfl, hi, hj, him, hmj, hkx, hds, S1, HE⟩ := hrel
    by_cases hne : i = j
    · subst hne
      have hc := swap_calls R fv cap (m - i) m i dk wr S1.out (by omega) (by omega) (by omega)
      have w1 : IntKind.i64.wrap ((m : Int) - (i : Int)) = ((m - i : Nat) : Int) := by rw [IntKind.wrap_i64]; omega
      rw [hds] at hc
      go_wp2_with (go_at_call 59; refine hc.mono ?_; rintro e w2 ⟨rfl, S2⟩)
      go_end0
      refine ⟨rfl, ?_⟩
      have h := HE.out
      rw [rotLoop, if_pos (Or.inl rfl)] at h
      rw [← h]
      exact S2
    · have hnz : ¬ (i : Int) = (j : Int) := by omega
      by_cases hgt : i > j
      · have hgz : (i : Int) > (j : Int) := by omega
        have hc := swap_calls R fv cap (m - i) m j dk wr S1.out (by omega) (by omega) (by omega)
        have w1 : IntKind.i64.wrap ((m : Int) - (i : Int)) = ((m - i : Nat) : Int) := by rw [IntKind.wrap_i64]; omega
        have w2 : IntKind.i64.wrap ((i : Int) - (j : Int)) = ((i - j : Nat) : Int) := by rw [IntKind.wrap_i64]; omega
        have hs2 := (swapFrom_get (m - i) m j (by omega) j 0 dk (by omega) (by omega)).1
        rw [hds] at hc
        go_wp2_with (go_at_call 59; refine hc.mono ?_; rintro e w3 ⟨rfl, S3⟩)
        go_roundg (i - j + j)
        case measure => omega
        case rel =>
          have h := HE.out
          rw [rotLoop, if_neg (by omega), if_pos hgt] at h
          exact ⟨i - j, j, _, by go_num, rfl, by omega, hj, by omega, hmj, Nat.le_refl _, by rw [hs2]; exact hds, S3, h⟩
      · have hgz : ¬ (i : Int) > (j : Int) := by omega
        have hc := swap_calls R fv cap (m - i) (m + j - i) i dk wr S1.out (by omega) (by omega) (by omega)
        have w1 : IntKind.i64.wrap ((m : Int) - (i : Int)) = ((m - i : Nat) : Int) := by rw [IntKind.wrap_i64]; omega
        have w2 : IntKind.i64.wrap ((m : Int) + (j : Int)) = (m : Int) + (j : Int) := by rw [IntKind.wrap_i64]; omega
        have w3 : IntKind.i64.wrap ((m : Int) + (j : Int) - (i : Int)) = ((m + j - i : Nat) : Int) := by rw [IntKind.wrap_i64]; omega
        have w4 : IntKind.i64.wrap ((j : Int) - (i : Int)) = ((j - i : Nat) : Int) := by rw [IntKind.wrap_i64]; omega
        have hs2 := (swapFrom_get (m - i) (m + j - i) i (by omega) i 0 dk (by omega) (by omega)).1
        rw [hds] at hc
        go_wp2_with (go_at_call 59; refine hc.mono ?_; rintro e w5 ⟨rfl, S3⟩)
        go_roundg (i + (j - i))
        case measure => omega
        case rel =>
          have h := HE.out
          rw [rotLoop, if_neg (by omega), if_neg hgt] at h
          exact ⟨i, j - i, _, rfl, by go_num, hi, by omega, him, by omega, Nat.le_refl _, by rw [hs2]; exact hds, S3, h⟩
variable {cf : α → α → Int} {g : Nat} {cb : Array Value}
def ltC (cf : α → α → Int) (x y : α) : Bool := decide (cf x y < 0)
set_option maxHeartbeats 4000000 in
set_option maxRecDepth 1000000 in
theorem ins_calls (R : RB enc kI) (eg : ∀ args w, (callFunc g args).run Tryz.prog w = .ok (.enter g args) w) (hcmp : CmpB Tryz.prog g cb enc kI G cf wB blk off) (cap a b : Nat) (d : Array α) (w : World) (S : SB enc kI G wB blk off d w) (hab : a ≤ b) (hb : b ≤ d.size) (hsz : d.size < 4611686018427387904) :
    Calls Tryz.prog 41 #[.slice (some ⟨blk, off, none⟩) d.size cap, .int .i64 a, .int .i64 b, .func (.func g) #[] cb] w fun e w' => e = .returned (.tuple #[]) ∧ SB enc kI G wB blk off (insertionSort (ltC cf) d a b) w' := by
  have mixed : Tryz.prog.follows .mixedOrders = true := by kernel_rfl
  have S0 : Aside (SB enc kI G wB blk off d w) := S
  have HC : Aside _ := hcmp
  clear S hcmp
  have w1 : IntKind.i64.wrap ((a : Int) + 1) = ((a + 1 : Nat) : Int) := by rw [IntKind.wrap_i64]; omega
  go_enter Tryz.func41, Tryz.ntmps41
  go_wp2
  go_loopg [8] (b - a) (fun g1 vi wr => ∃ (i : Nat) (dk : Array α), vi = .int .i64 i ∧ a < i ∧ i ≤ b + 1 ∧ b + 1 - i ≤ g1 + 1 ∧ dk.size = d.size ∧ Aside (SB enc kI G wB blk off dk wr) ∧ Hid (insOuter (ltC cf) a b i dk = insOuter (ltC cf) a b (a + 1) d))
  case atStart => exact ⟨a + 1, d, by go_num, by omega, by omega, by omega, rfl, S0, rfl⟩
  case round =>
    clear S0 w1
    obtain ⟨i, dk, rfl, hai, hib, hg1, hsk, S1, HO⟩ := hrel
    by_cases hlt : i < b
    · have hltz : (i : Int) < (b : Int) := by omega
      go_wp2
      go_loopg [9] i (fun g2 vj wr2 => ∃ (j : Nat) (dj : Array α), vj = .int .i64 j ∧ a ≤ j ∧ j ≤ i ∧ j ≤ g2 ∧ dj.size = d.size ∧ Aside (SB enc kI G wB blk off dj wr2) ∧ Hid (insInner (ltC cf) a j dj = insInner (ltC cf) a i dk))
      case atStart => exact ⟨i, dk, rfl, by omega, Nat.le_refl _, Nat.le_refl _, hsk, S1, rfl⟩
      case round =>
        clear S1
        obtain ⟨j, dj, rfl, haj, hji, hg2, hsj, S1, HI⟩ := hrel
        have out : (j ≤ a ∨ ltC cf dj[j]! dj[j - 1]! = false) → Hid (insOuter (ltC cf) a b (i + 1) dj = insOuter (ltC cf) a b (a + 1) d) := fun hs => by
          show _ = _
          rw [← HO.out, insOuter_go _ _ _ _ _ hlt, ← HI.out, insInner_stop _ _ _ _ hs]
        have OUT : Aside _ := out
        clear out
        have wi : IntKind.i64.wrap ((i : Int) + 1) = ((i + 1 : Nat) : Int) := by rw [IntKind.wrap_i64]; omega
        by_cases hja : a < j
        · obtain ⟨jp, rfl⟩ : ∃ jp, j = jp + 1 := ⟨j - 1, by omega⟩
          have hjaz : ((jp + 1 : Nat) : Int) > (a : Int) := by omega
          have hwp : IntKind.i64.wrap (jp : Int) = (jp : Int) := by rw [IntKind.wrap_i64]; omega
          have jz : (jp : Int) + 1 < (d.size : Int) := by omega
          have jz1 : (jp : Int) < (d.size : Int) := by omega
          have hjaz' : (a : Int) < (jp : Int) + 1 := by omega
          have p0 : (0 : Int) ≤ (jp : Int) + 1 := by omega
          have e0 : ((jp : Int) + 1).toNat = jp + 1 := by omega
          have lj : ∀ p : BB wr, Sem.run Tryz.prog (loadCellsFrom ⟨blk, off + (jp + 1) * 4, none⟩ 0 kI #[]) p.W = .ok (enc dj[jp + 1]!).toArray p.W := S1.out.ld R Tryz.prog (jp + 1) (by omega)
          have lp : ∀ p : BB wr, Sem.run Tryz.prog (loadCellsFrom ⟨blk, off + jp * 4, none⟩ 0 kI #[]) p.W = .ok (enc dj[jp]!).toArray p.W := S1.out.ld R Tryz.prog jp (by omega)
          have hc := S1.out.cmp HC.out (S1.out.good (jp + 1) (by omega)) (S1.out.good jp (by omega))
          generalize hv : cf dj[jp + 1]! dj[jp]! = v at hc
          have HV : Aside _ := hv
          clear hv
          generalize hxj : enc dj[jp + 1]! = cJ at lj hc
          generalize hxp : enc dj[jp]! = cP at lp hc
          have HX : Hid (enc dj[jp + 1]! = cJ ∧ enc dj[jp]! = cP) := ⟨hxj, hxp⟩
          clear hxj hxp
          by_cases hlv : v < 0
          · go_wp2_with fail
            refine wp_quiet_bb mixed (by kernel_rfl) ?_
            repeat (quiet_step (first | (go_at_fn g; refine Calls.bb (hc _))))
            refine wpQuiet_nil ?_
            intro _ hw'
            obtain ⟨pq, hw''⟩ := hw'
            subst hw''
            clear lj lp hc
            have S2 : Aside (SB enc kI G wB blk off dj pq.W) := S1.out.bb pq
            clear S1
            generalize pq.W = w2 at S2 ⊢
            go_wp2_with fail
            have S3 : Aside (SB enc kI G wB blk off (swp dj (jp + 1) jp) ((w2.drew.setCells blk (off + (jp + 1) * 4) (enc dj[jp]!)).setCells blk (off + jp * 4) (enc dj[jp + 1]!))) := S2.out.swapped R (jp + 1) jp (by omega) (by omega)
            have la : Sem.run Tryz.prog (loadCellsFrom ⟨blk, off + (jp + 1) * 4, none⟩ 0 kI #[]) w2.drew = _ := S2.out.ld1 R Tryz.prog (jp + 1) (by omega)
            have lb : Sem.run Tryz.prog (loadCellsFrom ⟨blk, off + jp * 4, none⟩ 0 kI #[]) w2.drew = _ := S2.out.ld1 R Tryz.prog jp (by omega)
            have sa : Sem.run Tryz.prog (storeCells ⟨blk, off + (jp + 1) * 4, none⟩ (enc dj[jp]!) 0) w2.drew = .ok () (w2.drew.setCells blk (off + (jp + 1) * 4) (enc dj[jp]!)) := S2.out.st1 R Tryz.prog (jp + 1) (by omega) dj[jp]!
            have sb : Sem.run Tryz.prog (storeCells ⟨blk, off + jp * 4, none⟩ (enc dj[jp + 1]!) 0) (w2.drew.setCells blk (off + (jp + 1) * 4) (enc dj[jp]!)) = .ok () ((w2.drew.setCells blk (off + (jp + 1) * 4) (enc dj[jp]!)).setCells blk (off + jp * 4) (enc dj[jp + 1]!)) := S2.out.st2 R Tryz.prog (jp + 1) jp (by omega) (by omega) dj[jp]! dj[jp + 1]!
            have na : (enc dj[jp + 1]!).length = kI := R.hk _
            have nb : (enc dj[jp]!).length = kI := R.hk _
            rw [HX.out.1] at S3 la sb na
            rw [HX.out.2] at S3 lb sa sb nb
            clear S2
            go_big_region_o
            clear la lb sa sb
            generalize (w2.drew.setCells blk (off + (jp + 1) * 4) cP).setCells blk (off + jp * 4) cJ = w3 at S3 ⊢
            go_wp2
            go_roundg jp
            case measure => omega
            case rel =>
              refine ⟨jp, swp dj (jp + 1) jp, by go_num, by omega, by omega, Nat.le_refl _, by rw [size_swp]; exact hsj, S3, (show Hid _ from ?_)⟩
              show _ = _
              have := insInner_go (ltC cf) a (jp + 1) dj hja (by simp only [Nat.add_sub_cancel]; unfold ltC; rw [HV.out]; exact decide_eq_true hlv)
              simp only [Nat.add_sub_cancel] at this
              rw [← HI.out, this]
          · go_wp2_with fail
            refine wp_quiet_bb mixed (by kernel_rfl) ?_
            repeat (quiet_step (first | (go_at_fn g; refine Calls.bb (hc _))))
            refine wpQuiet_nil ?_
            intro _ hw'
            obtain ⟨pq, hw''⟩ := hw'
            subst hw''
            clear lj lp hc
            have S2 : Aside (SB enc kI G wB blk off dj pq.W) := S1.out.bb pq
            clear S1
            generalize pq.W = w2 at S2 ⊢
            go_wp2
            go_roundg (b - (i + 1))
            case measure => omega
            case rel => exact ⟨i + 1, dj, by go_num, by omega, by omega, by omega, hsj, S2, OUT.out (Or.inr (by simp only [Nat.add_sub_cancel]; unfold ltC; rw [HV.out]; exact decide_eq_false (by omega)))⟩
        · have hjaz : decide ((j : Int) > (a : Int)) = false := decide_eq_false (by omega)
          have hjaz' : ¬ (a : Int) < (j : Int) := by omega
          have S2 : Aside (SB enc kI G wB blk off dj wr.drew) := S1.out.drew
          clear S1
          go_wp2_with fail
          go_big_region_o
          all_goals go_wp2
          go_roundg (b - (i + 1))
          case measure => omega
          case rel => exact ⟨i + 1, dj, by go_num, by omega, by omega, by omega, hsj, S2, OUT.out (Or.inl (by omega))⟩
    · have hltz : ¬ (i : Int) < (b : Int) := by omega
      go_wp2
      go_end0
      refine ⟨rfl, ?_⟩
      unfold Sort.insertionSort
      rw [← HO.out, insOuter_stop _ _ _ _ _ hlt]
      exact S1.out
end Go.Proofs.YtebofnoljebakaaGreatDoor.XSort
namespace Go.Proofs.YtebofnoljebakaaGreatDoor.XSort
open Go.RowKit Go.Lib Go.Sort Go.Proofs.YtebofnoljebakaaGreatDoor.Stb Go.Proofs
variable {α : Type} [Inhabited α] {enc : α → List Value} {G : α → Prop} {wB : World} {blk off : Nat}
variable {cf : α → α → Int} {g : Nat} {cb : Array Value}
attribute [local go_sem ↓ high] szI
set_option maxHeartbeats 4000000 in
set_option maxRecDepth 1000000 in
theorem sym_one (R : RB enc kI) (eg : ∀ args w, (callFunc g args).run Tryz.prog w = .ok (.enter g args) w) (hcmp : CmpB Tryz.prog g cb enc kI G cf wB blk off) (cap a m b : Nat) (d : Array α) (w : World) (S : SB enc kI G wB blk off d w) (ham : a < m) (hmb : m < b) (hb : b ≤ d.size) (hsz : d.size < 4611686018427387904) (c1 : m - a = 1) :
    Calls Tryz.prog 42 #[.slice (some ⟨blk, off, none⟩) d.size cap, .int .i64 a, .int .i64 m, .int .i64 b, .func (.func g) #[] cb] w fun e w' => e = .returned (.tuple #[]) ∧ SB enc kI G wB blk off (bubUp (srch (fun h => ltC cf d[h]! d[a]!) m b - 1) a d) w' := by
  have mixed : Tryz.prog.follows .mixedOrders = true := by kernel_rfl
  have S0 : Aside (SB enc kI G wB blk off d w) := S
  have HC : Aside _ := hcmp
  clear S hcmp
  have w1 : IntKind.i64.wrap ((m : Int) - (a : Int)) = 1 := by rw [IntKind.wrap_i64]; omega
  go_enter Tryz.func42, Tryz.ntmps42
  go_wp2
  go_loopg [10, 11] (b - m) (fun kx s10 s11 wr => ∃ (i j : Nat), s10 = .int .i64 i ∧ s11 = .int .i64 j ∧ m ≤ i ∧ i ≤ j ∧ j ≤ b ∧ j - i ≤ kx ∧ Aside (SB enc kI G wB blk off d wr) ∧ Hid (srch (fun h => ltC cf d[h]! d[a]!) i j = srch (fun h => ltC cf d[h]! d[a]!) m b))
  case atStart => exact ⟨m, b, by go_num, by go_num, Nat.le_refl _, by omega, Nat.le_refl _, Nat.le_refl _, S0, rfl⟩
  case round =>
    clear S0 w1
    obtain ⟨i, j, rfl, rfl, hmi, hij, hjb, hkx, S1, HE⟩ := hrel
    by_cases hlt : i < j
    · have hltz : (i : Int) < (j : Int) := by omega
      have wa : IntKind.i64.wrap ((i : Int) + (j : Int)) = (i : Int) + (j : Int) := by rw [IntKind.wrap_i64]; omega
      go_wp2_with fail
      obtain ⟨h, hh, hih, hhj, hhe⟩ : ∃ h : Nat, ((i : Int) + (j : Int)) / 2 = (h : Int) ∧ i ≤ h ∧ h < j ∧ h = (i + j) / 2 := ⟨(i + j) / 2, by omega, by omega, by omega, rfl⟩
      have wh : IntKind.i64.wrap ((h : Int) + 1) = ((h + 1 : Nat) : Int) := by rw [IntKind.wrap_i64]; omega
      have hz : (h : Int) < (d.size : Int) := by omega
      have az : (a : Int) < (d.size : Int) := by omega
      have lj : ∀ p : BB wr, Sem.run Tryz.prog (loadCellsFrom ⟨blk, off + h * 4, none⟩ 0 kI #[]) p.W = .ok (enc d[h]!).toArray p.W := S1.out.ld R Tryz.prog (h) (by omega)
      have lp : ∀ p : BB wr, Sem.run Tryz.prog (loadCellsFrom ⟨blk, off + a * 4, none⟩ 0 kI #[]) p.W = .ok (enc d[a]!).toArray p.W := S1.out.ld R Tryz.prog (a) (by omega)
      have hc := S1.out.cmp HC.out (S1.out.good (h) (by omega)) (S1.out.good (a) (by omega))
      have hstep := HE.out
      rw [srch, if_pos hlt, ← hhe] at hstep
      clear hhe
      generalize hv : cf d[h]! d[a]! = v at hc
      generalize enc d[h]! = cJ at lj hc
      generalize enc d[a]! = cP at lp hc
      by_cases hlv : v < 0
      · rw [if_pos (by unfold ltC; rw [hv]; simp; omega)] at hstep
        have HT : Hid _ := hstep
        clear hstep hv HE
        refine wp_quiet_bb mixed (by kernel_rfl) ?_
        repeat (quiet_step (first | (go_at_fn g; refine Calls.bb (hc _))))
        refine wpQuiet_nil ?_
        intro _ hw'
        obtain ⟨pq, hw''⟩ := hw'
        subst hw''
        clear lj lp hc
        have S2 : Aside (SB enc kI G wB blk off d pq.W) := S1.out.bb pq
        clear S1
        generalize pq.W = w2 at S2 ⊢
        go_wp2
        go_roundg (j - (h + 1))
        case measure => omega
        case rel => exact ⟨h + 1, j, by go_num, rfl, by omega, by omega, by omega, by omega, S2, HT⟩
      · rw [if_neg (by unfold ltC; rw [hv]; simp; omega)] at hstep
        have HT : Hid _ := hstep
        clear hstep hv HE
        refine wp_quiet_bb mixed (by kernel_rfl) ?_
        repeat (quiet_step (first | (go_at_fn g; refine Calls.bb (hc _))))
        refine wpQuiet_nil ?_
        intro _ hw'
        obtain ⟨pq, hw''⟩ := hw'
        subst hw''
        clear lj lp hc
        have S2 : Aside (SB enc kI G wB blk off d pq.W) := S1.out.bb pq
        clear S1
        generalize pq.W = w2 at S2 ⊢
        go_wp2
        go_roundg (h - i)
        case measure => omega
        case rel => exact ⟨i, h, rfl, rfl, by omega, by omega, by omega, by omega, S2, HT⟩
    · have hltz : ¬ (i : Int) < (j : Int) := by omega
      have he := HE.out
      rw [srch, if_neg hlt] at he
      have HI : Hid _ := he
      clear he HE
      have wi : IntKind.i64.wrap ((i : Int) - 1) = ((i - 1 : Nat) : Int) := by rw [IntKind.wrap_i64]; omega
      go_wp2
      go_loopg [13] (i - 1 - a) (fun kx s13 wr => ∃ (k : Nat) (dk : Array α), s13 = .int .i64 k ∧ a ≤ k ∧ k ≤ i - 1 ∧ i - 1 - k ≤ kx ∧ dk.size = d.size ∧ Aside (SB enc kI G wB blk off dk wr) ∧ Hid (bubUp (i - 1) k dk = bubUp (i - 1) a d))
      case atStart => exact ⟨a, d, rfl, Nat.le_refl _, by omega, Nat.le_refl _, rfl, S1, rfl⟩
      case round =>
        clear S1
        obtain ⟨k, dk, rfl, hak, hki, hkx2, hds, S1, HB⟩ := hrel
        by_cases hk : k < i - 1
        · have hkz : (k : Int) < ((i - 1 : Nat) : Int) := by omega
          have wk : IntKind.i64.wrap ((k : Int) + 1) = (k : Int) + 1 := by rw [IntKind.wrap_i64]; omega
          have ek : ((k : Int) + 1).toNat = k + 1 := by omega
          have pk : (0 : Int) ≤ (k : Int) + 1 := by omega
          have bk : (k : Int) < (d.size : Int) := by omega
          have bk1 : (k : Int) + 1 < (d.size : Int) := by omega
          have S3 : Aside (SB enc kI G wB blk off (swp dk (k) (k + 1)) ((wr.drew.setCells blk (off + (k) * 4) (enc dk[k + 1]!)).setCells blk (off + (k + 1) * 4) (enc dk[k]!))) := S1.out.swapped R (k) (k + 1) (by omega) (by omega)
          have la : Sem.run Tryz.prog (loadCellsFrom ⟨blk, off + (k) * 4, none⟩ 0 kI #[]) wr.drew = _ := S1.out.ld1 R Tryz.prog (k) (by omega)
          have lb : Sem.run Tryz.prog (loadCellsFrom ⟨blk, off + (k + 1) * 4, none⟩ 0 kI #[]) wr.drew = _ := S1.out.ld1 R Tryz.prog (k + 1) (by omega)
          have sa : Sem.run Tryz.prog (storeCells ⟨blk, off + (k) * 4, none⟩ (enc dk[k + 1]!) 0) wr.drew = .ok () (wr.drew.setCells blk (off + (k) * 4) (enc dk[k + 1]!)) := S1.out.st1 R Tryz.prog (k) (by omega) dk[k + 1]!
          have sb : Sem.run Tryz.prog (storeCells ⟨blk, off + (k + 1) * 4, none⟩ (enc dk[k]!) 0) (wr.drew.setCells blk (off + (k) * 4) (enc dk[k + 1]!)) = .ok () ((wr.drew.setCells blk (off + (k) * 4) (enc dk[k + 1]!)).setCells blk (off + (k + 1) * 4) (enc dk[k]!)) := S1.out.st2 R Tryz.prog (k) (k + 1) (by omega) (by omega) dk[k + 1]! dk[k]!
          have na : (enc dk[k]!).length = kI := R.hk _
          have nb : (enc dk[k + 1]!).length = kI := R.hk _
          generalize enc dk[k]! = cI at S3 la sb na
          generalize enc dk[k + 1]! = cJ at S3 lb sa sb nb
          clear S1
          go_wp2_with fail
          go_big_region_o
          clear la lb sa sb
          generalize (wr.drew.setCells blk (off + (k) * 4) cJ).setCells blk (off + (k + 1) * 4) cI = w3 at S3 ⊢
          go_wp2
          go_roundg (i - 1 - (k + 1))
          case measure => omega
          case rel =>
            have h := HB.out
            rw [bubUp, if_pos hk] at h
            exact ⟨k + 1, swp dk k (k + 1), by go_num, by omega, by omega, Nat.le_refl _, by rw [size_swp]; exact hds, S3, h⟩
        · have hkz : ¬ (k : Int) < ((i - 1 : Nat) : Int) := by omega
          go_wp2
          (try simp only [Exit.inBlock, Exit.then])
          refine bodyPost_ret (results_none rfl _ _ _) rfl ?_
          refine ⟨rfl, ?_⟩
          have h := HB.out
          rw [bubUp, if_neg hk] at h
          rw [← HI.out, ← h]
          exact S1.out
set_option maxHeartbeats 4000000 in
set_option maxRecDepth 1000000 in
theorem sym_two (R : RB enc kI) (eg : ∀ args w, (callFunc g args).run Tryz.prog w = .ok (.enter g args) w) (hcmp : CmpB Tryz.prog g cb enc kI G cf wB blk off) (cap a m b : Nat) (d : Array α) (w : World) (S : SB enc kI G wB blk off d w) (ham : a < m) (hmb : m < b) (hb : b ≤ d.size) (hsz : d.size < 4611686018427387904) (c1 : ¬ m - a = 1) (c2 : b - m = 1) :
    Calls Tryz.prog 42 #[.slice (some ⟨blk, off, none⟩) d.size cap, .int .i64 a, .int .i64 m, .int .i64 b, .func (.func g) #[] cb] w fun e w' => e = .returned (.tuple #[]) ∧ SB enc kI G wB blk off (bubDown (srch (fun h => !ltC cf d[m]! d[h]!) a m) m d) w' := by
  have mixed : Tryz.prog.follows .mixedOrders = true := by kernel_rfl
  have S0 : Aside (SB enc kI G wB blk off d w) := S
  have HC : Aside _ := hcmp
  clear S hcmp
  have w1 : IntKind.i64.wrap ((m : Int) - (a : Int)) = ((m - a : Nat) : Int) := by rw [IntKind.wrap_i64]; omega
  have w1z : (((m - a : Nat) : Int) == 1) = false := by simp; omega
  have w2 : IntKind.i64.wrap ((b : Int) - (m : Int)) = 1 := by rw [IntKind.wrap_i64]; omega
  go_enter Tryz.func42, Tryz.ntmps42
  go_wp2
  go_loopg [14, 15] (m - a) (fun kx s10 s11 wr => ∃ (i j : Nat), s10 = .int .i64 i ∧ s11 = .int .i64 j ∧ a ≤ i ∧ i ≤ j ∧ j ≤ m ∧ j - i ≤ kx ∧ Aside (SB enc kI G wB blk off d wr) ∧ Hid (srch (fun h => !ltC cf d[m]! d[h]!) i j = srch (fun h => !ltC cf d[m]! d[h]!) a m))
  case atStart => exact ⟨a, m, by go_num, by go_num, Nat.le_refl _, by omega, Nat.le_refl _, Nat.le_refl _, S0, rfl⟩
  case round =>
    clear S0 w1 w1z w2
    obtain ⟨i, j, rfl, rfl, hmi, hij, hjb, hkx, S1, HE⟩ := hrel
    by_cases hlt : i < j
    · have hltz : (i : Int) < (j : Int) := by omega
      have wa : IntKind.i64.wrap ((i : Int) + (j : Int)) = (i : Int) + (j : Int) := by rw [IntKind.wrap_i64]; omega
      go_wp2_with fail
      obtain ⟨h, hh, hih, hhj, hhe⟩ : ∃ h : Nat, ((i : Int) + (j : Int)) / 2 = (h : Int) ∧ i ≤ h ∧ h < j ∧ h = (i + j) / 2 := ⟨(i + j) / 2, by omega, by omega, by omega, rfl⟩
      have wh : IntKind.i64.wrap ((h : Int) + 1) = ((h + 1 : Nat) : Int) := by rw [IntKind.wrap_i64]; omega
      have hz : (h : Int) < (d.size : Int) := by omega
      have az : (m : Int) < (d.size : Int) := by omega
      have lj : ∀ p : BB wr, Sem.run Tryz.prog (loadCellsFrom ⟨blk, off + m * 4, none⟩ 0 kI #[]) p.W = .ok (enc d[m]!).toArray p.W := S1.out.ld R Tryz.prog (m) (by omega)
      have lp : ∀ p : BB wr, Sem.run Tryz.prog (loadCellsFrom ⟨blk, off + h * 4, none⟩ 0 kI #[]) p.W = .ok (enc d[h]!).toArray p.W := S1.out.ld R Tryz.prog (h) (by omega)
      have hc := S1.out.cmp HC.out (S1.out.good (m) (by omega)) (S1.out.good (h) (by omega))
      have hstep := HE.out
      rw [srch, if_pos hlt, ← hhe] at hstep
      clear hhe
      generalize hv : cf d[m]! d[h]! = v at hc
      generalize enc d[m]! = cJ at lj hc
      generalize enc d[h]! = cP at lp hc
      by_cases hlv : v < 0
      · rw [if_neg (by unfold ltC; rw [hv]; simp; omega)] at hstep
        have HT : Hid _ := hstep
        clear hstep hv HE
        refine wp_quiet_bb mixed (by kernel_rfl) ?_
        repeat (quiet_step (first | (go_at_fn g; refine Calls.bb (hc _))))
        refine wpQuiet_nil ?_
        intro _ hw'
        obtain ⟨pq, hw''⟩ := hw'
        subst hw''
        clear lj lp hc
        have S2 : Aside (SB enc kI G wB blk off d pq.W) := S1.out.bb pq
        clear S1
        generalize pq.W = w2 at S2 ⊢
        go_wp2
        go_roundg (h - i)
        case measure => omega
        case rel => exact ⟨i, h, rfl, rfl, by omega, by omega, by omega, by omega, S2, HT⟩
      · rw [if_pos (by unfold ltC; rw [hv]; simp; omega)] at hstep
        have HT : Hid _ := hstep
        clear hstep hv HE
        refine wp_quiet_bb mixed (by kernel_rfl) ?_
        repeat (quiet_step (first | (go_at_fn g; refine Calls.bb (hc _))))
        refine wpQuiet_nil ?_
        intro _ hw'
        obtain ⟨pq, hw''⟩ := hw'
        subst hw''
        clear lj lp hc
        have S2 : Aside (SB enc kI G wB blk off d pq.W) := S1.out.bb pq
        clear S1
        generalize pq.W = w2 at S2 ⊢
        go_wp2
        go_roundg (j - (h + 1))
        case measure => omega
        case rel => exact ⟨h + 1, j, by go_num, rfl, by omega, by omega, by omega, by omega, S2, HT⟩
    · have hltz : ¬ (i : Int) < (j : Int) := by omega
      have he := HE.out
      rw [srch, if_neg hlt] at he
      have HI : Hid _ := he
      clear he HE
      go_wp2
      go_loopg [17] (m - i) (fun kx s17 wr => ∃ (k : Nat) (dk : Array α), s17 = .int .i64 k ∧ i ≤ k ∧ k ≤ m ∧ k - i ≤ kx ∧ dk.size = d.size ∧ Aside (SB enc kI G wB blk off dk wr) ∧ Hid (bubDown i k dk = bubDown i m d))
      case atStart => exact ⟨m, d, rfl, by omega, Nat.le_refl _, Nat.le_refl _, rfl, S1, rfl⟩
      case round =>
        clear S1
        obtain ⟨k, dk, rfl, hik, hkm, hkx2, hds, S1, HB⟩ := hrel
        by_cases hk : i < k
        · obtain ⟨k, rfl⟩ : ∃ q, k = q + 1 := ⟨k - 1, by omega⟩
          have hkz : ((k : Int) + 1) > (i : Int) := by omega
          have hkz' : (i : Int) < (k : Int) + 1 := by omega
          have wk : IntKind.i64.wrap (k : Int) = (k : Int) := by rw [IntKind.wrap_i64]; omega
          have ek : ((k : Int) + 1).toNat = k + 1 := by omega
          have pk : (0 : Int) ≤ (k : Int) + 1 := by omega
          have bk : (k : Int) < (d.size : Int) := by omega
          have bk1 : (k : Int) + 1 < (d.size : Int) := by omega
          have S3 : Aside (SB enc kI G wB blk off (swp dk (k + 1) (k)) ((wr.drew.setCells blk (off + (k + 1) * 4) (enc dk[k]!)).setCells blk (off + (k) * 4) (enc dk[k + 1]!))) := S1.out.swapped R (k + 1) (k) (by omega) (by omega)
          have la : Sem.run Tryz.prog (loadCellsFrom ⟨blk, off + (k + 1) * 4, none⟩ 0 kI #[]) wr.drew = _ := S1.out.ld1 R Tryz.prog (k + 1) (by omega)
          have lb : Sem.run Tryz.prog (loadCellsFrom ⟨blk, off + (k) * 4, none⟩ 0 kI #[]) wr.drew = _ := S1.out.ld1 R Tryz.prog (k) (by omega)
          have sa : Sem.run Tryz.prog (storeCells ⟨blk, off + (k + 1) * 4, none⟩ (enc dk[k]!) 0) wr.drew = .ok () (wr.drew.setCells blk (off + (k + 1) * 4) (enc dk[k]!)) := S1.out.st1 R Tryz.prog (k + 1) (by omega) dk[k]!
          have sb : Sem.run Tryz.prog (storeCells ⟨blk, off + (k) * 4, none⟩ (enc dk[k + 1]!) 0) (wr.drew.setCells blk (off + (k + 1) * 4) (enc dk[k]!)) = .ok () ((wr.drew.setCells blk (off + (k + 1) * 4) (enc dk[k]!)).setCells blk (off + (k) * 4) (enc dk[k + 1]!)) := S1.out.st2 R Tryz.prog (k + 1) (k) (by omega) (by omega) dk[k]! dk[k + 1]!
          have na : (enc dk[k + 1]!).length = kI := R.hk _
          have nb : (enc dk[k]!).length = kI := R.hk _
          generalize enc dk[k + 1]! = cI at S3 la sb na
          generalize enc dk[k]! = cJ at S3 lb sa sb nb
          clear S1
          go_wp2_with fail
          go_big_region_o
          clear la lb sa sb
          generalize (wr.drew.setCells blk (off + (k + 1) * 4) cJ).setCells blk (off + (k) * 4) cI = w3 at S3 ⊢
          go_wp2
          go_roundg (k - i)
          case measure => omega
          case rel =>
            have h := HB.out
            rw [bubDown, if_pos hk] at h
            exact ⟨k, swp dk (k + 1) k, by go_num, by omega, by omega, Nat.le_refl _, by rw [size_swp]; exact hds, S3, h⟩
        · have hkz : ¬ (k : Int) > (i : Int) := by omega
          have hkz' : ¬ (i : Int) < (k : Int) := by omega
          go_wp2
          (try simp only [Exit.inBlock, Exit.then])
          refine bodyPost_ret (results_none rfl _ _ _) rfl ?_
          refine ⟨rfl, ?_⟩
          have h := HB.out
          rw [← HI.out, ← h]
          cases k with
          | zero => rw [bubDown]; exact S1.out
          | succ k => rw [bubDown, if_neg hk]; exact S1.out
end Go.Proofs.YtebofnoljebakaaGreatDoor.XSort
namespace Go.Proofs.YtebofnoljebakaaGreatDoor.XSort
open Go.RowKit Go.Lib Go.Sort Go.Proofs.YtebofnoljebakaaGreatDoor.Stb Go.Proofs
variable {α : Type} [Inhabited α] {enc : α → List Value} {G : α → Prop} {wB : World} {blk off : Nat}
variable {cf : α → α → Int} {g : Nat} {cb : Array Value}
attribute [local go_sem ↓ high] szI
theorem srch_bounds (p : Nat → Bool) : ∀ (g i j : Nat), j - i ≤ g → i ≤ j → i ≤ srch p i j ∧ srch p i j ≤ j := by
  intro g
  induction g with
  | zero => intro i j h1 h2; rw [srch, if_neg (by omega)]; exact ⟨Nat.le_refl _, h2⟩
  | succ g ih =>
    intro i j h1 h2
    rw [srch]
    by_cases h : i < j
    · rw [if_pos h]
      split
      · obtain ⟨a, b⟩ := ih ((i + j) / 2 + 1) j (by omega) (by omega); exact ⟨by omega, b⟩
      · obtain ⟨a, b⟩ := ih i ((i + j) / 2) (by omega) (by omega); exact ⟨a, by omega⟩
    · rw [if_neg h]; exact ⟨Nat.le_refl _, h2⟩
theorem sym_unfold (lt : α → α → Bool) {a m b lo hi s e : Nat} (d : Array α) (c1 : ¬ m - a = 1) (c2 : ¬ b - m = 1) (hlo : lo = if m > (a + b) / 2 then (a + b) / 2 + m - b else a) (hhi : hi = if m > (a + b) / 2 then (a + b) / 2 else m)
    (hs : srch (fun c => !lt d[(a + b) / 2 + m - 1 - c]! d[c]!) lo hi = s) (he : e = (a + b) / 2 + m - s) {d1 d2 : Array α} (h1 : d1 = if s < m ∧ m < e then rotLoop m (m - s) (e - m) d else d)
    (h2 : d2 = if a < s ∧ s < (a + b) / 2 ∧ (a + b) / 2 < b then symMerge lt a s ((a + b) / 2) d1 else d1) :
    symMerge lt a m b d = if (a + b) / 2 < e ∧ e < b ∧ a < (a + b) / 2 then symMerge lt ((a + b) / 2) e b d2 else d2 := by
  subst h2 h1 he hs hlo hhi
  rw [symMerge, if_neg c1, if_neg c2]
  simp only [dite_eq_ite]
theorem sym_size (lt : α → α → Bool) : ∀ (g a m b : Nat) (d : Array α), b - a ≤ g → a < m → m < b → b ≤ d.size → (symMerge lt a m b d).size = d.size := by
  intro g
  induction g with
  | zero => intro a m b d h1 h2; omega
  | succ g ih =>
    intro a m b d hg h1 h2 hb
    by_cases c1 : m - a = 1
    · rw [symMerge, if_pos c1]
      obtain ⟨x, y⟩ := srch_bounds (fun h => lt d[h]! d[a]!) (b - m) m b (Nat.le_refl _) (by omega)
      exact (bubUp_rot _ _ a d (Nat.le_refl _) (by omega) (by omega)).1
    by_cases c2 : b - m = 1
    · rw [symMerge, if_neg c1, if_pos c2]
      obtain ⟨x, y⟩ := srch_bounds (fun h => !lt d[m]! d[h]!) (m - a) a m (Nat.le_refl _) (by omega)
      exact (bubDown_rot _ m d y (by omega)).1
    obtain ⟨lo, hlo⟩ : ∃ lo, lo = if m > (a + b) / 2 then (a + b) / 2 + m - b else a := ⟨_, rfl⟩
    obtain ⟨hi, hhi⟩ : ∃ hi, hi = if m > (a + b) / 2 then (a + b) / 2 else m := ⟨_, rfl⟩
    obtain ⟨s, hs⟩ : ∃ s, srch (fun c => !lt d[(a + b) / 2 + m - 1 - c]! d[c]!) lo hi = s := ⟨_, rfl⟩
    obtain ⟨e, he⟩ : ∃ e, e = (a + b) / 2 + m - s := ⟨_, rfl⟩
    obtain ⟨d1, hd1⟩ : ∃ d1, d1 = if s < m ∧ m < e then rotLoop m (m - s) (e - m) d else d := ⟨_, rfl⟩
    obtain ⟨d2, hd2⟩ : ∃ d2, d2 = if a < s ∧ s < (a + b) / 2 ∧ (a + b) / 2 < b then symMerge lt a s ((a + b) / 2) d1 else d1 := ⟨_, rfl⟩
    rw [sym_unfold lt d c1 c2 hlo hhi hs he hd1 hd2]
    have hb2 : lo ≤ hi ∧ a ≤ lo ∧ hi ≤ (a + b) / 2 ∧ (a + b) / 2 + m ≤ lo + b ∧ hi ≤ m := by split at hlo <;> split at hhi <;> omega
    obtain ⟨x, y⟩ := srch_bounds (fun c => !lt d[(a + b) / 2 + m - 1 - c]! d[c]!) (hi - lo) lo hi (Nat.le_refl _) hb2.1
    rw [hs] at x y
    have s1 : d1.size = d.size := by
      rw [hd1]; split
      · exact (rotLoop_rot _ m (m - s) (e - m) d (Nat.le_refl _) (by omega) (by omega) (by omega) (by omega)).1
      · rfl
    have s2 : d2.size = d.size := by
      rw [hd2]; split
      · rename_i h; exact (ih a s ((a + b) / 2) d1 (by omega) h.1 h.2.1 (by omega)).trans s1
      · exact s1
    split
    · rename_i h; exact (ih ((a + b) / 2) e b d2 (by omega) h.1 h.2.1 (by omega)).trans s2
    · exact s2
end Go.Proofs.YtebofnoljebakaaGreatDoor.XSort
namespace Go.Proofs.YtebofnoljebakaaGreatDoor.XSort
open Go.RowKit Go.Lib Go.Sort Go.Proofs.YtebofnoljebakaaGreatDoor.Stb Go.Proofs
variable {α : Type} [Inhabited α] {enc : α → List Value} {G : α → Prop} {wB : World} {blk off : Nat}
variable {cf : α → α → Int} {g : Nat} {cb : Array Value}
attribute [local go_sem ↓ high] szI
set_option maxHeartbeats 4000000 in
set_option maxRecDepth 1000000 in
theorem sym_gen (R : RB enc kI) (eg : ∀ args w, (callFunc g args).run Tryz.prog w = .ok (.enter g args) w) (hcmp : CmpB Tryz.prog g cb enc kI G cf wB blk off) (cap a m b : Nat) (d : Array α) (w : World) (S : SB enc kI G wB blk off d w) (ham : a < m) (hmb : m < b) (hb : b ≤ d.size) (hsz : d.size < 4611686018427387904) (c1 : ¬ m - a = 1) (c2 : ¬ b - m = 1)
    (ih : ∀ (a' m' b' : Nat) (d' : Array α) (w' : World), b' - a' < b - a → SB enc kI G wB blk off d' w' → a' < m' → m' < b' → b' ≤ d'.size → d'.size = d.size →
      Calls Tryz.prog 42 #[.slice (some ⟨blk, off, none⟩) d.size cap, .int .i64 a', .int .i64 m', .int .i64 b', .func (.func g) #[] cb] w' fun e w'' => e = .returned (.tuple #[]) ∧ SB enc kI G wB blk off (symMerge (ltC cf) a' m' b' d') w'') :
    Calls Tryz.prog 42 #[.slice (some ⟨blk, off, none⟩) d.size cap, .int .i64 a, .int .i64 m, .int .i64 b, .func (.func g) #[] cb] w fun e w' => e = .returned (.tuple #[]) ∧ SB enc kI G wB blk off (symMerge (ltC cf) a m b d) w' := by
  have mixed : Tryz.prog.follows .mixedOrders = true := by kernel_rfl
  have S0 : Aside (SB enc kI G wB blk off d w) := S
  have HC : Aside _ := hcmp
  clear S hcmp
  have IH : Aside _ := ih
  clear ih
  have w1 : IntKind.i64.wrap ((m : Int) - (a : Int)) = ((m - a : Nat) : Int) := by rw [IntKind.wrap_i64]; omega
  have w1z : (((m - a : Nat) : Int) == 1) = false := by simp; omega
  have w2 : IntKind.i64.wrap ((b : Int) - (m : Int)) = ((b - m : Nat) : Int) := by rw [IntKind.wrap_i64]; omega
  have w2z : (((b - m : Nat) : Int) == 1) = false := by simp; omega
  have w3 : IntKind.i64.wrap ((a : Int) + (b : Int)) = (a : Int) + (b : Int) := by rw [IntKind.wrap_i64]; omega
  have w4 : IntKind.i64.wrap (((a : Int) + (b : Int)) / 2 + (m : Int)) = ((a : Int) + (b : Int)) / 2 + (m : Int) := by rw [IntKind.wrap_i64]; omega
  have w5 : IntKind.i64.wrap (((a : Int) + (b : Int)) / 2 + (m : Int) - (b : Int)) = ((a : Int) + (b : Int)) / 2 + (m : Int) - (b : Int) := by rw [IntKind.wrap_i64]; omega
  have w6 : IntKind.i64.wrap (((a : Int) + (b : Int)) / 2 + (m : Int) - 1) = ((a : Int) + (b : Int)) / 2 + (m : Int) - 1 := by rw [IntKind.wrap_i64]; omega
  obtain ⟨lo, hlo⟩ : ∃ lo, lo = if m > (a + b) / 2 then (a + b) / 2 + m - b else a := ⟨_, rfl⟩
  obtain ⟨hi, hhi⟩ : ∃ hi, hi = if m > (a + b) / 2 then (a + b) / 2 else m := ⟨_, rfl⟩
  have hb2 : lo ≤ hi ∧ a ≤ lo ∧ hi ≤ (a + b) / 2 ∧ (a + b) / 2 + m ≤ lo + b ∧ hi ≤ m := by split at hlo <;> split at hhi <;> omega
  have HL : Hid _ := hlo
  have HH : Hid _ := hhi
  have HB2 : Aside _ := hb2
  clear hlo hhi hb2
  go_enter Tryz.func42, Tryz.ntmps42
  go_upto_if 140 with fail
  go_cut [20, 21] from 25 (fun s20 s21 wx => s20 = .int .i64 lo ∧ s21 = .int .i64 hi ∧ wx = w)
  case first =>
    by_cases hm : m > (a + b) / 2
    · have hmz : (m : Int) > ((a : Int) + (b : Int)) / 2 := by omega
      have hmz' : ((a : Int) + (b : Int)) / 2 < (m : Int) := by omega
      go_wp2_with fail
      go_meet
      case rel => exact ⟨by have q := HL.out; rw [if_pos hm] at q; congr 1; omega, by have q := HH.out; rw [if_pos hm] at q; congr 1; omega, rfl⟩
    · have hmz : ¬ (m : Int) > ((a : Int) + (b : Int)) / 2 := by omega
      have hmz' : (m : Int) ≤ ((a : Int) + (b : Int)) / 2 := by omega
      go_wp2_with fail
      go_meet
      case rel => exact ⟨by have q := HL.out; rw [if_neg hm] at q; rw [q], by have q := HH.out; rw [if_neg hm] at q; rw [q], rfl⟩
  case rest =>
  obtain ⟨rfl, rfl, rfl⟩ := hcut
  have hb2 := HB2.out
  go_wp2
  go_loopg [20, 21] (hi - lo) (fun kx s10 s11 wr => ∃ (i j : Nat), s10 = .int .i64 i ∧ s11 = .int .i64 j ∧ lo ≤ i ∧ i ≤ j ∧ j ≤ hi ∧ j - i ≤ kx ∧ Aside (SB enc kI G wB blk off d wr) ∧ Hid (srch (fun c => !ltC cf d[(a + b) / 2 + m - 1 - c]! d[c]!) i j = srch (fun c => !ltC cf d[(a + b) / 2 + m - 1 - c]! d[c]!) lo hi))
  case atStart => exact ⟨lo, hi, by go_num, by go_num, Nat.le_refl _, hb2.1, Nat.le_refl _, Nat.le_refl _, S0, rfl⟩
  case round =>
    clear S0 w1 w1z w2 w2z w3 w4 w5 w6
    obtain ⟨i, j, rfl, rfl, hmi, hij, hjb, hkx, S1, HE⟩ := hrel
    by_cases hlt : i < j
    · have hltz : (i : Int) < (j : Int) := by omega
      have wa : IntKind.i64.wrap ((i : Int) + (j : Int)) = (i : Int) + (j : Int) := by rw [IntKind.wrap_i64]; omega
      go_wp2_with fail
      obtain ⟨h, hh, hih, hhj, hhe⟩ : ∃ h : Nat, ((i : Int) + (j : Int)) / 2 = (h : Int) ∧ i ≤ h ∧ h < j ∧ h = (i + j) / 2 := ⟨(i + j) / 2, by omega, by omega, by omega, rfl⟩
      have wh : IntKind.i64.wrap ((h : Int) + 1) = ((h + 1 : Nat) : Int) := by rw [IntKind.wrap_i64]; omega
      have hz : (h : Int) < (d.size : Int) := by omega
      obtain ⟨q, hq⟩ : ∃ q : Nat, q = (a + b) / 2 + m - 1 - h := ⟨_, rfl⟩
      have wq : IntKind.i64.wrap (((a : Int) + (b : Int)) / 2 + (m : Int) - 1 - (h : Int)) = (q : Int) := by rw [IntKind.wrap_i64]; omega
      have qz : (q : Int) < (d.size : Int) := by omega
      have lj : ∀ p : BB wr, Sem.run Tryz.prog (loadCellsFrom ⟨blk, off + q * 4, none⟩ 0 kI #[]) p.W = .ok (enc d[q]!).toArray p.W := S1.out.ld R Tryz.prog (q) (by omega)
      have lp : ∀ p : BB wr, Sem.run Tryz.prog (loadCellsFrom ⟨blk, off + h * 4, none⟩ 0 kI #[]) p.W = .ok (enc d[h]!).toArray p.W := S1.out.ld R Tryz.prog (h) (by omega)
      have hc := S1.out.cmp HC.out (S1.out.good (q) (by omega)) (S1.out.good (h) (by omega))
      have hstep := HE.out
      rw [srch, if_pos hlt, ← hhe] at hstep
      rw [← hq] at hstep
      clear hhe hq
      generalize hv : cf d[q]! d[h]! = v at hc
      generalize enc d[q]! = cJ at lj hc
      generalize enc d[h]! = cP at lp hc
      by_cases hlv : v < 0
      · rw [if_neg (by unfold ltC; rw [hv]; simp; omega)] at hstep
        have HT : Hid _ := hstep
        clear hstep hv HE
        refine wp_quiet_bb mixed (by kernel_rfl) ?_
        repeat (quiet_step (first | (go_at_fn g; refine Calls.bb (hc _))))
        refine wpQuiet_nil ?_
        intro _ hw'
        obtain ⟨pq, hw''⟩ := hw'
        subst hw''
        clear lj lp hc
        have S2 : Aside (SB enc kI G wB blk off d pq.W) := S1.out.bb pq
        clear S1
        generalize pq.W = w2 at S2 ⊢
        go_wp2
        go_roundg (h - i)
        case measure => omega
        case rel => exact ⟨i, h, rfl, rfl, by omega, by omega, by omega, by omega, S2, HT⟩
      · rw [if_pos (by unfold ltC; rw [hv]; simp; omega)] at hstep
        have HT : Hid _ := hstep
        clear hstep hv HE
        refine wp_quiet_bb mixed (by kernel_rfl) ?_
        repeat (quiet_step (first | (go_at_fn g; refine Calls.bb (hc _))))
        refine wpQuiet_nil ?_
        intro _ hw'
        obtain ⟨pq, hw''⟩ := hw'
        subst hw''
        clear lj lp hc
        have S2 : Aside (SB enc kI G wB blk off d pq.W) := S1.out.bb pq
        clear S1
        generalize pq.W = w2 at S2 ⊢
        go_wp2
        go_roundg (j - (h + 1))
        case measure => omega
        case rel => exact ⟨h + 1, j, by go_num, rfl, by omega, by omega, by omega, by omega, S2, HT⟩
    · have hltz : ¬ (i : Int) < (j : Int) := by omega
      have he := HE.out
      rw [srch, if_neg hlt] at he
      obtain ⟨e, hee⟩ : ∃ e : Nat, e = (a + b) / 2 + m - i := ⟨_, rfl⟩
      have we : IntKind.i64.wrap (((a : Int) + (b : Int)) / 2 + (m : Int) - (i : Int)) = (e : Int) := by rw [IntKind.wrap_i64]; omega
      have hbe : m ≤ e ∧ e ≤ b ∧ i ≤ m ∧ a ≤ i ∧ i ≤ (a + b) / 2 ∧ (a + b) / 2 ≤ e := by omega
      have HBE : Aside _ := hbe
      obtain ⟨d1, hd1⟩ : ∃ d1, d1 = if i < m ∧ m < e then rotLoop m (m - i) (e - m) d else d := ⟨_, rfl⟩
      obtain ⟨d2, hd2⟩ : ∃ d2, d2 = if a < i ∧ i < (a + b) / 2 ∧ (a + b) / 2 < b then symMerge (ltC cf) a i ((a + b) / 2) d1 else d1 := ⟨_, rfl⟩
      have FIN : Hid _ := sym_unfold (ltC cf) d c1 c2 HL.out HH.out he.symm hee hd1 hd2
      have s1 : d1.size = d.size := by
        rw [hd1]; split
        · exact (rotLoop_rot _ m (m - i) (e - m) d (Nat.le_refl _) (by omega) (by omega) (by omega) (by omega)).1
        · rfl
      have s2 : d2.size = d.size := by
        rw [hd2]; split
        · rename_i h; exact (sym_size (ltC cf) _ a i ((a + b) / 2) d1 (Nat.le_refl _) h.1 h.2.1 (by omega)).trans s1
        · exact s1
      have em : (((a + b) / 2 : Nat) : Int) = ((a : Int) + (b : Int)) / 2 := by omega
      have hc1 : i < m ∧ m < e → ∀ w', SB enc kI G wB blk off d w' → Calls Tryz.prog 49 #[.slice (some ⟨blk, off, none⟩) d.size cap, .int .i64 i, .int .i64 m, .int .i64 e, .func (.func g) #[] cb] w' fun e w'' => e = .returned (.tuple #[]) ∧ SB enc kI G wB blk off d1 w'' := fun h w' hS => by
        rw [hd1, if_pos h]; exact rot_calls R _ cap i m e d w' hS h.1 h.2 (by omega) hsz
      have hc2 : a < i ∧ i < (a + b) / 2 → ∀ w', SB enc kI G wB blk off d1 w' → Calls Tryz.prog 42 #[.slice (some ⟨blk, off, none⟩) d.size cap, .int .i64 a, .int .i64 i, .int .i64 (((a : Int) + (b : Int)) / 2), .func (.func g) #[] cb] w' fun e w'' => e = .returned (.tuple #[]) ∧ SB enc kI G wB blk off (d2) w'' := fun h w' hS => by
        rw [hd2, if_pos ⟨h.1, h.2, by omega⟩, ← em]; exact IH.out a i ((a + b) / 2) d1 w' (by omega) hS h.1 h.2 (by omega) s1
      have hc3 : (a + b) / 2 < e ∧ e < b → ∀ w', SB enc kI G wB blk off d2 w' → Calls Tryz.prog 42 #[.slice (some ⟨blk, off, none⟩) d.size cap, .int .i64 (((a : Int) + (b : Int)) / 2), .int .i64 e, .int .i64 b, .func (.func g) #[] cb] w' fun e w'' => e = .returned (.tuple #[]) ∧ SB enc kI G wB blk off (symMerge (ltC cf) a m b d) w'' := fun h w' hS => by
        rw [FIN.out, if_pos ⟨h.1, h.2, by omega⟩, ← em]; exact IH.out ((a + b) / 2) e b d2 w' (by omega) hS h.1 h.2 (by omega) s2
      have hn1 : ¬ (i < m ∧ m < e) → d1 = d := fun h => by rw [hd1, if_neg h]
      have hn2 : ¬ (a < i ∧ i < (a + b) / 2) → d2 = d1 := fun h => by rw [hd2, if_neg (fun x => h ⟨x.1, x.2.1⟩)]
      have hn3 : ¬ ((a + b) / 2 < e ∧ e < b) → symMerge (ltC cf) a m b d = d2 := fun h => by rw [FIN.out, if_neg (fun x => h ⟨x.1, x.2.1⟩)]
      have C1 : Aside _ := hc1
      have C2 : Aside _ := hc2
      have C3 : Aside _ := hc3
      have N1 : Aside _ := hn1
      have N2 : Aside _ := hn2
      have N3 : Aside _ := hn3
      clear hc1 hc2 hc3 hn1 hn2 hn3 hd1 hd2 he HE FIN em hee HL HH s1 s2 IH HC hbe hb2 HB2
      go_upto_region 39 with fail
      go_cut [185] from 178 (fun sx wx => sx = .bool (decide (i < m ∧ m < e)) ∧ wx = wr)
      case first =>
        by_cases xa : i < m
        · have za : (i : Int) < (m : Int) := by omega
          by_cases xb : m < e
          · have zb : (m : Int) < (e : Int) := by omega
            go_wp2_with fail
            go_meet
            case rel => exact ⟨by simp [xa, xb], rfl⟩
          · have zb : ¬ (m : Int) < (e : Int) := by omega
            go_wp2_with fail
            go_meet
            case rel => exact ⟨by simp [xa, xb], rfl⟩
        · have za : ¬ (i : Int) < (m : Int) := by omega
          go_wp2_with fail
          go_meet
          case rel => exact ⟨by simp [xa], rfl⟩
      case rest =>
      obtain ⟨rfl, hwc⟩ := hcut
      subst hwc
      go_upto_if 185 with fail
      go_cut [] from 178 (fun wx => Aside (SB enc kI G wB blk off d1 wx))
      case first =>
        by_cases hX : i < m ∧ m < e
        · have hd : decide (i < m ∧ m < e) = true := decide_eq_true hX
          go_wp2_with (go_at_call 49; refine (C1.out hX _ S1.out).mono ?_; rintro e1 W1 ⟨rfl, T1⟩)
          go_meet
          case rel => exact T1
        · have hd : decide (i < m ∧ m < e) = false := decide_eq_false hX
          go_wp2_with fail
          go_meet
          case rel => rw [N1.out hX]; exact S1
      case rest =>
      obtain ⟨W1, T1⟩ : ∃ W, W = wc := ⟨_, rfl⟩
      subst T1
      have Q1 : Aside (SB enc kI G wB blk off d1 W1) := hcut
      clear hcut S1
      go_upto_region 41 with fail
      go_cut [199] from 192 (fun sx wx => sx = .bool (decide (a < i ∧ i < (a + b) / 2)) ∧ wx = W1)
      case first =>
        by_cases xa : a < i
        · have za : (a : Int) < (i : Int) := by omega
          by_cases xb : i < (a + b) / 2
          · have zb : (i : Int) < (((a : Int) + (b : Int)) / 2) := by omega
            go_wp2_with fail
            go_meet
            case rel => exact ⟨by simp [xa, xb], rfl⟩
          · have zb : ¬ (i : Int) < (((a : Int) + (b : Int)) / 2) := by omega
            go_wp2_with fail
            go_meet
            case rel => exact ⟨by simp [xa, xb], rfl⟩
        · have za : ¬ (a : Int) < (i : Int) := by omega
          go_wp2_with fail
          go_meet
          case rel => exact ⟨by simp [xa], rfl⟩
      case rest =>
      obtain ⟨rfl, hwc⟩ := hcut
      subst hwc
      go_upto_if 199 with fail
      go_cut [] from 192 (fun wx => Aside (SB enc kI G wB blk off d2 wx))
      case first =>
        by_cases hX : a < i ∧ i < (a + b) / 2
        · have hd : decide (a < i ∧ i < (a + b) / 2) = true := decide_eq_true hX
          go_wp2_with (go_at_call 42; refine (C2.out hX _ Q1.out).mono ?_; rintro e2 W2 ⟨rfl, T2⟩)
          go_meet
          case rel => exact T2
        · have hd : decide (a < i ∧ i < (a + b) / 2) = false := decide_eq_false hX
          go_wp2_with fail
          go_meet
          case rel => rw [N2.out hX]; exact Q1
      case rest =>
      obtain ⟨W2, T2⟩ : ∃ W, W = wc := ⟨_, rfl⟩
      subst T2
      have Q2 : Aside (SB enc kI G wB blk off d2 W2) := hcut
      clear hcut Q1
      go_upto_region 43 with fail
      go_cut [213] from 206 (fun sx wx => sx = .bool (decide ((a + b) / 2 < e ∧ e < b)) ∧ wx = W2)
      case first =>
        by_cases xa : (a + b) / 2 < e
        · have za : (((a : Int) + (b : Int)) / 2) < (e : Int) := by omega
          by_cases xb : e < b
          · have zb : (e : Int) < (b : Int) := by omega
            go_wp2_with fail
            go_meet
            case rel => exact ⟨by simp [xa, xb], rfl⟩
          · have zb : ¬ (e : Int) < (b : Int) := by omega
            go_wp2_with fail
            go_meet
            case rel => exact ⟨by simp [xa, xb], rfl⟩
        · have za : ¬ (((a : Int) + (b : Int)) / 2) < (e : Int) := by omega
          go_wp2_with fail
          go_meet
          case rel => exact ⟨by simp [xa], rfl⟩
      case rest =>
      obtain ⟨rfl, hwc⟩ := hcut
      subst hwc
      by_cases hX : (a + b) / 2 < e ∧ e < b
      · have hd : decide ((a + b) / 2 < e ∧ e < b) = true := decide_eq_true hX
        go_wp2_with (go_at_call 42; refine (C3.out hX _ Q2.out).mono ?_; rintro e3 W3 ⟨rfl, T3⟩)
        go_end0
        exact ⟨rfl, T3⟩
      · have hd : decide ((a + b) / 2 < e ∧ e < b) = false := decide_eq_false hX
        go_wp2
        go_end0
        refine ⟨rfl, ?_⟩
        rw [N3.out hX]
        exact Q2.out
theorem sym_calls (R : RB enc kI) (eg : ∀ args w, (callFunc g args).run Tryz.prog w = .ok (.enter g args) w) (hcmp : CmpB Tryz.prog g cb enc kI G cf wB blk off) (cap : Nat) : ∀ (gg a m b : Nat) (d : Array α) (w : World), b - a ≤ gg → SB enc kI G wB blk off d w → a < m → m < b → b ≤ d.size → d.size < 4611686018427387904 →
    Calls Tryz.prog 42 #[.slice (some ⟨blk, off, none⟩) d.size cap, .int .i64 a, .int .i64 m, .int .i64 b, .func (.func g) #[] cb] w fun e w' => e = .returned (.tuple #[]) ∧ SB enc kI G wB blk off (symMerge (ltC cf) a m b d) w' := by
  intro gg
  induction gg with
  | zero => intro a m b d w h1 h2 h3; omega
  | succ gg ih =>
    intro a m b d w hg S ham hmb hb hsz
    by_cases c1 : m - a = 1
    · rw [symMerge, if_pos c1]; exact sym_one R eg hcmp cap a m b d w S ham hmb hb hsz c1
    by_cases c2 : b - m = 1
    · rw [symMerge, if_neg c1, if_pos c2]; exact sym_two R eg hcmp cap a m b d w S ham hmb hb hsz c1 c2
    exact sym_gen R eg hcmp cap a m b d w S ham hmb hb hsz c1 c2 (fun a' m' b' d' w' h1 h2 h3 h4 h5 h6 => by
      have := ih a' m' b' d' w' (by omega) h2 h3 h4 h5 (by rw [h6]; exact hsz)
      rw [h6] at this; exact this)
end Go.Proofs.YtebofnoljebakaaGreatDoor.XSort
namespace Go.Proofs.YtebofnoljebakaaGreatDoor.XSort
open Go.RowKit Go.Lib Go.Sort Go.Proofs.YtebofnoljebakaaGreatDoor.Stb Go.Proofs
variable {α : Type} [Inhabited α] {enc : α → List Value} {G : α → Prop} {wB : World} {blk off : Nat}
variable {cf : α → α → Int} {g : Nat} {cb : Array Value}
theorem insInner_size (lt : α → α → Bool) (a : Nat) : ∀ (j : Nat) (d : Array α), (insInner lt a j d).size = d.size := by
  intro j
  induction j with
  | zero => intro d; rw [insInner]
  | succ j ih => intro d; rw [insInner]; split; · rw [ih, size_swp]
                 · rfl
theorem insOuter_size (lt : α → α → Bool) (a b : Nat) : ∀ (g i : Nat) (d : Array α), b - i ≤ g → (insOuter lt a b i d).size = d.size := by
  intro g
  induction g with
  | zero => intro i d h; rw [insOuter, if_neg (by omega)]
  | succ g ih => intro i d h; rw [insOuter]; split; · rw [ih _ _ (by omega), insInner_size]
                 · rfl
theorem insertion_size (lt : α → α → Bool) (d : Array α) (a b : Nat) : (insertionSort lt d a b).size = d.size := insOuter_size lt a b _ _ d (Nat.le_refl _)
set_option maxHeartbeats 4000000 in
set_option maxRecDepth 1000000 in
theorem stable_calls (R : RB enc kI) (eg : ∀ args w, (callFunc g args).run Tryz.prog w = .ok (.enter g args) w) (hcmp : CmpB Tryz.prog g cb enc kI G cf wB blk off) (cap : Nat) (d : Array α) (w : World) (S : SB enc kI G wB blk off d w) (hsz : d.size < 1000000000000) :
    Calls Tryz.prog 37 #[.slice (some ⟨blk, off, none⟩) d.size cap, .int .i64 d.size, .func (.func g) #[] cb] w fun e w' => e = .returned (.tuple #[]) ∧ SB enc kI G wB blk off (stable (ltC cf) d) w' := by
  have S0 : Aside (SB enc kI G wB blk off d w) := S
  have HC : Aside _ := hcmp
  clear S hcmp
  go_enter Tryz.func37, Tryz.ntmps37
  go_wp2
  go_loopg [7, 8] (d.size + 1) (fun kx s7 s8 wr => ∃ (a : Nat) (dk : Array α), s7 = .int .i64 a ∧ s8 = .int .i64 ((a + 20 : Nat) : Int) ∧ a ≤ d.size ∧ d.size + 1 - a ≤ kx ∧ dk.size = d.size ∧ Aside (SB enc kI G wB blk off dk wr) ∧ Hid (stBlocks (ltC cf) d.size a (a + 20) dk = stBlocks (ltC cf) d.size 0 20 d))
  case atStart => exact ⟨0, d, rfl, rfl, Nat.zero_le _, by omega, rfl, S0, rfl⟩
  case round =>
    clear S0
    obtain ⟨a, dk, rfl, rfl, had, hkx, hds, S1, HE⟩ := hrel
    by_cases hlt : a + 20 ≤ d.size
    · have hltz : ((a + 20 : Nat) : Int) ≤ (d.size : Int) := by omega
      have hltz' : (a : Int) + 20 ≤ (d.size : Int) := by omega
      have hc := ins_calls R eg HC.out cap a (a + 20) dk wr S1.out (by omega) (by omega) (by omega)
      have wa : IntKind.i64.wrap (((a + 20 : Nat) : Int) + 20) = ((a + 20 + 20 : Nat) : Int) := by rw [IntKind.wrap_i64]; omega
      have wa' : IntKind.i64.wrap ((a : Int) + 20 + 20) = ((a + 20 + 20 : Nat) : Int) := by rw [IntKind.wrap_i64]; omega
      rw [hds] at hc
      have hs2 := insertion_size (ltC cf) dk a (a + 20)
      have hstep := HE.out
      rw [stBlocks, if_pos hlt] at hstep
      have HT : Hid _ := hstep
      clear hstep HE S1
      go_wp2_with (go_at_call 41; refine hc.mono ?_; rintro e w2 ⟨rfl, S2⟩)
      go_roundg (d.size + 1 - (a + 20))
      case measure => omega
      case rel => exact ⟨a + 20, _, by go_num, by go_num, hlt, Nat.le_refl _, by rw [hs2]; exact hds, S2, HT⟩
    · have hltz : ¬ ((a + 20 : Nat) : Int) ≤ (d.size : Int) := by omega
      have hltz' : (d.size : Int) < (a : Int) + 20 := by omega
      have hc := ins_calls R eg HC.out cap a d.size dk wr S1.out had (by omega) (by omega)
      rw [hds] at hc
      have hs2 := insertion_size (ltC cf) dk a d.size
      have hstep := HE.out
      rw [stBlocks, if_neg hlt] at hstep
      generalize hd1 : insertionSort (ltC cf) dk a d.size = d1 at hc hs2 hstep
      have HT : Hid _ := hstep
      clear hstep HE S1 hd1
      go_wp2_with (go_at_call 41; refine hc.mono ?_; rintro e w2 ⟨rfl, S2⟩)
      have hd1 : d1.size = d.size := hs2.trans hds
      have S2' : Aside (SB enc kI G wB blk off d1 w2) := S2
      clear S2 hc hs2 hltz hltz'
      go_loopg [6] (d.size) (fun kx s6 wr => ∃ (s : Nat) (dk : Array α), s6 = .int .i64 s ∧ 20 ≤ s ∧ s ≤ 2 * d.size + 20 ∧ d.size - s ≤ kx ∧ dk.size = d.size ∧ Aside (SB enc kI G wB blk off dk wr) ∧ Hid (stRounds (ltC cf) d.size s dk = stRounds (ltC cf) d.size 20 d1))
      case atStart => exact ⟨20, d1, rfl, Nat.le_refl _, by omega, by omega, hd1, S2', rfl⟩
      case round =>
        clear S2'
        obtain ⟨s, dk2, rfl, hs20, hsm, hkx2, hds2, S3, HR⟩ := hrel
        by_cases hs : s < d.size
        · have hsz1 : (s : Int) < (d.size : Int) := by omega
          have wm : IntKind.i64.wrap (2 * (s : Int)) = ((2 * s : Nat) : Int) := by rw [IntKind.wrap_i64]; omega
          have hR := HR.out
          rw [stRounds, if_pos ⟨hs, by omega⟩] at hR
          have HR' : Hid _ := hR
          clear hR HR
          go_wp2
          go_loopg [7, 8] (d.size + 1) (fun kx s7 s8 wr => ∃ (a2 : Nat) (dj : Array α), s7 = .int .i64 a2 ∧ s8 = .int .i64 ((a2 + 2 * s : Nat) : Int) ∧ a2 ≤ d.size ∧ d.size + 1 - a2 ≤ kx ∧ dj.size = d.size ∧ Aside (SB enc kI G wB blk off dj wr) ∧ Hid (stMerges (ltC cf) d.size s a2 (a2 + 2 * s) dj = stMerges (ltC cf) d.size s 0 (2 * s) dk2))
          case atStart => exact ⟨0, dk2, rfl, by go_num, Nat.zero_le _, by omega, hds2, S3, by rw [Nat.zero_add]; rfl⟩
          case round =>
            clear S3 wm
            obtain ⟨a2, dj, rfl, rfl, ha2, hkx3, hdj, S4, HM⟩ := hrel
            by_cases hb2 : a2 + 2 * s ≤ d.size
            · have hbz : ((a2 + 2 * s : Nat) : Int) ≤ (d.size : Int) := by omega
              have hbz' : (a2 : Int) + 2 * (s : Int) ≤ (d.size : Int) := by omega
              have wx : IntKind.i64.wrap ((a2 : Int) + (s : Int)) = ((a2 + s : Nat) : Int) := by rw [IntKind.wrap_i64]; omega
              have wm : IntKind.i64.wrap (2 * (s : Int)) = ((2 * s : Nat) : Int) := by rw [IntKind.wrap_i64]; omega
              have wy : IntKind.i64.wrap (((a2 + 2 * s : Nat) : Int) + ((2 * s : Nat) : Int)) = ((a2 + 2 * s + 2 * s : Nat) : Int) := by rw [IntKind.wrap_i64]; omega
              have wy' : IntKind.i64.wrap ((a2 : Int) + 2 * (s : Int) + 2 * (s : Int)) = ((a2 + 2 * s + 2 * s : Nat) : Int) := by rw [IntKind.wrap_i64]; omega
              have hc := sym_calls R eg HC.out cap (a2 + 2 * s - a2) a2 (a2 + s) (a2 + 2 * s) dj wr (Nat.le_refl _) S4.out (by omega) (by omega) (by omega) (by omega)
              rw [hdj] at hc
              have hsz4 := sym_size (ltC cf) _ a2 (a2 + s) (a2 + 2 * s) dj (Nat.le_refl _) (by omega) (by omega) (by omega)
              have hM := HM.out
              rw [stMerges, if_pos ⟨hb2, by omega⟩] at hM
              generalize symMerge (ltC cf) a2 (a2 + s) (a2 + 2 * s) dj = dm at hc hsz4 hM
              have HM' : Hid _ := hM
              clear hM HM S4
              go_wp2_with (go_at_call 42; refine hc.mono ?_; rintro e w4 ⟨rfl, S5⟩)
              go_roundg (d.size + 1 - (a2 + 2 * s))
              case measure => omega
              case rel => exact ⟨a2 + 2 * s, dm, by go_num, by go_num, hb2, Nat.le_refl _, by rw [hsz4]; exact hdj, S5, HM'⟩
            · have hbz : ¬ ((a2 + 2 * s : Nat) : Int) ≤ (d.size : Int) := by omega
              have hbz' : (d.size : Int) < (a2 : Int) + 2 * (s : Int) := by omega
              have wx : IntKind.i64.wrap ((a2 : Int) + (s : Int)) = ((a2 + s : Nat) : Int) := by rw [IntKind.wrap_i64]; omega
              have wz : IntKind.i64.wrap ((s : Int) * 2) = ((s * 2 : Nat) : Int) := by rw [IntKind.wrap_i64]; omega
              have hM := HM.out
              rw [stMerges, if_neg (fun x => hb2 x.1)] at hM
              by_cases hm2 : a2 + s < d.size
              · have hmz : ((a2 + s : Nat) : Int) < (d.size : Int) := by omega
                have hmz' : (a2 : Int) + (s : Int) < (d.size : Int) := by omega
                have hc := sym_calls R eg HC.out cap (d.size - a2) a2 (a2 + s) d.size dj wr (Nat.le_refl _) S4.out (by omega) hm2 (by omega) (by omega)
                rw [hdj] at hc
                have hsz4 := sym_size (ltC cf) _ a2 (a2 + s) d.size dj (Nat.le_refl _) (by omega) hm2 (by omega)
                rw [if_pos hm2] at hM
                generalize symMerge (ltC cf) a2 (a2 + s) d.size dj = dm at hc hsz4 hM
                have HM' : Hid _ := hM
                clear hM HM S4
                go_wp2_with (go_at_call 42; refine hc.mono ?_; rintro e w4 ⟨rfl, S5⟩)
                go_roundg (d.size - s * 2)
                case measure => omega
                case rel => exact ⟨s * 2, dm, by go_num, by omega, by omega, Nat.le_refl _, by rw [hsz4]; exact hdj, S5, by have q := HR'.out; rw [← HM'.out] at q; exact q⟩
              · have hmz : ¬ ((a2 + s : Nat) : Int) < (d.size : Int) := by omega
                have hmz' : (d.size : Int) ≤ (a2 : Int) + (s : Int) := by omega
                rw [if_neg hm2] at hM
                have HM' : Hid _ := hM
                clear hM HM
                go_wp2
                go_roundg (d.size - s * 2)
                case measure => omega
                case rel => exact ⟨s * 2, dj, by go_num, by omega, by omega, Nat.le_refl _, hdj, S4, by have q := HR'.out; rw [← HM'.out] at q; exact q⟩
        · have hsz1 : ¬ (s : Int) < (d.size : Int) := by omega
          go_wp2
          go_end0
          refine ⟨rfl, ?_⟩
          have hR := HR.out
          rw [stRounds, if_neg (fun x => hs x.1)] at hR
          unfold stable
          rw [← HT.out, ← hR]
          exact S3.out
set_option maxHeartbeats 4000000 in
set_option maxRecDepth 1000000 in
theorem sortStable_calls (R : RB enc kI) (eg : ∀ args w, (callFunc g args).run Tryz.prog w = .ok (.enter g args) w) (hcmp : CmpB Tryz.prog g cb enc kI G cf wB blk off) (cap : Nat) (d : Array α) (w : World) (S : SB enc kI G wB blk off d w) (hsz : d.size < 1000000000000) :
    Calls Tryz.prog 31 #[.slice (some ⟨blk, off, none⟩) d.size cap, .func (.func g) #[] cb] w fun e w' => e = .returned (.tuple #[]) ∧ SB enc kI G wB blk off (stable (ltC cf) d) w' := by
  have hc := stable_calls R eg hcmp cap d w S hsz
  clear S hcmp
  go_enter Tryz.func31, Tryz.ntmps31
  go_wp2_with (go_at_call 37; refine hc.mono ?_; rintro e w2 ⟨rfl, S2⟩)
  go_end0
  exact ⟨rfl, S2⟩
end Go.Proofs.YtebofnoljebakaaGreatDoor.XSort
