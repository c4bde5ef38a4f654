/- Words beside the print's own: a constant's bytes, and a string's, as a row that is only read. -/
import Derived.Test.YtialoecplmnjfaaGreatDoorWALL
import Derived.Lib.SlBytesConst
import Derived.Lib.ConvBytes
import Derived.Lib.AppendStr
import Derived.Maps.AppendAt
import Derived.Test.YtialoecplmnjfaaGreatDoorProg
import Derived.Lib.Hide
import Derived.Lib.SliceRun
import Derived.WalkKit
import Derived.Shelf.LaysM
import Derived.Shelf.LaysC
import Derived.Lib.LaidTab
import Derived.Lib.SmallJoins
import Derived.Lib.ItoaNum
import Derived.SizedLaws
import Derived.Handed
import Derived.MapKept
import Derived.Carry
import Derived.Below
import Derived.Maps.Own
import Derived.Maps.OwnOps
import Derived.Deep.RegionHeld3
import Derived.Deep.DrawnRows
import Derived.RegionTactic
import Derived.Deep.LoopGhost
import Derived.Laws.BitsLemmas
import Derived.OpenShut
import Derived.ChangeArms
import Derived.ChangeSlices
import Derived.WideShapes
set_option linter.unusedVariables false
set_option linter.unusedSimpArgs false
set_option linter.unusedSectionVars false
namespace Go.Proofs.YtialoecplmnjfaaGreatDoorW.PrintMore
open Go.RowKit Go.Proofs.YtialoecplmnjfaaGreatDoorW.PrintWords
theorem xm_less_gtr : ∀ (x y : List UInt8), (!(Op.bytesLess x y || x == y)) = Op.bytesLess y x
  | [], [] => by decide
  | [], _ :: _ => by simp [Op.bytesLess]
  | _ :: _, [] => by simp [Op.bytesLess]
  | a :: x, b :: y => by
    have ih := xm_less_gtr x y
    simp only [Op.bytesLess]
    by_cases h : a = b
    · subst h
      simp only [BEq.rfl, Bool.true_and, List.cons_beq_cons, UInt8.lt_irrefl, decide_false, Bool.false_or]
      exact ih
    · have h1 : (a == b) = false := by simp [h]
      have h2 : (b == a) = false := by simp; exact fun e => h e.symm
      simp only [h1, h2, Bool.false_and, Bool.or_false, List.cons_beq_cons]
      rcases UInt8.lt_or_lt_of_ne h with h3 | h3
      · have h4 : ¬ b < a := fun h4 => UInt8.lt_asymm h3 h4
        simp [h3, h4]
      · have h4 : ¬ a < b := fun h4 => UInt8.lt_asymm h3 h4
        simp [h3, h4]
theorem xb {B : Nat} {w w' : World} (h : Below B w w' := by repeat (first | (with_reducible first | exact HB.out | apply below_alloc | apply pw_below_drewN | apply below_drew1 | refine below_set ?_ (Aside0.out (by with_reducible assumption))) | exact HB.out)) : Below B w w' := h
theorem xf {B : Nat} {w w' : World} (h : Below B w w' := by first | exact Below.refl _ _ | exact pw_below_drewN (Below.refl _ _) _ | exact (by repeat (first | (with_reducible first | exact HB.out | apply below_alloc | apply pw_below_drewN | apply below_drew1 | refine below_set ?_ (Aside0.out (by with_reducible assumption))) | exact HB.out))) : Below B w w' := h
theorem xk {p q : Prop} (a : p) (h : p → q := by intro ha; (with_reducible repeat (first | refine blk_drewN ?_ _ | refine blk_drew ?_ | refine blk_alloc ?_ _)); exact ha) : q := h a
theorem xr {p : Prop} (h : p := by (try simp only [List.map_toArray, List.map_cons, List.map_nil]); first | done | rfl | (simp only [List.length_drop, List.length_take]; rfl)) : p := h
theorem xo {p q : Prop} (a : p) (h : p → q := by intro ha; (with_reducible repeat (first | apply Kd.R_alloc | apply Kd.R_drewN | apply Kd.R_drew)); exact ha) : q := h a
theorem xg {p : Prop} (h : p := by first | rfl | (simp; done) | (simp [*]; done) | exact congrArg Value.bool (xm_ne_nil _) | exact congrArg Value.bool (xm_ne_nil _).symm) : p := h
theorem xe {p : Prop} (h : p := by first | rfl | (simp [errW_none, errW_some] <;> rfl) | (simp [*, errW_none, errW_some] <;> rfl)) : p := h
theorem xz {p : Prop} (h : p := by repeat (first | exact Drawn0.refl _ | apply Drawn0.step)) : p := h
theorem xh {p : Prop} (h : p := by first | (go_simp; done) | (go_simp; rfl)) : p := h
theorem kp0 {w : World} {g : Nat} {t : TypeId} {x y z : Value} (u : Value) (h : w.heap[g]? = some (.cells #[x, y, z] t (0, 0))) : (w.setCell ⟨g, 0, none⟩ u).heap[g]? = some (.cells #[u, y, z] t (0, 0)) := blk_put h 0 u rfl
theorem kp1 {w : World} {g : Nat} {t : TypeId} {x y z : Value} (u : Value) (h : w.heap[g]? = some (.cells #[x, y, z] t (0, 0))) : (w.setCell ⟨g, 1, none⟩ u).heap[g]? = some (.cells #[x, u, z] t (0, 0)) := blk_put h 1 u rfl
theorem kp2 {w : World} {g : Nat} {t : TypeId} {x y z : Value} (u : Value) (h : w.heap[g]? = some (.cells #[x, y, z] t (0, 0))) : (w.setCell ⟨g, 2, none⟩ u).heap[g]? = some (.cells #[x, y, u] t (0, 0)) := blk_put h 2 u rfl
theorem kp {p q : Prop} (a : p) (h : p → q := by intro ha; with_reducible repeat (first | exact ha | apply kp2 | apply kp1 | apply kp0 | apply blk_drewN | apply blk_drew | apply blk_alloc)) : q := h a
theorem kc {w : World} {g : Nat} {t : TypeId} {cs : Array Value} (h : w.heap[g]? = some (.cells cs t (0, 0))) (i : Nat) : w.cell? ⟨g, i, none⟩ = cs[i]? := blk_cell h i
theorem kq4 {w : World} {g : Nat} {t : TypeId} {x0 x1 x2 x3 v0 v1 v2 v3 : Value} (h : w.heap[g]? = some (.cells #[x0, x1, x2, x3] t (0, 0))) : ((((w.setCell ⟨g, 0, none⟩ v0).setCell ⟨g, 1, none⟩ v1).setCell ⟨g, 2, none⟩ v2).setCell ⟨g, 3, none⟩ v3).heap[g]? = some (.cells #[v0, v1, v2, v3] t (0, 0)) :=
  (blk_put (cs := #[v0, v1, v2, x3]) (blk_put (cs := #[v0, v1, x2, x3]) (blk_put (cs := #[v0, x1, x2, x3]) (blk_put (cs := #[x0, x1, x2, x3]) h 0 v0 rfl) 1 v1 rfl) 2 v2 rfl) 3 v3 rfl)
theorem kq14 {w : World} {g : Nat} {t : TypeId} {x0 x1 x2 x3 x4 x5 x6 x7 x8 x9 x10 x11 x12 x13 v0 v1 v2 v3 v4 v5 v6 v7 v8 v9 v10 v11 v12 v13 : Value} (h : w.heap[g]? = some (.cells #[x0, x1, x2, x3, x4, x5, x6, x7, x8, x9, x10, x11, x12, x13] t (0, 0))) : ((((((((((((((w.setCell ⟨g, 0, none⟩ v0).setCell ⟨g, 1, none⟩ v1).setCell ⟨g, 2, none⟩ v2).setCell ⟨g, 3, none⟩ v3).setCell ⟨g, 4, none⟩ v4).setCell ⟨g, 5, none⟩ v5).setCell ⟨g, 6, none⟩ v6).setCell ⟨g, 7, none⟩ v7).setCell ⟨g, 8, none⟩ v8).setCell ⟨g, 9, none⟩ v9).setCell ⟨g, 10, none⟩ v10).setCell ⟨g, 11, none⟩ v11).setCell ⟨g, 12, none⟩ v12).setCell ⟨g, 13, none⟩ v13).heap[g]? = some (.cells #[v0, v1, v2, v3, v4, v5, v6, v7, v8, v9, v10, v11, v12, v13] t (0, 0)) :=
  (blk_put (cs := #[v0, v1, v2, v3, v4, v5, v6, v7, v8, v9, v10, v11, v12, x13]) (blk_put (cs := #[v0, v1, v2, v3, v4, v5, v6, v7, v8, v9, v10, v11, x12, x13]) (blk_put (cs := #[v0, v1, v2, v3, v4, v5, v6, v7, v8, v9, v10, x11, x12, x13]) (blk_put (cs := #[v0, v1, v2, v3, v4, v5, v6, v7, v8, v9, x10, x11, x12, x13]) (blk_put (cs := #[v0, v1, v2, v3, v4, v5, v6, v7, v8, x9, x10, x11, x12, x13]) (blk_put (cs := #[v0, v1, v2, v3, v4, v5, v6, v7, x8, x9, x10, x11, x12, x13]) (blk_put (cs := #[v0, v1, v2, v3, v4, v5, v6, x7, x8, x9, x10, x11, x12, x13]) (blk_put (cs := #[v0, v1, v2, v3, v4, v5, x6, x7, x8, x9, x10, x11, x12, x13]) (blk_put (cs := #[v0, v1, v2, v3, v4, x5, x6, x7, x8, x9, x10, x11, x12, x13]) (blk_put (cs := #[v0, v1, v2, v3, x4, x5, x6, x7, x8, x9, x10, x11, x12, x13]) (blk_put (cs := #[v0, v1, v2, x3, x4, x5, x6, x7, x8, x9, x10, x11, x12, x13]) (blk_put (cs := #[v0, v1, x2, x3, x4, x5, x6, x7, x8, x9, x10, x11, x12, x13]) (blk_put (cs := #[v0, x1, x2, x3, x4, x5, x6, x7, x8, x9, x10, x11, x12, x13]) (blk_put (cs := #[x0, x1, x2, x3, x4, x5, x6, x7, x8, x9, x10, x11, x12, x13]) h 0 v0 rfl) 1 v1 rfl) 2 v2 rfl) 3 v3 rfl) 4 v4 rfl) 5 v5 rfl) 6 v6 rfl) 7 v7 rfl) 8 v8 rfl) 9 v9 rfl) 10 v10 rfl) 11 v11 rfl) 12 v12 rfl) 13 v13 rfl)
theorem kt3 {w : World} {g : Nat} {t : TypeId} {x0 x1 x2 : Value} (h : w.heap[g]? = some (.cells #[x0, x1, x2] t (0, 0))) : w.cell? ⟨g, 0, none⟩ = some x0 ∧ w.cell? ⟨g, 1, none⟩ = some x1 ∧ w.cell? ⟨g, 2, none⟩ = some x2 :=
  ⟨(blk_cell h 0).trans rfl, (blk_cell h 1).trans rfl, (blk_cell h 2).trans rfl⟩
theorem kz3 {w : World} {g : Nat} {t : TypeId} {cs : Array Value} (h : w.heap[g]? = some (.cells cs t (0, 0))) : w.frozen? ⟨g, 0, none⟩ = false ∧ w.frozen? ⟨g, 1, none⟩ = false ∧ w.frozen? ⟨g, 2, none⟩ = false :=
  ⟨blk_frozen h 0, blk_frozen h 1, blk_frozen h 2⟩
theorem kt4 {w : World} {g : Nat} {t : TypeId} {x0 x1 x2 x3 : Value} (h : w.heap[g]? = some (.cells #[x0, x1, x2, x3] t (0, 0))) : w.cell? ⟨g, 0, none⟩ = some x0 ∧ w.cell? ⟨g, 1, none⟩ = some x1 ∧ w.cell? ⟨g, 2, none⟩ = some x2 ∧ w.cell? ⟨g, 3, none⟩ = some x3 :=
  ⟨(blk_cell h 0).trans rfl, (blk_cell h 1).trans rfl, (blk_cell h 2).trans rfl, (blk_cell h 3).trans rfl⟩
theorem kz4 {w : World} {g : Nat} {t : TypeId} {cs : Array Value} (h : w.heap[g]? = some (.cells cs t (0, 0))) : w.frozen? ⟨g, 0, none⟩ = false ∧ w.frozen? ⟨g, 1, none⟩ = false ∧ w.frozen? ⟨g, 2, none⟩ = false ∧ w.frozen? ⟨g, 3, none⟩ = false :=
  ⟨blk_frozen h 0, blk_frozen h 1, blk_frozen h 2, blk_frozen h 3⟩
theorem kt14 {w : World} {g : Nat} {t : TypeId} {x0 x1 x2 x3 x4 x5 x6 x7 x8 x9 x10 x11 x12 x13 : Value} (h : w.heap[g]? = some (.cells #[x0, x1, x2, x3, x4, x5, x6, x7, x8, x9, x10, x11, x12, x13] t (0, 0))) : w.cell? ⟨g, 0, none⟩ = some x0 ∧ w.cell? ⟨g, 1, none⟩ = some x1 ∧ w.cell? ⟨g, 2, none⟩ = some x2 ∧ w.cell? ⟨g, 3, none⟩ = some x3 ∧ w.cell? ⟨g, 4, none⟩ = some x4 ∧ w.cell? ⟨g, 5, none⟩ = some x5 ∧ w.cell? ⟨g, 6, none⟩ = some x6 ∧ w.cell? ⟨g, 7, none⟩ = some x7 ∧ w.cell? ⟨g, 8, none⟩ = some x8 ∧ w.cell? ⟨g, 9, none⟩ = some x9 ∧ w.cell? ⟨g, 10, none⟩ = some x10 ∧ w.cell? ⟨g, 11, none⟩ = some x11 ∧ w.cell? ⟨g, 12, none⟩ = some x12 ∧ w.cell? ⟨g, 13, none⟩ = some x13 :=
  ⟨(blk_cell h 0).trans rfl, (blk_cell h 1).trans rfl, (blk_cell h 2).trans rfl, (blk_cell h 3).trans rfl, (blk_cell h 4).trans rfl, (blk_cell h 5).trans rfl, (blk_cell h 6).trans rfl, (blk_cell h 7).trans rfl, (blk_cell h 8).trans rfl, (blk_cell h 9).trans rfl, (blk_cell h 10).trans rfl, (blk_cell h 11).trans rfl, (blk_cell h 12).trans rfl, (blk_cell h 13).trans rfl⟩
theorem kz14 {w : World} {g : Nat} {t : TypeId} {cs : Array Value} (h : w.heap[g]? = some (.cells cs t (0, 0))) : w.frozen? ⟨g, 0, none⟩ = false ∧ w.frozen? ⟨g, 1, none⟩ = false ∧ w.frozen? ⟨g, 2, none⟩ = false ∧ w.frozen? ⟨g, 3, none⟩ = false ∧ w.frozen? ⟨g, 4, none⟩ = false ∧ w.frozen? ⟨g, 5, none⟩ = false ∧ w.frozen? ⟨g, 6, none⟩ = false ∧ w.frozen? ⟨g, 7, none⟩ = false ∧ w.frozen? ⟨g, 8, none⟩ = false ∧ w.frozen? ⟨g, 9, none⟩ = false ∧ w.frozen? ⟨g, 10, none⟩ = false ∧ w.frozen? ⟨g, 11, none⟩ = false ∧ w.frozen? ⟨g, 12, none⟩ = false ∧ w.frozen? ⟨g, 13, none⟩ = false :=
  ⟨blk_frozen h 0, blk_frozen h 1, blk_frozen h 2, blk_frozen h 3, blk_frozen h 4, blk_frozen h 5, blk_frozen h 6, blk_frozen h 7, blk_frozen h 8, blk_frozen h 9, blk_frozen h 10, blk_frozen h 11, blk_frozen h 12, blk_frozen h 13⟩
theorem xy {p : Prop} (h : p) : Aside0 p := ⟨h⟩
theorem xi {p : Prop} [Decidable p] (h : decide p = true := by first | (with_reducible assumption) | assumption) : p := of_decide_eq_true h
theorem xj {α β : Type} {x : Option α} {f : α → Option β} {b : β} (h : x.bind f = some b) : ∃ a, x = some a ∧ f a = some b := Option.bind_eq_some_iff.mp h
theorem xq {P : Program} {ops : Array Oper} {rest : List Oper} {o : Oper} {a : Act} {Q : Exit → Act → World → Prop} {W : World} {N : Tmp} {cs : Array Value} {t : TypeId}
    (h : ∀ g, g = W.heap.size → ∀ w1, w1.heap[g]? = some (.cells cs t (0, 0)) → Below W.heap.size W w1 → wpList P ops Q rest (a.put o.dst (.pointer (some ⟨g, 0, none⟩))) w1)
    (hd : o.dst = some N := by rfl) (hgd : o.guard = none := by rfl)
    (hrun : (execOp a.eval o).run P W = .ok (.value (.pointer (some ⟨W.heap.size, 0, none⟩))) (W.alloc (.cells cs t (0, 0))) := by first | (go_simp; done) | (go_simp; rfl)) : wpList P ops Q (o :: rest) a W := box_event hgd hd hrun h
theorem xd {W0 W W' : World} {g : Nat} {o : Obj} (a : W0.heap[g]? = some o) (hb : Below W.heap.size W W') (h : W0.heap[g]? = some o → W.heap[g]? = some o := by intro ha; (with_reducible repeat (first | refine blk_drewN ?_ _ | refine blk_drew ?_ | refine blk_alloc ?_ _)); exact ha) : Aside0 (W'.heap[g]? = some o) := ⟨blk_below (h a) hb⟩
theorem xn {W0 W : World} {g g' : Nat} {o : Obj} (hg : g' = W.heap.size) (a : W0.heap[g]? = some o) (h : W0.heap[g]? = some o → W.heap[g]? = some o := by intro ha; (with_reducible repeat (first | refine blk_drewN ?_ _ | refine blk_drew ?_ | refine blk_alloc ?_ _)); exact ha) : Aside0 (g ≠ g') := ⟨by rw [hg]; exact Nat.ne_of_lt (blk_lt (h a))⟩
theorem xp {W0 W : World} {g g' : Nat} {o : Obj} (hg : g' = W.heap.size) (a : W0.heap[g]? = some o) (h : W0.heap[g]? = some o → W.heap[g]? = some o := by intro ha; (with_reducible repeat (first | refine blk_drewN ?_ _ | refine blk_drew ?_ | refine blk_alloc ?_ _)); exact ha) : Aside0 (g' ≠ g) := ⟨by rw [hg]; exact Nat.ne_of_gt (blk_lt (h a))⟩
theorem xs (w : World) {W : World} {g : Nat} (hg : g = W.heap.size) (h : Below w.heap.size w W := by repeat (first | (with_reducible first | exact HB.out | apply below_alloc | apply pw_below_drewN | apply below_drew1 | refine below_set ?_ (Aside0.out (by with_reducible assumption))) | exact HB.out)) : Aside0 (w.heap.size ≤ g) := ⟨by rw [hg]; exact h.size⟩
theorem xm_ne_nil (l : List UInt8) : (!l.isEmpty) = (l != []) := by cases l <;> rfl
theorem xm_gtr (t : TypeId) (a b : ByteArray) : binOp .gtr t (.string a) (.string b) = pure (.bool (Op.bytesLess b.toList a.toList)) := by
  rw [← xm_less_gtr a.toList b.toList]
  simp [binOp, Op.stringOp]
section
variable {P : Program} {ops : Array Oper} {rest : List Oper} {o : Oper} {a : Act} {Q : Exit → Act → World → Prop}
def bconst.f (cs : List Int) : Option (List Int) := some cs
def bytesof.f (s : ByteArray) : Option (List Int) := if s.size ≤ 140737488355328 then some (bytesOf s) else none
end
section
open Go.Proofs.YtialoecplmnjfaaGreatDoorW.PrintLast
variable {P : Program} {ops : Array Oper} {Q : Exit → Act → World → Prop} {md : Region.Mode} {S : World → Prop} {ds : List Nat} {T : Bool × List (List Nat × List Nat)} {B : List Nat}
theorem yz {oi : Oper} {v : Value} {fuel : Nat} {l : Array Bool} {a a' : Act} {w : World} (i : Nat) (N : Option Tmp) (l' : Array Bool) (hT : rtab md ops = T)
    (hi : ops[i]? = some oi := by rfl) (hN : oi.dst = N := by rfl) (hc : anyT T l.toList l'.toList i = true := by kernel_rfl)
    (hQ : ∀ c a w, Q (.panic c) (a.put oi.dst v) w → Q (.panic c) a w := by exact fun _ _ _ h => h)
    (hy : Yields P ops oi v a := by exact Or.inl ⟨by rfl, by intro w'; go_simp; with_reducible rfl⟩)
    (ha : a.put N v = a' := by simp only [Act.put, List.setIfInBounds_toArray, List.set_cons_zero, List.set_cons_succ, i64_w, i32_w]; rfl)
    (h : wpAnyLast P md ops Q S ds fuel l' a' w) : wpAnyLast P md ops Q S ds (fuel + 1) l a w :=
  pure_ l' hi hN (any_of hT hc) hQ hy ha h
theorem yu {oi : Oper} {fuel : Nat} {l : Array Bool} {a a' : Act} {w : World} (i : Nat) (N : Option Tmp) (l' : Array Bool) (hT : rtab md ops = T)
    (hi : ops[i]? = some oi := by rfl) (hN : oi.dst = N := by rfl) (hc : anyT T l.toList l'.toList i = true := by kernel_rfl)
    (hQ : ∀ c a w, Q (.panic c) (a.put oi.dst undef) w → Q (.panic c) a w := by exact fun _ _ _ h => h)
    (hy : Yields P ops oi undef a := by exact Or.inr ⟨by rfl, rfl⟩)
    (ha : a.put N undef = a' := by simp only [Act.put, List.setIfInBounds_toArray, List.set_cons_zero, List.set_cons_succ, i64_w, i32_w]; rfl)
    (h : wpAnyLast P md ops Q S ds fuel l' a' w) : wpAnyLast P md ops Q S ds (fuel + 1) l a w :=
  pure_ l' hi hN (any_of hT hc) hQ hy ha h
def bs (n m : Nat) : Array Bool := ((List.range n).map fun i => m.testBit i).toArray
theorem yt {oi : Oper} {v : Value} {fuel : Nat} {l : Array Bool} {a a' : Act} {w : World} (i : Nat) (N : Option Tmp) (l' : Array Bool) (hT : rtab md ops = T) (hB : waitsOk T.2 B = true) (hS : S w)
    (hi : ops[i]? = some oi := by rfl) (hN : oi.dst = N := by rfl) (hc : takeW T B ds l.toList l'.toList i = true := by kernel_rfl)
    (hQ : ∀ c a w, Q (.panic c) (a.put oi.dst v) w → Q (.panic c) a w := by exact fun _ _ _ h => h)
    (hy : YieldsIf P ops S oi v a := by exact Or.inl ⟨by rfl, by intro w' hs; (try dsimp only at hs); go_simp; with_reducible rfl⟩)
    (ha : a.put N v = a' := by simp only [Act.put, List.setIfInBounds_toArray, List.set_cons_zero, List.set_cons_succ, i64_w, i32_w]; rfl)
    (h : wpAnyLast P md ops Q S ds fuel l' a' w) : wpAnyLast P md ops Q S ds (fuel + 1) l a w :=
  take_ l' hi hN (take_ofW hT hB hc) hQ hy hS ha h
end
end Go.Proofs.YtialoecplmnjfaaGreatDoorW.PrintMore
namespace Go.Proofs.YtialoecplmnjfaaGreatDoor.XClone
open Go.RowKit Go.Lib Go.Proofs Go.Proofs.YtialoecplmnjfaaGreatDoorW.PrintWords Go.Proofs.YtialoecplmnjfaaGreatDoorW.PrintLast Go.Proofs.YtialoecplmnjfaaGreatDoorW.PrintMore
theorem own_empty (W : World) (base : Nat) (e : TypeId) (h : base ≤ W.heap.size) : (W.alloc (.cells #[] e)).ownsRow base e 1 (.slice (some ⟨W.heap.size, 0, none⟩) 0 0) 0 [] :=
  ⟨rfl, .inr ⟨W.heap.size, 0, #[], rfl, h, blk_new W (.cells #[] e), by simp, by simp, by simp, rfl⟩⟩
theorem infoS : (Tryz.prog.info? 9).map (fun i => (i.zero, i.size, i.bytes)) = some (some (.string (⟨#[]⟩ : ByteArray)), 1, 16) := by kernel_rfl
set_option maxHeartbeats 1000000 in
set_option maxRecDepth 100000 in
theorem clone_calls (A : Option Addr) (c : Nat) (l : List ByteArray) (W : World) (hr : Kd.C Kd.string W A l.length l) (hl : l.length * 16 ≤ 140737488355328) :
    Calls Tryz.prog 20 #[.slice A l.length c] W fun e w' => ∃ v, e = .returned v ∧ w'.ownsRow W.heap.size 9 1 v l.length (encs Value.string l) ∧ Below W.heap.size W w' := by
  have hr := Kd.reads_of_C (enc := Value.string) (d := (⟨#[]⟩ : ByteArray)) (h1 := fun _ => rfl) hr
  have HR := Lib.hid hr
  have q45 : ∀ (w : World) (a : Option Addr) (n c n' c' : Nat), (binOp .eql 45 (.slice a n c) (.slice none n' c')).run Tryz.prog w = .ok (.bool a.isNone) w := fun w a n c n' c' => Lib.run_eql_slice_nil w _ _ a n c n' c' Tryz.underlying45
  cases A with
  | none =>
    have h0 : l = [] := by
      have := hr.2.2
      rcases Nat.eq_zero_or_pos l.length with h0 | h0
      · exact List.eq_nil_of_length_eq_zero h0
      · obtain ⟨ad, h, _⟩ := this h0
        cases h
    subst h0
    go_enter Tryz.func20, Tryz.ntmps20
    go_wp2
    go_ret
    exact ⟨_, rfl, World.ownsRow_nil _ _ _ _, Below.refl _ _⟩
  | some ad =>
    clear hr
    have HB := Lib.hid (below_alloc (Below.refl W.heap.size W) (.cells #[] 9))
    have HE := Lib.hid (own_empty W W.heap.size 9 (Nat.le_refl _))
    have HS := Lib.hid (show W.heap.size ≤ (W.alloc (.cells #[] 9)).heap.size from HB.out.size)
    have HC := Lib.hid (ReadsOf.below HR.out (show Below W.heap.size W _ from HB.out))
    go_enter Tryz.func20, Tryz.ntmps20
    go_wp2_with (at_builtin; (refine print_append_row_of (w0 := W) Value.string (⟨#[]⟩ : ByteArray) W.heap.size rfl (.tmp 5) (.tmp 6) 45 9 (.string (⟨#[]⟩ : ByteArray)) 16 rfl Tryz.underlying45 infoS rfl (by decide) (fun _ => rfl) (.slice (some ⟨W.heap.size, 0, none⟩) 0 0) [] l (some ad) l.length c ?hs ?hx HE.out HC.out HB.out HS.out ?hk ?hkk; (case hs => rfl); (case hx => first | rfl | exact xh); (case hk => simpa using hl); intro v1 w1 ho1 hb1 hg1 hat1; have HO1 : Aside _ := ho1; have HB1 : Aside _ := hb1; clear ho1 hg1 hat1 hb1))
    go_ret
    exact ⟨_, rfl, HO1.out, HB1.out⟩
end Go.Proofs.YtialoecplmnjfaaGreatDoor.XClone
namespace Go.Proofs
open Go.Shelf
def Tryz.lays160_ren : Go.Shelf.Ren := ⟨fun | 160 => 99 | 232 => 107 | 231 => 106 | 227 => 108 | 234 => 110 | 233 => 109 | 236 => 112 | 235 => 111 | 228 => 119 | 271 => 122 | 151 => 121 | 197 => 120 | 120 => 134 | 152 => 133 | 260 => 132 | 137 => 140 | 119 => 141 | 224 => 130 | 225 => 129 | 217 => 128 | 266 => 138 | n => n, fun | 9 => 9 | 4 => 4 | 3 => 3 | 5 => 5 | 117 => 154 | 116 => 153 | 0 => 0 | 124 => 157 | 21 => 21 | 105 => 163 | 46 => 113 | 119 => 182 | 139 => 185 | 138 => 184 | n => n, fun | 3 => 6 | 4 => 7 | n => n⟩
theorem Tryz.lays160 : Go.Proofs.Lays.n160 Tryz.prog Tryz.lays160_ren := {
  mixed := by kernel_rfl
  f119 := Tryz.func141.trans (congrArg some (by kernel_rfl))
  f120 := Tryz.func134.trans (congrArg some (by kernel_rfl))
  f137 := Tryz.func140.trans (congrArg some (by kernel_rfl))
  f151 := Tryz.func121.trans (congrArg some (by kernel_rfl))
  f152 := Tryz.func133.trans (congrArg some (by kernel_rfl))
  f160 := Tryz.func99.trans (congrArg some (by kernel_rfl))
  f197 := Tryz.func120.trans (congrArg some (by kernel_rfl))
  f217 := Tryz.func128.trans (congrArg some (by kernel_rfl))
  f224 := Tryz.func130.trans (congrArg some (by kernel_rfl))
  f225 := Tryz.func129.trans (congrArg some (by kernel_rfl))
  f227 := Tryz.func108.trans (congrArg some (by kernel_rfl))
  f228 := Tryz.func119.trans (congrArg some (by kernel_rfl))
  f231 := Tryz.func106.trans (congrArg some (by kernel_rfl))
  f232 := Tryz.func107.trans (congrArg some (by kernel_rfl))
  f233 := Tryz.func109.trans (congrArg some (by kernel_rfl))
  f234 := Tryz.func110.trans (congrArg some (by kernel_rfl))
  f235 := Tryz.func111.trans (congrArg some (by kernel_rfl))
  f236 := Tryz.func112.trans (congrArg some (by kernel_rfl))
  f260 := Tryz.func132.trans (congrArg some (by kernel_rfl))
  f266 := Tryz.func138.trans (congrArg some (by kernel_rfl))
  f271 := Tryz.func122.trans (congrArg some (by kernel_rfl))
  t0 := Tryz.underlying0
  a0 := Tryz.isAgg0
  z0 := Tryz.sizeOf0
  v0 := Tryz.zeroValue0
  t3 := Tryz.underlying3
  a3 := Tryz.isAgg3
  z3 := Tryz.sizeOf3
  v3 := Tryz.zeroValue3
  t4 := Tryz.underlying4
  a4 := Tryz.isAgg4
  z4 := Tryz.sizeOf4
  v4 := Tryz.zeroValue4
  t5 := Tryz.underlying5
  a5 := Tryz.isAgg5
  z5 := Tryz.sizeOf5
  v5 := Tryz.zeroValue5
  t9 := Tryz.underlying9
  a9 := Tryz.isAgg9
  z9 := Tryz.sizeOf9
  v9 := Tryz.zeroValue9
  t21 := Tryz.underlying21
  a21 := Tryz.isAgg21
  z21 := Tryz.sizeOf21
  v21 := Tryz.zeroValue21
  t46 := Tryz.underlying113
  a46 := Tryz.isAgg113
  z46 := Tryz.sizeOf113
  v46 := Tryz.zeroValue113
  t105 := Tryz.underlying163
  a105 := Tryz.isAgg163
  z105 := Tryz.sizeOf163
  v105 := Tryz.zeroValue163
  t116 := Tryz.underlying153
  a116 := Tryz.isAgg153
  z116 := Tryz.sizeOf153
  t117 := Tryz.underlying154
  a117 := Tryz.isAgg154
  z117 := Tryz.sizeOf154
  v117 := Tryz.zeroValue154
  t119 := Tryz.underlying182
  a119 := Tryz.isAgg182
  z119 := Tryz.sizeOf182
  t124 := Tryz.underlying157
  a124 := Tryz.isAgg157
  z124 := Tryz.sizeOf157
  v124 := Tryz.zeroValue157
  t138 := Tryz.underlying184
  a138 := Tryz.isAgg184
  z138 := Tryz.sizeOf184
  v138 := Tryz.zeroValue184
  t139 := Tryz.underlying185
  a139 := Tryz.isAgg185
  z139 := Tryz.sizeOf185
  v139 := Tryz.zeroValue185
  g3 := by kernel_rfl
  g4 := by kernel_rfl }
def Tryz.laysM143_ren : Go.Shelf.Ren := ⟨fun | 143 => 101 | 219 => 115 | 217 => 128 | 225 => 129 | 224 => 130 | 267 => 131 | 266 => 138 | 314 => 139 | n => n, fun | 9 => 9 | 3 => 3 | 4 => 4 | 5 => 5 | 46 => 113 | 146 => 180 | 51 => 74 | n => n, fun | 1 => 3 | n => n⟩
theorem Tryz.laysM143 : Go.Proofs.LaysM.n143 Tryz.prog Tryz.laysM143_ren := {
  mixed := by kernel_rfl
  f143 := Tryz.func101.trans (congrArg some (by kernel_rfl))
  f217 := Tryz.func128.trans (congrArg some (by kernel_rfl))
  f219 := Tryz.func115.trans (congrArg some (by kernel_rfl))
  f224 := Tryz.func130.trans (congrArg some (by kernel_rfl))
  f225 := Tryz.func129.trans (congrArg some (by kernel_rfl))
  f266 := Tryz.func138.trans (congrArg some (by kernel_rfl))
  f267 := Tryz.func131.trans (congrArg some (by kernel_rfl))
  f314 := Tryz.func139.trans (congrArg some (by kernel_rfl))
  t3 := Tryz.underlying3
  a3 := Tryz.isAgg3
  z3 := Tryz.sizeOf3
  v3 := Tryz.zeroValue3
  t4 := Tryz.underlying4
  a4 := Tryz.isAgg4
  z4 := Tryz.sizeOf4
  v4 := Tryz.zeroValue4
  t5 := Tryz.underlying5
  a5 := Tryz.isAgg5
  z5 := Tryz.sizeOf5
  v5 := Tryz.zeroValue5
  t9 := Tryz.underlying9
  a9 := Tryz.isAgg9
  z9 := Tryz.sizeOf9
  v9 := Tryz.zeroValue9
  t46 := Tryz.underlying113
  a46 := Tryz.isAgg113
  z46 := Tryz.sizeOf113
  v46 := Tryz.zeroValue113
  t51 := Tryz.underlying74
  a51 := Tryz.isAgg74
  z51 := Tryz.sizeOf74
  v51 := Tryz.zeroValue74
  t146 := Tryz.underlying180
  a146 := Tryz.isAgg180
  z146 := Tryz.sizeOf180
  v146 := Tryz.zeroValue180
  g1 := by kernel_rfl
  i3 := by kernel_rfl
  i4 := by kernel_rfl
  i5 := by kernel_rfl
  i9 := by kernel_rfl
  i46 := by kernel_rfl
  i51 := by kernel_rfl
  i146 := by kernel_rfl
  m1 := by kernel_rfl
  s1_3 := fun w h => Go.Proofs.cell_of_shapedOpen_int (zero := #[.int .i64 0]) (t := 3) h (of_decide_eq_true (by kernel_rfl)) (by kernel_rfl) rfl (by kernel_rfl) (by kernel_rfl) Tryz.underlying3 }
def Tryz.laysM171_ren : Go.Shelf.Ren := ⟨fun | 171 => 22 | 243 => 30 | 246 => 36 | 283 => 42 | 284 => 43 | 285 => 44 | 286 => 45 | 129 => 51 | 317 => 50 | 318 => 52 | 319 => 53 | 320 => 54 | 337 => 59 | 338 => 60 | n => n, fun | 3 => 3 | 9 => 9 | 2 => 2 | 4 => 4 | 171 => 89 | 0 => 0 | 53 => 90 | 37 => 93 | 5 => 5 | 173 => 94 | 212 => 110 | 51 => 74 | 20 => 20 | 213 => 111 | 46 => 113 | 232 => 122 | 233 => 123 | n => n, fun | 17 => 0 | 18 => 1 | 19 => 2 | n => n⟩
theorem Tryz.laysM171 : Go.Proofs.LaysM.n171 Tryz.prog Tryz.laysM171_ren := {
  mixed := by kernel_rfl
  f129 := Tryz.func51.trans (congrArg some (by kernel_rfl))
  f171 := Tryz.func22.trans (congrArg some (by kernel_rfl))
  f243 := Tryz.func30.trans (congrArg some (by kernel_rfl))
  f246 := Tryz.func36.trans (congrArg some (by kernel_rfl))
  f283 := Tryz.func42.trans (congrArg some (by kernel_rfl))
  f284 := Tryz.func43.trans (congrArg some (by kernel_rfl))
  f285 := Tryz.func44.trans (congrArg some (by kernel_rfl))
  f286 := Tryz.func45.trans (congrArg some (by kernel_rfl))
  f317 := Tryz.func50.trans (congrArg some (by kernel_rfl))
  f318 := Tryz.func52.trans (congrArg some (by kernel_rfl))
  f319 := Tryz.func53.trans (congrArg some (by kernel_rfl))
  f320 := Tryz.func54.trans (congrArg some (by kernel_rfl))
  f337 := Tryz.func59.trans (congrArg some (by kernel_rfl))
  f338 := Tryz.func60.trans (congrArg some (by kernel_rfl))
  t0 := Tryz.underlying0
  a0 := Tryz.isAgg0
  z0 := Tryz.sizeOf0
  v0 := Tryz.zeroValue0
  t2 := Tryz.underlying2
  a2 := Tryz.isAgg2
  z2 := Tryz.sizeOf2
  v2 := Tryz.zeroValue2
  t3 := Tryz.underlying3
  a3 := Tryz.isAgg3
  z3 := Tryz.sizeOf3
  v3 := Tryz.zeroValue3
  t4 := Tryz.underlying4
  a4 := Tryz.isAgg4
  z4 := Tryz.sizeOf4
  v4 := Tryz.zeroValue4
  t5 := Tryz.underlying5
  a5 := Tryz.isAgg5
  z5 := Tryz.sizeOf5
  v5 := Tryz.zeroValue5
  t9 := Tryz.underlying9
  a9 := Tryz.isAgg9
  z9 := Tryz.sizeOf9
  v9 := Tryz.zeroValue9
  t20 := Tryz.underlying20
  a20 := Tryz.isAgg20
  z20 := Tryz.sizeOf20
  v20 := Tryz.zeroValue20
  t37 := Tryz.underlying93
  a37 := Tryz.isAgg93
  z37 := Tryz.sizeOf93
  v37 := Tryz.zeroValue93
  t46 := Tryz.underlying113
  a46 := Tryz.isAgg113
  z46 := Tryz.sizeOf113
  v46 := Tryz.zeroValue113
  t51 := Tryz.underlying74
  a51 := Tryz.isAgg74
  z51 := Tryz.sizeOf74
  v51 := Tryz.zeroValue74
  t53 := Tryz.underlying90
  a53 := Tryz.isAgg90
  z53 := Tryz.sizeOf90
  v53 := Tryz.zeroValue90
  t171 := Tryz.underlying89
  a171 := Tryz.isAgg89
  z171 := Tryz.sizeOf89
  v171 := Tryz.zeroValue89
  t173 := Tryz.underlying94
  a173 := Tryz.isAgg94
  z173 := Tryz.sizeOf94
  v173 := Tryz.zeroValue94
  t212 := Tryz.underlying110
  a212 := Tryz.isAgg110
  z212 := Tryz.sizeOf110
  v212 := Tryz.zeroValue110
  t213 := Tryz.underlying111
  a213 := Tryz.isAgg111
  z213 := Tryz.sizeOf111
  t232 := Tryz.underlying122
  a232 := Tryz.isAgg122
  z232 := Tryz.sizeOf122
  v232 := Tryz.zeroValue122
  t233 := Tryz.underlying123
  a233 := Tryz.isAgg123
  z233 := Tryz.sizeOf123
  v233 := Tryz.zeroValue123
  g17 := by kernel_rfl
  g18 := by kernel_rfl
  g19 := by kernel_rfl
  i0 := by kernel_rfl
  i2 := by kernel_rfl
  i3 := by kernel_rfl
  i4 := by kernel_rfl
  i5 := by kernel_rfl
  i9 := by kernel_rfl
  i20 := by kernel_rfl
  i37 := by kernel_rfl
  i46 := by kernel_rfl
  i51 := by kernel_rfl
  i53 := by kernel_rfl
  i171 := by kernel_rfl
  i173 := by kernel_rfl
  i212 := by kernel_rfl
  i232 := by kernel_rfl
  i233 := by kernel_rfl
  m17 := by kernel_rfl
  m18 := by kernel_rfl
  m19 := by kernel_rfl }
def Tryz.laysC172_ren : Go.Shelf.Ren := ⟨fun | 172 => 100 | 244 => 113 | 245 => 114 | 247 => 123 | 279 => 124 | 280 => 125 | 281 => 126 | 282 => 127 | 287 => 135 | 316 => 136 | 171 => 22 | 205 => 137 | 321 => 142 | 322 => 143 | 243 => 30 | 246 => 36 | 283 => 42 | 284 => 43 | 285 => 44 | 286 => 45 | 129 => 51 | 317 => 50 | 318 => 52 | 319 => 53 | 320 => 54 | 337 => 59 | 338 => 60 | n => n, fun | 9 => 9 | 3 => 3 | 75 => 145 | 76 => 146 | 4 => 4 | 5 => 5 | 167 => 166 | 37 => 93 | 0 => 0 | 85 => 167 | 2 => 2 | 168 => 169 | 53 => 90 | 175 => 174 | 46 => 113 | 210 => 178 | 127 => 187 | 145 => 190 | 143 => 188 | 21 => 21 | 171 => 89 | 173 => 94 | 212 => 110 | 51 => 74 | 20 => 20 | 213 => 111 | 232 => 122 | 233 => 123 | 80 => 191 | n => n, fun | 15 => 4 | 16 => 5 | 17 => 0 | 18 => 1 | 19 => 2 | n => n⟩
theorem Tryz.laysC172 : Go.Proofs.LaysC.n172 Tryz.prog Tryz.laysC172_ren := {
  mixed := by kernel_rfl
  f129 := Tryz.func51.trans (congrArg some (by kernel_rfl))
  f171 := Tryz.func22.trans (congrArg some (by kernel_rfl))
  f172 := Tryz.func100.trans (congrArg some (by kernel_rfl))
  f205 := Tryz.func137.trans (congrArg some (by kernel_rfl))
  f243 := Tryz.func30.trans (congrArg some (by kernel_rfl))
  f244 := Tryz.func113.trans (congrArg some (by kernel_rfl))
  f245 := Tryz.func114.trans (congrArg some (by kernel_rfl))
  f246 := Tryz.func36.trans (congrArg some (by kernel_rfl))
  f247 := Tryz.func123.trans (congrArg some (by kernel_rfl))
  f279 := Tryz.func124.trans (congrArg some (by kernel_rfl))
  f280 := Tryz.func125.trans (congrArg some (by kernel_rfl))
  f281 := Tryz.func126.trans (congrArg some (by kernel_rfl))
  f282 := Tryz.func127.trans (congrArg some (by kernel_rfl))
  f283 := Tryz.func42.trans (congrArg some (by kernel_rfl))
  f284 := Tryz.func43.trans (congrArg some (by kernel_rfl))
  f285 := Tryz.func44.trans (congrArg some (by kernel_rfl))
  f286 := Tryz.func45.trans (congrArg some (by kernel_rfl))
  f287 := Tryz.func135.trans (congrArg some (by kernel_rfl))
  f316 := Tryz.func136.trans (congrArg some (by kernel_rfl))
  f317 := Tryz.func50.trans (congrArg some (by kernel_rfl))
  f318 := Tryz.func52.trans (congrArg some (by kernel_rfl))
  f319 := Tryz.func53.trans (congrArg some (by kernel_rfl))
  f320 := Tryz.func54.trans (congrArg some (by kernel_rfl))
  f321 := Tryz.func142.trans (congrArg some (by kernel_rfl))
  f322 := Tryz.func143.trans (congrArg some (by kernel_rfl))
  f337 := Tryz.func59.trans (congrArg some (by kernel_rfl))
  f338 := Tryz.func60.trans (congrArg some (by kernel_rfl))
  t0 := Tryz.underlying0
  a0 := Tryz.isAgg0
  z0 := Tryz.sizeOf0
  v0 := Tryz.zeroValue0
  t2 := Tryz.underlying2
  a2 := Tryz.isAgg2
  z2 := Tryz.sizeOf2
  v2 := Tryz.zeroValue2
  t3 := Tryz.underlying3
  a3 := Tryz.isAgg3
  z3 := Tryz.sizeOf3
  v3 := Tryz.zeroValue3
  t4 := Tryz.underlying4
  a4 := Tryz.isAgg4
  z4 := Tryz.sizeOf4
  v4 := Tryz.zeroValue4
  t5 := Tryz.underlying5
  a5 := Tryz.isAgg5
  z5 := Tryz.sizeOf5
  v5 := Tryz.zeroValue5
  t9 := Tryz.underlying9
  a9 := Tryz.isAgg9
  z9 := Tryz.sizeOf9
  v9 := Tryz.zeroValue9
  t20 := Tryz.underlying20
  a20 := Tryz.isAgg20
  z20 := Tryz.sizeOf20
  v20 := Tryz.zeroValue20
  t21 := Tryz.underlying21
  a21 := Tryz.isAgg21
  z21 := Tryz.sizeOf21
  v21 := Tryz.zeroValue21
  t37 := Tryz.underlying93
  a37 := Tryz.isAgg93
  z37 := Tryz.sizeOf93
  v37 := Tryz.zeroValue93
  t46 := Tryz.underlying113
  a46 := Tryz.isAgg113
  z46 := Tryz.sizeOf113
  v46 := Tryz.zeroValue113
  t51 := Tryz.underlying74
  a51 := Tryz.isAgg74
  z51 := Tryz.sizeOf74
  v51 := Tryz.zeroValue74
  t53 := Tryz.underlying90
  a53 := Tryz.isAgg90
  z53 := Tryz.sizeOf90
  v53 := Tryz.zeroValue90
  t75 := Tryz.underlying145
  a75 := Tryz.isAgg145
  z75 := Tryz.sizeOf145
  v75 := Tryz.zeroValue145
  t76 := Tryz.underlying146
  a76 := Tryz.isAgg146
  z76 := Tryz.sizeOf146
  v76 := Tryz.zeroValue146
  t85 := Tryz.underlying167
  a85 := Tryz.isAgg167
  z85 := Tryz.sizeOf167
  v85 := Tryz.zeroValue167
  t127 := Tryz.underlying187
  a127 := Tryz.isAgg187
  z127 := Tryz.sizeOf187
  v127 := Tryz.zeroValue187
  t143 := Tryz.underlying188
  a143 := Tryz.isAgg188
  z143 := Tryz.sizeOf188
  v143 := Tryz.zeroValue188
  t145 := Tryz.underlying190
  a145 := Tryz.isAgg190
  z145 := Tryz.sizeOf190
  v145 := Tryz.zeroValue190
  t167 := Tryz.underlying166
  a167 := Tryz.isAgg166
  z167 := Tryz.sizeOf166
  v167 := Tryz.zeroValue166
  t168 := Tryz.underlying169
  a168 := Tryz.isAgg169
  z168 := Tryz.sizeOf169
  v168 := Tryz.zeroValue169
  t171 := Tryz.underlying89
  a171 := Tryz.isAgg89
  z171 := Tryz.sizeOf89
  v171 := Tryz.zeroValue89
  t173 := Tryz.underlying94
  a173 := Tryz.isAgg94
  z173 := Tryz.sizeOf94
  v173 := Tryz.zeroValue94
  t175 := Tryz.underlying174
  a175 := Tryz.isAgg174
  z175 := Tryz.sizeOf174
  v175 := Tryz.zeroValue174
  t210 := Tryz.underlying178
  a210 := Tryz.isAgg178
  z210 := Tryz.sizeOf178
  v210 := Tryz.zeroValue178
  t212 := Tryz.underlying110
  a212 := Tryz.isAgg110
  z212 := Tryz.sizeOf110
  v212 := Tryz.zeroValue110
  t213 := Tryz.underlying111
  a213 := Tryz.isAgg111
  z213 := Tryz.sizeOf111
  t232 := Tryz.underlying122
  a232 := Tryz.isAgg122
  z232 := Tryz.sizeOf122
  v232 := Tryz.zeroValue122
  t233 := Tryz.underlying123
  a233 := Tryz.isAgg123
  z233 := Tryz.sizeOf123
  v233 := Tryz.zeroValue123
  g15 := by kernel_rfl
  g16 := by kernel_rfl
  g17 := by kernel_rfl
  g18 := by kernel_rfl
  g19 := by kernel_rfl
  t80 := Tryz.underlying191
  a80 := Tryz.isAgg191
  z80 := Tryz.sizeOf191
  v80 := Tryz.zeroValue191
  i0 := by kernel_rfl
  i2 := by kernel_rfl
  i3 := by kernel_rfl
  i4 := by kernel_rfl
  i5 := by kernel_rfl
  i9 := by kernel_rfl
  i20 := by kernel_rfl
  i21 := by kernel_rfl
  i37 := by kernel_rfl
  i46 := by kernel_rfl
  i51 := by kernel_rfl
  i53 := by kernel_rfl
  i75 := by kernel_rfl
  i76 := by kernel_rfl
  i80 := by kernel_rfl
  i85 := by kernel_rfl
  i127 := by kernel_rfl
  i143 := by kernel_rfl
  i145 := by kernel_rfl
  i167 := by kernel_rfl
  i168 := by kernel_rfl
  i171 := by kernel_rfl
  i173 := by kernel_rfl
  i175 := by kernel_rfl
  i210 := by kernel_rfl
  i212 := by kernel_rfl
  i232 := by kernel_rfl
  i233 := by kernel_rfl
  m15 := by kernel_rfl
  m16 := by kernel_rfl
  m17 := by kernel_rfl
  m18 := by kernel_rfl
  m19 := by kernel_rfl
  c0 := by kernel_rfl
  c2 := by kernel_rfl
  c3 := by kernel_rfl
  c4 := by kernel_rfl
  c5 := by kernel_rfl
  c9 := by kernel_rfl
  c20 := by kernel_rfl
  c21 := by kernel_rfl
  c37 := by kernel_rfl
  c46 := by kernel_rfl
  c51 := by kernel_rfl
  c53 := by kernel_rfl
  c75 := by kernel_rfl
  c76 := by kernel_rfl
  c80 := by kernel_rfl
  c85 := by kernel_rfl
  c127 := by kernel_rfl
  c143 := by kernel_rfl
  c145 := by kernel_rfl
  c167 := by kernel_rfl
  c168 := by kernel_rfl
  c171 := by kernel_rfl
  c173 := by kernel_rfl
  c175 := by kernel_rfl
  c210 := by kernel_rfl
  c212 := by kernel_rfl
  c213 := by kernel_rfl
  c232 := by kernel_rfl
  c233 := by kernel_rfl }
def Tryz.lays229_ren : Go.Shelf.Ren := ⟨fun | 229 => 29 | n => n, fun | 9 => 9 | 40 => 66 | 31 => 44 | 152 => 75 | 3 => 3 | 0 => 0 | 4 => 4 | 21 => 21 | 154 => 77 | n => n, fun | n => n⟩
theorem Tryz.lays229 : Go.Proofs.Lays.n229 Tryz.prog Tryz.lays229_ren := {
  mixed := by kernel_rfl
  f229 := Tryz.func29.trans (congrArg some (by kernel_rfl))
  t0 := Tryz.underlying0
  a0 := Tryz.isAgg0
  z0 := Tryz.sizeOf0
  v0 := Tryz.zeroValue0
  t3 := Tryz.underlying3
  a3 := Tryz.isAgg3
  z3 := Tryz.sizeOf3
  v3 := Tryz.zeroValue3
  t4 := Tryz.underlying4
  a4 := Tryz.isAgg4
  z4 := Tryz.sizeOf4
  v4 := Tryz.zeroValue4
  t9 := Tryz.underlying9
  a9 := Tryz.isAgg9
  z9 := Tryz.sizeOf9
  v9 := Tryz.zeroValue9
  t21 := Tryz.underlying21
  a21 := Tryz.isAgg21
  z21 := Tryz.sizeOf21
  v21 := Tryz.zeroValue21
  t31 := Tryz.underlying44
  a31 := Tryz.isAgg44
  z31 := Tryz.sizeOf44
  v31 := Tryz.zeroValue44
  t40 := Tryz.underlying66
  a40 := Tryz.isAgg66
  z40 := Tryz.sizeOf66
  v40 := Tryz.zeroValue66
  t152 := Tryz.underlying75
  a152 := Tryz.isAgg75
  z152 := Tryz.sizeOf75
  v152 := Tryz.zeroValue75
  t154 := Tryz.underlying77
  a154 := Tryz.isAgg77
  z154 := Tryz.sizeOf77
  v154 := Tryz.zeroValue77 }
end Go.Proofs
namespace Go
variable {H : Type} {enc : TypeId × Value → H}
theorem xt_returns {a : Assume} {C : Checked} {os : Os} {f : FuncId} {fn : Func} {s : ChangeSpec} {conds : List PathCond} {apart fresh handsOn again : Bool} {X : World → Array Value → Prop}
    (hX : ∀ (w w' : World) (args : Array Value), w.heap = w'.heap → X w args → X w' args)
    (own : ownKnob C.prog.godebug = none) (started : os.Started) (noInit : C.prog.inits.idxOf? f = none) (hfn : C.prog.funcs[f]? = some fn)
    (witness : ∃ (w : World) (tape : Tape) (i : Input), w.os = os ∧ (w.forCall tape i).Shaped C.prog ∧ i.vars = [] ∧ Input.okWide C.prog (w.forCall tape i) .any w.heap.size f i ∧
      ((s.pre enc C.prog fn conds apart (w.forCall tape i).memory i.args ∧ X (w.forCall tape i).memory i.args) ∧ sizedMet enc C.prog fn (OpenSpec.ofChange s) apart (w.forCall tape i).memory i.args) ∧ a.holds C.prog (lone (Frame.enter C.prog f i.args .normal) [] (w.forCall tape i)))
    (contract : ∀ (W : World) (base : Nat) (args : Array Value) (ds gs : List (DataW H)) (before : List MemPlace),
      (∀ (j : Nat) t v, fn.params[j]? = some t → args[j]? = some v → Value.okWide C.prog W .any base t v) →
      DataW.Whole enc C.prog fn.params.toList s.vars apart W args.toList ds gs before →
      conds.all (PathCond.test C.prog ⟨fn.params.toList, ds, s.plain.varTypes C.prog, gs⟩) = true →
      (DataW.weightsEach C.prog (fn.params.toList ++ s.plain.varTypes C.prog) (ds ++ gs)).all (· ≤ reachBytes) = true → X W args →
      W.ShapedOpen C.prog →
      a.holds C.prog (lone (Frame.enter C.prog f args .normal) [] W) →
      Calls C.prog f args W fun e W' => ∃ v, e = .returned v ∧ s.post enc C.prog fn apart fresh handsOn again W args v W') :
    ReturnsInHanded a C os f .any (fun w args => (s.pre enc C.prog fn conds apart w args ∧ X w args) ∧ sizedMet enc C.prog fn (OpenSpec.ofChange s) apart w args) (s.post enc C.prog fn apart fresh handsOn again) := by
  refine returnsInHanded_of_calls own started noInit witness ?_
  intro w tape i _ hsh _ hok hpre hholds
  obtain ⟨_, _, _, fn', hfn', _, _, _, _, hval⟩ := hok
  have e : fn' = fn := Option.some.inj (hfn'.symm.trans hfn)
  subst e
  obtain ⟨⟨⟨ds, gs, before, hw, hc⟩, hx⟩, hz⟩ := hpre
  have hw' := DataW.Whole.of_heap (w' := w.forCall tape i) (by rfl) hw
  refine (contract (w.forCall tape i) w.heap.size i.args ds gs before hval hw' hc (hz.weights hw) (hX _ _ _ (by rfl) hx) hsh hholds).mono fun e W' ⟨v, he, hp⟩ => ?_
  subst he
  exact ChangeSpec.post_blind hp
end Go
namespace Go.Proofs.YtialoecplmnjfaaGreatDoorW.PrintMore
open Go.RowKit Go.Proofs Go.Proofs.YtialoecplmnjfaaGreatDoorW.PrintWords
theorem g_pow10 : Tryz.prog.globalNamed "internal/strconv.uint64pow10" = some 0 := by kernel_rfl
structure Tabs (w : World) : Prop where
  pow10 : Lib.TabIs Tryz.prog w "internal/strconv.uint64pow10" .u64 Lib.pow10Tab
  maxlen : ∃ m, w.cell? ⟨3, 0, none⟩ = some (.int .i64 m)
theorem Tabs.below {w w' : World} (h : Tabs w) (hb : Below w.heap.size w w') : Tabs w' := by
  refine ⟨Go.Joins.tab_stays g_pow10 h.pow10 hb (Nat.le_refl _), ?_⟩
  obtain ⟨m, hm⟩ := h.maxlen
  refine ⟨m, (hb.cell ?_).trans hm⟩
  unfold World.cell? at hm
  split at hm
  · rename_i hx
    exact (Array.getElem?_eq_some_iff.1 hx).1
  · cases hm
theorem Tabs.of_laid {W : World} (h : laidMet Tryz.prog [("internal/strconv.uint64pow10", Lib.tabData .u64 Lib.pow10Tab)] W) (hsh : W.ShapedOpen Tryz.prog) : Tabs W :=
  ⟨Lib.tabIs_of_head g_pow10 (t := 110) (e := 90) (n := 20) (by kernel_rfl) Tryz.underlying110 Tryz.underlying90 (by kernel_rfl) (by kernel_rfl) h, Tryz.laysM143.s1_3 W hsh⟩
end Go.Proofs.YtialoecplmnjfaaGreatDoorW.PrintMore
namespace Go.Proofs.YtialoecplmnjfaaGreatDoorW.PrintMore
open Go.RowKit Go.Proofs.YtialoecplmnjfaaGreatDoorW.PrintWords Go.Proofs.YtialoecplmnjfaaGreatDoorW.PrintLast
section
variable {P : Program} {ops : Array Oper} {rest : List Oper} {o : Oper} {a : Act} {Q : Exit → Act → World → Prop}
theorem xm_findNow_none {n : Int} : ∀ {l : List (Int × Value)} {i : Nat} {born : Nat → Nat}, (∀ x ∈ l, x.1 ≠ n) → ∀ {es : List MapEntry}, es.map (fun e => (e.key, e.val)) = l.map (fun x => (Value.int .i64 x.1, x.2)) → Instr.findNow (.int .i64) (.int .i64 n) es i = some none
  | [], i, _, _, es, he => by
    have : es = [] := by simpa using he
    subst this
    rfl
  | x :: l, i, born, h, es, he => by
    match es, he with
    | e :: es, he =>
      simp only [List.map_cons, List.cons.injEq, Prod.mk.injEq] at he
      obtain ⟨⟨hk, _⟩, he⟩ := he
      have hne : (n == x.1) = false := by
        have := h x List.mem_cons_self
        simp only [beq_eq_false_iff_ne, ne_eq]
        exact fun e => this e.symm
      simp only [Instr.findNow, hk, Instr.sameNow, if_true, hne]
      exact xm_findNow_none (born := born) (fun y hy => h y (List.mem_cons_of_mem _ hy)) he
theorem xm_findNow_some {n : Int} {v : Value} : ∀ {l : List (Int × Value)} {i : Nat}, l.find? (fun x => x.1 == n) = some (n, v) → ∀ {es : List MapEntry}, es.map (fun e => (e.key, e.val)) = l.map (fun x => (Value.int .i64 x.1, x.2)) → ∃ j, Instr.findNow (.int .i64) (.int .i64 n) es i = some (some (j, v))
  | [], i, h, es, he => by simp at h
  | x :: l, i, h, es, he => by
    match es, he with
    | e :: es, he =>
      simp only [List.map_cons, List.cons.injEq, Prod.mk.injEq] at he
      obtain ⟨⟨hk, hv⟩, he⟩ := he
      rw [List.find?_cons] at h
      simp only [Instr.findNow, hk, Instr.sameNow, if_true]
      by_cases hx : x.1 = n
      · have h1 : (x.1 == n) = true := by simp [hx]
        have h2 : (n == x.1) = true := by simp [hx]
        rw [h1] at h
        have : x = (n, v) := by simpa using h
        rw [h2]
        exact ⟨i, by rw [hv, this]⟩
      · have h1 : (x.1 == n) = false := by simp [hx]
        have h2 : (n == x.1) = false := by simp only [beq_eq_false_iff_ne, ne_eq]; exact fun e => hx e.symm
        rw [h1] at h
        rw [h2]
        exact xm_findNow_some h he
def MapAt (w : World) (b : Nat) (l : List (Int × Value)) : Prop := ∃ es c, w.heap[b]? = some (.map es c) ∧ es.toList.map (fun e => (e.key, e.val)) = l.map (fun x => (Value.int .i64 x.1, x.2))
theorem MapAt.keep {w w1 : World} {b : Nat} {l : List (Int × Value)} (h : MapAt w b l) (hb : w1.heap[b]? = w.heap[b]?) : MapAt w1 b l := by
  obtain ⟨es, c, h1, h2⟩ := h
  exact ⟨es, c, hb.trans h1, h2⟩
theorem MapAt.lt {w : World} {b : Nat} {l : List (Int × Value)} (h : MapAt w b l) : b < w.heap.size := by
  obtain ⟨es, c, h1, _⟩ := h
  exact (Array.getElem?_eq_some_iff.1 h1).1
theorem MapAt.below {w w1 : World} {b : Nat} {l : List (Int × Value)} (h : MapAt w b l) (hb : Below w.heap.size w w1) : MapAt w1 b l := h.keep (hb.block b h.lt)
structure ButMap (w w1 : World) (b : Nat) : Prop where
  os : w1.os = w.os
  tape : w1.tape = w.tape
  output : w1.output = w.output
  size : w1.heap.size = w.heap.size
  block : ∀ i, i ≠ b → w1.heap[i]? = w.heap[i]?
theorem ButMap.below {w0 w w1 : World} {b B : Nat} (h : ButMap w w1 b) (k : Below B w0 w) (hb : B ≤ b) : Below B w0 w1 :=
  ⟨h.os.trans k.os, h.tape.trans k.tape, h.output.trans k.output, by rw [h.size]; exact k.size, fun i hi => (h.block i (by omega)).trans (k.block i hi)⟩
theorem lookup_some {W : World} {b : Nat} {l : List (Int × Value)} {t kt et : TypeId} (ht : P.underlying t = some (.map kt et)) (hk : P.underlying kt = some (.int .i64)) (HM : MapAt W b l) {n : Int} {v : Value} (hf : l.find? (fun x => x.1 == n) = some (n, v)) (ok : Bool) :
    (Instr.lookup t (.map (some b)) (.int .i64 n) ok).run P W = .ok (if ok then .tuple #[v, .bool true] else v) W := by
  obtain ⟨es, c, h1, h2⟩ := HM
  obtain ⟨j, hj⟩ := xm_findNow_some (i := 0) hf h2
  have hfk : (Instr.findKey kt (.int .i64 n) es.toList).run P W = .ok (some (j, v)) W := by
    unfold Instr.findKey
    simp only [Sem.run_bind, run_underlying hk, Result.andThen_ok, hj, Sem.run_pure]
  have hck : (Instr.checkKey es.isEmpty 10000 kt (.int .i64 n)).run P W = .ok () W := by
    rw [show (10000 : Nat) = 9999 + 1 from rfl]
    unfold Instr.checkKey
    simp only [Sem.run_bind, run_underlying hk, Result.andThen_ok, Sem.run_pure]
  unfold Instr.lookup
  simp only [Sem.run_bind, run_underlying ht, Result.andThen_ok, MapKept.run_getObj_map h1, hck, hfk, Sem.run_pure]
theorem lookup_none {W : World} {b : Nat} {l : List (Int × Value)} {t kt et : TypeId} {z : Value} (ht : P.underlying t = some (.map kt et)) (hk : P.underlying kt = some (.int .i64)) (hz : (zeroValue et).run P W = .ok z W) (HM : MapAt W b l) {n : Int} (hf : ∀ y ∈ l, y.1 ≠ n) (ok : Bool) :
    (Instr.lookup t (.map (some b)) (.int .i64 n) ok).run P W = .ok (if ok then .tuple #[z, .bool false] else z) W := by
  obtain ⟨es, c, h1, h2⟩ := HM
  have hfk : (Instr.findKey kt (.int .i64 n) es.toList).run P W = .ok none W := by
    unfold Instr.findKey
    simp only [Sem.run_bind, run_underlying hk, Result.andThen_ok, xm_findNow_none (born := fun i => i) hf h2, Sem.run_pure]
  have hck : (Instr.checkKey es.isEmpty 10000 kt (.int .i64 n)).run P W = .ok () W := by
    rw [show (10000 : Nat) = 9999 + 1 from rfl]
    unfold Instr.checkKey
    simp only [Sem.run_bind, run_underlying hk, Result.andThen_ok, Sem.run_pure]
  unfold Instr.lookup
  simp only [Sem.run_bind, run_underlying ht, Result.andThen_ok, MapKept.run_getObj_map h1, hck, hfk, hz, Sem.run_pure]
end
end Go.Proofs.YtialoecplmnjfaaGreatDoorW.PrintMore
namespace Go.Proofs.YtialoecplmnjfaaGreatDoor.XOps
open Go.RowKit Go.Proofs Go.Proofs.YtialoecplmnjfaaGreatDoorW.PrintWords Go.Proofs.YtialoecplmnjfaaGreatDoorW.PrintLast Go.Proofs.YtialoecplmnjfaaGreatDoorW.PrintMore
def opFn (o : Int) : Option (List Int × Int × Nat) :=
  if o = 4 then some ([0, 0], 0, 76) else if o = 5 then some ([0, 0], 0, 77) else if o = 6 then some ([0, 0], 0, 78)
  else if o = 7 then some ([0, 0], 0, 79) else if o = 8 then some ([0, 0], 0, 80) else if o = 9 then some ([1, 1], 1, 81)
  else if o = 10 then some ([1], 0, 82) else if o = 11 then some ([1, 0, 0], 1, 83) else if o = 12 then some ([1], 1, 84)
  else if o = 13 then some ([1], 1, 85) else if o = 14 then some ([2, 2], 0, 86) else if o = 15 then some ([2, 2], 0, 87)
  else if o = 16 then some ([0], 0, 88) else if o = 17 then some ([0, 2, 2], 2, 89) else if o = 18 then some ([1], 0, 90)
  else if o = 19 then some ([0], 1, 91) else if o = 20 then some ([1], 0, 92) else if o = 21 then some ([1, 1], 0, 93) else none
structure Inv (w : World) (b : Nat) (W : World) (l : List (Int × Value)) (S : List (Nat × List Int)) : Prop where
  map : MapAt W b l
  below : Below w.heap.size w W
  hb : w.heap.size ≤ b
  rows : ∀ x ∈ S, w.heap.size ≤ x.1 ∧ x.1 < W.heap.size ∧ x.1 ≠ b ∧ ∀ i, i < x.2.length → W.cell? ⟨x.1, i, none⟩ = some (.int .i64 (x.2.getD i 0))
theorem cell_alloc_old {W : World} {o : Obj} {a : Addr} (h : a.block < W.heap.size) : (W.alloc o).cell? a = W.cell? a := by
  unfold World.cell?
  rw [heap_alloc_old W o h]
theorem size_alloc (W : World) (o : Obj) : (W.alloc o).heap.size = W.heap.size + 1 := by simp
theorem cell_new {W : World} {cs : Array Value} {t : TypeId} {i : Nat} {v : Value} (h : cs[i]? = some v) : (W.alloc (.cells cs t)).cell? ⟨W.heap.size, i, none⟩ = some v := by
  unfold World.cell?
  simp only [heap_alloc_new]
  exact h
theorem Inv.alloc {w : World} {b : Nat} {W : World} {l : List (Int × Value)} {S : List (Nat × List Int)} (h : Inv w b W l S) (ks : List Int) (t : TypeId) (cs : Array Value) (hc : cs.toList = ks.map (fun k => .int .i64 k)) : Inv w b (W.alloc (.cells cs t)) l ((W.heap.size, ks) :: S) := by
  refine ⟨h.map.keep ?_, h.below.alloc h.below.size _, h.hb, ?_⟩
  · exact heap_alloc_old W _ h.map.lt
  · intro x hx
    rcases List.mem_cons.1 hx with rfl | hx
    · refine ⟨h.below.size, by rw [size_alloc]; exact Nat.lt_succ_self _, Ne.symm (Nat.ne_of_lt h.map.lt), ?_⟩
      intro i hi
      have : cs[i]? = some (.int .i64 (ks.getD i 0)) := by
        rw [← Array.getElem?_toList, hc]
        simp [hi]
      exact cell_new this
    · obtain ⟨h1, h2, h3, h4⟩ := h.rows x hx
      exact ⟨h1, by rw [size_alloc]; omega, h3, fun i hi => (cell_alloc_old h2).trans (h4 i hi)⟩
theorem Inv.insert {w : World} {b : Nat} {W W2 : World} {l l2 : List (Int × Value)} {S : List (Nat × List Int)} (h : Inv w b W l S) (m : MapAt W2 b l2) (k : ButMap W W2 b) : Inv w b W2 l2 S := by
  refine ⟨m, k.below h.below h.hb, h.hb, fun x hx => ?_⟩
  obtain ⟨h1, h2, h3, h4⟩ := h.rows x hx
  refine ⟨h1, by rw [k.size]; exact h2, h3, fun i hi => ?_⟩
  rw [← h4 i hi]
  unfold World.cell?
  simp only [k.block x.1 h3]
theorem insert_run {P : Program} {W : World} {b : Nat} {l : List (Int × Value)} {t kt et : TypeId} (ht : P.underlying t = some (.map kt et)) (hk : P.underlying kt = some (.int .i64)) (n : Int) (v : Value) (HM : MapAt W b l) (hl : ∀ y ∈ l, y.1 ≠ n) :
    ∃ w2, (Instr.mapUpdate t (.map (some b)) (.int .i64 n) v).run P W = .ok () w2 ∧ MapAt w2 b (l ++ [(n, v)]) ∧ ButMap W w2 b := by
  obtain ⟨es, c, h1, h2⟩ := HM
  have hf : (Instr.findKey kt (.int .i64 n) es.toList).run P W = .ok none W := by
    unfold Instr.findKey
    simp only [Sem.run_bind, run_underlying hk, Result.andThen_ok, xm_findNow_none (born := fun i => i) hl h2, Sem.run_pure]
  have hck : (Instr.checkKey false 10000 kt (.int .i64 n)).run P W = .ok () W := by
    rw [show (10000 : Nat) = 9999 + 1 from rfl]
    unfold Instr.checkKey
    simp only [Sem.run_bind, run_underlying hk, Result.andThen_ok, Sem.run_pure]
  have hrun : (Instr.mapUpdate t (.map (some b)) (.int .i64 n) v).run P W = .ok () { W with heap := W.heap.setIfInBounds b (.map (es.push { key := .int .i64 n, val := v, born := c }) (c + 1)) } := by
    simp only [Instr.mapUpdate, Sem.run_bind, run_underlying ht, Result.andThen_ok, MapKept.run_getObj_map h1, hck, hf, MapKept.run_setObj_map _ h1, Sem.run_pure]
  have hlt : b < W.heap.size := (Array.getElem?_eq_some_iff.1 h1).1
  exact ⟨_, hrun, ⟨es.push { key := .int .i64 n, val := v, born := c }, c + 1, by simp [hlt], by simp [h2]⟩, ⟨rfl, rfl, rfl, by simp, fun i hi => by simp [Array.getElem?_setIfInBounds, Ne.symm hi]⟩⟩
theorem inv_step {P : Program} {o : Oper} {a : Act} {K : Act → World → Prop} {Q : Exit → Act → World → Prop} {f : Unit → World → Result Next} {w W : World} {b : Nat} {l : List (Int × Value)} {S : List (Nat × List Int)} (HI : Inv w b W l S) {t kt et : TypeId} (ht : P.underlying t = some (.map kt et)) (hk : P.underlying kt = some (.int .i64)) {n : Int} {v : Value} (hl : (l.any fun y => y.1 == n) = false)
    (h : ∀ w2, Inv w b w2 (l ++ [(n, v)]) S → Oper.upon P o a K Q (f () w2)) : Oper.upon P o a K Q (((Instr.mapUpdate t (.map (some b)) (.int .i64 n) v).run P W).andThen f) := by
  obtain ⟨w2, e, h1, h2⟩ := insert_run ht hk n v HI.map (fun y hy e => by
    have := List.any_eq_false.1 hl y hy
    simp [e] at this)
  rw [e]
  exact h w2 (HI.insert h1 h2)
def OpsAt (w w' : World) (b : Nat) : Prop := ∃ l, MapAt w' b l ∧ ∀ o, match opFn o with
  | none => ∀ y ∈ l, y.1 ≠ o
  | some (ks, t, f) => ∃ blk, l.find? (fun y => y.1 == o) = some (o, .agg #[.slice (some ⟨blk, 0, none⟩) ks.length ks.length, .int .i64 t, .func (.func f) #[] #[]]) ∧ w.heap.size ≤ blk ∧ blk < w'.heap.size ∧ ∀ i, i < ks.length → w'.cell? ⟨blk, i, none⟩ = some (.int .i64 (ks.getD i 0))
theorem inv_start (w : World) (t : TypeId) : Inv w (w.heap.size + 1 + 1) (((w.alloc (.cells #[.int .i64 0, .int .i64 0] t)).alloc (.cells #[.int .i64 1] t)).alloc (.map #[] 0)) [] [(w.heap.size, [0, 0]), (w.heap.size + 1, [1])] := by
  have z1 := size_alloc w (.cells #[.int .i64 0, .int .i64 0] t)
  have z2 := size_alloc (w.alloc (.cells #[.int .i64 0, .int .i64 0] t)) (.cells #[.int .i64 1] t)
  have z3 := size_alloc ((w.alloc (.cells #[.int .i64 0, .int .i64 0] t)).alloc (.cells #[.int .i64 1] t)) (.map #[] 0)
  refine ⟨⟨#[], 0, ?_, rfl⟩, below_alloc (below_alloc (below_alloc (Below.refl _ _) _) _) _, by omega, ?_⟩
  · have := heap_alloc_new ((w.alloc (.cells #[.int .i64 0, .int .i64 0] t)).alloc (.cells #[.int .i64 1] t)) (.map #[] 0)
    rw [z2, z1] at this
    exact this
  intro x hx
  simp only [List.mem_cons, List.not_mem_nil, or_false] at hx
  rcases hx with rfl | rfl
  · refine ⟨Nat.le_refl _, by show w.heap.size < _; omega, by show w.heap.size ≠ _; omega, fun i hi => ?_⟩
    rw [cell_alloc_old (by show w.heap.size < _; omega), cell_alloc_old (by show w.heap.size < _; omega)]
    have : i = 0 ∨ i = 1 := by simp at hi; omega
    rcases this with rfl | rfl <;> exact cell_new rfl
  · refine ⟨by show w.heap.size ≤ w.heap.size + 1; omega, by show w.heap.size + 1 < _; omega, by show w.heap.size + 1 ≠ _; omega, fun i hi => ?_⟩
    have : i = 0 := by simpa using hi
    subst this
    rw [cell_alloc_old (by show w.heap.size + 1 < _; omega)]
    have := @cell_new (w.alloc (.cells #[.int .i64 0, .int .i64 0] t)) #[.int .i64 1] t 0 (.int .i64 1) rfl
    rw [z1] at this
    exact this
set_option maxHeartbeats 4000000 in
set_option maxRecDepth 100000 in
theorem inv_done {w W : World} {b p0 p1 b9 b11 b14 b15 b16 b17 b19 b21 : Nat} (HI : Inv w b W [(4, .agg #[.slice (some ⟨p0, 0, none⟩) 2 2, .int .i64 0, .func (.func 76) #[] #[]]), (5, .agg #[.slice (some ⟨p0, 0, none⟩) 2 2, .int .i64 0, .func (.func 77) #[] #[]]), (6, .agg #[.slice (some ⟨p0, 0, none⟩) 2 2, .int .i64 0, .func (.func 78) #[] #[]]), (7, .agg #[.slice (some ⟨p0, 0, none⟩) 2 2, .int .i64 0, .func (.func 79) #[] #[]]), (8, .agg #[.slice (some ⟨p0, 0, none⟩) 2 2, .int .i64 0, .func (.func 80) #[] #[]]), (9, .agg #[.slice (some ⟨b9, 0, none⟩) 2 2, .int .i64 1, .func (.func 81) #[] #[]]), (10, .agg #[.slice (some ⟨p1, 0, none⟩) 1 1, .int .i64 0, .func (.func 82) #[] #[]]), (11, .agg #[.slice (some ⟨b11, 0, none⟩) 3 3, .int .i64 1, .func (.func 83) #[] #[]]), (12, .agg #[.slice (some ⟨p1, 0, none⟩) 1 1, .int .i64 1, .func (.func 84) #[] #[]]), (13, .agg #[.slice (some ⟨p1, 0, none⟩) 1 1, .int .i64 1, .func (.func 85) #[] #[]]), (14, .agg #[.slice (some ⟨b14, 0, none⟩) 2 2, .int .i64 0, .func (.func 86) #[] #[]]), (15, .agg #[.slice (some ⟨b15, 0, none⟩) 2 2, .int .i64 0, .func (.func 87) #[] #[]]), (16, .agg #[.slice (some ⟨b16, 0, none⟩) 1 1, .int .i64 0, .func (.func 88) #[] #[]]), (17, .agg #[.slice (some ⟨b17, 0, none⟩) 3 3, .int .i64 2, .func (.func 89) #[] #[]]), (18, .agg #[.slice (some ⟨p1, 0, none⟩) 1 1, .int .i64 0, .func (.func 90) #[] #[]]), (19, .agg #[.slice (some ⟨b19, 0, none⟩) 1 1, .int .i64 1, .func (.func 91) #[] #[]]), (20, .agg #[.slice (some ⟨p1, 0, none⟩) 1 1, .int .i64 0, .func (.func 92) #[] #[]]), (21, .agg #[.slice (some ⟨b21, 0, none⟩) 2 2, .int .i64 0, .func (.func 93) #[] #[]])] [(b21, [1, 1]), (b19, [0]), (b17, [0, 2, 2]), (b16, [0]), (b15, [2, 2]), (b14, [2, 2]), (b11, [1, 0, 0]), (b9, [1, 1]), (p0, [0, 0]), (p1, [1])]) : OpsAt w W b := by
  have H := HI.rows
  refine ⟨_, HI.map, fun o => ?_⟩
  by_cases h4 : o = 4
  · subst h4; obtain ⟨h1, h2, _, h4⟩ := H (p0, [0, 0]) (by simp); exact ⟨p0, rfl, h1, h2, h4⟩
  by_cases h5 : o = 5
  · subst h5; obtain ⟨h1, h2, _, h4⟩ := H (p0, [0, 0]) (by simp); exact ⟨p0, rfl, h1, h2, h4⟩
  by_cases h6 : o = 6
  · subst h6; obtain ⟨h1, h2, _, h4⟩ := H (p0, [0, 0]) (by simp); exact ⟨p0, rfl, h1, h2, h4⟩
  by_cases h7 : o = 7
  · subst h7; obtain ⟨h1, h2, _, h4⟩ := H (p0, [0, 0]) (by simp); exact ⟨p0, rfl, h1, h2, h4⟩
  by_cases h8 : o = 8
  · subst h8; obtain ⟨h1, h2, _, h4⟩ := H (p0, [0, 0]) (by simp); exact ⟨p0, rfl, h1, h2, h4⟩
  by_cases h9 : o = 9
  · subst h9; obtain ⟨h1, h2, _, h4⟩ := H (b9, [1, 1]) (by simp); exact ⟨b9, rfl, h1, h2, h4⟩
  by_cases h10 : o = 10
  · subst h10; obtain ⟨h1, h2, _, h4⟩ := H (p1, [1]) (by simp); exact ⟨p1, rfl, h1, h2, h4⟩
  by_cases h11 : o = 11
  · subst h11; obtain ⟨h1, h2, _, h4⟩ := H (b11, [1, 0, 0]) (by simp); exact ⟨b11, rfl, h1, h2, h4⟩
  by_cases h12 : o = 12
  · subst h12; obtain ⟨h1, h2, _, h4⟩ := H (p1, [1]) (by simp); exact ⟨p1, rfl, h1, h2, h4⟩
  by_cases h13 : o = 13
  · subst h13; obtain ⟨h1, h2, _, h4⟩ := H (p1, [1]) (by simp); exact ⟨p1, rfl, h1, h2, h4⟩
  by_cases h14 : o = 14
  · subst h14; obtain ⟨h1, h2, _, h4⟩ := H (b14, [2, 2]) (by simp); exact ⟨b14, rfl, h1, h2, h4⟩
  by_cases h15 : o = 15
  · subst h15; obtain ⟨h1, h2, _, h4⟩ := H (b15, [2, 2]) (by simp); exact ⟨b15, rfl, h1, h2, h4⟩
  by_cases h16 : o = 16
  · subst h16; obtain ⟨h1, h2, _, h4⟩ := H (b16, [0]) (by simp); exact ⟨b16, rfl, h1, h2, h4⟩
  by_cases h17 : o = 17
  · subst h17; obtain ⟨h1, h2, _, h4⟩ := H (b17, [0, 2, 2]) (by simp); exact ⟨b17, rfl, h1, h2, h4⟩
  by_cases h18 : o = 18
  · subst h18; obtain ⟨h1, h2, _, h4⟩ := H (p1, [1]) (by simp); exact ⟨p1, rfl, h1, h2, h4⟩
  by_cases h19 : o = 19
  · subst h19; obtain ⟨h1, h2, _, h4⟩ := H (b19, [0]) (by simp); exact ⟨b19, rfl, h1, h2, h4⟩
  by_cases h20 : o = 20
  · subst h20; obtain ⟨h1, h2, _, h4⟩ := H (p1, [1]) (by simp); exact ⟨p1, rfl, h1, h2, h4⟩
  by_cases h21 : o = 21
  · subst h21; obtain ⟨h1, h2, _, h4⟩ := H (b21, [1, 1]) (by simp); exact ⟨b21, rfl, h1, h2, h4⟩
  have e : opFn o = none := by simp only [opFn, h4, h5, h6, h7, h8, h9, h10, h11, h12, h13, h14, h15, h16, h17, h18, h19, h20, h21, if_false]
  rw [e]
  intro y hy hyo
  simp only [List.mem_cons, List.not_mem_nil, or_false] at hy
  rcases hy with rfl | rfl | rfl | rfl | rfl | rfl | rfl | rfl | rfl | rfl | rfl | rfl | rfl | rfl | rfl | rfl | rfl | rfl
  · exact h4 hyo.symm
  · exact h5 hyo.symm
  · exact h6 hyo.symm
  · exact h7 hyo.symm
  · exact h8 hyo.symm
  · exact h9 hyo.symm
  · exact h10 hyo.symm
  · exact h11 hyo.symm
  · exact h12 hyo.symm
  · exact h13 hyo.symm
  · exact h14 hyo.symm
  · exact h15 hyo.symm
  · exact h16 hyo.symm
  · exact h17 hyo.symm
  · exact h18 hyo.symm
  · exact h19 hyo.symm
  · exact h20 hyo.symm
  · exact h21 hyo.symm
set_option maxHeartbeats 4000000 in
set_option maxRecDepth 100000 in
theorem calls (w : World) : Calls Tryz.prog 73 #[] w fun e w' => ∃ b, e = .returned (.map (some b)) ∧ OpsAt w w' b ∧ Below w.heap.size w w' := by
  have hmm := @run_makeMap Tryz.prog
  go_enter Tryz.func73, Tryz.ntmps73
  have HI := inv_start w 126
  go_wp2
  refine inv_step HI Tryz.underlying130 Tryz.underlying3 rfl ?_
  clear HI
  intro w4 HI
  go_wp2
  refine inv_step HI Tryz.underlying130 Tryz.underlying3 rfl ?_
  clear HI
  intro w5 HI
  go_wp2
  refine inv_step HI Tryz.underlying130 Tryz.underlying3 rfl ?_
  clear HI
  intro w6 HI
  go_wp2
  refine inv_step HI Tryz.underlying130 Tryz.underlying3 rfl ?_
  clear HI
  intro w7 HI
  go_wp2
  refine inv_step HI Tryz.underlying130 Tryz.underlying3 rfl ?_
  clear HI
  intro w8 HI
  go_wp2
  replace HI := HI.alloc [1, 1] 126 _ rfl
  refine inv_step HI Tryz.underlying130 Tryz.underlying3 rfl ?_
  clear HI
  intro w9 HI
  go_wp2
  refine inv_step HI Tryz.underlying130 Tryz.underlying3 rfl ?_
  clear HI
  intro w10 HI
  go_wp2
  replace HI := HI.alloc [1, 0, 0] 126 _ rfl
  refine inv_step HI Tryz.underlying130 Tryz.underlying3 rfl ?_
  clear HI
  intro w11 HI
  go_wp2
  refine inv_step HI Tryz.underlying130 Tryz.underlying3 rfl ?_
  clear HI
  intro w12 HI
  go_wp2
  refine inv_step HI Tryz.underlying130 Tryz.underlying3 rfl ?_
  clear HI
  intro w13 HI
  go_wp2
  replace HI := HI.alloc [2, 2] 126 _ rfl
  refine inv_step HI Tryz.underlying130 Tryz.underlying3 rfl ?_
  clear HI
  intro w14 HI
  go_wp2
  replace HI := HI.alloc [2, 2] 126 _ rfl
  refine inv_step HI Tryz.underlying130 Tryz.underlying3 rfl ?_
  clear HI
  intro w15 HI
  go_wp2
  replace HI := HI.alloc [0] 126 _ rfl
  refine inv_step HI Tryz.underlying130 Tryz.underlying3 rfl ?_
  clear HI
  intro w16 HI
  go_wp2
  replace HI := HI.alloc [0, 2, 2] 126 _ rfl
  refine inv_step HI Tryz.underlying130 Tryz.underlying3 rfl ?_
  clear HI
  intro w17 HI
  go_wp2
  refine inv_step HI Tryz.underlying130 Tryz.underlying3 rfl ?_
  clear HI
  intro w18 HI
  go_wp2
  replace HI := HI.alloc [0] 126 _ rfl
  refine inv_step HI Tryz.underlying130 Tryz.underlying3 rfl ?_
  clear HI
  intro w19 HI
  go_wp2
  refine inv_step HI Tryz.underlying130 Tryz.underlying3 rfl ?_
  clear HI
  intro w20 HI
  go_wp2
  replace HI := HI.alloc [1, 1] 126 _ rfl
  refine inv_step HI Tryz.underlying130 Tryz.underlying3 rfl ?_
  clear HI
  intro w21 HI
  go_wp2
  go_ret
  exact ⟨_, rfl, inv_done HI, HI.below⟩
end Go.Proofs.YtialoecplmnjfaaGreatDoor.XOps
namespace Go.Proofs.YtialoecplmnjfaaGreatDoor.XOps
open Go.RowKit Go.Proofs Go.Proofs.YtialoecplmnjfaaGreatDoorW.PrintWords Go.Proofs.YtialoecplmnjfaaGreatDoorW.PrintLast Go.Proofs.YtialoecplmnjfaaGreatDoorW.PrintMore
theorem zero_op (w : World) : (zeroValue 129).run Tryz.prog w = .ok (.agg #[.slice none 0 0, .int .i64 0, .nilFunc]) w := by kernel_rfl
theorem run_store_func {P : Program} {w : World} {a : Addr} {m : Mode} (fn : Fn) (x y : Array Value) : (store a (.func fn x y) m).run P w = stored P w a (.func fn x y) m := run_store P w a _ m rfl
theorem field0 (x y z : Value) (w : World) : (Instr.field 129 (.agg #[x, y, z]) 0).run Tryz.prog w = .ok x w := by kernel_rfl
theorem field2 (x y z : Value) (w : World) : (Instr.field 129 (.agg #[x, y, z]) 2).run Tryz.prog w = .ok z w := by kernel_rfl
theorem run_store_nilFunc {P : Program} {w : World} {a : Addr} {m : Mode} : (store a .nilFunc m).run P w = stored P w a .nilFunc m := run_store P w a _ m rfl
attribute [local go_sem] run_store_func run_store_nilFunc field0 field2
def arityF (o : Int) : Int := match opFn o with
  | none => 0
  | some (ks, _, _) => ks.length
def bad (k : Int) (a last : Bool) : Bool := (decide (k = 0) && a) || (decide (k = 1) && !a) || (decide (k = 2) && (a != last))
def resultF (o : Int) (l : List Bool) : Bool × Int := match opFn o with
  | none => (false, 1)
  | some (ks, t, _) => if l.length ≠ ks.length then (false, 11) else
    if (List.range ks.length).any (fun i => bad (ks.getD i 0) (l.getD i false) (l.getD (l.length - 1) false)) then (false, 11) else
    (decide (t = 1) || (decide (t = 2) && l.getD (l.length - 1) false), 0)
def zop : Value := .agg #[.slice none 0 0, .int .i64 0, .nilFunc]
theorem op_any (o : Int) : match opFn o with | none => True | some (ks, _, _) => 0 < ks.length ∧ ks.length ≤ 3 := by
  by_cases h4 : o = 4
  · subst h4; exact ⟨by decide, by decide⟩
  by_cases h5 : o = 5
  · subst h5; exact ⟨by decide, by decide⟩
  by_cases h6 : o = 6
  · subst h6; exact ⟨by decide, by decide⟩
  by_cases h7 : o = 7
  · subst h7; exact ⟨by decide, by decide⟩
  by_cases h8 : o = 8
  · subst h8; exact ⟨by decide, by decide⟩
  by_cases h9 : o = 9
  · subst h9; exact ⟨by decide, by decide⟩
  by_cases h10 : o = 10
  · subst h10; exact ⟨by decide, by decide⟩
  by_cases h11 : o = 11
  · subst h11; exact ⟨by decide, by decide⟩
  by_cases h12 : o = 12
  · subst h12; exact ⟨by decide, by decide⟩
  by_cases h13 : o = 13
  · subst h13; exact ⟨by decide, by decide⟩
  by_cases h14 : o = 14
  · subst h14; exact ⟨by decide, by decide⟩
  by_cases h15 : o = 15
  · subst h15; exact ⟨by decide, by decide⟩
  by_cases h16 : o = 16
  · subst h16; exact ⟨by decide, by decide⟩
  by_cases h17 : o = 17
  · subst h17; exact ⟨by decide, by decide⟩
  by_cases h18 : o = 18
  · subst h18; exact ⟨by decide, by decide⟩
  by_cases h19 : o = 19
  · subst h19; exact ⟨by decide, by decide⟩
  by_cases h20 : o = 20
  · subst h20; exact ⟨by decide, by decide⟩
  by_cases h21 : o = 21
  · subst h21; exact ⟨by decide, by decide⟩
  have e : opFn o = none := by simp only [opFn, h4, h5, h6, h7, h8, h9, h10, h11, h12, h13, h14, h15, h16, h17, h18, h19, h20, h21, if_false]
  rw [e]; trivial
theorem op_len {o : Int} {ks : List Int} {t : Int} {f : Nat} (h : opFn o = some (ks, t, f)) : 0 < ks.length ∧ ks.length ≤ 3 := by
  have := op_any o
  rw [h] at this
  exact this
theorem look {w w1 : World} {b : Nat} (h : OpsAt w w1 b) (o : Int) :
    (opFn o = none ∧ (Instr.lookup 130 (.map (some b)) (.int .i64 o) true).run Tryz.prog w1 = .ok (.tuple #[zop, .bool false]) w1 ∧ (Instr.lookup 130 (.map (some b)) (.int .i64 o) false).run Tryz.prog w1 = .ok zop w1) ∨
    ∃ ks t f blk, opFn o = some (ks, t, f) ∧ (Instr.lookup 130 (.map (some b)) (.int .i64 o) true).run Tryz.prog w1 = .ok (.tuple #[.agg #[.slice (some ⟨blk, 0, none⟩) ks.length ks.length, .int .i64 t, .func (.func f) #[] #[]], .bool true]) w1 ∧
      (Instr.lookup 130 (.map (some b)) (.int .i64 o) false).run Tryz.prog w1 = .ok (.agg #[.slice (some ⟨blk, 0, none⟩) ks.length ks.length, .int .i64 t, .func (.func f) #[] #[]]) w1 ∧
      w.heap.size ≤ blk ∧ blk < w1.heap.size ∧ (∀ i, i < ks.length → w1.cell? ⟨blk, i, none⟩ = some (.int .i64 (ks.getD i 0))) ∧ 0 < ks.length ∧ ks.length ≤ 3 := by
  obtain ⟨l, hm, hops⟩ := h
  have hu := Tryz.underlying130
  have h3 := Tryz.underlying3
  have ho := hops o
  rcases hq : opFn o with _ | ⟨ks, t, f⟩
  · rw [hq] at ho
    exact .inl ⟨rfl, lookup_none hu h3 (zero_op w1) hm ho true, lookup_none hu h3 (zero_op w1) hm ho false⟩
  · rw [hq] at ho
    obtain ⟨blk, hf, h1, h2, h4⟩ := ho
    exact .inr ⟨ks, t, f, blk, rfl, lookup_some hu h3 hm hf true, lookup_some hu h3 hm hf false, h1, h2, h4, op_len hq⟩
set_option maxHeartbeats 4000000 in
set_option maxRecDepth 100000 in
theorem arity_calls (o : Int) (w : World) : Calls Tryz.prog 63 #[.int .i64 o] w fun e w' => e = .returned (.int .i64 (arityF o)) ∧ Below w.heap.size w w' := by
  have hu1 := Tryz.underlying129
  go_enter Tryz.func63, Tryz.ntmps63
  go_wp2_with (go_at_call 73; refine (calls _).mono ?_; rintro e w1 ⟨b, rfl, hops, hb⟩)
  rcases look hops o with ⟨hq, _, h0⟩ | ⟨ks, t, f, blk, hq, _, h0, _, _, _, _, _⟩
  · rw [h0]
    unfold zop
    go_wp2
    go_ret
    exact ⟨by simp only [arityF, hq]; rfl, hb⟩
  · rw [h0]
    go_wp2
    go_ret
    exact ⟨by simp only [arityF, hq]; rfl, hb⟩
theorem res_bad {o : Int} {l : List Bool} {ks : List Int} {t : Int} {f m k : Nat} {last : Bool} (hq : opFn o = some (ks, t, f)) (hn : l.length = m + 1) (hl : m + 1 = ks.length) (hv : rdOf false l (m : Int) = last) (hb : bad (ks.getD k 0) (l.getD k false) last = true) (hk : k < m + 1) : resultF o l = (false, 11) := by
  have hlast : l.getD (l.length - 1) false = last := by rw [hn, ← hv]; rfl
  have : (List.range ks.length).any (fun i => bad (ks.getD i 0) (l.getD i false) (l.getD (l.length - 1) false)) = true := by
    rw [List.any_eq_true]
    exact ⟨k, List.mem_range.2 (by omega), by rw [hlast]; exact hb⟩
  simp only [resultF, hq]
  rw [if_neg (by omega), if_pos this]
theorem res_good {o : Int} {l : List Bool} {ks : List Int} {t : Int} {f m : Nat} {last : Bool} (hq : opFn o = some (ks, t, f)) (hn : l.length = m + 1) (hl : m + 1 = ks.length) (hv : rdOf false l (m : Int) = last) (hb : ∀ j, j < m + 1 → bad (ks.getD j 0) (l.getD j false) last = false) : resultF o l = (decide (t = 1) || (decide (t = 2) && last), 0) := by
  have hlast : l.getD (l.length - 1) false = last := by rw [hn, ← hv]; rfl
  have : ¬ (List.range ks.length).any (fun i => bad (ks.getD i 0) (l.getD i false) (l.getD (l.length - 1) false)) = true := by
    rw [List.any_eq_true]
    rintro ⟨k, h1, h2⟩
    rw [hlast, hb k (by have := List.mem_range.1 h1; omega)] at h2
    cases h2
  simp only [resultF, hq]
  rw [if_neg (by omega), if_neg this, hlast]
theorem res_short {o : Int} {l : List Bool} {ks : List Int} {t : Int} {f n : Nat} (hq : opFn o = some (ks, t, f)) (hn : l.length = n) (hl : ¬ n = ks.length) : resultF o l = (false, 11) := by
  simp only [resultF, hq]
  rw [if_pos (by omega)]
set_option maxHeartbeats 4000000 in
set_option maxRecDepth 100000 in
theorem result_calls (o : Int) (A : Option Addr) (c : Nat) (l : List Bool) (w : World) (hr : Kd.bool.C w A l.length l) : Calls Tryz.prog 74 #[.int .i64 o, .slice A l.length c] w fun e w' => e = .returned (.tuple #[.bool (resultF o l).1, .int .i64 (resultF o l).2]) ∧ Below w.heap.size w w' := by
  have hu1 := Tryz.underlying129
  have hu2 := Tryz.underlying125
  have hu3 := Tryz.underlying126
  obtain ⟨n, hn⟩ : ∃ n, l.length = n := ⟨_, rfl⟩
  rw [hn] at hr ⊢
  have Hn := Lib.hid hn
  clear hn
  go_enter Tryz.func74, Tryz.ntmps74
  go_wp2_with (go_at_call 73; refine (calls _).mono ?_; rintro e w1 ⟨b, rfl, hops, hb⟩)
  rcases look hops o with ⟨hq, h0, _⟩ | ⟨ks, t, f, blk, hq, h0, _, hbl, hbs, hcells, hk0, hk3⟩
  · rw [h0]
    unfold zop
    go_wp2
    go_ret2
    exact ⟨by simp only [resultF, hq]; rfl, below_alloc hb _⟩
  by_cases hlen : n = ks.length
  · obtain ⟨m, rfl⟩ : ∃ m, n = m + 1 := ⟨n - 1, by omega⟩
    rw [← hlen] at h0 hcells hk3
    have Hlen := Lib.hid hlen
    clear hlen hk0
    have Hq := Lib.hid hq
    clear hq
    have hbW : Below w.heap.size w (w1.alloc (.cells #[.slice (some ⟨blk, 0, none⟩) (m + 1) (m + 1), .int .i64 t, .func (.func f) #[] #[]] 129)) := below_alloc hb _
    have hrW := Kd.C_below hr hbW
    obtain ⟨ad, rfl, hlast⟩ := Kd.at_bool hrW (m : Int) (by omega) (by omega)
    have hwm : wrap64 (m : Int) = (m : Int) := (by unfold wrap64; omega)
    rw [Int.toNat_natCast] at hlast
    generalize hlv : rdOf false l (m : Int) = last at hlast
    have Hlv := Lib.hid hlv
    clear hlv
    have Hcells := Lib.hid hcells
    clear hcells
    have HrW := Lib.hid hrW
    clear hrW
    rw [h0]
    clear h0
    go_wp2
    go_loop [36] (fun i => ∃ k : Nat, k ≤ m + 1 ∧ i = .int .i64 k ∧ ∀ j, j < k → bad (ks.getD j 0) (l.getD j false) last = false) (fun i => m + 1 - (intOf i).toNat)
    case atStart => exact ⟨0, Nat.zero_le _, rfl, fun j hj => absurd hj (Nat.not_lt_zero _)⟩
    case round =>
      obtain ⟨k, hk, rfl, hno⟩ := hrel
      have Hno := Lib.hid hno
      clear hno
      obtain ⟨kk, hkk⟩ : ∃ x, x = ks.getD k 0 := ⟨_, rfl⟩
      obtain ⟨aa, haa⟩ : ∃ x, x = l.getD k false := ⟨_, rfl⟩
      have hc1 : k < m + 1 → (w1.alloc (.cells #[.slice (some ⟨blk, 0, none⟩) (m + 1) (m + 1), .int .i64 t, .func (.func f) #[] #[]] 129)).cell? ⟨blk, k, none⟩ = some (.int .i64 kk) := fun h => by
        rw [hkk]; exact (cell_alloc_old hbs).trans (Hcells.out k h)
      have hc2 : k < m + 1 → (w1.alloc (.cells #[.slice (some ⟨blk, 0, none⟩) (m + 1) (m + 1), .int .i64 t, .func (.func f) #[] #[]] 129)).cell? (ad.add k) = some (.bool aa) := fun h => by
        obtain ⟨ad', e, hx⟩ := Kd.at_bool HrW.out (k : Int) (by omega) (by omega)
        injection e with e
        subst e
        rw [haa]
        exact hx
      have Hkk := Lib.hid hkk
      have Haa := Lib.hid haa
      clear hkk haa
      by_cases hlt : k < m + 1
      · have hc1' := hc1 hlt
        have hc2' := hc2 hlt
        clear hc1 hc2
        have hi1 : (k : Int) < (m : Int) + 1 := by omega
        have hwk : wrap64 ((k : Int) + 1) = (k : Int) + 1 := by unfold wrap64; omega
        go_wp2
        all_goals first
          | (have hb1 : bad kk aa last = true := by
               unfold bad
               first | (simp [*]; done) | (have h := ‹(!aa == last) = true›; simp only [*]; revert h; cases aa <;> cases last <;> decide)
             go_ret2
             have e := res_bad (k := k) Hq.out Hn.out Hlen.out Hlv.out (by rw [← Hkk.out, ← Haa.out]; exact hb1) hlt
             rw [e]
             exact ⟨rfl, hbW⟩)
          | (have hb1 : bad kk aa last = false := by
               unfold bad
               first | (simp [*]; done) | (have h := ‹(!aa == last) = false›; simp only [*]; revert h; cases aa <;> cases last <;> decide)
             refine ⟨⟨k + 1, by omega, by go_num, fun j hj => ?_⟩, by simp [intOf]; omega⟩
             rcases Nat.lt_or_ge j k with h | h
             · exact Hno.out j h
             · obtain rfl : j = k := by omega
               rw [← Hkk.out, ← Haa.out]
               exact hb1)
      · have hi1 : ¬ ((k : Int) < (m : Int) + 1) := by omega
        clear hc1 hc2
        go_wp2
        all_goals
          obtain rfl : k = m + 1 := by omega
          go_ret2
          rw [res_good Hq.out Hn.out Hlen.out Hlv.out Hno.out]
          refine ⟨?_, below_alloc hb _⟩
          simp [*]
  · have hne : ((n : Int) != (ks.length : Int)) = true := by simp; omega
    have Hlen := Lib.hid hlen
    clear hlen
    have Hq := Lib.hid hq
    clear hq
    rw [h0]
    go_wp2
    go_ret2
    rw [res_short Hq.out Hn.out Hlen.out]
    exact ⟨rfl, below_alloc hb _⟩
end Go.Proofs.YtialoecplmnjfaaGreatDoor.XOps
namespace Go.Proofs.YtialoecplmnjfaaGreatDoor.XCheck
open Go.RowKit Go.Proofs Go.Proofs.YtialoecplmnjfaaGreatDoorW.PrintWords Go.Proofs.YtialoecplmnjfaaGreatDoorW.PrintLast Go.Proofs.YtialoecplmnjfaaGreatDoorW.PrintMore
attribute [local go_sem] max2_int
theorem info_bool : (Tryz.prog.info? 4).map (fun i => (i.zero, i.size, i.bytes)) = some (some (.bool false), 1, 1) := by kernel_rfl
structure Stk (w0 : World) (B : Nat) (F v : Value) (s : List Bool) (most : Int) (W : World) : Prop where
  blk : W.heap[B]? = some (.cells #[v, F, .int .i64 most] 103 (0, 0))
  own : W.ownsRow w0.heap.size 4 1 v s.length (encs Value.bool s)
  ne : v.ownBlock ≠ some B
  below : Below w0.heap.size w0 W
  base : w0.heap.size ≤ B
def Frame (B : Nat) (v : Value) (W W' : World) : Prop := W.heap.size ≤ W'.heap.size ∧ ∀ g, g < W.heap.size → g ≠ B → some g ≠ v.ownBlock → W'.heap[g]? = W.heap[g]?
theorem Frame.refl (B : Nat) (v : Value) (W : World) : Frame B v W W := ⟨Nat.le_refl _, fun _ _ _ _ => rfl⟩
theorem Stk.shape {w0 W : World} {B : Nat} {F v : Value} {s : List Bool} {most : Int} (h : Stk w0 B F v s most W) : ∃ A c, v = .slice A s.length c := by
  rcases h.own.2 with ⟨rfl, hn⟩ | ⟨g, cap, cur, rfl, _⟩
  · exact ⟨none, 0, by rw [hn]⟩
  · exact ⟨_, cap, rfl⟩
theorem Stk.lt {w0 W : World} {B : Nat} {F v : Value} {s : List Bool} {most : Int} (h : Stk w0 B F v s most W) : B < W.heap.size := blk_lt h.blk
theorem own_shape {W : World} {base e size n : Nat} {v : Value} {xs : List Value} (h : W.ownsRow base e size v n xs) : ∃ A c, v = .slice A n c := by
  rcases h.2 with ⟨rfl, hn⟩ | ⟨g, cap, cur, rfl, _⟩
  · exact ⟨none, 0, by rw [hn]⟩
  · exact ⟨_, cap, rfl⟩
theorem own_keep {W W' : World} {base e size n : Nat} {v : Value} {xs : List Value} (h : W.ownsRow base e size v n xs) (hk : ∀ g, v.ownBlock = some g → W'.heap[g]? = W.heap[g]?) : W'.ownsRow base e size v n xs := by
  refine ⟨h.1, ?_⟩
  rcases h.2 with h2 | ⟨g, cap, cur, rfl, h1, h2, h3⟩
  · exact .inl h2
  · exact .inr ⟨g, cap, cur, rfl, h1, (hk g rfl).trans h2, h3⟩
theorem Stk.own_lt {w0 W : World} {B : Nat} {F v : Value} {s : List Bool} {most : Int} (h : Stk w0 B F v s most W) {g : Nat} (hg : v.ownBlock = some g) : g < W.heap.size := (h.own.lt g hg).2
theorem Stk.then_ {w0 W W' : World} {B : Nat} {F v : Value} {s : List Bool} {most : Int} (h : Stk w0 B F v s most W) (hb : Below W.heap.size W W') : Stk w0 B F v s most W' :=
  ⟨(hb.block B h.lt).trans h.blk, own_keep h.own fun g hg => hb.block g (h.own_lt hg), h.ne, below_then h.below h.below.size hb, h.base⟩
theorem Stk.put {w0 W : World} {B : Nat} {F v : Value} {s : List Bool} {most : Int} (h : Stk w0 B F v s most W) (i : Nat) (u : Value) : Below w0.heap.size w0 (W.setCell ⟨B, i, none⟩ u) := below_set h.below h.base
def pushP (x : List Bool × Int) (t : Bool) : (List Bool × Int) × Int := if x.1.length = 30 then (x, 13) else ((x.1 ++ [t], mx x.2 ((x.1.length : Int) + 1)), 0)
theorem drew_heap (w : World) : w.drew.heap = w.heap := rfl
theorem Stk.pushed {w0 W w1 : World} {B : Nat} {F v v1 : Value} {s : List Bool} {most m : Int} {t : Bool} (h : Stk w0 B F v s most W) (hl : ¬ s.length = 30) (hm : m = mx most ((s.length : Int) + 1))
    (ho : w1.ownsRow w0.heap.size 4 1 v1 (s ++ [t]).length (encs Value.bool (s ++ [t]))) (hb : Below w0.heap.size w0 w1) (hg : W.grownBy w1 v.ownBlock) (hat : v1.ownBlock = v.ownBlock ∨ ∃ b, v1.ownBlock = some b ∧ W.heap.size ≤ b) :
    Stk w0 B F v1 (pushP (s, most) t).1.1 (pushP (s, most) t).1.2 ((w1.setCell ⟨B, 0, none⟩ v1).setCell ⟨B, 2, none⟩ (.int .i64 m)).drew ∧ Frame B v W ((w1.setCell ⟨B, 0, none⟩ v1).setCell ⟨B, 2, none⟩ (.int .i64 m)).drew := by
  have e : pushP (s, most) t = ((s ++ [t], m), 0) := by unfold pushP; rw [if_neg hl, hm]
  have hB1 := blk_grown h.blk hg (Ne.symm h.ne)
  have hne : v1.ownBlock ≠ some B := by
    rcases hat with hat | ⟨b, hat, hb⟩
    · rw [hat]; exact h.ne
    · rw [hat]
      intro e
      injection e with e
      have := h.lt
      omega
  rw [e]
  refine ⟨⟨?_, own_keep ho fun g hg => ?_, hne, below_drew1 (below_set (below_set hb h.base) h.base), h.base⟩, ?_, fun g hg1 hg2 hg3 => ?_⟩
  · rw [drew_heap]
    have := blk_set (blk_set hB1 0 v1) 2 (.int .i64 m)
    exact this
  · have hgB : g ≠ B := fun e => hne (by rw [hg, e])
    rw [drew_heap]
    exact (Below.heap_setCell _ ⟨B, 2, none⟩ _ g hgB).trans (Below.heap_setCell _ ⟨B, 0, none⟩ _ g hgB)
  · rw [drew_heap]
    have := hg.size
    simpa using this
  · rw [drew_heap]
    exact ((Below.heap_setCell _ ⟨B, 2, none⟩ _ g hg2).trans (Below.heap_setCell _ ⟨B, 0, none⟩ _ g hg2)).trans (hg.block g hg1 hg3)
set_option maxHeartbeats 4000000 in
set_option maxRecDepth 100000 in
theorem push_calls {w0 W : World} {B : Nat} {F v : Value} {s : List Bool} {most : Int} (h : Stk w0 B F v s most W) (hl : s.length ≤ 30) (t : Bool) :
    Calls Tryz.prog 72 #[.pointer (some ⟨B, 0, none⟩), .bool t] W fun e W' => ∃ v', e = .returned (.int .i64 (pushP (s, most) t).2) ∧ Stk w0 B F v' (pushP (s, most) t).1.1 (pushP (s, most) t).1.2 W' ∧ Frame B v W W' := by
  have hu1 := Tryz.underlying103
  have hu2 := Tryz.underlying80
  obtain ⟨A, c, hv⟩ := h.shape
  obtain ⟨n, hn⟩ : ∃ n, s.length = n := ⟨_, rfl⟩
  rw [hn] at hv hl
  have Hn := Lib.hid hn
  have hblk := h.blk
  have hown := h.own
  subst hv
  have H := Lib.hid h
  clear h hn
  have c0 := (blk_cell hblk 0).trans rfl
  have c1 := (blk_cell hblk 1).trans rfl
  have c2 := (blk_cell hblk 2).trans rfl
  have f0 := blk_frozen hblk 0
  have f2 := blk_frozen hblk 2
  by_cases hf : n = 30
  · subst hf
    go_enter Tryz.func72, Tryz.ntmps72
    go_wp2
    go_ret
    have e : pushP (s, most) t = ((s, most), 13) := by unfold pushP; rw [if_pos Hn.out]
    rw [e]
    exact ⟨_, rfl, H.out, Frame.refl _ _ _⟩
  · have hf2 : ((n : Int) == 30) = false := by simp; omega
    have hneB : some B ≠ (Value.slice A n c).ownBlock := Ne.symm H.out.ne
    go_enter Tryz.func72, Tryz.ntmps72
    go_wp2_with (first | ((with_reducible refine gate_builtin (b := .append) (xs := #[.tmp 15, .tmp 17]) rfl ?_); at_builtin; refine print_append_of (w0 := w0) Value.bool w0.heap.size rfl (.tmp 15) (.tmp 17) 80 4 (.bool false) 1 rfl hu2 info_bool rfl (by decide) _ s t rfl rfl rfl hown H.out.below H.out.below.size (by rw [Hn.out]; omega) ?_; intro v1 w1 ho1 hb1 hg1 hat1; obtain ⟨A1, k1, hv1⟩ := own_shape ho1; rw [show (s ++ [t]).length = n + 1 by rw [List.length_append, Hn.out]; rfl] at hv1; subst hv1; have hB1 := blk_grown hblk hg1 hneB; have Ho1 := Lib.hid ho1; have Hg1 := Lib.hid hg1; have Hb1 := Lib.hid hb1; have Hat := Lib.hid hat1; clear ho1 hg1 hb1 hat1; have q0 := (blk_cell hB1 0).trans rfl; have q2 := (blk_cell hB1 2).trans rfl; have g0 := blk_frozen hB1 0; have g2 := blk_frozen hB1 2))
    go_region
    go_wp2
    all_goals
      go_ret
      have hp := fun m hm => H.out.pushed (m := m) (t := t) (by rw [Hn.out]; exact hf) hm Ho1.out Hb1.out Hg1.out Hat.out
      exact ⟨by rw [show pushP (s, most) t = ((s ++ [t], mx most ((s.length : Int) + 1)), 0) by unfold pushP; rw [if_neg (by rw [Hn.out]; exact hf)]]; rfl, ⟨_, (hp _ (by rw [Hn.out]; unfold mx; split <;> omega)).1⟩, (hp _ (by rw [Hn.out]; unfold mx; split <;> omega)).2⟩
theorem frame_cell {B g i : Nat} {v x : Value} {W W' : World} (hF : Frame B v W W') (hg : g < W.heap.size) (h1 : g ≠ B) (h2 : some g ≠ v.ownBlock) (h : W.cell? ⟨g, i, none⟩ = some x) : W'.cell? ⟨g, i, none⟩ = some x := by
  rw [← h]
  unfold World.cell?
  rw [show (Addr.mk g i none).block = g from rfl, hF.2 g hg h1 h2]
theorem Frame.of_below {B : Nat} {v : Value} {W W1 W' : World} (hb : Below W.heap.size W W1) (hF : Frame B v W1 W') : Frame B v W W' :=
  ⟨Nat.le_trans hb.size hF.1, fun g hg h1 h2 => (hF.2 g (Nat.lt_of_lt_of_le hg hb.size) h1 h2).trans (hb.block g hg)⟩
theorem Frame.drewed {B : Nat} {v : Value} {W W' : World} (hF : Frame B v W.drew W') : Frame B v W W' := hF
theorem below_drew0 (W : World) : Below W.heap.size W W.drew := below_drew1 (Below.refl _ _)
def insV (o n : Int) (x : ByteArray) : Value := .agg #[.int .i64 o, .int .i64 n, .string x]
def insC (o n : Int) (x : ByteArray) : Obj := .cells #[.int .i64 o, .int .i64 n, .string x] 50
def plainP (x : List Bool × Int) (o : Int) : (List Bool × Int) × Int := pushP x (decide (o = 1) || decide (o = 2))
def givenP (fold : List Bool) (x : List Bool × Int) (o : Int) : (List Bool × Int) × Int := if fold.length = 0 then (x, 1) else pushP x (fold.getD (o - 22).toNat false)
set_option maxHeartbeats 4000000 in
set_option maxRecDepth 100000 in
theorem plain_calls {w0 W : World} {B : Nat} {F v : Value} {s : List Bool} {most : Int} (h : Stk w0 B F v s most W) (hl : s.length ≤ 30) (o n : Int) (x : ByteArray) :
    Calls Tryz.prog 65 #[.pointer (some ⟨B, 0, none⟩), insV o n x] W fun e W' => ∃ v', e = .returned (.int .i64 (plainP (s, most) o).2) ∧ Stk w0 B F v' (plainP (s, most) o).1.1 (plainP (s, most) o).1.2 W' ∧ Frame B v W W' := by
  unfold insV plainP
  have h1 := h.then_ (below_alloc (Below.refl W.heap.size W) (insC o n x))
  have hfr : ∀ W', Frame B v (W.alloc (insC o n x)) W' → Frame B v W W' := fun W' => Frame.of_below (below_alloc (Below.refl _ _) _)
  unfold insC at h1 hfr
  clear h
  by_cases c1 : o = 1
  · subst c1
    have hp := push_calls h1 hl (decide ((1 : Int) = 1) || decide ((1 : Int) = 2))
    go_enter Tryz.func65, Tryz.ntmps65
    go_wp2_with (go_at_call 72; refine hp.mono ?_; rintro e W2 ⟨v2, rfl, hS2, hF2⟩)
    go_ret
    exact ⟨_, rfl, hS2, hfr _ hF2⟩
  · have b1 : (o == 1) = false := by simp [c1]
    by_cases c2 : o = 2
    · subst c2
      have hp := push_calls h1 hl (decide ((2 : Int) = 1) || decide ((2 : Int) = 2))
      go_enter Tryz.func65, Tryz.ntmps65
      go_wp2_with (go_at_call 72; refine hp.mono ?_; rintro e W2 ⟨v2, rfl, hS2, hF2⟩)
      go_ret
      exact ⟨_, rfl, hS2, hfr _ hF2⟩
    · have b2 : (o == 2) = false := by simp [c2]
      have e : (decide (o = 1) || decide (o = 2)) = false := by simp [c1, c2]
      rw [e]
      clear c1 c2 e
      have hp := push_calls h1 hl false
      go_enter Tryz.func65, Tryz.ntmps65
      go_wp2_with (go_at_call 72; refine hp.mono ?_; rintro e W2 ⟨v2, rfl, hS2, hF2⟩)
      go_ret
      exact ⟨_, rfl, hS2, hfr _ hF2⟩
theorem Stk.getF {w0 W : World} {B : Nat} {F v : Value} {s : List Bool} {most : Int} (h : Stk w0 B F v s most W) : W.cell? ⟨B, 1, none⟩ = some F := (blk_cell h.blk 1).trans rfl
theorem Stk.getS {w0 W : World} {B : Nat} {F v : Value} {s : List Bool} {most : Int} (h : Stk w0 B F v s most W) : W.cell? ⟨B, 0, none⟩ = some v := (blk_cell h.blk 0).trans rfl
theorem new_cell (W : World) (o n : Int) (x : ByteArray) : (W.alloc (insC o n x)).cell? ⟨W.heap.size, 0, none⟩ = some (.int .i64 o) := (blk_cell (heap_alloc_new W _) 0).trans rfl
set_option maxHeartbeats 4000000 in
set_option maxRecDepth 100000 in
theorem given_calls {w0 W : World} {B : Nat} {v : Value} {s : List Bool} {most : Int} {Af : Option Addr} {cf : Nat} {fold : List Bool} (h : Stk w0 B (.slice Af fold.length cf) v s most W) (hl : s.length ≤ 30) (hr : Kd.bool.C w0 Af fold.length fold) (hf : fold.length = 0 ∨ fold.length = 2) (o n : Int) (x : ByteArray) (ho : o = 22 ∨ o = 23) :
    Calls Tryz.prog 62 #[.pointer (some ⟨B, 0, none⟩), insV o n x] W fun e W' => ∃ v', e = .returned (.int .i64 (givenP fold (s, most) o).2) ∧ Stk w0 B (.slice Af fold.length cf) v' (givenP fold (s, most) o).1.1 (givenP fold (s, most) o).1.2 W' ∧ Frame B v W W' := by
  unfold insV givenP
  have hW := h.lt
  have hown := fun g (hg : v.ownBlock = some g) => h.own_lt hg
  have h1 := h.then_ (below_alloc (Below.refl W.heap.size W) (insC o n x))
  have hfr : ∀ W', Frame B v (W.alloc (insC o n x)) W' → Frame B v W W' := fun W' => Frame.of_below (below_alloc (Below.refl _ _) _)
  have hnew := new_cell W o n x
  have hnb : W.heap.size ≠ B := by omega
  have hno : some W.heap.size ≠ v.ownBlock := fun e => absurd (hown _ e.symm) (Nat.lt_irrefl _)
  unfold insC at h1 hfr hnew
  have cF := h1.getF
  rcases hf with hf | hf
  · rw [hf] at cF
    rw [if_pos hf]
    have H1 := Lib.hid h1
    clear h h1 hr
    go_enter Tryz.func62, Tryz.ntmps62
    go_wp2
    go_ret
    exact ⟨_, rfl, H1.out, hfr _ (Frame.refl _ _ _)⟩
  · have key : ∀ (i : Nat) (o : Int), i < 2 → o = (i : Int) + 22 → Calls Tryz.prog 62 #[.pointer (some ⟨B, 0, none⟩), .agg #[.int .i64 o, .int .i64 n, .string x]] W fun e W' => ∃ v', e = .returned (.int .i64 (pushP (s, most) (fold.getD (o - 22).toNat false)).2) ∧ Stk w0 B (.slice Af fold.length cf) v' (pushP (s, most) (fold.getD (o - 22).toNat false)).1.1 (pushP (s, most) (fold.getD (o - 22).toNat false)).1.2 W' ∧ Frame B v W W' := by
      intro i o hi ho
      have h1 := h.then_ (below_alloc (Below.refl W.heap.size W) (insC o n x))
      have hfr : ∀ W', Frame B v (W.alloc (insC o n x)) W' → Frame B v W W' := fun W' => Frame.of_below (below_alloc (Below.refl _ _) _)
      have hnew := new_cell W o n x
      unfold insC at h1 hfr hnew
      have cF := h1.getF
      have hrW := Kd.C_below hr h1.below
      have hk : fold.getD (o - 22).toNat false = fold.getD i false := by
        congr 1
        omega
      rw [hk]
      obtain ⟨ad, hA, he⟩ := Kd.at_bool hrW (i : Int) (by omega) (by omega)
      subst hA
      rw [Int.toNat_natCast] at he
      obtain ⟨u, hu⟩ : ∃ u, u = fold.getD i false := ⟨_, rfl⟩
      rw [show rdOf false fold (i : Int) = u from hu.symm] at he
      rw [← hu]
      have Hu := Lib.hid hu
      clear hu hk
      rw [hf] at cF h1 hr ⊢
      have hp := fun W2 (hS : Stk w0 B (.slice (some ad) 2 cf) v s most W2) => push_calls hS hl u
      have Hr := Lib.hid hr
      have Hf := Lib.hid hf
      have H1 := Lib.hid h1
      have h := True.intro
      clear h h1 hr hrW hf
      have hi' : i = 0 ∨ i = 1 := by omega
      clear hi
      rcases hi' with rfl | rfl
      · obtain rfl : o = 22 := by omega
        clear ho
        have hz : W.heap.size < (W.alloc (.cells #[.int .i64 22, .int .i64 n, .string x] 50)).heap.size := by simp
        have k1 : wrap64 (22 - 22) = 0 := by unfold wrap64; omega
        have k2 : wrap64 0 = 0 := by unfold wrap64; omega
        have k3 : IntKind.i64.wrap (22 - 22) = 0 := by decide
        have k4 : IntKind.i64.wrap 0 = 0 := by decide
        have k5 : (0 : Int) < ((2 : Nat) : Int) := by decide
        have k6 : (0 : Int) < 2 := by decide
        have k7 : (0 : Int) ≤ 0 := by decide
        have he : (W.alloc (.cells #[.int .i64 22, .int .i64 n, .string x] 50)).cell? ad = some (.bool u) := he
        go_enter Tryz.func62, Tryz.ntmps62
        go_wp2
        go_region_held3 (fun w' => w'.cell? ⟨B, 1, none⟩ = some (.slice (some ad) 2 cf) ∧ w'.cell? ⟨W.heap.size, 0, none⟩ = some (.int .i64 22) ∧ w'.cell? ad = some (.bool u))
          (first
            | exact ⟨cF, hnew, he⟩
            | exact ⟨hS2.getF, frame_cell hF2 hz hnb hno hnew, he2⟩
            | go_keep)
          ((first
            | (go_at_call 72; refine (hp _ (H1.out.then_ (below_drew0 _))).mono ?_; rintro e W2 ⟨v2, rfl, hS2, hF2⟩; obtain ⟨ad2, e2, he2⟩ := Kd.at_bool (Kd.C_below Hr.out hS2.below) ((0 : Nat) : Int) (by decide) (by decide); injection e2 with e2; subst e2; rw [Int.toNat_natCast, show rdOf false fold ((0 : Nat) : Int) = u from Hu.out.symm] at he2; replace he2 : W2.cell? ad = some (.bool u) := he2)))
        go_wp2
        go_ret
        exact ⟨_, rfl, hS2, hfr _ hF2⟩
      · obtain rfl : o = 23 := by omega
        clear ho
        have hz : W.heap.size < (W.alloc (.cells #[.int .i64 23, .int .i64 n, .string x] 50)).heap.size := by simp
        have k1 : wrap64 (23 - 22) = 1 := by unfold wrap64; omega
        have k2 : wrap64 1 = 1 := by unfold wrap64; omega
        have k3 : IntKind.i64.wrap (23 - 22) = 1 := by decide
        have k4 : IntKind.i64.wrap 1 = 1 := by decide
        have k5 : (1 : Int) < ((2 : Nat) : Int) := by decide
        have k6 : (1 : Int) < 2 := by decide
        have k7 : (0 : Int) ≤ 1 := by decide
        have he : (W.alloc (.cells #[.int .i64 23, .int .i64 n, .string x] 50)).cell? ⟨ad.block, ad.off + 1, none⟩ = some (.bool u) := he
        go_enter Tryz.func62, Tryz.ntmps62
        go_wp2
        go_region_held3 (fun w' => w'.cell? ⟨B, 1, none⟩ = some (.slice (some ad) 2 cf) ∧ w'.cell? ⟨W.heap.size, 0, none⟩ = some (.int .i64 23) ∧ w'.cell? ⟨ad.block, ad.off + 1, none⟩ = some (.bool u))
          (first
            | exact ⟨cF, hnew, he⟩
            | exact ⟨hS2.getF, frame_cell hF2 hz hnb hno hnew, he2⟩
            | go_keep)
          ((first
            | (go_at_call 72; refine (hp _ (H1.out.then_ (below_drew0 _))).mono ?_; rintro e W2 ⟨v2, rfl, hS2, hF2⟩; obtain ⟨ad2, e2, he2⟩ := Kd.at_bool (Kd.C_below Hr.out hS2.below) ((1 : Nat) : Int) (by decide) (by decide); injection e2 with e2; subst e2; rw [Int.toNat_natCast, show rdOf false fold ((1 : Nat) : Int) = u from Hu.out.symm] at he2; replace he2 : W2.cell? ⟨ad.block, ad.off + 1, none⟩ = some (.bool u) := he2)))
        go_wp2
        go_ret
        exact ⟨_, rfl, hS2, hfr _ hF2⟩
    rcases ho with rfl | rfl
    · rw [if_neg (by omega)]
      exact key 0 22 (by decide) (by decide)
    · rw [if_neg (by omega)]
      exact key 1 23 (by decide) (by decide)
theorem cell_keep0 {W w2 : World} {a : Addr} {v : Value} (hb : Below W.heap.size W w2) (h : W.cell? a = some v) : w2.cell? a = some v := by
  have hlt : a.block < W.heap.size := by
    unfold World.cell? at h
    split at h
    · rename_i hx
      exact (Array.getElem?_eq_some_iff.1 hx).1
    · cases h
  exact (hb.cell hlt).trans h
def doneP (x : List Bool × Int) (o : Int) : (List Bool × Int) × Int :=
  if (x.1.length : Int) < XOps.arityF o then (x, 13) else
  if (XOps.resultF o (x.1.drop (x.1.length - (XOps.arityF o).toNat))).2 ≠ 0 then (x, (XOps.resultF o (x.1.drop (x.1.length - (XOps.arityF o).toNat))).2) else
  pushP (x.1.take (x.1.length - (XOps.arityF o).toNat), x.2) (XOps.resultF o (x.1.drop (x.1.length - (XOps.arityF o).toNat))).1
theorem own_drop {W : World} {base g n c : Nat} {s : List Bool} (h : W.ownsRow base 4 1 (.slice (some ⟨g, 0, none⟩) n c) s.length (encs Value.bool s)) (at_ : Nat) (ha : at_ ≤ s.length) (hm : s.length ≤ 9223372036854775807) : Kd.bool.C W (some ⟨g, at_, none⟩) (s.drop at_).length (s.drop at_) := by
  refine Kd.C_of_reads (enc := Value.bool) (d := false) ⟨rfl, by rw [List.length_drop]; omega, fun hn => ⟨_, rfl, fun j hj => ?_⟩⟩
  have hc := h.cells (g := g) rfl (at_ + j) (.bool ((s.drop at_).getD j false)) ?_
  · rw [Addr.add_mid] at hc ⊢
    rw [Nat.zero_add] at hc
    exact hc
  · have : at_ + j < s.length := by rw [List.length_drop] at hj; omega
    unfold encs
    rw [List.getElem?_map, List.getElem?_eq_getElem this, List.getD_eq_getElem?_getD, List.getElem?_drop, List.getElem?_eq_getElem this]
    rfl
theorem own_take {W : World} {base g n c : Nat} {s : List Bool} (h : W.ownsRow base 4 1 (.slice (some ⟨g, 0, none⟩) n c) s.length (encs Value.bool s)) (at_ : Nat) (ha : at_ ≤ s.length) : W.ownsRow base 4 1 (.slice (some ⟨g, 0, none⟩) at_ c) (s.take at_).length (encs Value.bool (s.take at_)) := by
  have hl : (s.take at_).length = at_ := by rw [List.length_take]; omega
  refine ⟨by rw [encs_length]; omega, .inr ?_⟩
  rcases h.2 with ⟨h1, _⟩ | ⟨g', cap, cur, h1, h2, h3, h4, h5, h6, h7⟩
  · cases h1
  · injection h1 with e1 e2 e3
    injection e1 with e1
    injection e1 with e1
    subst e1 e3
    refine ⟨g, c, cur, by rw [hl], h2, h3, by omega, h5, h6, ?_⟩
    rw [hl, Nat.mul_one]
    rw [Nat.mul_one] at h7
    have : encs Value.bool (s.take at_) = (encs Value.bool s).take at_ := by unfold encs; rw [List.map_take]
    rw [this, ← h7, List.take_take]
    congr 1
    omega
theorem Frame.trans {B : Nat} {v : Value} {W W1 W2 : World} (h : Frame B v W W1) (k : Frame B v W1 W2) : Frame B v W W2 :=
  ⟨Nat.le_trans h.1 k.1, fun g hg h1 h2 => (k.2 g (Nat.lt_of_lt_of_le hg h.1) h1 h2).trans (h.2 g hg h1 h2)⟩
theorem Frame.below {B : Nat} {v : Value} {W W1 : World} (hb : Below W.heap.size W W1) : Frame B v W W1 := ⟨hb.size, fun g hg _ _ => hb.block g hg⟩
theorem Frame.set {B i : Nat} {v u : Value} {W : World} : Frame B v W (W.setCell ⟨B, i, none⟩ u) := ⟨by simp, fun g hg h1 _ => Below.heap_setCell _ ⟨B, i, none⟩ _ g h1⟩
theorem Stk.cut {w0 W : World} {B g m c : Nat} {F : Value} {s : List Bool} {most : Int} (h : Stk w0 B F (.slice (some ⟨g, 0, none⟩) m c) s most W) (q : Nat) (hq : q ≤ s.length) : Stk w0 B F (.slice (some ⟨g, 0, none⟩) q c) (s.take q) most (W.setCell ⟨B, 0, none⟩ (.slice (some ⟨g, 0, none⟩) q c)) := by
  refine ⟨?_, own_keep (own_take h.own q hq) fun g' hg' => ?_, h.ne, below_set h.below h.base, h.base⟩
  · have := blk_set h.blk 0 (.slice (some ⟨g, 0, none⟩) q c)
    exact this
  · refine Below.heap_setCell _ ⟨B, 0, none⟩ _ g' ?_
    intro e
    have e : g' = B := e
    subst e
    exact h.ne hg'
set_option maxHeartbeats 4000000 in
set_option maxRecDepth 100000 in
theorem done_calls {w0 W : World} {B : Nat} {F v : Value} {s : List Bool} {most : Int} (h : Stk w0 B F v s most W) (hl : s.length ≤ 30) (o n : Int) (x : ByteArray) (ha : 0 < XOps.arityF o) (ha3 : XOps.arityF o ≤ 3) :
    Calls Tryz.prog 64 #[.pointer (some ⟨B, 0, none⟩), insV o n x] W fun e W' => ∃ v', e = .returned (.int .i64 (doneP (s, most) o).2) ∧ Stk w0 B F v' (doneP (s, most) o).1.1 (doneP (s, most) o).1.2 W' ∧ Frame B v W W' := by
  unfold insV
  have hu1 := Tryz.underlying103
  have hu2 := Tryz.underlying80
  have hW := h.lt
  have hown := fun g (hg : v.ownBlock = some g) => h.own_lt hg
  have h1 := h.then_ (below_alloc (Below.refl W.heap.size W) (insC o n x))
  have hfr : ∀ W', Frame B v (W.alloc (insC o n x)) W' → Frame B v W W' := fun W' => Frame.of_below (below_alloc (Below.refl _ _) _)
  have hnew := new_cell W o n x
  have hnb : W.heap.size ≠ B := by omega
  obtain ⟨A, c, hv⟩ := h.shape
  clear h
  obtain ⟨m, hm⟩ : ∃ m, s.length = m := ⟨_, rfl⟩
  rw [hm] at hv hl
  obtain ⟨a, har⟩ : ∃ a : Nat, XOps.arityF o = (a : Int) := ⟨(XOps.arityF o).toNat, by omega⟩
  have hari := XOps.arity_calls o
  rw [har] at hari ha ha3
  unfold insC at h1 hfr hnew
  subst hv
  have Hm := Lib.hid hm
  have Har := Lib.hid har
  clear hm har
  have cS := h1.getS
  have H1 := Lib.hid h1
  clear h1
  by_cases hlt : m < a
  · have hw : wrap64 ((m : Int) - (a : Int)) = (m : Int) - (a : Int) := by unfold wrap64; omega
    have hneg : (m : Int) - (a : Int) < 0 := by omega
    have e : doneP (s, most) o = ((s, most), 13) := by
      unfold doneP
      rw [if_pos (by rw [Hm.out, Har.out]; omega)]
    rw [e]
    have Hlt := Lib.hid hlt
    clear hlt e
    go_enter Tryz.func64, Tryz.ntmps64
    go_wp2
    go_region_held3 (fun w' => w'.cell? ⟨B, 0, none⟩ = some (.slice A m c) ∧ w'.cell? ⟨W.heap.size, 0, none⟩ = some (.int .i64 o))
      (first
        | exact ⟨cS, hnew⟩
        | (go_split_ands; exact ⟨cell_keep0 hb2 (by assumption), cell_keep0 hb2 (by assumption)⟩)
        | go_keep)
      ((first
        | (go_at_call 63; refine (hari _).mono ?_; rintro e W2 ⟨rfl, hb2⟩)))
    go_wp2
    go_ret
    exact ⟨_, rfl, (H1.out.then_ (below_drew0 _)).then_ hb2, hfr _ ⟨hb2.size, fun g hg _ _ => hb2.block g hg⟩⟩
  · obtain ⟨q, hq⟩ : ∃ q : Nat, q + a = m := ⟨m - a, by omega⟩
    have hqm : s.length - a = q := by rw [Hm.out]; omega
    obtain ⟨g, hA⟩ : ∃ g, A = some ⟨g, 0, none⟩ := by
      rcases H1.out.own.2 with ⟨h1, h2⟩ | ⟨g, cap, cur, h1, _⟩
      · have := Hm.out; omega
      · injection h1 with h1; exact ⟨g, h1⟩
    subst hA
    have hw : wrap64 ((m : Int) - (a : Int)) = (q : Int) := by unfold wrap64; omega
    have hw2 : IntKind.i64.wrap ((m : Int) - (a : Int)) = (q : Int) := by rw [IntKind.wrap_i64]; omega
    have hng : ¬ (q : Int) < 0 := by omega
    have hd0 : decide ((q : Int) < 0) = false := decide_eq_false hng
    have i0 : (0 : Int) ≤ (q : Int) := by omega
    have i1 : (q : Int) ≤ (m : Int) := by omega
    have i2 : q ≤ m := by omega
    have hC := fun W2 (h2 : Stk w0 B F (.slice (some ⟨g, 0, none⟩) m c) s most W2) => XOps.result_calls o (some ⟨g, q, none⟩) (c - q) (s.drop q) W2 (own_drop h2.own q (by rw [Hm.out]; omega) (by rw [Hm.out]; omega))
    have hdl : (s.drop q).length = a := by rw [List.length_drop, Hm.out]; omega
    rw [hdl] at hC
    have hma : m - q = a := by omega
    have hcm : m ≤ c := by
      rcases H1.out.own.2 with ⟨h1, h2⟩ | ⟨g', cap, cur, h1, _, _, h4, _⟩
      · cases h1
      · injection h1 with e1 e2 e3
        have := Hm.out
        omega
    have hcq : ¬ c = q := by omega
    have Hq := Lib.hid hq
    have Hqm := Lib.hid hqm
    clear hq hqm hdl hlt
    go_enter Tryz.func64, Tryz.ntmps64
    go_wp2
    go_region_held3 (fun w' => w'.cell? ⟨B, 0, none⟩ = some (.slice (some ⟨g, 0, none⟩) m c) ∧ w'.cell? ⟨W.heap.size, 0, none⟩ = some (.int .i64 o))
      (first
        | exact ⟨cS, hnew⟩
        | (go_split_ands; exact ⟨cell_keep0 hb2 (by assumption), cell_keep0 hb2 (by assumption)⟩)
        | go_keep)
      ((first
        | (go_at_call 63; refine (hari _).mono ?_; rintro e W2 ⟨rfl, hb2⟩)))
    have H2 : Stk w0 B F (.slice (some ⟨g, 0, none⟩) m c) s most W2 := (H1.out.then_ (below_drew0 _)).then_ hb2
    have cS2 := H2.getS
    have hnew2 := cell_keep0 hb2 hnew
    have HH2 := Lib.hid H2
    have Hb2 := Lib.hid hb2
    clear H2 cS hnew hb2
    rcases hres : XOps.resultF o (s.drop q) with ⟨rb, re⟩
    have hC3 := fun W3 h3 => hC W3 h3
    rw [hres] at hC3
    clear hC
    have Hres := Lib.hid hres
    clear hres
    have hbn : W.heap.size ≠ B := hnb
    by_cases hre : re = 0
    · subst hre
      go_wp2
      go_region_held3 (fun w' => w'.cell? ⟨B, 0, none⟩ = some (.slice (some ⟨g, 0, none⟩) m c) ∧ w'.cell? ⟨W.heap.size, 0, none⟩ = some (.int .i64 o))
        (first
          | exact ⟨cS2, hnew2⟩
          | (go_split_ands; exact ⟨cell_keep0 hb3 (by assumption), cell_keep0 hb3 (by assumption)⟩)
          | go_keep)
        ((first
          | (go_at_call 74; refine (hC3 _ (HH2.out.then_ (below_drew0 _))).mono ?_; rintro e W3 ⟨rfl, hb3⟩)))
      have H3 : Stk w0 B F (.slice (some ⟨g, 0, none⟩) m c) s most W3 := (HH2.out.then_ (below_drew0 _)).then_ hb3
      have c3 := H3.getS
      have f3 := blk_frozen H3.blk 0
      have H4 := H3.cut q (by rw [Hm.out]; exact i2)
      have hp := push_calls H4 (by rw [List.length_take]; omega) rb
      have HF : Frame B (.slice (some ⟨g, 0, none⟩) m c) W (W3.setCell ⟨B, 0, none⟩ (.slice (some ⟨g, 0, none⟩) q c)) := hfr _ ((Frame.below Hb2.out).trans ((Frame.below hb3).trans Frame.set))
      have H3h := Lib.hid H3
      have H4h := Lib.hid H4
      have HFh := Lib.hid HF
      clear H3 H4 HF hb3
      go_wp2_with (go_at_call 72; refine hp.mono ?_; rintro e W5 ⟨v5, rfl, hS5, hF5⟩)
      go_ret
      have e : doneP (s, most) o = pushP (s.take q, most) rb := by
        unfold doneP
        rw [if_neg (by rw [Hm.out, Har.out]; omega)]
        simp only [Har.out, Int.toNat_natCast, Hqm.out, Hres.out]
        rw [if_neg (by simp)]
      rw [e]
      exact ⟨_, rfl, hS5, HFh.out.trans hF5⟩
    · have hre1 : (re == 0) = false := by simp [hre]
      have hre2 : (re != 0) = true := by simp [hre]
      have Hre := Lib.hid hre
      clear hre
      go_wp2
      go_region_held3 (fun w' => w'.cell? ⟨B, 0, none⟩ = some (.slice (some ⟨g, 0, none⟩) m c) ∧ w'.cell? ⟨W.heap.size, 0, none⟩ = some (.int .i64 o))
        (first
          | exact ⟨cS2, hnew2⟩
          | (go_split_ands; exact ⟨cell_keep0 hb3 (by assumption), cell_keep0 hb3 (by assumption)⟩)
          | go_keep)
        ((first
          | (go_at_call 74; refine (hC3 _ (HH2.out.then_ (below_drew0 _))).mono ?_; rintro e W3 ⟨rfl, hb3⟩)))
      have H3 : Stk w0 B F (.slice (some ⟨g, 0, none⟩) m c) s most W3 := (HH2.out.then_ (below_drew0 _)).then_ hb3
      have HF : Frame B (.slice (some ⟨g, 0, none⟩) m c) W W3 := hfr _ ((Frame.below Hb2.out).trans (Frame.drewed (Frame.below hb3)))
      have H3h := Lib.hid H3
      have HFh := Lib.hid HF
      clear H3 HF hb3
      go_wp2
      go_ret
      have e : doneP (s, most) o = ((s, most), re) := by
        unfold doneP
        rw [if_neg (by rw [Hm.out, Har.out]; omega)]
        simp only [Har.out, Int.toNat_natCast, Hqm.out, Hres.out]
        rw [if_pos Hre.out]
      rw [e]
      exact ⟨_, rfl, H3h.out, HFh.out⟩
set_option maxHeartbeats 4000000 in
set_option maxRecDepth 100000 in
theorem does_given (B : Nat) (o n : Int) (x : ByteArray) (ho : 22 ≤ o) (W : World) : Calls Tryz.prog 56 #[.pointer (some ⟨B, 0, none⟩), insV o n x] W fun e W' => e = .returned (.func (.func 62) #[.pointer (some ⟨B, 0, none⟩)] #[]) ∧ Below W.heap.size W W' := by
  unfold insV
  have h1 : decide (o ≥ 22) = true := decide_eq_true ho
  go_enter Tryz.func56, Tryz.ntmps56
  go_wp2
  go_ret
  exact ⟨rfl, below_alloc (Below.refl _ _) _⟩
set_option maxHeartbeats 4000000 in
set_option maxRecDepth 100000 in
theorem does_done (B : Nat) (o n : Int) (x : ByteArray) (ho : o < 22) (ha : 0 < XOps.arityF o) (W : World) : Calls Tryz.prog 56 #[.pointer (some ⟨B, 0, none⟩), insV o n x] W fun e W' => e = .returned (.func (.func 64) #[.pointer (some ⟨B, 0, none⟩)] #[]) ∧ Below W.heap.size W W' := by
  unfold insV
  have hari := XOps.arity_calls o
  obtain ⟨a, har⟩ : ∃ a, XOps.arityF o = a := ⟨_, rfl⟩
  rw [har] at hari ha
  have h2 : ¬ o ≥ 22 := by omega
  have h1 : decide (o ≥ 22) = false := decide_eq_false h2
  have h3 : decide (a > 0) = true := decide_eq_true ha
  go_enter Tryz.func56, Tryz.ntmps56
  go_wp2_with (go_at_call 63; refine (hari _).mono ?_; rintro e W2 ⟨rfl, hb2⟩)
  go_ret
  exact ⟨rfl, below_then (below_alloc (Below.refl _ _) _) (below_alloc (Below.refl W.heap.size W) _).size hb2⟩
set_option maxHeartbeats 4000000 in
set_option maxRecDepth 100000 in
theorem does_plain (B : Nat) (o n : Int) (x : ByteArray) (ho : o < 22) (ha : ¬ 0 < XOps.arityF o) (W : World) : Calls Tryz.prog 56 #[.pointer (some ⟨B, 0, none⟩), insV o n x] W fun e W' => e = .returned (.func (.func 65) #[.pointer (some ⟨B, 0, none⟩)] #[]) ∧ Below W.heap.size W W' := by
  unfold insV
  have hari := XOps.arity_calls o
  obtain ⟨a, har⟩ : ∃ a, XOps.arityF o = a := ⟨_, rfl⟩
  rw [har] at hari ha
  have h2 : ¬ o ≥ 22 := by omega
  have h1 : decide (o ≥ 22) = false := decide_eq_false h2
  have h4 : ¬ a > 0 := ha
  have h3 : decide (a > 0) = false := decide_eq_false ha
  go_enter Tryz.func56, Tryz.ntmps56
  go_wp2_with (go_at_call 63; refine (hari _).mono ?_; rintro e W2 ⟨rfl, hb2⟩)
  go_ret
  exact ⟨rfl, below_then (below_alloc (Below.refl _ _) _) (below_alloc (Below.refl W.heap.size W) _).size hb2⟩
end Go.Proofs.YtialoecplmnjfaaGreatDoor.XCheck
namespace Go.Proofs.YtialoecplmnjfaaGreatDoor.XTurn
open Go.RowKit Go.Proofs Go.Proofs.YtialoecplmnjfaaGreatDoorW.PrintWords Go.Proofs.YtialoecplmnjfaaGreatDoorW.PrintLast Go.Proofs.YtialoecplmnjfaaGreatDoorW.PrintMore
def turnB (f c : Int) : Int := if f ≤ c ∧ c < f + 26 then bits BinOp.xor IntKind.u8 c 32 else c
def mixL (f : Int) (l : List Int) (k : Nat) : List Int := (l.take k).map (turnB f) ++ l.drop k
def turnL (f : Int) (l : List Int) : List Int := l.map (turnB f)
theorem mixL_length (f : Int) (l : List Int) (k : Nat) : (mixL f l k).length = l.length := by
  unfold mixL
  simp
  omega
theorem mixL_zero (f : Int) (l : List Int) : mixL f l 0 = l := by simp [mixL]
theorem mixL_all (f : Int) (l : List Int) : mixL f l l.length = turnL f l := by simp [mixL, turnL]
theorem mixL_get (f : Int) (l : List Int) (k i : Nat) : (mixL f l k)[i]? = if i < k then (l[i]?).map (turnB f) else l[i]? := by
  unfold mixL
  rw [List.getElem?_append]
  by_cases hik : i < k
  · rw [if_pos hik]
    by_cases hl : i < l.length
    · rw [if_pos (by simp; omega), List.getElem?_map, List.getElem?_take, if_pos hik]
    · rw [if_neg (by simp; omega), List.getElem?_drop, List.getElem?_eq_none (by simp; omega), List.getElem?_eq_none (by omega)]
      rfl
  · rw [if_neg hik]
    by_cases hl : i < l.length
    · rw [if_neg (by simp; omega), List.getElem?_drop]
      congr 1
      simp
      omega
    · rw [List.getElem?_eq_none (l := l) (by omega)]
      rw [if_neg (by simp; omega), List.getElem?_drop, List.getElem?_eq_none (by simp; omega)]
theorem mixL_at (f : Int) (l : List Int) (k : Nat) (hk : k < l.length) : (mixL f l k)[k]? = some (l.getD k 0) := by
  rw [mixL_get, if_neg (Nat.lt_irrefl _)]
  simp [List.getD_eq_getElem?_getD, hk]
theorem mixL_set (f : Int) (l : List Int) (k : Nat) (hk : k < l.length) : (mixL f l k).set k (turnB f (l.getD k 0)) = mixL f l (k + 1) := by
  apply List.ext_getElem?
  intro i
  rw [List.getElem?_set, mixL_get, mixL_get, mixL_length]
  by_cases hik : k = i
  · subst hik
    rw [if_pos rfl, if_pos hk, if_pos (Nat.lt_succ_self _), List.getElem?_eq_getElem hk, List.getD_eq_getElem?_getD, List.getElem?_eq_getElem hk]
    rfl
  · rw [if_neg hik]
    by_cases hlt : i < k
    · rw [if_pos hlt, if_pos (by omega)]
    · rw [if_neg hlt, if_neg (by omega)]
theorem tb_set {w : World} {g : Nat} {t : TypeId} {cs : Array Value} {fr : Nat × Nat} (h : w.heap[g]? = some (.cells cs t fr)) (i : Nat) (u : Value) : (w.setCell ⟨g, i, none⟩ u).heap[g]? = some (.cells (cs.setIfInBounds i u) t fr) := by
  simp [World.setCell, Array.getElem?_modify, h]
theorem tb_cell {w : World} {g : Nat} {t : TypeId} {cs : Array Value} {fr : Nat × Nat} (h : w.heap[g]? = some (.cells cs t fr)) (i : Nat) : w.cell? ⟨g, i, none⟩ = cs[i]? := cell_of_row w g i cs t fr h
theorem tb_frozen {w : World} {g : Nat} {t : TypeId} {cs : Array Value} {m : Nat} (h : w.heap[g]? = some (.cells cs t (m, m + 1))) (i : Nat) (hi : i < m) : w.frozen? ⟨g, i, none⟩ = false := by
  simp [World.frozen?, h]
  omega
structure TL (w : World) (f : Int) (l : List Int) (k : Nat) (wr : World) : Prop where
  res : wr.heap[w.heap.size]? = some (.cells #[.bool false, .int .i64 0, .string (⟨#[]⟩ : ByteArray)] 24 (0, 0))
  row : ∃ C : Array Value, wr.heap[w.heap.size + 1]? = some (.cells C 5 (C.size, C.size + 1)) ∧ l.length ≤ C.size ∧ ∀ j, j < l.length → C[j]? = some (.int .u8 ((mixL f l k).getD j 0))
  below : Below w.heap.size w wr
theorem TL.start (w : World) (f : Int) (s : ByteArray) : TL w f (bytesOf s) 0 (Lib.bytesWorld (w.alloc (.cells #[.bool false, .int .i64 0, .string (⟨#[]⟩ : ByteArray)] 24)) 5 s) := by
  have z1 : (w.alloc (.cells #[.bool false, .int .i64 0, .string (⟨#[]⟩ : ByteArray)] 24)).heap.size = w.heap.size + 1 := by simp
  have hb := bytes_below (Below.refl (w.alloc (.cells #[.bool false, .int .i64 0, .string (⟨#[]⟩ : ByteArray)] 24)).heap.size _) (Nat.le_refl _) 5 s
  have hn := Lib.bytesWorld_at_new (w.alloc (.cells #[.bool false, .int .i64 0, .string (⟨#[]⟩ : ByteArray)] 24)) 5 s
  have hc := Lib.bytesWorld_cell (w.alloc (.cells #[.bool false, .int .i64 0, .string (⟨#[]⟩ : ByteArray)] 24)) 5 s
  rw [z1] at hn hc
  refine ⟨(hb.block _ (by rw [z1]; exact Nat.lt_succ_self _)).trans (heap_alloc_new w _), ⟨_, hn, ?_, fun j hj => ?_⟩, below_then (below_alloc (Below.refl _ _) _) (by rw [z1]; exact Nat.le_succ _) hb⟩
  · rw [bytesOf_length]
    simp [Lib.bytesCells]
  · rw [bytesOf_length] at hj
    have := (tb_cell hn j).symm.trans (hc j hj)
    rw [this, mixL_zero]
    have h' : j < s.data.toList.length := by rw [data_length]; exact hj
    simp [bytesOf, List.getD_eq_getElem?_getD, List.getElem?_eq_getElem h']
theorem TL.set {w wr : World} {f : Int} {l : List Int} {k : Nat} (h : TL w f l k wr) (hk : k < l.length) (u : Int) (hu : u = turnB f (l.getD k 0)) : TL w f l (k + 1) (wr.setCell ⟨w.heap.size + 1, k, none⟩ (.int .u8 u)) := by
  obtain ⟨C, h1, h2, h3⟩ := h.row
  subst hu
  refine ⟨blk_far h.res (by show w.heap.size ≠ w.heap.size + 1; omega) _, ⟨C.setIfInBounds k (.int .u8 (turnB f (l.getD k 0))), ?_, by simpa using h2, fun j hj => ?_⟩, below_set h.below (by omega)⟩
  · have := tb_set h1 k (.int .u8 (turnB f (l.getD k 0)))
    rw [this]
    simp
  · rw [← mixL_set f l k hk, Array.getElem?_setIfInBounds]
    by_cases hkj : k = j
    · subst hkj
      rw [if_pos rfl, if_pos (by omega)]
      simp [List.getD_eq_getElem?_getD, List.getElem?_set, mixL_length, hk]
    · rw [if_neg hkj, h3 j hj]
      simp [List.getD_eq_getElem?_getD, List.getElem?_set, hkj]
theorem TL.same {w wr : World} {f : Int} {l : List Int} {k : Nat} (h : TL w f l k wr) (hk : k < l.length) (hu : turnB f (l.getD k 0) = l.getD k 0) : TL w f l (k + 1) wr := by
  obtain ⟨C, h1, h2, h3⟩ := h.row
  refine ⟨h.res, ⟨C, h1, h2, fun j hj => ?_⟩, h.below⟩
  rw [h3 j hj, ← mixL_set f l k hk, hu]
  by_cases hkj : k = j
  · subst hkj
    have := mixL_at f l k hk
    simp [List.getD_eq_getElem?_getD, List.getElem?_set, mixL_length, hk] at this ⊢
    rw [this]
  · simp [List.getD_eq_getElem?_getD, List.getElem?_set, hkj]
theorem TL.at_ {w wr : World} {f : Int} {l : List Int} {k : Nat} (h : TL w f l k wr) (hk : k < l.length) : wr.cell? ⟨w.heap.size + 1, k, none⟩ = some (.int .u8 (l.getD k 0)) ∧ wr.frozen? ⟨w.heap.size + 1, k, none⟩ = false := by
  obtain ⟨C, h1, h2, h3⟩ := h.row
  refine ⟨?_, tb_frozen h1 k (by omega)⟩
  rw [tb_cell h1, h3 k hk, List.getD_eq_getElem?_getD, mixL_at f l k hk]
  rfl
theorem TL.done {w wr : World} {f : Int} {l : List Int} (h : TL w f l l.length wr) (hl : l.length ≤ 9223372036854775807) : (Kd.int .u8).C wr (some ⟨w.heap.size + 1, 0, none⟩) l.length (turnL f l) := by
  obtain ⟨C, h1, h2, h3⟩ := h.row
  rw [mixL_all] at h3
  refine Kd.C_of_reads (enc := Value.int .u8) (d := (0 : Int)) ⟨by simp [turnL], hl, fun _ => ⟨_, rfl, fun j hj => ?_⟩⟩
  rw [Addr.add_mid, Nat.zero_add, tb_cell h1 j, h3 j hj]
set_option maxHeartbeats 4000000 in
set_option maxRecDepth 100000 in
theorem calls {T : World → Prop} (hTb : ∀ w w', T w → Below w.heap.size w w' → T w') (s : ByteArray) (f : Int) (r1 : Bool) (r2 : Int) (r3 : ByteArray) (hf : 0 ≤ f ∧ f ≤ 200) (hs : s.size ≤ 140737488355328)
    (hText : ∀ w, T w → Calls Tryz.prog 39 #[.string (strOfNums (turnL f (bytesOf s)))] w fun e w' => e = .returned (.agg #[.bool r1, .int .i64 r2, .string r3]) ∧ Below w.heap.size w w')
    (w : World) (hT : T w) :
    Calls Tryz.prog 95 #[.string s, .int .u8 f] w fun e w' => e = .returned (.agg #[.bool r1, .int .i64 r2, .string r3]) ∧ Below w.heap.size w w' := by
  have hu1 := Tryz.underlying24
  have hu2 := Tryz.underlying93
  have hu3 := Tryz.underlying5
  have hu4 := Tryz.underlying9
  have hcv := print_bytes (P := Tryz.prog) 9 93 5 hu4 hu2 hu3 s
  obtain ⟨l, hl⟩ : ∃ l, l = bytesOf s := ⟨_, rfl⟩
  obtain ⟨n, hn⟩ : ∃ n, n = s.size := ⟨_, rfl⟩
  have hln : l.length = n := by rw [hl, hn, bytesOf_length]
  have HS := fun w => TL.start w f s
  rw [← hl] at hText HS
  generalize hcap : grownCap = GC at hcv
  rw [← hn] at hcv hs
  have Hl := Lib.hid hl
  clear hl
  have Hn := Lib.hid hn
  clear hn
  have Hcap := Lib.hid hcap
  clear hcap
  have Hln := Lib.hid hln
  clear hln
  go_enter Tryz.func95, Tryz.ntmps95
  go_wp2
  have HS1 := HS w
  generalize Lib.bytesWorld _ _ s = W1 at HS1 ⊢
  go_wp2
  go_loopw [12] (fun i wr => ∃ k : Nat, k ≤ n ∧ i = .int .i64 k ∧ TL w f l k wr) (fun i _ => n - (intOf i).toNat)
  case atStart => exact ⟨0, Nat.zero_le _, rfl, HS1⟩
  case round =>
    obtain ⟨k, hk, rfl, HL⟩ := hrel
    by_cases hlt : k < n
    · have hi1 : (k : Int) < (n : Int) := by omega
      have hwk : wrap64 ((k : Int) + 1) = (k : Int) + 1 := by unfold wrap64; omega
      obtain ⟨h1, h2⟩ := HL.at_ (by rw [Hln.out]; exact hlt)
      obtain ⟨c, hc⟩ : ∃ c, c = l.getD k 0 := ⟨_, rfl⟩
      rw [← hc] at h1
      have Hc := Lib.hid hc
      clear hc
      go_wp2
      · refine ⟨⟨k + 1, by omega, by go_num, HL.set (by rw [Hln.out]; exact hlt) _ ?_⟩, by simp [intOf]; omega⟩
        rw [← Hc.out]
        unfold turnB
        rw [if_pos (by omega)]
      · refine ⟨⟨k + 1, by omega, by go_num, HL.same (by rw [Hln.out]; exact hlt) ?_⟩, by simp [intOf]; omega⟩
        rw [← Hc.out]
        unfold turnB
        rw [if_neg (by omega)]
      · refine ⟨⟨k + 1, by omega, by go_num, HL.same (by rw [Hln.out]; exact hlt) ?_⟩, by simp [intOf]; omega⟩
        rw [← Hc.out]
        unfold turnB
        rw [if_neg (by omega)]
    · obtain rfl : k = n := by omega
      have hi1 : ¬ ((k : Int) < (k : Int)) := by omega
      have hC := HL
      rw [← Hln.out] at hC
      have hC2 := hC.done (by rw [Hln.out]; omega)
      rw [Hln.out] at hC2
      have hst := fun c => Kd.C_string (P := Tryz.prog) (c := c) hu2 hu3 hu4 hC2
      clear hC hC2
      go_wp2_with (go_at_call 39; refine (hText _ (hTb _ _ hT HL.below)).mono ?_; rintro e w2 ⟨rfl, hb2⟩; have hres := (hb2.block _ (blk_lt HL.res)).trans HL.res; have c0 := (blk_cell hres 0).trans rfl; have c1 := (blk_cell hres 1).trans rfl; have c2 := (blk_cell hres 2).trans rfl; have f0 := blk_frozen hres 0; have f1 := blk_frozen hres 1; have f2 := blk_frozen hres 2)
      refine bodyPost_ret (results_cell_row rfl _ _ w.heap.size 24 #[.bool r1, .int .i64 r2, .string r3] (0, 0) _ rfl (blk_set (blk_set (blk_set hres 0 _) 1 _) 2 _) hu1 rfl (by kernel_rfl)) rfl ?_
      exact ⟨rfl, below_set (below_set (below_set (below_then HL.below HL.below.size hb2) (Nat.le_refl _)) (Nat.le_refl _)) (Nat.le_refl _)⟩
end Go.Proofs.YtialoecplmnjfaaGreatDoor.XTurn
namespace Go.Proofs.YtialoecplmnjfaaGreatDoorX
open Go.Proofs.YtialoecplmnjfaaGreatDoorW.PrintWords Go.WideShapes
structure Opens {α : Type} (P : Program) (t : TypeId) (d : Kd α) (Sz : α → Prop) : Prop where
  cells : P.cellsOf t = d.sz
  opens : ∀ {H : Type} {enc : TypeId × Value → H} {w : World} {fuel : Nat} {cs : List Value} {y : DataW H × List MemPlace},
    DataW.trod enc P w 0 (fun _ => true) true fuel t cs = some y → (∀ n ∈ DataW.weights P t y.1, n ≤ reachBytes) → ∃ x : α, d.K w x cs ∧ Sz x
theorem opens_int {P : Program} {t : TypeId} {k : IntKind} (ht : P.underlying t = some (.int k)) (hc : P.cellsOf t = 1) : Opens P t (Kd.int k) (fun x => (Lit.int k x).wf = true) :=
  ⟨hc, fun h _ => by
    obtain ⟨n, rfl, rfl, hw⟩ := DataW.trod_int ht h
    exact ⟨n, rfl, hw⟩⟩
theorem opens_bool {P : Program} {t : TypeId} (ht : P.underlying t = some .bool) (hc : P.cellsOf t = 1) : Opens P t Kd.bool (fun _ => True) :=
  ⟨hc, fun h _ => by
    obtain ⟨n, rfl, rfl⟩ := DataW.trod_bool ht h
    exact ⟨n, rfl, trivial⟩⟩
theorem opens_string {P : Program} {t : TypeId} (ht : P.underlying t = some .string) (hc : P.cellsOf t = 1) : Opens P t Kd.string (fun x => x.size ≤ 140737488351232) :=
  ⟨hc, fun h hs => by
    obtain ⟨s, rfl, rfl, _⟩ := DataW.trod_string ht h
    refine ⟨s, rfl, ?_⟩
    have := hs s.data.toList.length (by simp [DataW.weights])
    simpa [reachBytes] using this⟩
theorem weightsAll_mem {H : Type} {P : Program} {e : TypeId} : ∀ {l : List (DataW H)} {d : DataW H}, d ∈ l → ∀ n ∈ DataW.weights P e d, n ∈ DataW.weightsAll P e l
  | d0 :: l, d, hd, n, hn => by
    simp only [DataW.weightsAll, List.mem_append]
    rcases List.mem_cons.1 hd with rfl | hd
    · exact .inl hn
    · exact .inr (weightsAll_mem hd n hn)
  | [], _, hd, _, _ => by cases hd
theorem cells?_get {w : World} {a : Addr} {n : Nat} {cs : List Value} (h : w.cells? 0 a n = some cs) : cs.length = n ∧ ∀ i u, cs[i]? = some u → w.cell? (a.add i) = some u := by
  have hl := (World.cells?_some h).1
  refine ⟨by simpa using (World.cells?_some h).2.1, fun i u hu => ?_⟩
  have := (World.cells?_some h).2.2 i (by have := (List.getElem?_eq_some_iff.1 hu).1; have := (World.cells?_some h).2.1; omega)
  rw [this, hu]
theorem opens_slice {α : Type} {P : Program} {t e : TypeId} {d : Kd α} {Sz : α → Prop} {B : Nat} (ht : P.underlying t = some (.slice e)) (hc : P.cellsOf t = 1) (hB : P.bytesOf e = B) (o : Opens P e d Sz) :
    Opens P t (Kd.slice e d) (fun xs => xs.length * B ≤ 140737488351232 ∧ ∀ x ∈ xs, Sz x) :=
  ⟨hc, fun {H enc w fuel cs y} h hs => by
    rcases DataW.trod_slice ht h with ⟨rfl, rfl⟩ | ⟨a, len, cap, elems, rest, n, rfl, rfl, rfl, _, hl, hm, hlen, hel, _, _⟩
    · exact ⟨[], ⟨none, 0, rfl, Nat.le_refl _, rfl, by simp, fun h0 => by simp at h0⟩, by simp, fun x hx => by cases hx⟩
    · have each : ∀ i, i < len → ∃ x : α, ∃ c, c.length = d.sz ∧ d.K w x c ∧ Sz x ∧ ∀ j u, c[j]? = some u → w.cell? (a.add (i * d.sz + j)) = some u := by
        intro i hi
        have h1 := hel i hi
        have h2 : elems[i]? = some (elems[i]'(by omega)) := List.getElem?_eq_getElem (by omega)
        rw [h2, Option.bind_eq_some_iff] at h1
        obtain ⟨c, hcs, htr⟩ := h1
        obtain ⟨hcl, hcg⟩ := cells?_get hcs
        obtain ⟨x, hK, hS⟩ := o.opens htr (fun m hm' => hs m (by
          simp only [DataW.weights, ht, List.mem_cons, List.mem_append]
          exact .inr (.inl (weightsAll_mem (List.mem_map.2 ⟨_, List.getElem_mem (by omega), rfl⟩) m hm'))))
        refine ⟨x, c, by rw [hcl, o.cells], hK, hS, fun j u hu => ?_⟩
        have := hcg j u hu
        rw [o.cells] at this
        rw [← this]
        congr 1
        unfold Addr.add
        by_cases h3 : i * d.sz = 0 <;> by_cases h4 : j = 0 <;> simp [h3, h4, Nat.add_assoc]
      have hlist : ∀ m, m ≤ len → ∃ xs : List α, xs.length = m ∧ (∀ x ∈ xs, Sz x) ∧ ∀ j p, xs[j]? = some p → ∃ c, c.length = d.sz ∧ d.K w p c ∧ ∀ i u, c[i]? = some u → w.cell? (a.add (j * d.sz + i)) = some u := by
        intro m
        induction m with
        | zero => exact fun _ => ⟨[], rfl, (fun x hx => by cases hx), (fun j p hj => by simp at hj)⟩
        | succ m ih =>
          intro hm'
          obtain ⟨xs, hx1, hx2, hx3⟩ := ih (by omega)
          obtain ⟨x, c, hc1, hK, hS, hcell⟩ := each m (by omega)
          refine ⟨xs ++ [x], by simp [hx1], fun z hz => ?_, fun j p hj => ?_⟩
          · rcases List.mem_append.1 hz with hz | hz
            · exact hx2 z hz
            · rw [List.mem_singleton.1 hz]; exact hS
          · rcases Nat.lt_or_ge j xs.length with hj' | hj'
            · rw [List.getElem?_append_left hj'] at hj
              exact hx3 j p hj
            · have hj2 : j = m := by
                have := (List.getElem?_eq_some_iff.1 hj).1
                simp at this
                omega
              subst hj2
              have : x = p := by simpa [hx1] using hj
              subst this
              exact ⟨c, hc1, hK, hcell⟩
      obtain ⟨xs, hx1, hx2, hx3⟩ := hlist len (Nat.le_refl _)
      subst hx1
      refine ⟨xs, ⟨some a, cap, rfl, hl, rfl, by simp only [maxLen] at hm; omega, fun _ => ⟨a, rfl, hx3⟩⟩, ?_, hx2⟩
      have hz := hs _ (by simp only [DataW.weights, ht]; exact List.mem_cons_self)
      rw [hB] at hz
      simp only [List.length_map, reachBytes] at hz
      exact Nat.le_trans (Nat.mul_le_mul_right _ (by omega)) hz⟩
structure OpensFs {α : Type} (P : Program) (fs : List Field) (o : Nat) (d : Kd α) (Sz : α → Prop) : Prop where
  opens : ∀ {H : Type} {enc : TypeId × Value → H} {w : World} {fuel : Nat} {cs : List Value} {xs : List (DataW H × List MemPlace)}, cs.length = o + d.sz → xs.length = fs.length →
    (∀ (i : Nat) (f : Field), fs[i]? = some f → DataW.trod enc P w 0 (fun _ => true) true fuel f.type ((cs.drop f.offset).take (P.cellsOf f.type)) = xs[i]?) →
    (∀ n ∈ DataW.weightsEach P (fs.map (·.type)) (xs.map (·.1)), n ≤ reachBytes) → ∃ x : α, d.K w x (cs.drop o) ∧ Sz x
theorem opens_last {α : Type} {P : Program} {f : Field} {o : Nat} {d : Kd α} {Sz : α → Prop} (hf : f.offset = o) (op : Opens P f.type d Sz) : OpensFs P [f] o d Sz :=
  ⟨fun {H enc w fuel cs xs} hcs hxs h hs => by
    obtain ⟨y, rfl⟩ : ∃ y, xs = [y] := by
      match xs, hxs with
      | [y], _ => exact ⟨y, rfl⟩
    have h1 := h 0 f rfl
    rw [hf, op.cells, List.take_of_length_le (by rw [List.length_drop]; omega)] at h1
    exact op.opens h1 (fun n hn => hs n (by simp [DataW.weightsEach, hn]))⟩
theorem opens_more {α β : Type} {P : Program} {f : Field} {fs : List Field} {o o' : Nat} {a : Kd α} {b : Kd β} {Sa : α → Prop} {Sb : β → Prop} (hf : f.offset = o) (ho : o + a.sz = o') (op : Opens P f.type a Sa) (rest : OpensFs P fs o' b Sb) :
    OpensFs P (f :: fs) o (Kd.pair a b) (fun x => Sa x.1 ∧ Sb x.2) :=
  ⟨fun {H enc w fuel cs xs} hcs hxs h hs => by
    subst ho
    obtain ⟨y, ys, rfl⟩ : ∃ y ys, xs = y :: ys := by
      match xs, hxs with
      | y :: ys, _ => exact ⟨y, ys, rfl⟩
    have h1 := h 0 f rfl
    rw [hf, op.cells] at h1
    obtain ⟨x, hK, hS⟩ := op.opens h1 (fun n hn => hs n (by simp [DataW.weightsEach, hn]))
    obtain ⟨x2, hK2, hS2⟩ := rest.opens (cs := cs) (xs := ys) (by rw [hcs]; show o + (a.sz + b.sz) = _; omega) (by simpa using hxs) (fun i g hg => by simpa using h (i + 1) g (by simpa using hg)) (fun n hn => hs n (by
      simp only [List.map_cons, DataW.weightsEach, List.mem_append]
      exact .inr hn))
    refine ⟨(x, x2), ⟨_, _, ?_, hK, hK2⟩, hS, hS2⟩
    rw [← List.drop_drop, List.take_append_drop]⟩
theorem opens_struct {α β : Type} {P : Program} {t : TypeId} {fs : Array Field} {d : Kd α} {f : β → α} (g : α → β) {Sz : α → Prop} {Sb : β → Prop} (ht : P.underlying t = some (.struct fs)) (hc : P.cellsOf t = d.sz) (hg : ∀ x, f (g x) = x) (hS : ∀ x, Sz (f x) → Sb x) (op : OpensFs P fs.toList 0 d Sz) :
    Opens P t (Kd.iso d f) Sb :=
  ⟨hc, fun {H enc w fuel cs y} h hs => by
    obtain ⟨xs, n, rfl, rfl, hl, hx, hf⟩ := DataW.trod_struct ht h
    obtain ⟨x, hK, hS'⟩ := op.opens (cs := cs) (xs := xs) (by rw [hl, hc, Nat.zero_add]) (by simpa using hx) (fun i g' hg' => hf i g' (by simpa using hg')) (fun m hm => hs m (by
      simp only [DataW.weights, ht]
      exact hm))
    refine ⟨g x, ?_, hS (g x) (by rw [hg]; exact hS')⟩
    show d.K w (f (g x)) cs
    rw [hg]
    simpa using hK⟩
theorem sized_of {H : Type} {P : Program} {ts : List TypeId} {ds : List (DataW H)} (h : (DataW.weightsEach P ts ds).all (· ≤ reachBytes) = true) {j : Nat} {t : TypeId} {d : DataW H} (ht : ts[j]? = some t) (hd : ds[j]? = some d) : ∀ n ∈ DataW.weights P t d, n ≤ reachBytes :=
  fun n hn => by simpa using List.all_eq_true.1 h n (DataW.weights_mem_each ht hd n hn)
section
variable {P : Program} {w : World} {r : Reach} {base : Nat} {t : TypeId} {v : Value}
theorem shape_slice {e : TypeId} {A : Option Addr} {n c : Nat} (ht : P.underlying t = some (.slice e)) (h : Value.okWide P w r base t v) (hc : v.cells.toList = [.slice A n c]) : v = .slice A n c := by
  obtain ⟨a, l, cp, rfl⟩ := okWide_slice ht h
  simpa [Value.cells] using hc
theorem shape_struct {fs : Array Field} {cs : List Value} (ht : P.underlying t = some (.struct fs)) (h : Value.okWide P w r base t v) (hc : v.cells.toList = cs) : v = .agg cs.toArray := by
  obtain ⟨c, rfl, _⟩ := okWide_struct ht h
  subst hc
  simp [Value.cells]
end
end Go.Proofs.YtialoecplmnjfaaGreatDoorX
