/- Words for laws that go straight on: struct variables in blocks of their own, and value.Do over a row of them. -/
import Derived.Test.YtnodgcakmolleaaGreatDoorPXx0
import Derived.Test.YtnodgcakmolleaaGreatDoorXDo
set_option linter.unusedVariables false
set_option linter.unusedSimpArgs false
namespace Go.Proofs.YtnodgcakmolleaaGreatDoor.XLine
open Go.RowKit Go.Proofs Go.Proofs.YtnodgcakmolleaaGreatDoorW.PrintWords Go.Proofs.YtnodgcakmolleaaGreatDoorW.PrintLast Go.Proofs.YtnodgcakmolleaaGreatDoorW.PrintMore Go.Proofs.YtnodgcakmolleaaGreatDoor.PX
def At (W : World) (g : Nat) (x : S32) : Prop := W.heap[g]? = some (.cells #[.bool x.f0, .int .i64 x.f1, .string x.f2] 32 (0, 0))
theorem At.then_ {W W' : World} {g : Nat} {x : S32} (h : At W g x) (hb : Below W.heap.size W W') : At W' g x := (hb.block _ (blk_lt h)).trans h
theorem At.alloc {W : World} {g : Nat} {x : S32} (h : At W g x) (o : Obj) : At (W.alloc o) g x := (heap_alloc_old W o (blk_lt h)).trans h
theorem At.drew {W : World} {g : Nat} {x : S32} (h : At W g x) : At W.drew g x := h
theorem At.c0 {W : World} {g : Nat} {x : S32} (h : At W g x) : W.cell? ⟨g, 0, none⟩ = some (.bool x.f0) := (blk_cell h 0).trans rfl
theorem At.c1 {W : World} {g : Nat} {x : S32} (h : At W g x) : W.cell? ⟨g, 1, none⟩ = some (.int .i64 x.f1) := (blk_cell h 1).trans rfl
theorem At.c2 {W : World} {g : Nat} {x : S32} (h : At W g x) : W.cell? ⟨g, 2, none⟩ = some (.string x.f2) := (blk_cell h 2).trans rfl
theorem lit_get {W : World} {g : Nat} {C : Array Value} {l : List (S32)} (hg : W.heap[g]? = some (.cells C 32 (0, 0))) (hl : l.length ≤ 3)
  (hC : ∀ j p, l[j]? = some p → ∀ i u, [Value.bool p.f0, .int .i64 p.f1, .string p.f2][i]? = some u → C[j * 3 + i]? = some u) : Kd.C k32 W (some ⟨g, 0, none⟩) l.length l := by
 refine ⟨rfl, by omega, fun _ => ⟨_, rfl, fun j p hj => ⟨[.bool p.f0, .int .i64 p.f1, .string p.f2], rfl, k32_mk _ _, fun i u hu => ?_⟩⟩⟩
 have h3 : (k32).sz = 3 := rfl
 rw [h3, Addr.add_mid, Nat.zero_add, blk_cell hg]
 exact hC j p hj i u hu
theorem lit2 (W : World) (x y : S32) : Kd.C k32 (W.alloc (.cells #[.bool x.f0, .int .i64 x.f1, .string x.f2, .bool y.f0, .int .i64 y.f1, .string y.f2] 32)) (some ⟨W.heap.size, 0, none⟩) [x, y].length [x, y] := by
 refine lit_get (heap_alloc_new W _) (by simp) ?_
 intro j p hj i u hu
 match j with
 | 0 =>
  obtain rfl : x = p := by simpa using hj
  match i with
  | 0 | 1 | 2 => simpa using hu
  | i + 3 => simp at hu
 | 1 =>
  obtain rfl : y = p := by simpa using hj
  match i with
  | 0 | 1 | 2 => simpa using hu
  | i + 3 => simp at hu
 | j + 2 => simp at hj
end Go.Proofs.YtnodgcakmolleaaGreatDoor.XLine
