/- Words for laws that go straight on: struct variables in blocks of their own, and value.Do over a row of them. -/
import Derived.Test.YtejmgcfjpofniaaGreatDoorPXx0
import Derived.Test.YtejmgcfjpofniaaGreatDoorXDo
set_option linter.unusedVariables false
set_option linter.unusedSimpArgs false
namespace Go.Proofs.YtejmgcfjpofniaaGreatDoor.XLine
open Go.RowKit Go.Proofs Go.Proofs.YtejmgcfjpofniaaGreatDoorW.PrintWords Go.Proofs.YtejmgcfjpofniaaGreatDoorW.PrintLast Go.Proofs.YtejmgcfjpofniaaGreatDoorW.PrintMore Go.Proofs.YtejmgcfjpofniaaGreatDoor.PX
/-- A struct variable. -/
def At (W : World) (g : Nat) (x : S44) : Prop := W.heap[g]? = some (.cells #[.bool x.f0, .int .i64 x.f1, .string x.f2] 44 (0, 0))
theorem At.then_ {W W' : World} {g : Nat} {x : S44} (h : At W g x) (hb : Below W.heap.size W W') : At W' g x := (hb.block _ (blk_lt h)).trans h
theorem At.alloc {W : World} {g : Nat} {x : S44} (h : At W g x) (o : Obj) : At (W.alloc o) g x := (heap_alloc_old W o (blk_lt h)).trans h
theorem At.drew {W : World} {g : Nat} {x : S44} (h : At W g x) : At W.drew g x := h
theorem at_new (W : World) (x : S44) : At (W.alloc (.cells #[.bool x.f0, .int .i64 x.f1, .string x.f2] 44)) W.heap.size x := heap_alloc_new W _
theorem at_new2 (W : World) (o : Obj) (x : S44) : At ((W.alloc o).alloc (.cells #[.bool x.f0, .int .i64 x.f1, .string x.f2] 44)) (W.heap.size + 1) x := by
  have := heap_alloc_new (W.alloc o) (.cells #[.bool x.f0, .int .i64 x.f1, .string x.f2] 44)
  rw [XOps.size_alloc] at this
  exact this
theorem At.c0 {W : World} {g : Nat} {x : S44} (h : At W g x) : W.cell? ⟨g, 0, none⟩ = some (.bool x.f0) := (blk_cell h 0).trans rfl
theorem At.c1 {W : World} {g : Nat} {x : S44} (h : At W g x) : W.cell? ⟨g, 1, none⟩ = some (.int .i64 x.f1) := (blk_cell h 1).trans rfl
theorem At.c2 {W : World} {g : Nat} {x : S44} (h : At W g x) : W.cell? ⟨g, 2, none⟩ = some (.string x.f2) := (blk_cell h 2).trans rfl
theorem lit_get {W : World} {g : Nat} {C : Array Value} {l : List (S44)} (hg : W.heap[g]? = some (.cells C 44 (0, 0))) (hl : l.length ≤ 3)
    (hC : ∀ j p, l[j]? = some p → ∀ i u, [Value.bool p.f0, .int .i64 p.f1, .string p.f2][i]? = some u → C[j * 3 + i]? = some u) : Kd.C k44 W (some ⟨g, 0, none⟩) l.length l := by
  refine ⟨rfl, by omega, fun _ => ⟨_, rfl, fun j p hj => ⟨[.bool p.f0, .int .i64 p.f1, .string p.f2], rfl, k44_mk _ _, fun i u hu => ?_⟩⟩⟩
  have h3 : (k44).sz = 3 := rfl
  rw [h3, Addr.add_mid, Nat.zero_add, blk_cell hg]
  exact hC j p hj i u hu
theorem lit1 (W : World) (x : S44) : Kd.C k44 (W.alloc (.cells #[.bool x.f0, .int .i64 x.f1, .string x.f2] 44)) (some ⟨W.heap.size, 0, none⟩) [x].length [x] := by
  refine lit_get (heap_alloc_new W _) (by simp) ?_
  intro j p hj i u hu
  match j with
  | 0 =>
    obtain rfl : x = p := by simpa using hj
    simpa using hu
  | j + 1 => simp at hj
theorem lit2 (W : World) (x y : S44) : Kd.C k44 (W.alloc (.cells #[.bool x.f0, .int .i64 x.f1, .string x.f2, .bool y.f0, .int .i64 y.f1, .string y.f2] 44)) (some ⟨W.heap.size, 0, none⟩) [x, y].length [x, y] := by
  refine lit_get (heap_alloc_new W _) (by simp) ?_
  intro j p hj i u hu
  match j with
  | 0 =>
    obtain rfl : x = p := by simpa using hj
    match i with
    | 0 | 1 | 2 => simpa using hu
    | i + 3 => simp at hu
  | 1 =>
    obtain rfl : y = p := by simpa using hj
    match i with
    | 0 | 1 | 2 => simpa using hu
    | i + 3 => simp at hu
  | j + 2 => simp at hj
theorem lit3g {W : World} {g : Nat} (x y z : S44) (hg : W.heap[g]? = some (.cells #[.bool x.f0, .int .i64 x.f1, .string x.f2, .bool y.f0, .int .i64 y.f1, .string y.f2, .bool z.f0, .int .i64 z.f1, .string z.f2] 44 (0, 0))) : Kd.C k44 W (some ⟨g, 0, none⟩) [x, y, z].length [x, y, z] := by
  refine lit_get hg (by simp) ?_
  intro j p hj i u hu
  match j with
  | 0 =>
    obtain rfl : x = p := by simpa using hj
    match i with
    | 0 | 1 | 2 => simpa using hu
    | i + 3 => simp at hu
  | 1 =>
    obtain rfl : y = p := by simpa using hj
    match i with
    | 0 | 1 | 2 => simpa using hu
    | i + 3 => simp at hu
  | 2 =>
    obtain rfl : z = p := by simpa using hj
    match i with
    | 0 | 1 | 2 => simpa using hu
    | i + 3 => simp at hu
  | j + 3 => simp at hj
theorem lit3 (W : World) (x y z : S44) : Kd.C k44 (W.alloc (.cells #[.bool x.f0, .int .i64 x.f1, .string x.f2, .bool y.f0, .int .i64 y.f1, .string y.f2, .bool z.f0, .int .i64 z.f1, .string z.f2] 44)) (some ⟨W.heap.size, 0, none⟩) [x, y, z].length [x, y, z] := lit3g x y z (heap_alloc_new W _)
end Go.Proofs.YtejmgcfjpofniaaGreatDoor.XLine
