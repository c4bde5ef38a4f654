/- Words for laws that go straight on: struct variables in blocks of their own, and value.Do over a row of them. -/
import Derived.Test.YtnodgcakmolleaaGreatDoorPXx0
import Derived.Test.YtnodgcakmolleaaGreatDoorXDo
set_option linter.unusedVariables false
set_option linter.unusedSimpArgs false
namespace Go.Proofs.YtnodgcakmolleaaGreatDoor.XLine
open Go.RowKit Go.Proofs Go.Proofs.YtnodgcakmolleaaGreatDoorW.PrintWords Go.Proofs.YtnodgcakmolleaaGreatDoorW.PrintLast Go.Proofs.YtnodgcakmolleaaGreatDoorW.PrintMore Go.Proofs.YtnodgcakmolleaaGreatDoor.PX
def At (W : World) (g : Nat) (x : S32) : Prop := W.heap[g]? = some (.cells #[.bool x.f0, .int .i64 x.f1, .string x.f2] 32 (0, 0))
theorem At.then_ {W W' : World} {g : Nat} {x : S32} (h : At W g x) (hb : Below W.heap.size W W') : At W' g x := (hb.block _ (blk_lt h)).trans h
theorem At.alloc {W : World} {g : Nat} {x : S32} (h : At W g x) (o : Obj) : At (W.alloc o) g x := (heap_alloc_old W o (blk_lt h)).trans h
theorem At.drew {W : World} {g : Nat} {x : S32} (h : At W g x) : At W.drew g x := h
theorem At.c0 {W : World} {g : Nat} {x : S32} (h : At W g x) : W.cell? ⟨g, 0, none⟩ = some (.bool x.f0) := (blk_cell h 0).trans rfl
theorem At.c1 {W : World} {g : Nat} {x : S32} (h : At W g x) : W.cell? ⟨g, 1, none⟩ = some (.int .i64 x.f1) := (blk_cell h 1).trans rfl
theorem At.c2 {W : World} {g : Nat} {x : S32} (h : At W g x) : W.cell? ⟨g, 2, none⟩ = some (.string x.f2) := (blk_cell h 2).trans rfl
end Go.Proofs.YtnodgcakmolleaaGreatDoor.XLine
