/- What the laid package variables hold, as the walks want it; it stays where nothing below the heap's end is written. -/
import Derived.Test.YtmkkbkbfhjndcaaDoorProg
import Derived.Test.YtmkkbkbfhjndcaaDoorWWords
import Derived.Lib.LaidTab
import Derived.Lib.SmallJoins
import Derived.Lib.ItoaNum
set_option linter.unusedVariables false
set_option linter.unusedSimpArgs false
namespace Go.Proofs.YtmkkbkbfhjndcaaDoorW.PrintMore
open Go.RowKit Go.Proofs Go.Proofs.YtmkkbkbfhjndcaaDoorW.PrintWords
theorem g_pow10 : Tryd.prog.globalNamed "internal/strconv.uint64pow10" = some 0 := by kernel_rfl
structure Tabs (w : World) : Prop where
  pow10 : Lib.TabIs Tryd.prog w "internal/strconv.uint64pow10" .u64 Lib.pow10Tab
theorem Tabs.below {w w' : World} (h : Tabs w) (hb : Below w.heap.size w w') : Tabs w' := by
  exact ⟨Go.Joins.tab_stays g_pow10 h.pow10 hb (Nat.le_refl _)⟩
theorem Tabs.of_laid {W : World} (h : laidMet Tryd.prog [("internal/strconv.uint64pow10", Lib.tabData .u64 Lib.pow10Tab)] W) : Tabs W :=
  ⟨Lib.tabIs_of_head g_pow10 (t := 160) (e := 110) (n := 20) (by kernel_rfl) Tryd.underlying160 Tryd.underlying110 (by kernel_rfl) (by kernel_rfl) h⟩
end Go.Proofs.YtmkkbkbfhjndcaaDoorW.PrintMore
