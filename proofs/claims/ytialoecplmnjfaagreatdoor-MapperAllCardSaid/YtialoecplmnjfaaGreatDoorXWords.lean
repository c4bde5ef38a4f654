/- field.Words: the closure that tells blanks, and the library's FieldsFunc at it. -/
import Derived.Test.YtialoecplmnjfaaGreatDoorXA
import Derived.Shelf.Strings.FieldsFuncAny
set_option linter.unusedVariables false
set_option linter.unusedSimpArgs false
set_option linter.unusedSectionVars false
namespace Go.Proofs.YtialoecplmnjfaaGreatDoor.XWords
open Go.RowKit Go.Lib Go.Sort Go.Proofs Go.Proofs.YtialoecplmnjfaaGreatDoorW.PrintWords Go.Proofs.YtialoecplmnjfaaGreatDoorW.PrintLast Go.Proofs.YtialoecplmnjfaaGreatDoorW.PrintMore
def blankR (x : Nat) : Bool := x == 32 || x == 9 || x == 10 || x == 13
set_option maxHeartbeats 1000000 in
theorem blank_pays (w : World) : PredAtRunes Tryz.prog 28 #[] blankR w := by
 intro W x hx hb
 show Calls Tryz.prog 28 #[.int .i32 (x : Int)] W _
 have key : ∀ c : Nat, ((x : Int) = (c : Int)) ↔ x = c := fun c => by omega
 by_cases h1 : x = 32
 ·subst h1
  go_enter Tryz.func28, Tryz.ntmps28
  go_wp2
  go_ret
  exact ⟨rfl, 0, rfl⟩
 ·by_cases h2 : x = 9
  ·subst h2
   go_enter Tryz.func28, Tryz.ntmps28
   go_wp2
   go_ret
   exact ⟨rfl, 0, rfl⟩
  ·by_cases h3 : x = 10
   ·subst h3
    go_enter Tryz.func28, Tryz.ntmps28
    go_wp2
    go_ret
    exact ⟨rfl, 0, rfl⟩
   ·have e : blankR x = (x == 13) := by simp [blankR, h1, h2, h3]
    rw [e]
    have d1 : ((x : Int) == 32) = false := by simp; omega
    have d2 : ((x : Int) == 9) = false := by simp; omega
    have d3 : ((x : Int) == 10) = false := by simp; omega
    have d4 : ((x : Int) == 13) = (x == 13) := by rw [Bool.eq_iff_iff]; simp only [beq_iff_eq]; omega
    have f1 : ¬ (x : Int) = 32 := by omega
    have f2 : ¬ (x : Int) = 9 := by omega
    have f3 : ¬ (x : Int) = 10 := by omega
    go_enter Tryz.func28, Tryz.ntmps28
    go_wp2
    go_ret
    exact ⟨by simp [d4], 0, rfl⟩
theorem words_calls (s : ByteArray) (w : World) (hs : s.size ≤ 4294967296) :
  Calls Tryz.prog 21 #[.string s] w fun e w' => ∃ A, e = .returned (.slice (some ⟨A, 0, none⟩) (Lib.goFieldsP blankR s).length (Lib.goFieldsP blankR s).length) ∧
   w'.ownsRow w.heap.size 9 1 (.slice (some ⟨A, 0, none⟩) (Lib.goFieldsP blankR s).length (Lib.goFieldsP blankR s).length) (Lib.goFieldsP blankR s).length ((Lib.goFieldsP blankR s).map Value.string) ∧ Below w.heap.size w w' := by
 have cF : Calls Tryz.prog 29 #[.string s, .func (.func 28) #[] #[]] w _ := Any.strings_FieldsFunc_runes Tryz.lays229 28 #[] (enters_of Tryz.func28 (by kernel_rfl) rfl) blankR s w hs (blank_pays w) (by kernel_rfl) (by kernel_rfl)
 generalize Lib.goFieldsP blankR s = FS at cF ⊢
 go_enter Tryz.func21, Tryz.ntmps21
 go_wp2_with (go_at_call 29; refine cF.mono ?_; rintro e w' ⟨A, rfl, hA, hown, hb⟩)
 go_ret
 exact ⟨A, rfl, hown, hb⟩
end Go.Proofs.YtialoecplmnjfaaGreatDoor.XWords
