/- Plain words for the pure statements: rounds, bytes, first places. -/
import Derived.Test.YtialoecplmnjfaaGreatDoorWALL
import Derived.Lib.Bytealg
import Derived.Lib.Bytes
import Derived.Laws.Strings
import Derived.Test.YtialoecplmnjfaaGreatDoorPXx
import Derived.Sort.Walk0
import Derived.Lib.AtoiAllCases
import Derived.Lib.AtoiTie
import Derived.Lib.ItoaLen
import Derived.Lib.IndexLaws
import Derived.Lib.IndexMore
set_option linter.unusedVariables false
set_option linter.unusedSimpArgs false
namespace Go.Proofs.YtialoecplmnjfaaGreatDoorW.PrintWords
theorem Ev.succ {α : Type} {g : Nat → Option α} {r : α} (h : Ev (fun k => g (k + 1)) r) : Ev g r := Ev.step (fun _ => rfl) h
theorem Ev.const {α : Type} {x : Option α} {r : α} (h : x = some r) : Ev (fun _ => x) r := ⟨0, fun _ _ => h⟩
theorem Ev.ret {α : Type} {x r : α} (h : x = r) : Ev (fun _ => some x) r := ⟨0, fun _ _ => by rw [h]⟩
theorem Ev.at_k {α : Type} {g : Nat → Option α} {r : α} (K : Nat) (hm : ∀ k, LeO (g k) (g (k + 1))) (h : g K = some r) : Ev g r := Ev.of hm h
theorem Ev.to {α : Type} {g : Nat → Option α} {r r' : α} (h : Ev g r) (e : r = r') : Ev g r' := e ▸ h
end Go.Proofs.YtialoecplmnjfaaGreatDoorW.PrintWords
namespace Go.Proofs.YtialoecplmnjfaaGreatDoorL
open Go.RowKit Go.Proofs.YtialoecplmnjfaaGreatDoorW.PrintWords
theorem wrap_id {x : Int} (h0 : -9223372036854775808 ≤ x) (h1 : x ≤ 9223372036854775807) : wrap64 x = x := by
  unfold wrap64
  omega
theorem wrap_succ {i : Nat} (h : i < 4611686018427387904) : wrap64 ((i : Int) + 1) = ((i + 1 : Nat) : Int) := by
  rw [wrap_id (by omega) (by omega)]
  omega
theorem wf_i64 {x : Int} (h : (Lit.int .i64 x).wf = true) : -9223372036854775808 ≤ x ∧ x ≤ 9223372036854775807 := by
  simpa [Lit.wf, IntKind.min, IntKind.max, IntKind.signed, IntKind.bits] using h
def Bytes (l : List Int) : Prop := ∀ x ∈ l, 0 ≤ x ∧ x ≤ 255
theorem Bytes.nil : Bytes [] := fun _ h => by cases h
theorem Bytes.append {a b : List Int} (h : Bytes a) (k : Bytes b) : Bytes (a ++ b) := fun x hx => (List.mem_append.1 hx).elim (h x) (k x)
theorem Bytes.take {a : List Int} (h : Bytes a) (n : Nat) : Bytes (a.take n) := fun x hx => h x (List.mem_of_mem_take hx)
theorem Bytes.drop {a : List Int} (h : Bytes a) (n : Nat) : Bytes (a.drop n) := fun x hx => h x (List.mem_of_mem_drop hx)
theorem Bytes.cons {a : Int} {b : List Int} (h : 0 ≤ a ∧ a ≤ 255) (k : Bytes b) : Bytes (a :: b) := fun x hx => (List.mem_cons.1 hx).elim (fun e => e ▸ h) (k x)
theorem toList_data (s : ByteArray) : s.toList = s.data.toList := ByteArray.toList_eq s
theorem toList_inj {a b : ByteArray} : a.toList = b.toList ↔ a = b := by
  rw [toList_data, toList_data]
  constructor
  · intro h
    exact ByteArray.ext (Array.toList_inj.1 h)
  · rintro rfl
    rfl
theorem rd_nat (l : List Int) (i : Nat) : rd l (i : Int) = l.getD i 0 := by unfold rd; simp
theorem rdOf_nat {α : Type} (d : α) (l : List α) (i : Nat) : rdOf d l (i : Int) = l.getD i d := by unfold rdOf; simp
end Go.Proofs.YtialoecplmnjfaaGreatDoorL
namespace Go.Proofs.YtialoecplmnjfaaGreatDoorL
open Go.RowKit Go.Proofs Go.Proofs.YtialoecplmnjfaaGreatDoor Go.Proofs.YtialoecplmnjfaaGreatDoor.PX Go.Proofs.YtialoecplmnjfaaGreatDoorW.PrintWords Go.Proofs.YtialoecplmnjfaaGreatDoorW.PrintMore
def kk (o : Int) : ByteArray × ByteArray :=
  if o = 4 ∨ o = 5 ∨ o = 6 ∨ o = 7 ∨ o = 8 then (⟨#[110, 110]⟩, ⟨#[110]⟩) else if o = 9 then (⟨#[116, 116]⟩, ⟨#[116]⟩) else if o = 10 ∨ o = 18 ∨ o = 20 then (⟨#[116]⟩, ⟨#[110]⟩)
  else if o = 11 then (⟨#[116, 110, 110]⟩, ⟨#[116]⟩) else if o = 12 ∨ o = 13 then (⟨#[116]⟩, ⟨#[116]⟩) else if o = 14 ∨ o = 15 then (⟨#[97, 97]⟩, ⟨#[110]⟩)
  else if o = 16 then (⟨#[110]⟩, ⟨#[110]⟩) else if o = 17 then (⟨#[110, 97, 97]⟩, ⟨#[97]⟩) else if o = 19 then (⟨#[110]⟩, ⟨#[116]⟩) else if o = 21 then (⟨#[116, 116]⟩, ⟨#[110]⟩) else (⟨#[]⟩, ⟨#[]⟩)
theorem op_cases (o : Int) : o = 4 ∨ o = 5 ∨ o = 6 ∨ o = 7 ∨ o = 8 ∨ o = 9 ∨ o = 10 ∨ o = 11 ∨ o = 12 ∨ o = 13 ∨ o = 14 ∨ o = 15 ∨ o = 16 ∨ o = 17 ∨ o = 18 ∨ o = 19 ∨ o = 20 ∨ o = 21 ∨ (o ≠ 4 ∧ o ≠ 5 ∧ o ≠ 6 ∧ o ≠ 7 ∧ o ≠ 8 ∧ o ≠ 9 ∧ o ≠ 10 ∧ o ≠ 11 ∧ o ≠ 12 ∧ o ≠ 13 ∧ o ≠ 14 ∧ o ≠ 15 ∧ o ≠ 16 ∧ o ≠ 17 ∧ o ≠ 18 ∧ o ≠ 19 ∧ o ≠ 20 ∧ o ≠ 21) := by omega
theorem op_none {o : Int} (h : o ≠ 4 ∧ o ≠ 5 ∧ o ≠ 6 ∧ o ≠ 7 ∧ o ≠ 8 ∧ o ≠ 9 ∧ o ≠ 10 ∧ o ≠ 11 ∧ o ≠ 12 ∧ o ≠ 13 ∧ o ≠ 14 ∧ o ≠ 15 ∧ o ≠ 16 ∧ o ≠ 17 ∧ o ≠ 18 ∧ o ≠ 19 ∧ o ≠ 20 ∧ o ≠ 21) : XOps.opFn o = none := by
  obtain ⟨h4, h5, h6, h7, h8, h9, h10, h11, h12, h13, h14, h15, h16, h17, h18, h19, h20, h21⟩ := h
  simp only [XOps.opFn, h4, h5, h6, h7, h8, h9, h10, h11, h12, h13, h14, h15, h16, h17, h18, h19, h20, h21, if_false]
end Go.Proofs.YtialoecplmnjfaaGreatDoorL
namespace Go.Proofs.YtialoecplmnjfaaGreatDoorL
open Go.RowKit Go.Proofs Go.Proofs.YtialoecplmnjfaaGreatDoor Go.Proofs.YtialoecplmnjfaaGreatDoor.PX Go.Proofs.YtialoecplmnjfaaGreatDoorW.PrintWords Go.Proofs.YtialoecplmnjfaaGreatDoorW.PrintMore Go.Proofs.YtialoecplmnjfaaGreatDoor.XCheck
abbrev May : Ins → Bool := check_Stack.may
theorem mx_ge' (a b : Int) : a ≤ mx a b ∧ b ≤ mx a b := by unfold mx; split <;> omega
theorem push_ok {x : List Bool × Int} {t : Bool} (h : ¬ x.1.length = 30) : pushP x t = ((x.1 ++ [t], mx x.2 ((x.1.length : Int) + 1)), 0) := by
  unfold pushP
  rw [if_neg h]
theorem push_full {x : List Bool × Int} {t : Bool} (h : x.1.length = 30) : pushP x t = (x, 13) := by
  unfold pushP
  rw [if_pos h]
theorem step_plain {fold : List Bool} {x : List Bool × Int} {o : Int} (c : ¬ 22 ≤ o) (c2 : ¬ 0 < XOps.arityF o) : stepP fold x o = pushP x (decide (o = 1) || decide (o = 2)) := by
  unfold stepP plainP
  rw [if_neg c, if_neg c2]
theorem step_done {fold : List Bool} {x : List Bool × Int} {o : Int} (c : ¬ 22 ≤ o) (c2 : 0 < XOps.arityF o) : stepP fold x o = doneP x o := by
  unfold stepP
  rw [if_neg c, if_pos c2]
theorem step_given {fold : List Bool} {x : List Bool × Int} {o : Int} (c : 22 ≤ o) : stepP fold x o = givenP fold x o := by
  unfold stepP
  rw [if_pos c]
theorem push_most {x : List Bool × Int} {t : Bool} : x.2 ≤ (pushP x t).1.2 ∧ ((pushP x t).2 = 0 → ((pushP x t).1.1.length : Int) ≤ (pushP x t).1.2) := by
  by_cases c : x.1.length = 30
  · rw [push_full c]
    exact ⟨Int.le_refl _, fun h => by cases h⟩
  · rw [push_ok c]
    have := mx_ge' x.2 ((x.1.length : Int) + 1)
    refine ⟨this.1, fun _ => ?_⟩
    simp only [List.length_append, List.length_cons, List.length_nil]
    omega
theorem step_err {fold : List Bool} {x : List Bool × Int} {o : Int} (hx : x.1.length ≤ 30) (h : (stepP fold x o).2 ≠ 0) : (stepP fold x o).1 = x := by
  have hp : ∀ t, (pushP x t).2 ≠ 0 → (pushP x t).1 = x := fun t h => by
    by_cases c : x.1.length = 30
    · rw [push_full c]
    · rw [push_ok c] at h; exact absurd rfl h
  by_cases c : 22 ≤ o
  · rw [step_given c] at h ⊢
    unfold givenP at h ⊢
    by_cases c2 : fold.length = 0
    · rw [if_pos c2]
    · rw [if_neg c2] at h ⊢; exact hp _ h
  · by_cases c2 : 0 < XOps.arityF o
    · rw [step_done c c2] at h ⊢
      unfold doneP at h ⊢
      by_cases c3 : (x.1.length : Int) < XOps.arityF o
      · rw [if_pos c3]
      · rw [if_neg c3] at h ⊢
        by_cases c4 : (XOps.resultF o (x.1.drop (x.1.length - (XOps.arityF o).toNat))).2 ≠ 0
        · rw [if_pos c4]
        · rw [if_neg c4] at h
          rw [push_ok (by simp only [List.length_take]; omega)] at h
          exact absurd rfl h
    · rw [step_plain c c2] at h ⊢; exact hp _ h
theorem step_most {fold : List Bool} {x : List Bool × Int} {o : Int} (h : (stepP fold x o).2 = 0) : x.2 ≤ (stepP fold x o).1.2 ∧ ((stepP fold x o).1.1.length : Int) ≤ (stepP fold x o).1.2 := by
  by_cases c : 22 ≤ o
  · rw [step_given c] at h ⊢
    unfold givenP at h ⊢
    by_cases c2 : fold.length = 0
    · rw [if_pos c2] at h; cases h
    · rw [if_neg c2] at h ⊢; exact ⟨push_most.1, push_most.2 h⟩
  · by_cases c2 : 0 < XOps.arityF o
    · rw [step_done c c2] at h ⊢
      unfold doneP at h ⊢
      by_cases c3 : (x.1.length : Int) < XOps.arityF o
      · rw [if_pos c3] at h; cases h
      · rw [if_neg c3] at h ⊢
        by_cases c4 : (XOps.resultF o (x.1.drop (x.1.length - (XOps.arityF o).toNat))).2 ≠ 0
        · rw [if_pos c4] at h; exact absurd h c4
        · rw [if_neg c4] at h ⊢
          exact ⟨push_most.1, push_most.2 h⟩
    · rw [step_plain c c2] at h ⊢; exact ⟨push_most.1, push_most.2 h⟩
theorem run_no {fold : List Bool} {a : Ins} {r : List Ins} {i : Nat} {x : List Bool × Int} (h : May a = false) : runP May fold (a :: r) i x = (x, (i : Int), 1) := by
  conv => lhs; unfold runP
  rw [if_pos h]
theorem run_bad {fold : List Bool} {a : Ins} {r : List Ins} {i : Nat} {x : List Bool × Int} (h : May a = true) (h2 : (stepP fold x a.f0).2 ≠ 0) : runP May fold (a :: r) i x = ((stepP fold x a.f0).1, (i : Int), (stepP fold x a.f0).2) := by
  conv => lhs; unfold runP
  rw [if_neg (by rw [h]; simp), if_pos h2]
theorem run_go {fold : List Bool} {a : Ins} {r : List Ins} {i : Nat} {x : List Bool × Int} (h : May a = true) (h2 : (stepP fold x a.f0).2 = 0) : runP May fold (a :: r) i x = runP May fold r (i + 1) (stepP fold x a.f0).1 := by
  conv => lhs; unfold runP
  rw [if_neg (by rw [h]; simp), if_neg (by rw [h2]; decide)]
theorem run_all (fold : List Bool) : ∀ (p : List Ins) (i : Nat) (x : List Bool × Int), x.1.length ≤ 30 → ∃ j, j ≤ p.length ∧ (runP May fold p i x).2.1 = ((i + j : Nat) : Int) ∧ ((runP May fold p i x).2.2 = 0 ↔ j = p.length) ∧
    (∀ q, q ≤ j → (runP May fold (p.take q) i x).2 = (((i + q : Nat) : Int), 0)) ∧ (runP May fold (p.take j) i x).1 = (runP May fold p i x).1 ∧ (runP May fold p i x).1.1.length ≤ 30 ∧ x.2 ≤ (runP May fold p i x).1.2 ∧ ((x.1.length : Int) ≤ x.2 → ((runP May fold p i x).1.1.length : Int) ≤ (runP May fold p i x).1.2)
  | [], i, x, hx => by
    refine ⟨0, Nat.le_refl _, rfl, ⟨fun _ => rfl, fun _ => rfl⟩, fun q hq => ?_, rfl, hx, Int.le_refl _, fun h => h⟩
    obtain rfl : q = 0 := by omega
    rfl
  | a :: r, i, x, hx => by
    have zero : ∀ q, q ≤ 0 → (runP May fold ((a :: r).take q) i x).2 = (((i + q : Nat) : Int), 0) := fun q hq => by
      obtain rfl : q = 0 := by omega
      rfl
    rcases hm : May a with _ | _
    · rw [run_no hm]
      exact ⟨0, Nat.zero_le _, rfl, ⟨(fun h => by cases h), (fun h => by simp at h)⟩, zero, rfl, hx, Int.le_refl _, fun h => h⟩
    · by_cases h2 : (stepP fold x a.f0).2 = 0
      · rw [run_go hm h2]
        obtain ⟨j, h3, h4, h5, h6, h7, h8, h9, h10⟩ := run_all fold r (i + 1) (stepP fold x a.f0).1 (stepP_len hx)
        have hs := step_most h2
        refine ⟨j + 1, by simp; omega, by rw [h4]; omega, by rw [h5]; simp, fun q hq => ?_, ?_, h8, by omega, fun _ => h10 hs.2⟩
        · rcases q with _ | q
          · rfl
          · rw [List.take_succ_cons, run_go hm h2, h6 q (by omega)]
            congr 1
            omega
        · rw [List.take_succ_cons, run_go hm h2]
          exact h7
      · rw [run_bad hm h2, step_err hx h2]
        exact ⟨0, Nat.zero_le _, rfl, ⟨(fun h => absurd h h2), (fun h => by simp at h)⟩, zero, rfl, hx, Int.le_refl _, fun h => h⟩
end Go.Proofs.YtialoecplmnjfaaGreatDoorL
namespace Go.Proofs.YtialoecplmnjfaaGreatDoorL
open Go.RowKit Go.Proofs Go.Proofs.YtialoecplmnjfaaGreatDoor Go.Proofs.YtialoecplmnjfaaGreatDoor.PX Go.Proofs.YtialoecplmnjfaaGreatDoorW.PrintWords Go.Proofs.YtialoecplmnjfaaGreatDoorW.PrintMore Go.Proofs.YtialoecplmnjfaaGreatDoor.XCheck
theorem isOp_f (o : Int) : code_isOp.f o = some (decide (0 ≤ o ∧ o ≤ 23)) := by
  have hA : value_Arity.f o = some (XOps.arityF o) := rfl
  unfold code_isOp.f
  rw [hA]
  simp only [Option.bind_some]
  rcases op_cases o with rfl | rfl | rfl | rfl | rfl | rfl | rfl | rfl | rfl | rfl | rfl | rfl | rfl | rfl | rfl | rfl | rfl | rfl | hn
  case inr.inr.inr.inr.inr.inr.inr.inr.inr.inr.inr.inr.inr.inr.inr.inr.inr.inr =>
    have h0 : XOps.arityF o = 0 := by
      unfold XOps.arityF
      rw [op_none hn]
    rw [h0]
    by_cases c : o ≥ 0
    · rw [if_pos c]
      by_cases c3 : o ≤ 3
      · rw [if_pos c3, decide_eq_true (by omega)]
      · rw [if_neg c3]
        by_cases c22 : o = 22
        · rw [if_pos c22, decide_eq_true (by omega)]
        · rw [if_neg c22]
          by_cases c23 : o = 23
          · rw [if_pos c23, decide_eq_true (by omega)]
          · rw [if_neg c23, decide_eq_false (show ¬ (0 ≤ o ∧ o ≤ 23) by omega)]
            rfl
    · rw [if_neg c, if_neg (by omega), if_neg (by omega), decide_eq_false (show ¬ (0 ≤ o ∧ o ≤ 23) by omega)]
      rfl
  all_goals rfl
end Go.Proofs.YtialoecplmnjfaaGreatDoorL
namespace Go.Proofs.YtialoecplmnjfaaGreatDoorL
open Go.RowKit Go.Proofs Go.Proofs.YtialoecplmnjfaaGreatDoor Go.Proofs.YtialoecplmnjfaaGreatDoor.PX Go.Proofs.YtialoecplmnjfaaGreatDoorW.PrintWords Go.Proofs.YtialoecplmnjfaaGreatDoorW.PrintMore Go.Proofs.YtialoecplmnjfaaGreatDoor.XCheck
theorem equal_go (a b : List Bool) (hl : a.length = b.length) (hs : a.length < 1000) : ∀ m i : Nat, i + m = a.length → Ev (fun k => slices_Equal_bool_bool.l0 k a b (a.length : Int) (i : Int)) (decide (a.drop i = b.drop i))
  | 0, i, hi => by
    refine Ev.succ ?_
    simp only [slices_Equal_bool_bool.l0, if_neg (show ¬ (i : Int) < (a.length : Int) by omega)]
    refine Ev.ret ?_
    rw [List.drop_of_length_le (by omega), List.drop_of_length_le (by omega)]
    rfl
  | m + 1, i, hi => by
    have h1 : i < a.length := by omega
    have h2 : i < b.length := by omega
    have ea : a.drop i = a[i] :: a.drop (i + 1) := List.drop_eq_getElem_cons h1
    have eb : b.drop i = b[i] :: b.drop (i + 1) := List.drop_eq_getElem_cons h2
    have ra : rdOf false a (i : Int) = a[i] := by rw [rdOf_nat, List.getD_eq_getElem?_getD, List.getElem?_eq_getElem h1]; rfl
    have rb : rdOf false b (i : Int) = b[i] := by rw [rdOf_nat, List.getD_eq_getElem?_getD, List.getElem?_eq_getElem h2]; rfl
    refine Ev.succ ?_
    simp only [slices_Equal_bool_bool.l0, if_pos (show (i : Int) < (a.length : Int) by omega), if_pos (show (0 : Int) ≤ (i : Int) by omega), if_pos (show (i : Int) < (b.length : Int) by omega), ra, rb, wrap_succ (i := i) (by omega)]
    by_cases c : a[i] = b[i]
    · have : (a[i] != b[i]) = false := by simp [c]
      simp only [this, Bool.false_eq_true, if_false]
      refine (equal_go a b hl hs m (i + 1) (by omega)).to ?_
      have h3 : (a.drop i = b.drop i) ↔ (a.drop (i + 1) = b.drop (i + 1)) := by
        rw [ea, eb, List.cons.injEq]
        exact ⟨fun h => h.2, fun h => ⟨c, h⟩⟩
      exact decide_eq_decide.2 h3.symm
    · have : (a[i] != b[i]) = true := by simp [c]
      simp only [this, if_true]
      refine Ev.ret ?_
      symm
      refine decide_eq_false ?_
      rw [ea, eb, List.cons.injEq]
      exact fun h => c h.1
theorem equal_f (a b : List Bool) (hs : a.length < 1000) : Ev (fun k => slices_Equal_bool_bool.f k a b) (decide (a = b)) := by
  unfold slices_Equal_bool_bool.f
  by_cases c : a.length = b.length
  · simp only [if_pos (show (a.length : Int) = (b.length : Int) by omega)]
    exact equal_go a b c hs a.length 0 (by omega)
  · simp only [if_neg (show ¬ (a.length : Int) = (b.length : Int) by omega)]
    refine Ev.ret ?_
    symm
    exact decide_eq_false fun e => c (by rw [e])
theorem stack_len (p : List Ins) (fold : List Bool) : (stackP May p fold).1.length ≤ 30 := by
  unfold stackP
  split
  · decide
  · split
    · decide
    · obtain ⟨_, _, _, _, _, _, h, _⟩ := run_all fold p 0 ([], 0) (by decide)
      exact h
def checkP (p : List Ins) (fold want : List Bool) : Int := if (stackP May p fold).2.2 = 0 then (if (stackP May p fold).1 = want then 0 else 11) else (stackP May p fold).2.2
theorem check_f (p : List Ins) (fold want : List Bool) : Ev (fun k => check_Check.f k p fold want) (checkP p fold want) := by
  unfold check_Check.f
  have hl := stack_len p fold
  have hS : check_Stack.f p fold = some (stackP May p fold) := rfl
  obtain ⟨st, hst⟩ : ∃ st, stackP May p fold = st := ⟨_, rfl⟩
  simp only [hS, Option.bind_some]
  unfold checkP
  rw [hst] at hl ⊢
  rcases st with ⟨s, n, er⟩
  simp only at hl ⊢
  by_cases c : er = 0
  · simp only [if_pos c]
    refine Ev.bind (equal_f s want (by omega)) ?_
    by_cases c2 : s = want
    · simp only [decide_eq_true c2, if_true, if_pos c2]
      exact Ev.ret (by rw [c])
    · simp only [decide_eq_false c2, Bool.false_eq_true, if_false, if_neg c2]
      exact Ev.now _
  · simp only [if_neg c]
    exact Ev.now _
end Go.Proofs.YtialoecplmnjfaaGreatDoorL
namespace Go.Proofs.YtialoecplmnjfaaGreatDoorL
open Go.RowKit Go.Proofs Go.Proofs.YtialoecplmnjfaaGreatDoor Go.Proofs.YtialoecplmnjfaaGreatDoor.PX Go.Proofs.YtialoecplmnjfaaGreatDoorW.PrintWords Go.Proofs.YtialoecplmnjfaaGreatDoorW.PrintMore
def cI (a b : Int) : Int := if a < b then -1 else if a > b then 1 else 0
def cS (a b : ByteArray) : Int := if Op.bytesLess a.toList b.toList = true then -1 else if Op.bytesLess b.toList a.toList = true then 1 else 0
def orI (x y z : Int) : Int := if x = 0 then (if y = 0 then z else y) else x
def kd (a b : Bool) : Int := if a = true then (if b = true then 0 else 1) else (if b = true then -1 else 0)
def cmpV (x y : XOps.Sv) : Int := orI (kd x.f0 y.f0) (cI x.f1 y.f1) (cS x.f2 y.f2)
theorem cmpInt (a b : Int) : cmp_Compare_int.f a b = some (cI a b) := by
  have h1 : (a != a) = false := by simp
  have h2 : (b != b) = false := by simp
  simp only [cmp_Compare_int.f, cmp_isNaN_int.f, Option.bind_some, h1, h2, cI, Bool.false_eq_true, if_false]
  split
  · rfl
  · split <;> rfl
theorem cmpStr (a b : ByteArray) : cmp_Compare_string.f a b = some (cS a b) := by
  have h1 : (a.toList != a.toList) = false := by simp
  have h2 : (b.toList != b.toList) = false := by simp
  simp only [cmp_Compare_string.f, cmp_isNaN_string.f, Option.bind_some, h1, h2, cS, Bool.false_eq_true, if_false]
  split
  · rfl
  · split <;> rfl
theorem or3 (x y z : Int) : Ev (fun k => cmp_Or_int.f k [x, y, z]) (orI x y z) := by
  refine Ev.at_k 5 (fun k => cmp_Or_int.mono _ k) ?_
  have w1 : wrap64 (0 + 1) = 1 := wrap_id (by decide) (by decide)
  have w2 : wrap64 (1 + 1) = 2 := wrap_id (by decide) (by decide)
  have w3 : wrap64 (2 + 1) = 3 := wrap_id (by decide) (by decide)
  have r0 : rd [x, y, z] 0 = x := rfl
  have r1 : rd [x, y, z] 1 = y := rfl
  have r2 : rd [x, y, z] 2 = z := rfl
  have hl : (([x, y, z] : List Int).length : Int) = 3 := rfl
  simp only [cmp_Or_int.f, cmp_Or_int.l0, hl, r0, r1, r2, w1, w2, w3, orI]
  by_cases hx : x = 0
  · by_cases hy : y = 0
    · by_cases hz : z = 0
      · simp [hx, hy, hz, r0, r1, r2]
      · simp [hx, hy, hz]
    · simp [hx, hy]
  · simp [hx]
theorem compare (x y : XOps.Sv) : Ev (fun k => value_Compare.f k x.f0 x.f1 x.f2 y.f0 y.f1 y.f2) (cmpV x y) := by
  obtain ⟨a0, a1, a2⟩ := x
  obtain ⟨b0, b1, b2⟩ := y
  have h : ∀ q : Int, Ev (fun k => (cmp_Compare_int.f a1 b1).bind fun t => (cmp_Compare_string.f a2 b2).bind fun u => (cmp_Or_int.f k [q, t, u]).bind fun r => some r) (orI q (cI a1 b1) (cS a2 b2)) := fun q => by
    simp only [cmpInt, cmpStr, Option.bind_some, Option.bind_fun_some]
    exact or3 _ _ _
  cases a0 <;> cases b0
  · refine Ev.succ ?_
    simp only [value_Compare.f, value_Compare.j0, Bool.false_eq_true, if_false]
    refine Ev.succ ?_
    simp only [value_Compare.j1, Bool.false_eq_true, if_false]
    exact h 0
  · refine Ev.succ ?_
    simp only [value_Compare.f, value_Compare.j0, Bool.false_eq_true, if_false]
    refine Ev.succ ?_
    simp only [value_Compare.j1, if_true]
    exact h (-1)
  · refine Ev.succ ?_
    simp only [value_Compare.f, value_Compare.j0, if_true, Bool.not_false]
    exact h 1
  · refine Ev.succ ?_
    simp only [value_Compare.f, value_Compare.j0, if_true, Bool.not_true, Bool.false_eq_true, if_false]
    refine Ev.succ ?_
    simp only [value_Compare.j1, Bool.false_eq_true, if_false]
    exact h 0
theorem wraps_u32 (n : Int) (h₀ : 0 ≤ n) (h₁ : n < 2 ^ 32) : IntKind.u32.wrap n = n := by rw [IntKind.wrap_u32]; omega
end Go.Proofs.YtialoecplmnjfaaGreatDoorL
namespace Go.Proofs.YtialoecplmnjfaaGreatDoorL
open Go.RowKit Go.Proofs Go.Proofs.YtialoecplmnjfaaGreatDoor Go.Proofs.YtialoecplmnjfaaGreatDoor.PX Go.Proofs.YtialoecplmnjfaaGreatDoorW.PrintWords Go.Proofs.YtialoecplmnjfaaGreatDoorW.PrintMore
def numV (n : Int) : XOps.Sv := ⟨false, n, ⟨#[]⟩⟩
def clip (s : ByteArray) : ByteArray := s.extract 0 (mn (s.size : Int) 1000).toNat
def textV (s : ByteArray) : XOps.Sv := ⟨true, 0, clip s⟩
def yesV (b : Bool) : XOps.Sv := numV (if b = true then 1 else 0)
def fromS (s : ByteArray) (a : Int) : ByteArray := s.extract (mn (mx a 0) (s.size : Int)).toNat s.size
def sliceS (s : ByteArray) (a b : Int) : ByteArray := (fromS s a).extract 0 (mn (mx b 0) ((fromS s a).size : Int)).toNat
def turnS (f : Int) (s : ByteArray) : ByteArray := strOfNums (XTurn.turnL f (bytesOf s))
def itoaS (n : Int) : ByteArray := ⟨(Lib.itoa n).toArray⟩
def dig (b : UInt8) : Bool := decide (48 ≤ b.toNat ∧ b.toNat ≤ 57)
def magL (l : List UInt8) : Int := (((Lib.decFrom 0 l).getD 0 : Nat) : Int)
def okL (l : List UInt8) : Bool := decide (l ≠ []) && decide (l.length ≤ 18) && l.all dig
def numberL (l : List UInt8) : Int :=
  if l.head? = some 45 then (if okL l.tail = true then -magL l.tail else 0) else (if okL l = true then magL l else 0)
def hashN (x : Int) : List Int → Int
  | [] => x % 2147483648
  | c :: l => hashN (((Go.bits .xor .u32 x (c % 4294967296)) * 16777619) % 4294967296) l
def hashS (s : ByteArray) : Int := hashN 2166136261 (bytesOf s)
def opV (o : Int) (x y z : XOps.Sv) : XOps.Sv :=
  if o = 4 then numV (wrap64 (x.f1 + y.f1)) else if o = 5 then numV (wrap64 (x.f1 - y.f1)) else if o = 6 then numV (wrap64 (x.f1 * y.f1))
  else if o = 7 then numV (if y.f1 = 0 then 0 else wrap64 (Int.tdiv x.f1 y.f1)) else if o = 8 then numV (if y.f1 = 0 then 0 else Int.tmod x.f1 y.f1)
  else if o = 9 then textV (x.f2 ++ y.f2) else if o = 10 then numV (x.f2.size : Int) else if o = 11 then textV (sliceS x.f2 y.f1 z.f1)
  else if o = 12 then textV (turnS 97 x.f2) else if o = 13 then textV (turnS 65 x.f2) else if o = 14 then yesV (cmpV x y == 0) else if o = 15 then yesV (decide (cmpV x y < 0))
  else if o = 16 then yesV (x.f1 == 0) else if o = 17 then (if x.f1 = 0 then z else y) else if o = 18 then numV (numberL x.f2.data.toList) else if o = 19 then textV (itoaS x.f1)
  else if o = 20 then numV (hashS x.f2) else numV (Lib.index x.f2.data.toList y.f2.data.toList)
theorem mn_le (a b : Int) : mn a b ≤ a ∧ mn a b ≤ b := by unfold mn; split <;> omega
theorem mn_ge {a b c : Int} (h : c ≤ a) (k : c ≤ b) : c ≤ mn a b := by unfold mn; split <;> omega
theorem mx_ge (a b : Int) : a ≤ mx a b ∧ b ≤ mx a b := by unfold mx; split <;> omega
theorem num_f (n : Int) : value_Num.f n = some (false, n, (⟨#[]⟩ : ByteArray)) := rfl
theorem text_f (s : ByteArray) : value_Text.f s = some (true, 0, clip s) := by
  unfold value_Text.f
  rw [if_pos (mn_ge (by omega) (by omega)), if_pos (mn_le _ _).1]
  rfl
theorem yes_f (b : Bool) : value_yes.f b = some (false, (if b = true then 1 else 0), (⟨#[]⟩ : ByteArray)) := by cases b <;> rfl
theorem hash_go2 (s : ByteArray) (hs : s.size ≤ 140737488351232) : ∀ (m i : Nat) (x : Int), i + m = s.size → 0 ≤ x → x < 4294967296 → Ev (fun k => value_Hash.l0 k s x (s.size : Int) (i : Int)) (hashN x ((bytesOf s).drop i)) ∧ 0 ≤ hashN x ((bytesOf s).drop i) ∧ hashN x ((bytesOf s).drop i) < 2147483648
  | 0, i, x, hi, h0, h1 => by
    have hb : Go.bits .and .u32 x 2147483647 = x % 2147483648 := bits_mask .u32 32 (by decide) wraps_u32 31 (by decide) x h0 h1
    have hd : (bytesOf s).drop i = [] := List.drop_eq_nil_iff.2 (by rw [bytesOf_length]; omega)
    rw [hd]
    simp only [hashN]
    refine ⟨Ev.succ ?_, by omega, by omega⟩
    simp only [value_Hash.l0, if_neg (show ¬ (i : Int) < (s.size : Int) by omega), hb]
    exact Ev.ret (wrap_id (by omega) (by omega))
  | m + 1, i, x, hi, h0, h1 => by
    have hlt : i < (bytesOf s).length := by rw [bytesOf_length]; omega
    have hd : (bytesOf s).drop i = bt s (i : Int) :: (bytesOf s).drop (i + 1) := by
      rw [List.drop_eq_getElem_cons hlt]
      congr 1
      rw [← rd_bytesOf, rd_nat, List.getD_eq_getElem?_getD, List.getElem?_eq_getElem hlt]
      rfl
    obtain ⟨hr, h2, h3⟩ := hash_go2 s hs m (i + 1) (((Go.bits .xor .u32 x ((bt s (i : Int)) % 4294967296)) * 16777619) % 4294967296) (by omega) (by omega) (by omega)
    rw [hd]
    simp only [hashN]
    refine ⟨Ev.succ ?_, h2, h3⟩
    simp only [value_Hash.l0, if_pos (show (i : Int) < (s.size : Int) by omega), if_pos (show (0 : Int) ≤ (i : Int) by omega), wrap_succ (i := i) (by omega)]
    exact hr
theorem hash_f (s : ByteArray) (hs : s.size ≤ 140737488351232) : Ev (fun k => value_Hash.f k s) (hashS s) ∧ 0 ≤ hashS s ∧ hashS s < 2147483648 :=
  hash_go2 s hs s.size 0 2166136261 (by omega) (by decide) (by decide)
theorem contains_fin : ∀ n : Fin 256, ([48, 49, 50, 51, 52, 53, 54, 55, 56, 57] : List UInt8).contains (UInt8.ofNat n.val) = decide (48 ≤ n.val ∧ n.val ≤ 57) := by decide +kernel
theorem contains_dig (b : UInt8) : ([48, 49, 50, 51, 52, 53, 54, 55, 56, 57] : List UInt8).contains b = dig b := by
  have := contains_fin ⟨b.toNat, b.toNat_lt⟩
  rw [UInt8.ofNat_toNat] at this
  exact this
theorem dropWhile_all {α : Type} {p : α → Bool} {l : List α} (h : l.dropWhile p = []) : ∀ x ∈ l, p x = true := by
  induction l with
  | nil => intro x hx; cases hx
  | cons a l ih =>
    rw [List.dropWhile_cons] at h
    split at h
    · intro x hx
      rcases List.mem_cons.1 hx with rfl | hx
      · assumption
      · exact ih h x hx
    · cases h
theorem all_dropWhile {α : Type} {p : α → Bool} {l : List α} (h : ∀ x ∈ l, p x = true) : l.dropWhile p = [] := by
  induction l with
  | nil => rfl
  | cons a l ih =>
    rw [List.dropWhile_cons, if_pos (h a List.mem_cons_self)]
    exact ih fun x hx => h x (List.mem_cons_of_mem _ hx)
theorem dropWhile_head {α : Type} {p : α → Bool} {l : List α} {a : α} {r : List α} (h : l.dropWhile p = a :: r) : p a = false := by
  induction l with
  | nil => cases h
  | cons b l ih =>
    rw [List.dropWhile_cons] at h
    split at h
    · exact ih h
    · injection h with h1 h2
      subst h1
      simpa using ‹¬ p b = true›
theorem trim_nil (l cs : List UInt8) : Lib.trimS l cs = [] ↔ ∀ x ∈ l, cs.contains x = true := by
  unfold Lib.trimS Lib.trimLeftS Lib.trimRightS
  constructor
  · intro h
    have h1 := dropWhile_all h
    have h2 : l.reverse.dropWhile (cs.contains ·) = [] := by
      rcases hq : l.reverse.dropWhile (cs.contains ·) with _ | ⟨a, r⟩
      · rfl
      · have h3 := dropWhile_head hq
        have h4 := h1 a (by rw [hq]; simp)
        rw [h4] at h3
        cases h3
    intro x hx
    exact dropWhile_all h2 x (by simpa using hx)
  · intro h
    have h2 : l.reverse.dropWhile (cs.contains ·) = [] := all_dropWhile fun x hx => h x (by simpa using hx)
    rw [h2]
    rfl
theorem dec_all {l : List UInt8} (h : l.all dig = true) : ∀ a, ∃ m, Lib.decFrom a l = some m := by
  induction l with
  | nil => intro a; exact ⟨a, rfl⟩
  | cons b r ih =>
    intro a
    simp only [List.all_cons, Bool.and_eq_true] at h
    have hb : Lib.digitVal b = some (b.toNat - 48) := by
      have := h.1
      unfold dig at this
      unfold Lib.digitVal
      rw [if_pos (of_decide_eq_true this)]
    obtain ⟨m, hm⟩ := ih h.2 (a * 10 + (b.toNat - 48))
    exact ⟨m, by simp only [Lib.decFrom, hb]; exact hm⟩
theorem ok_mag {l : List UInt8} (h : okL l = true) : Lib.parseMag l = .ok (magL l).toNat ∧ 0 ≤ magL l ∧ magL l < 1000000000000000000 := by
  unfold okL at h
  simp only [Bool.and_eq_true, decide_eq_true_eq] at h
  obtain ⟨⟨h1, h2⟩, h3⟩ := h
  obtain ⟨m, hm⟩ := dec_all h3 0
  have h4 : magL l = (m : Int) := by unfold magL; rw [hm]; rfl
  have h5 := Lib.decFrom_lt18 hm h2
  refine ⟨?_, by omega, by omega⟩
  rw [Lib.parseMag_short l h2, h4]
  unfold Lib.decNat
  rw [if_neg (by simpa using h1), hm]
  rfl
theorem atoi_minus {r : List UInt8} (h : okL r = true) : Lib.atoiAll (45 :: r) = .ok (-magL r) := by
  obtain ⟨h1, h2, h3⟩ := ok_mag h
  rw [Lib.atoiAll_minus, h1]
  simp only [Lib.signed]
  rw [if_neg (by omega)]
  congr 1 <;> omega
theorem atoi_plain {l : List UInt8} (h : okL l = true) : Lib.atoiAll l = .ok (magL l) := by
  obtain ⟨h1, h2, h3⟩ := ok_mag h
  unfold okL at h
  simp only [Bool.and_eq_true, decide_eq_true_eq] at h
  obtain ⟨⟨k1, k2⟩, k3⟩ := h
  rcases l with _ | ⟨c, r⟩
  · exact absurd rfl k1
  simp only [List.all_cons, Bool.and_eq_true] at k3
  have hc := k3.1
  unfold dig at hc
  have hc := of_decide_eq_true hc
  rw [Lib.atoiAll_plain c r (by omega) (by omega), h1]
  simp only [Lib.signless]
  rw [if_neg (by omega)]
  congr 1 <;> omega
theorem data_extract (s : ByteArray) (a : Nat) : (s.extract a s.size).data.toList = s.data.toList.drop a := by
  rw [Lib.extract_data]
  rw [List.take_of_length_le]
  rw [List.length_drop, data_length]
  exact Nat.le_refl _
theorem prefix_f (s : ByteArray) : strings_TrimPrefix.f s (⟨#[45]⟩ : ByteArray) = some (if s.data.toList.head? = some 45 then s.extract 1 s.size else s) := by
  have h1 : (⟨#[45]⟩ : ByteArray).size = 1 := rfl
  have hl := data_length s
  unfold strings_TrimPrefix.f stringslite_TrimPrefix.f stringslite_HasPrefix.f
  rcases hq : s.data.toList with _ | ⟨c, r⟩
  · rw [hq] at hl
    have hz : s.size = 0 := hl.symm
    rw [h1, hz]
    rfl
  · rw [hq] at hl
    have hz : 1 ≤ s.size := by rw [← hl]; simp
    have he : (s.extract 0 1).toList = [c] := by
      rw [toList_data, Lib.extract_data, hq]
      rfl
    rw [h1, if_pos (show (s.size : Int) ≥ ((1 : Nat) : Int) by omega), if_pos (show (0 : Int) ≤ ((1 : Nat) : Int) by decide), if_pos (show ((1 : Nat) : Int) ≤ (s.size : Int) by omega)]
    simp only [Int.toNat_natCast, he, Option.bind_some]
    have h2 : (⟨#[45]⟩ : ByteArray).toList = [45] := by rw [toList_data]
    rw [h2]
    by_cases hc : c = 45
    · subst hc
      simp only [List.head?_cons, if_true, BEq.rfl]
      rw [if_pos (show (0 : Int) ≤ ((1 : Nat) : Int) by decide), if_pos (show ((1 : Nat) : Int) ≤ (s.size : Int) by omega)]
      rfl
    · have h3 : ([c] == ([45] : List UInt8)) = false := by simp [hc]
      rw [h3]
      simp [hc]
theorem number_f (s : ByteArray) (hs : s.size ≤ 140737488351232) (b0 : Bool) (b1 : Int) (y z : XOps.Sv) : Ev (fun k => value_val_number.f k b0 b1 s y.f0 y.f1 y.f2 z.f0 z.f1 z.f2) (false, numberL s.data.toList, (⟨#[]⟩ : ByteArray)) := by
  have key : ∀ t : ByteArray, t.size ≤ 140737488351232 → (∀ h : okL t.data.toList = true, Lib.atoiAll s.data.toList = .ok (numberL s.data.toList)) → (okL t.data.toList = false → numberL s.data.toList = 0) →
      Ev (fun k => if t.toList = ([] : List UInt8) then (value_val_number.j0 k true b0 b1 s) else (if (t.size : Int) > 18 then (value_val_number.j0 k true b0 b1 s) else ((strings_Trim.f t (⟨#[48, 49, 50, 51, 52, 53, 54, 55, 56, 57]⟩ : ByteArray)).bind fun t246 => (value_val_number.j0 k (t246.toList != ([] : List UInt8)) b0 b1 s)))) (false, numberL s.data.toList, (⟨#[]⟩ : ByteArray)) := by
    intro t ht hok hno
    have bad : okL t.data.toList = false → Ev (fun k => value_val_number.j0 k true b0 b1 s) (false, numberL s.data.toList, (⟨#[]⟩ : ByteArray)) := fun h => by
      rw [hno h]
      refine Ev.succ ?_
      simp only [value_val_number.j0, if_true, num_f, Option.bind_some]
      exact Ev.now _
    have hlen := data_length t
    by_cases h1 : t.toList = ([] : List UInt8)
    · simp only [if_pos h1]
      rw [toList_data] at h1
      refine bad ?_
      rw [h1]; rfl
    · simp only [if_neg h1]
      rw [toList_data] at h1
      by_cases h2 : (t.size : Int) > 18
      · simp only [if_pos h2]
        refine bad ?_
        unfold okL
        have : ¬ t.data.toList.length ≤ 18 := by rw [hlen]; omega
        rw [decide_eq_false this, Bool.and_false, Bool.false_and]
      · simp only [if_neg h2]
        have h3 : strings_Trim.f t (⟨#[48, 49, 50, 51, 52, 53, 54, 55, 56, 57]⟩ : ByteArray) = some ⟨(Lib.trimS t.data.toList [48, 49, 50, 51, 52, 53, 54, 55, 56, 57]).toArray⟩ := by
          unfold strings_Trim.f
          rw [if_pos ⟨by omega, by decide, by decide⟩]
        simp only [h3, Option.bind_some]
        have h4 : (⟨(Lib.trimS t.data.toList [48, 49, 50, 51, 52, 53, 54, 55, 56, 57]).toArray⟩ : ByteArray).toList = Lib.trimS t.data.toList [48, 49, 50, 51, 52, 53, 54, 55, 56, 57] := by rw [toList_data]
        rw [h4]
        by_cases h5 : t.data.toList.all dig = true
        · have h6 : Lib.trimS t.data.toList [48, 49, 50, 51, 52, 53, 54, 55, 56, 57] = [] := (trim_nil _ _).2 fun x hx => by rw [contains_dig]; exact List.all_eq_true.1 h5 x hx
          have h7 : okL t.data.toList = true := by
            unfold okL
            have : t.data.toList.length ≤ 18 := by rw [hlen]; omega
            rw [h5, decide_eq_true h1, decide_eq_true this]
            rfl
          rw [h6]
          refine Ev.succ ?_
          have h8 : strconv_Atoi.f s = some (numberL s.data.toList, none) := by
            unfold strconv_Atoi.f
            rw [if_pos (by omega), hok h7]
          simp only [value_val_number.j0, h8, num_f, Option.bind_some, bne_self_eq_false, Bool.false_eq_true, if_false]
          exact Ev.now _
        · have h6 : (Lib.trimS t.data.toList [48, 49, 50, 51, 52, 53, 54, 55, 56, 57] != []) = true := by
            rw [bne_iff_ne]
            intro h
            refine h5 (List.all_eq_true.2 fun x hx => ?_)
            rw [← contains_dig]
            exact (trim_nil _ _).1 h x hx
          rw [h6]
          refine bad ?_
          unfold okL
          simp only [Bool.not_eq_true] at h5
          rw [h5, Bool.and_false]
  unfold value_val_number.f
  simp only [prefix_f, Option.bind_some]
  rcases hq : s.data.toList with _ | ⟨c, r⟩
  · have : ¬ s.data.toList.head? = some 45 := by rw [hq]; simp
    rw [hq] at this
    simp only [List.head?_nil, if_neg this]
    have hk := key s hs
    rw [hq] at hk
    exact hk (fun h => by cases h) (fun _ => rfl)
  · by_cases hc : c = 45
    · subst hc
      simp only [List.head?_cons, if_true]
      have hx : (s.extract 1 s.size).data.toList = r := by rw [data_extract, hq]; rfl
      have hz : (s.extract 1 s.size).size ≤ 140737488351232 := by rw [← data_length, hx]; have := data_length s; rw [hq] at this; simp at this; omega
      have hk := key (s.extract 1 s.size) hz
      rw [hx, hq] at hk
      refine hk (fun h => ?_) (fun h => ?_)
      · unfold numberL
        rw [if_pos (show (45 :: r : List UInt8).head? = some 45 from rfl)]
        rw [if_pos (show okL (45 :: r : List UInt8).tail = true from h)]
        exact atoi_minus h
      · unfold numberL
        rw [if_pos (show (45 :: r : List UInt8).head? = some 45 from rfl)]
        rw [if_neg (show ¬ okL (45 :: r : List UInt8).tail = true by rw [show okL (45 :: r : List UInt8).tail = false from h]; simp)]
    · have hh : ¬ (c :: r).head? = some 45 := by simp [hc]
      simp only [if_neg hh]
      have hk := key s hs
      rw [hq] at hk
      refine hk (fun h => ?_) (fun h => ?_)
      · unfold numberL
        rw [if_neg hh, if_pos h]
        exact atoi_plain h
      · unfold numberL
        rw [if_neg hh, h]
        rfl
structure Fit (x : XOps.Sv) : Prop where
  size : x.f2.size ≤ 140737488351232
  num : -9223372036854775808 ≤ x.f1 ∧ x.f1 ≤ 9223372036854775807
theorem Ev.map {α β : Type} {g : Nat → Option α} {a : α} (f : α → β) {b : β} (h : Ev g a) (e : f a = b) : Ev (fun k => (g k).map f) b := by
  obtain ⟨K, h⟩ := h
  exact ⟨K, fun k hk => by show (g k).map f = some b; rw [h k hk, ← e]; rfl⟩
def toSv (p : Bool × Int × ByteArray) : XOps.Sv := ⟨p.1, p.2.1, p.2.2⟩
theorem D_add (k : Nat) (x y z : XOps.Sv) : value_Do.D k 76 x y z = (value_val_add.f x.f0 x.f1 x.f2 y.f0 y.f1 y.f2 z.f0 z.f1 z.f2).map toSv := rfl
theorem D_sub (k : Nat) (x y z : XOps.Sv) : value_Do.D k 77 x y z = (value_val_sub.f x.f0 x.f1 x.f2 y.f0 y.f1 y.f2 z.f0 z.f1 z.f2).map toSv := rfl
theorem D_mul (k : Nat) (x y z : XOps.Sv) : value_Do.D k 78 x y z = (value_val_mul.f x.f0 x.f1 x.f2 y.f0 y.f1 y.f2 z.f0 z.f1 z.f2).map toSv := rfl
theorem D_div (k : Nat) (x y z : XOps.Sv) : value_Do.D k 79 x y z = (value_val_div.f x.f0 x.f1 x.f2 y.f0 y.f1 y.f2 z.f0 z.f1 z.f2).map toSv := rfl
theorem D_mod (k : Nat) (x y z : XOps.Sv) : value_Do.D k 80 x y z = (value_val_mod.f x.f0 x.f1 x.f2 y.f0 y.f1 y.f2 z.f0 z.f1 z.f2).map toSv := rfl
theorem D_join (k : Nat) (x y z : XOps.Sv) : value_Do.D k 81 x y z = (value_val_join.f x.f0 x.f1 x.f2 y.f0 y.f1 y.f2 z.f0 z.f1 z.f2).map toSv := rfl
theorem D_long (k : Nat) (x y z : XOps.Sv) : value_Do.D k 82 x y z = (value_val_long.f x.f0 x.f1 x.f2 y.f0 y.f1 y.f2 z.f0 z.f1 z.f2).map toSv := rfl
theorem D_slice (k : Nat) (x y z : XOps.Sv) : value_Do.D k 83 x y z = (value_val_slice.f x.f0 x.f1 x.f2 y.f0 y.f1 y.f2 z.f0 z.f1 z.f2).map toSv := rfl
theorem D_upper (k : Nat) (x y z : XOps.Sv) : value_Do.D k 84 x y z = (value_val_upper.f x.f0 x.f1 x.f2 y.f0 y.f1 y.f2 z.f0 z.f1 z.f2).map toSv := rfl
theorem D_lower (k : Nat) (x y z : XOps.Sv) : value_Do.D k 85 x y z = (value_val_lower.f x.f0 x.f1 x.f2 y.f0 y.f1 y.f2 z.f0 z.f1 z.f2).map toSv := rfl
theorem D_eq (k : Nat) (x y z : XOps.Sv) : value_Do.D k 86 x y z = (value_val_eq.f k x.f0 x.f1 x.f2 y.f0 y.f1 y.f2 z.f0 z.f1 z.f2).map toSv := rfl
theorem D_less (k : Nat) (x y z : XOps.Sv) : value_Do.D k 87 x y z = (value_val_less.f k x.f0 x.f1 x.f2 y.f0 y.f1 y.f2 z.f0 z.f1 z.f2).map toSv := rfl
theorem D_not (k : Nat) (x y z : XOps.Sv) : value_Do.D k 88 x y z = (value_val_not.f x.f0 x.f1 x.f2 y.f0 y.f1 y.f2 z.f0 z.f1 z.f2).map toSv := rfl
theorem D_choose (k : Nat) (x y z : XOps.Sv) : value_Do.D k 89 x y z = (value_val_choose.f x.f0 x.f1 x.f2 y.f0 y.f1 y.f2 z.f0 z.f1 z.f2).map toSv := rfl
theorem D_number (k : Nat) (x y z : XOps.Sv) : value_Do.D k 90 x y z = (value_val_number.f k x.f0 x.f1 x.f2 y.f0 y.f1 y.f2 z.f0 z.f1 z.f2).map toSv := rfl
theorem D_text (k : Nat) (x y z : XOps.Sv) : value_Do.D k 91 x y z = (value_val_text.f x.f0 x.f1 x.f2 y.f0 y.f1 y.f2 z.f0 z.f1 z.f2).map toSv := rfl
theorem D_hash (k : Nat) (x y z : XOps.Sv) : value_Do.D k 92 x y z = (value_val_hash.f k x.f0 x.f1 x.f2 y.f0 y.f1 y.f2 z.f0 z.f1 z.f2).map toSv := rfl
theorem D_find (k : Nat) (x y z : XOps.Sv) : value_Do.D k 93 x y z = (value_val_find.f x.f0 x.f1 x.f2 y.f0 y.f1 y.f2 z.f0 z.f1 z.f2).map toSv := rfl
theorem slice_f (s : ByteArray) (a b : Int) (b0 : Bool) (b1 : Int) (y0 : Bool) (y2 : ByteArray) (z0 : Bool) (z2 : ByteArray) : value_val_slice.f b0 b1 s y0 a y2 z0 b z2 = some (true, 0, clip (sliceS s a b)) := by
  unfold value_val_slice.f
  rw [if_pos (mn_ge (by have := (mx_ge a 0).2; omega) (by omega)), if_pos (mn_le _ _).2]
  rw [if_pos (mn_ge (by have := (mx_ge b 0).2; omega) (by omega)), if_pos (mn_le _ _).2]
  rw [text_f]
  rfl
theorem turn_f (s : ByteArray) (f : Int) (h0 : 0 ≤ f) (h1 : f ≤ 200) (hs : s.size ≤ 140737488351232) : value_turn.f s f = some (true, 0, clip (turnS f s)) := by
  unfold value_turn.f
  rw [if_pos ⟨h0, h1, by omega⟩, text_f]
  rfl
theorem op_does {o : Int} {ks : List Int} {t : Int} {f : Nat} (h : XOps.opFn o = some (ks, t, f)) (x y z : XOps.Sv) (hx : Fit x) (hy : Fit y) (hs : x.f2.size ≤ 4000 ∧ y.f2.size ≤ 4000) : Ev (fun k => value_Do.D k f x y z) (opV o x y z) := by
  by_cases h4 : o = 4
  · subst h4
    obtain rfl : f = 76 := by
      injection h with h
      injection h with _ h
      injection h with _ h
      exact h.symm
    simp only [D_add]
    exact Ev.const rfl
  by_cases h5 : o = 5
  · subst h5
    obtain rfl : f = 77 := by
      injection h with h
      injection h with _ h
      injection h with _ h
      exact h.symm
    simp only [D_sub]
    exact Ev.const rfl
  by_cases h6 : o = 6
  · subst h6
    obtain rfl : f = 78 := by
      injection h with h
      injection h with _ h
      injection h with _ h
      exact h.symm
    simp only [D_mul]
    exact Ev.const rfl
  by_cases h7 : o = 7
  · subst h7
    obtain rfl : f = 79 := by
      injection h with h
      injection h with _ h
      injection h with _ h
      exact h.symm
    simp only [D_div]
    refine Ev.const ?_
    unfold value_val_div.f opV
    by_cases c : y.f1 = 0
    · simp [c, num_f, toSv, numV]
    · simp [c, num_f, toSv, numV]
  by_cases h8 : o = 8
  · subst h8
    obtain rfl : f = 80 := by
      injection h with h
      injection h with _ h
      injection h with _ h
      exact h.symm
    simp only [D_mod]
    refine Ev.const ?_
    unfold value_val_mod.f opV
    by_cases c : y.f1 = 0
    · simp [c, num_f, toSv, numV]
    · simp [c, num_f, toSv, numV]
  by_cases h9 : o = 9
  · subst h9
    obtain rfl : f = 81 := by
      injection h with h
      injection h with _ h
      injection h with _ h
      exact h.symm
    simp only [D_join]
    refine Ev.const ?_
    unfold value_val_join.f opV
    rw [if_pos (by omega), text_f]
    rfl
  by_cases h10 : o = 10
  · subst h10
    obtain rfl : f = 82 := by
      injection h with h
      injection h with _ h
      injection h with _ h
      exact h.symm
    simp only [D_long]
    exact Ev.const rfl
  by_cases h11 : o = 11
  · subst h11
    obtain rfl : f = 83 := by
      injection h with h
      injection h with _ h
      injection h with _ h
      exact h.symm
    simp only [D_slice]
    refine Ev.const ?_
    rw [slice_f]
    rfl
  by_cases h12 : o = 12
  · subst h12
    obtain rfl : f = 84 := by
      injection h with h
      injection h with _ h
      injection h with _ h
      exact h.symm
    simp only [D_upper]
    refine Ev.const ?_
    unfold value_val_upper.f
    rw [turn_f _ _ (by decide) (by decide) hx.size]
    rfl
  by_cases h13 : o = 13
  · subst h13
    obtain rfl : f = 85 := by
      injection h with h
      injection h with _ h
      injection h with _ h
      exact h.symm
    simp only [D_lower]
    refine Ev.const ?_
    unfold value_val_lower.f
    rw [turn_f _ _ (by decide) (by decide) hx.size]
    rfl
  by_cases h14 : o = 14
  · subst h14
    obtain rfl : f = 86 := by
      injection h with h
      injection h with _ h
      injection h with _ h
      exact h.symm
    simp only [D_eq]
    refine Ev.map toSv (a := (false, (if (cmpV x y == 0) = true then 1 else 0), (⟨#[]⟩ : ByteArray))) ?_ rfl
    unfold value_val_eq.f
    refine Ev.bind (compare x y) ?_
    rw [yes_f]
    exact Ev.now _
  by_cases h15 : o = 15
  · subst h15
    obtain rfl : f = 87 := by
      injection h with h
      injection h with _ h
      injection h with _ h
      exact h.symm
    simp only [D_less]
    refine Ev.map toSv (a := (false, (if (decide (cmpV x y < 0)) = true then 1 else 0), (⟨#[]⟩ : ByteArray))) ?_ rfl
    unfold value_val_less.f
    refine Ev.bind (compare x y) ?_
    rw [yes_f]
    exact Ev.now _
  by_cases h16 : o = 16
  · subst h16
    obtain rfl : f = 88 := by
      injection h with h
      injection h with _ h
      injection h with _ h
      exact h.symm
    simp only [D_not]
    refine Ev.const ?_
    unfold value_val_not.f
    rw [yes_f]
    rfl
  by_cases h17 : o = 17
  · subst h17
    obtain rfl : f = 89 := by
      injection h with h
      injection h with _ h
      injection h with _ h
      exact h.symm
    simp only [D_choose]
    refine Ev.const ?_
    unfold value_val_choose.f opV
    by_cases c : x.f1 = 0
    · simp [c, toSv]
    · simp [c, toSv]
  by_cases h18 : o = 18
  · subst h18
    obtain rfl : f = 90 := by
      injection h with h
      injection h with _ h
      injection h with _ h
      exact h.symm
    simp only [D_number]
    exact Ev.map toSv (number_f x.f2 hx.size x.f0 x.f1 y z) rfl
  by_cases h19 : o = 19
  · subst h19
    obtain rfl : f = 91 := by
      injection h with h
      injection h with _ h
      injection h with _ h
      exact h.symm
    simp only [D_text]
    refine Ev.const ?_
    unfold value_val_text.f strconv_Itoa.f
    rw [if_pos hx.num, Option.bind_some, text_f]
    rfl
  by_cases h20 : o = 20
  · subst h20
    obtain rfl : f = 92 := by
      injection h with h
      injection h with _ h
      injection h with _ h
      exact h.symm
    simp only [D_hash]
    refine Ev.map toSv (a := (false, hashS x.f2, (⟨#[]⟩ : ByteArray))) ?_ rfl
    unfold value_val_hash.f
    exact Ev.bind (hash_f x.f2 hx.size).1 (Ev.now _)
  by_cases h21 : o = 21
  · subst h21
    obtain rfl : f = 93 := by
      injection h with h
      injection h with _ h
      injection h with _ h
      exact h.symm
    simp only [D_find]
    refine Ev.const ?_
    unfold value_val_find.f strings_Index.f
    rw [if_pos (by omega)]
    rfl
  have e : XOps.opFn o = none := by simp only [XOps.opFn, h4, h5, h6, h7, h8, h9, h10, h11, h12, h13, h14, h15, h16, h17, h18, h19, h20, h21, if_false]
  rw [e] at h
  cases h
def doV (o : Int) (l : List XOps.Sv) : Bool × Int × ByteArray × Int :=
  if l.any (fun x => !XOps.isValB x) = true then (false, 0, (⟨#[]⟩ : ByteArray), 1) else
  if (XOps.resultF o (l.map (·.f0))).2 ≠ 0 then (false, 0, (⟨#[]⟩ : ByteArray), (XOps.resultF o (l.map (·.f0))).2) else
  ((opV o (l.getD 0 XOps.zv) (l.getD 1 XOps.zv) (l.getD 2 XOps.zv)).f0, (opV o (l.getD 0 XOps.zv) (l.getD 1 XOps.zv) (l.getD 2 XOps.zv)).f1, (opV o (l.getD 0 XOps.zv) (l.getD 1 XOps.zv) (l.getD 2 XOps.zv)).f2, 0)
theorem isVal_size {x : XOps.Sv} (h : XOps.isValB x = true) : x.f2.size ≤ 1000 := by
  unfold XOps.isValB at h
  split at h
  · simp only [Bool.and_eq_true, decide_eq_true_eq] at h
    omega
  · have h2 : x.f2.toList = [] := by simpa using h
    rw [toList_data] at h2
    have := data_length x.f2
    rw [h2] at this
    simp at this
    omega
theorem zv_val : XOps.isValB XOps.zv = true := by
  unfold XOps.isValB
  rw [if_neg (show ¬ XOps.zv.f0 = true from fun h => by cases h), toList_data]
  rfl
theorem getD_val {l : List XOps.Sv} (h : ¬ l.any (fun x => !XOps.isValB x) = true) (i : Nat) : XOps.isValB (l.getD i XOps.zv) = true := by
  by_cases hi : i < l.length
  · rw [List.getD_eq_getElem?_getD, List.getElem?_eq_getElem hi]
    rcases hq : XOps.isValB l[i] with _ | _
    · refine absurd (List.any_eq_true.2 ⟨l[i], List.getElem_mem hi, ?_⟩) h
      rw [hq]; rfl
    · exact hq
  · rw [List.getD_eq_getElem?_getD, List.getElem?_eq_none (by omega)]
    exact zv_val
theorem getD_num {l : List XOps.Sv} (h : ∀ v ∈ l, -9223372036854775808 ≤ v.f1 ∧ v.f1 ≤ 9223372036854775807) (i : Nat) : -9223372036854775808 ≤ (l.getD i XOps.zv).f1 ∧ (l.getD i XOps.zv).f1 ≤ 9223372036854775807 := by
  by_cases hi : i < l.length
  · rw [List.getD_eq_getElem?_getD, List.getElem?_eq_getElem hi]
    exact h _ (List.getElem_mem hi)
  · rw [List.getD_eq_getElem?_getD, List.getElem?_eq_none (by omega)]
    decide
theorem do_ (o : Int) (l : List XOps.Sv) (hl : l.length ≤ 1000000) (hn : ∀ v ∈ l, -9223372036854775808 ≤ v.f1 ∧ v.f1 ≤ 9223372036854775807) : Ev (fun k => value_Do.f k o l) (doV o l) := by
  unfold value_Do.f
  simp only [if_pos hl]
  by_cases c1 : l.any (fun x => !XOps.isValB x) = true
  · simp only [XOps.doF, doV, if_pos c1]
    exact Ev.const rfl
  by_cases c2 : (XOps.resultF o (l.map (·.f0))).2 ≠ 0
  · simp only [XOps.doF, doV, if_neg c1, if_pos c2]
    exact Ev.const rfl
  have c3 : XOps.resultF o (l.map (·.f0)) = ((XOps.resultF o (l.map (·.f0))).1, 0) := by
    have : (XOps.resultF o (l.map (·.f0))).2 = 0 := by simpa using c2
    rw [← this]
  obtain ⟨ks, t, f, hof, _, _, _⟩ := XOps.res_len c3
  have hv := getD_val c1
  have hN := getD_num hn
  have fit : ∀ i, Fit (l.getD i XOps.zv) := fun i => ⟨by have := isVal_size (hv i); omega, hN i⟩
  have hd := op_does hof (l.getD 0 XOps.zv) (l.getD 1 XOps.zv) (l.getD 2 XOps.zv) (fit 0) (fit 1) ⟨by have := isVal_size (hv 0); omega, by have := isVal_size (hv 1); omega⟩
  simp only [XOps.doF, doV, if_neg c1, if_neg c2, hof]
  exact Ev.map _ (Ev.map _ hd rfl) rfl
theorem res_rb {o : Int} {bs : List Bool} {rb : Bool} {ks : List Int} {t : Int} {f : Nat} (h : XOps.resultF o bs = (rb, 0)) (hf : XOps.opFn o = some (ks, t, f)) :
    rb = (decide (t = 1) || (decide (t = 2) && bs.getD (bs.length - 1) false)) ∧ bs.length = ks.length ∧ ∀ i, i < ks.length → XOps.bad (ks.getD i 0) (bs.getD i false) (bs.getD (bs.length - 1) false) = false := by
  unfold XOps.resultF at h
  rw [hf] at h
  simp only at h
  by_cases h1 : bs.length ≠ ks.length
  · rw [if_pos h1] at h
    simp at h
  rw [if_neg h1] at h
  by_cases h2 : (List.range ks.length).any (fun i => XOps.bad (ks.getD i 0) (bs.getD i false) (bs.getD (bs.length - 1) false)) = true
  · rw [if_pos h2] at h
    simp at h
  rw [if_neg h2] at h
  injection h with h3 h4
  refine ⟨h3.symm, by omega, fun i hi => ?_⟩
  rcases hq : XOps.bad (ks.getD i 0) (bs.getD i false) (bs.getD (bs.length - 1) false) with _ | _
  · rfl
  · exact absurd (List.any_eq_true.2 ⟨i, List.mem_range.2 hi, hq⟩) h2
theorem num_val (n : Int) : XOps.isValB (numV n) = true := by
  unfold XOps.isValB
  rw [if_neg (show ¬ (numV n).f0 = true from fun h => by cases h), show (numV n).f2 = ⟨#[]⟩ from rfl, toList_data]
  rfl
theorem clip_size (s : ByteArray) : (clip s).size ≤ 1000 ∧ (clip s).size ≤ s.size := by
  unfold clip
  rw [ByteArray.size_extract]
  have := mn_le (s.size : Int) 1000
  omega
theorem text_val (s : ByteArray) : XOps.isValB (textV s) = true := by
  unfold XOps.isValB
  rw [if_pos (show (textV s).f0 = true from rfl), show (textV s).f1 = 0 from rfl, show (textV s).f2 = clip s from rfl]
  have := (clip_size s).1
  simp
  omega
theorem op_total {o : Int} {ks : List Int} {t : Int} {f : Nat} (h : XOps.opFn o = some (ks, t, f)) (l : List XOps.Sv) (hv : ∀ i, XOps.isValB (l.getD i XOps.zv) = true) {rb : Bool} (hr : XOps.resultF o (l.map (·.f0)) = (rb, 0)) :
    XOps.isValB (opV o (l.getD 0 XOps.zv) (l.getD 1 XOps.zv) (l.getD 2 XOps.zv)) = true ∧ (opV o (l.getD 0 XOps.zv) (l.getD 1 XOps.zv) (l.getD 2 XOps.zv)).f0 = rb := by
  obtain ⟨hrb, hlen, hbad⟩ := res_rb hr h
  by_cases h4 : o = 4
  · subst h4
    obtain ⟨rfl, rfl⟩ : ks = [0, 0] ∧ t = 0 := by
      injection h with h
      injection h with h1 h2
      injection h2 with h2 _
      exact ⟨h1.symm, h2.symm⟩
    subst hrb
    exact ⟨num_val _, rfl⟩
  by_cases h5 : o = 5
  · subst h5
    obtain ⟨rfl, rfl⟩ : ks = [0, 0] ∧ t = 0 := by
      injection h with h
      injection h with h1 h2
      injection h2 with h2 _
      exact ⟨h1.symm, h2.symm⟩
    subst hrb
    exact ⟨num_val _, rfl⟩
  by_cases h6 : o = 6
  · subst h6
    obtain ⟨rfl, rfl⟩ : ks = [0, 0] ∧ t = 0 := by
      injection h with h
      injection h with h1 h2
      injection h2 with h2 _
      exact ⟨h1.symm, h2.symm⟩
    subst hrb
    exact ⟨num_val _, rfl⟩
  by_cases h7 : o = 7
  · subst h7
    obtain ⟨rfl, rfl⟩ : ks = [0, 0] ∧ t = 0 := by
      injection h with h
      injection h with h1 h2
      injection h2 with h2 _
      exact ⟨h1.symm, h2.symm⟩
    subst hrb
    exact ⟨num_val _, rfl⟩
  by_cases h8 : o = 8
  · subst h8
    obtain ⟨rfl, rfl⟩ : ks = [0, 0] ∧ t = 0 := by
      injection h with h
      injection h with h1 h2
      injection h2 with h2 _
      exact ⟨h1.symm, h2.symm⟩
    subst hrb
    exact ⟨num_val _, rfl⟩
  by_cases h9 : o = 9
  · subst h9
    obtain ⟨rfl, rfl⟩ : ks = [1, 1] ∧ t = 1 := by
      injection h with h
      injection h with h1 h2
      injection h2 with h2 _
      exact ⟨h1.symm, h2.symm⟩
    subst hrb
    exact ⟨text_val _, rfl⟩
  by_cases h10 : o = 10
  · subst h10
    obtain ⟨rfl, rfl⟩ : ks = [1] ∧ t = 0 := by
      injection h with h
      injection h with h1 h2
      injection h2 with h2 _
      exact ⟨h1.symm, h2.symm⟩
    subst hrb
    exact ⟨num_val _, rfl⟩
  by_cases h11 : o = 11
  · subst h11
    obtain ⟨rfl, rfl⟩ : ks = [1, 0, 0] ∧ t = 1 := by
      injection h with h
      injection h with h1 h2
      injection h2 with h2 _
      exact ⟨h1.symm, h2.symm⟩
    subst hrb
    exact ⟨text_val _, rfl⟩
  by_cases h12 : o = 12
  · subst h12
    obtain ⟨rfl, rfl⟩ : ks = [1] ∧ t = 1 := by
      injection h with h
      injection h with h1 h2
      injection h2 with h2 _
      exact ⟨h1.symm, h2.symm⟩
    subst hrb
    exact ⟨text_val _, rfl⟩
  by_cases h13 : o = 13
  · subst h13
    obtain ⟨rfl, rfl⟩ : ks = [1] ∧ t = 1 := by
      injection h with h
      injection h with h1 h2
      injection h2 with h2 _
      exact ⟨h1.symm, h2.symm⟩
    subst hrb
    exact ⟨text_val _, rfl⟩
  by_cases h14 : o = 14
  · subst h14
    obtain ⟨rfl, rfl⟩ : ks = [2, 2] ∧ t = 0 := by
      injection h with h
      injection h with h1 h2
      injection h2 with h2 _
      exact ⟨h1.symm, h2.symm⟩
    subst hrb
    exact ⟨num_val _, rfl⟩
  by_cases h15 : o = 15
  · subst h15
    obtain ⟨rfl, rfl⟩ : ks = [2, 2] ∧ t = 0 := by
      injection h with h
      injection h with h1 h2
      injection h2 with h2 _
      exact ⟨h1.symm, h2.symm⟩
    subst hrb
    exact ⟨num_val _, rfl⟩
  by_cases h16 : o = 16
  · subst h16
    obtain ⟨rfl, rfl⟩ : ks = [0] ∧ t = 0 := by
      injection h with h
      injection h with h1 h2
      injection h2 with h2 _
      exact ⟨h1.symm, h2.symm⟩
    subst hrb
    exact ⟨num_val _, rfl⟩
  by_cases h17 : o = 17
  · subst h17
    obtain ⟨rfl, rfl⟩ : ks = [0, 2, 2] ∧ t = 2 := by
      injection h with h
      injection h with h1 h2
      injection h2 with h2 _
      exact ⟨h1.symm, h2.symm⟩
    rw [List.length_map] at hlen
    rcases l with _ | ⟨x, _ | ⟨y, _ | ⟨z, _ | ⟨q, r⟩⟩⟩⟩ <;> simp at hlen
    have h1 := hbad 1 (by simp)
    have hy := hv 1
    have hz := hv 2
    simp only [List.map_cons, List.map_nil, List.length_cons, List.length_nil] at h1 hrb
    have e1 : y.f0 = z.f0 := by
      have h3 : XOps.bad 2 y.f0 z.f0 = false := h1
      unfold XOps.bad at h3
      simpa using h3
    have e2 : rb = z.f0 := by
      rw [hrb]
      simp
    have e3 : opV 17 x y z = if x.f1 = 0 then z else y := rfl
    show XOps.isValB (opV 17 x y z) = true ∧ (opV 17 x y z).f0 = rb
    rw [e3, e2]
    by_cases c : x.f1 = 0
    · rw [if_pos c]; exact ⟨hz, rfl⟩
    · rw [if_neg c]; exact ⟨hy, e1⟩
  by_cases h18 : o = 18
  · subst h18
    obtain ⟨rfl, rfl⟩ : ks = [1] ∧ t = 0 := by
      injection h with h
      injection h with h1 h2
      injection h2 with h2 _
      exact ⟨h1.symm, h2.symm⟩
    subst hrb
    exact ⟨num_val _, rfl⟩
  by_cases h19 : o = 19
  · subst h19
    obtain ⟨rfl, rfl⟩ : ks = [0] ∧ t = 1 := by
      injection h with h
      injection h with h1 h2
      injection h2 with h2 _
      exact ⟨h1.symm, h2.symm⟩
    subst hrb
    exact ⟨text_val _, rfl⟩
  by_cases h20 : o = 20
  · subst h20
    obtain ⟨rfl, rfl⟩ : ks = [1] ∧ t = 0 := by
      injection h with h
      injection h with h1 h2
      injection h2 with h2 _
      exact ⟨h1.symm, h2.symm⟩
    subst hrb
    exact ⟨num_val _, rfl⟩
  by_cases h21 : o = 21
  · subst h21
    obtain ⟨rfl, rfl⟩ : ks = [1, 1] ∧ t = 0 := by
      injection h with h
      injection h with h1 h2
      injection h2 with h2 _
      exact ⟨h1.symm, h2.symm⟩
    subst hrb
    exact ⟨num_val _, rfl⟩
  have e : XOps.opFn o = none := by simp only [XOps.opFn, h4, h5, h6, h7, h8, h9, h10, h11, h12, h13, h14, h15, h16, h17, h18, h19, h20, h21, if_false]
  rw [e] at h
  cases h
end Go.Proofs.YtialoecplmnjfaaGreatDoorL
namespace Go.Proofs.YtialoecplmnjfaaGreatDoorL
open Go.RowKit Go.Proofs Go.Proofs.YtialoecplmnjfaaGreatDoor Go.Proofs.YtialoecplmnjfaaGreatDoor.PX Go.Proofs.YtialoecplmnjfaaGreatDoorW.PrintWords Go.Proofs.YtialoecplmnjfaaGreatDoorW.PrintMore
end Go.Proofs.YtialoecplmnjfaaGreatDoorL
namespace Go.Proofs.YtialoecplmnjfaaGreatDoorL
open Go.RowKit Go.Proofs Go.Proofs.YtialoecplmnjfaaGreatDoor Go.Proofs.YtialoecplmnjfaaGreatDoor.PX Go.Proofs.YtialoecplmnjfaaGreatDoorW.PrintWords Go.Proofs.YtialoecplmnjfaaGreatDoorW.PrintMore
end Go.Proofs.YtialoecplmnjfaaGreatDoorL
namespace Go.Proofs.YtialoecplmnjfaaGreatDoorL
open Go.RowKit Go.Proofs Go.Proofs.YtialoecplmnjfaaGreatDoor Go.Proofs.YtialoecplmnjfaaGreatDoor.PX Go.Proofs.YtialoecplmnjfaaGreatDoorW.PrintWords
theorem doV_of {o : Int} {l : List XOps.Sv} {b : Bool} (h1 : ¬ l.any (fun x => !XOps.isValB x) = true) (h2 : XOps.resultF o (l.map (·.f0)) = (b, 0)) {r : XOps.Sv} (h3 : opV o (l.getD 0 XOps.zv) (l.getD 1 XOps.zv) (l.getD 2 XOps.zv) = r) : doV o l = (r.f0, r.f1, r.f2, 0) := by
  subst h3
  unfold doV
  rw [if_neg h1, h2, if_neg (by simp)]
end Go.Proofs.YtialoecplmnjfaaGreatDoorL
namespace Go.Proofs.YtialoecplmnjfaaGreatDoorL
open Go.RowKit Go.Proofs Go.Proofs.YtialoecplmnjfaaGreatDoor Go.Proofs.YtialoecplmnjfaaGreatDoor.PX Go.Proofs.YtialoecplmnjfaaGreatDoorW.PrintWords Go.Proofs.YtialoecplmnjfaaGreatDoorW.PrintMore Go.Proofs.YtialoecplmnjfaaGreatDoor.XCheck
abbrev Sv := XOps.Sv
def I64 (x : Int) : Prop := -9223372036854775808 ≤ x ∧ x ≤ 9223372036854775807
theorem i64_wrap (x : Int) : I64 (wrap64 x) := by unfold I64 wrap64; omega
theorem i64_0 : I64 0 := by unfold I64; omega
def Val1 (v : Sv) : Prop := XOps.isValB v = true ∧ I64 v.f1
theorem number_i64 (l : List UInt8) : I64 (numberL l) := by
  unfold numberL
  by_cases c : l.head? = some 45
  · rw [if_pos c]
    by_cases d : okL l.tail = true
    · rw [if_pos d]
      obtain ⟨_, h1, h2⟩ := ok_mag d
      unfold I64; omega
    · rw [if_neg d]; exact i64_0
  · rw [if_neg c]
    by_cases d : okL l = true
    · rw [if_pos d]
      obtain ⟨_, h1, h2⟩ := ok_mag d
      unfold I64; omega
    · rw [if_neg d]; exact i64_0
theorem yes_i64 (b : Bool) : I64 (yesV b).f1 := by
  cases b
  · exact i64_0
  · show I64 1; unfold I64; omega
theorem op_i64 (o : Int) (x y z : Sv) (hx : I64 x.f1) (hy : I64 y.f1) (hz : I64 z.f1) (hs : x.f2.size ≤ 1000) : I64 (opV o x y z).f1 := by
  unfold opV
  by_cases c4 : o = 4
  · rw [if_pos c4]; exact i64_wrap _
  rw [if_neg c4]
  by_cases c5 : o = 5
  · rw [if_pos c5]; exact i64_wrap _
  rw [if_neg c5]
  by_cases c6 : o = 6
  · rw [if_pos c6]; exact i64_wrap _
  rw [if_neg c6]
  by_cases c7 : o = 7
  · rw [if_pos c7]
    show I64 (if y.f1 = 0 then 0 else wrap64 (Int.tdiv x.f1 y.f1))
    split
    · exact i64_0
    · exact i64_wrap _
  rw [if_neg c7]
  by_cases c8 : o = 8
  · rw [if_pos c8]
    show I64 (if y.f1 = 0 then 0 else Int.tmod x.f1 y.f1)
    split
    · exact i64_0
    · have h1 := Int.natAbs_tmod x.f1 y.f1
      have h2 := Nat.mod_lt x.f1.natAbs (show y.f1.natAbs > 0 by omega)
      rw [← h1] at h2
      clear h1
      generalize x.f1.tmod y.f1 = w at h2 ⊢
      unfold I64 at hx hy ⊢
      omega
  rw [if_neg c8]
  by_cases c9 : o = 9
  · rw [if_pos c9]; exact i64_0
  rw [if_neg c9]
  by_cases c10 : o = 10
  · rw [if_pos c10]; show I64 (x.f2.size : Int); unfold I64; omega
  rw [if_neg c10]
  by_cases c11 : o = 11
  · rw [if_pos c11]; exact i64_0
  rw [if_neg c11]
  by_cases c12 : o = 12
  · rw [if_pos c12]; exact i64_0
  rw [if_neg c12]
  by_cases c13 : o = 13
  · rw [if_pos c13]; exact i64_0
  rw [if_neg c13]
  by_cases c14 : o = 14
  · rw [if_pos c14]; exact yes_i64 _
  rw [if_neg c14]
  by_cases c15 : o = 15
  · rw [if_pos c15]; exact yes_i64 _
  rw [if_neg c15]
  by_cases c16 : o = 16
  · rw [if_pos c16]; exact yes_i64 _
  rw [if_neg c16]
  by_cases c17 : o = 17
  · rw [if_pos c17]
    split
    · exact hz
    · exact hy
  rw [if_neg c17]
  by_cases c18 : o = 18
  · rw [if_pos c18]; exact number_i64 _
  rw [if_neg c18]
  by_cases c19 : o = 19
  · rw [if_pos c19]; exact i64_0
  rw [if_neg c19]
  by_cases c20 : o = 20
  · rw [if_pos c20]
    obtain ⟨_, h1, h2⟩ := hash_f x.f2 (by omega)
    show I64 (hashS x.f2)
    unfold I64; omega
  rw [if_neg c20]
  show I64 (Lib.index x.f2.data.toList y.f2.data.toList)
  have h1 := Lib.index_ge x.f2.data.toList y.f2.data.toList
  have h2 := Lib.index_le x.f2.data.toList y.f2.data.toList
  rw [data_length] at h2
  unfold I64
  omega
def picV (r : List ByteArray) (fold s : List Sv) (x : Ins) : Sv :=
  if x.f0 = 0 then numV x.f1 else if x.f0 = 1 then textV x.f2 else if x.f0 = 2 then (if (r.length : Int) ≤ x.f1 then textV ⟨#[]⟩ else textV (r.getD x.f1.toNat ByteArray.empty))
  else if x.f0 = 3 then numV (r.length : Int) else if x.f0 = 22 ∨ x.f0 = 23 then fold.getD (x.f0 - 22).toNat XOps.zv
  else opV x.f0 ((s.drop (s.length - (XOps.arityF x.f0).toNat)).getD 0 XOps.zv) ((s.drop (s.length - (XOps.arityF x.f0).toNat)).getD 1 XOps.zv) ((s.drop (s.length - (XOps.arityF x.f0).toNat)).getD 2 XOps.zv)
def runV (r : List ByteArray) (fold : List Sv) : List Ins → List Sv → Int → List Sv × Int × Int
  | [], s, u => (s, u, 0)
  | x :: p, s, u => if XEval.costP s x.f0 > u then (s, u, 12) else runV r fold p (s.take (s.length - (XOps.arityF x.f0).toNat) ++ [picV r fold s x]) (u - XEval.costP s x.f0)
theorem arity_mid {o : Int} (h0 : 0 ≤ o) (h : o ≤ 21) (ha : ¬ 0 < XOps.arityF o) : o ≤ 3 := by
  rcases op_cases o with rfl | rfl | rfl | rfl | rfl | rfl | rfl | rfl | rfl | rfl | rfl | rfl | rfl | rfl | rfl | rfl | rfl | rfl | hn
  all_goals first | exact absurd (by decide) ha | omega
theorem arity_low {o : Int} (h : o ≤ 3) : XOps.arityF o = 0 := by
  unfold XOps.arityF
  rw [op_none (by omega)]
theorem may_range {x : Ins} (h : May x = true) : 0 ≤ x.f0 ∧ x.f0 ≤ 23 := by
  have e := check_Stack.may_eq x
  rw [show check_Stack.may x = true from h] at e
  by_cases c : 0 ≤ x.f0 ∧ x.f0 ≤ 23
  · exact c
  · exfalso
    unfold code_May.f at e
    simp only [isOp_f, Option.bind_some, decide_eq_false c, if_neg (show ¬ x.f0 = 0 by omega), if_neg (show ¬ x.f0 = 1 by omega), if_neg (show ¬ x.f0 = 2 by omega), Bool.false_eq_true, if_false] at e
    simp at e
theorem may_field {x : Ins} (h : May x = true) (h2 : x.f0 = 2) : 0 ≤ x.f1 := by
  have e := check_Stack.may_eq x
  rw [show check_Stack.may x = true from h] at e
  unfold code_May.f at e
  rw [h2] at e
  simp only [isOp_f, Option.bind_some, if_neg (show ¬ (2 : Int) = 0 by decide), if_neg (show ¬ (2 : Int) = 1 by decide), if_true] at e
  by_cases c : x.f1 ≥ 0
  · exact c
  · rw [if_neg c] at e
    simp at e
theorem val_num {n : Int} (h : I64 n) : Val1 (numV n) := ⟨num_val n, h⟩
theorem val_text (s : ByteArray) : Val1 (textV s) := ⟨text_val s, i64_0⟩
theorem val_zv : Val1 XOps.zv := ⟨zv_val, i64_0⟩
theorem val_getD {l : List Sv} (h : ∀ v ∈ l, Val1 v) (i : Nat) : Val1 (l.getD i XOps.zv) := by
  by_cases hi : i < l.length
  · rw [List.getD_eq_getElem?_getD, List.getElem?_eq_getElem hi]
    exact h _ (List.getElem_mem hi)
  · rw [List.getD_eq_getElem?_getD, List.getElem?_eq_none (by omega)]
    exact val_zv
theorem kind_getD {l : List Sv} (i : Nat) (hi : i < l.length) : (l.getD i XOps.zv).f0 = (l.map (·.f0)).getD i false := by
  simp [List.getD_eq_getElem?_getD, List.getElem?_eq_getElem hi]
section
variable {TEXT : ByteArray → Option Sv} {DO : Nat → Int → List Sv → Option (Sv × Int)}
theorem one_step (hTX : ∀ x, TEXT x = some (textV x)) (hDO : ∀ o (l : List Sv), l.length ≤ 1000000 → (∀ v ∈ l, I64 v.f1) → Ev (fun k => DO k o l) ((⟨(doV o l).1, (doV o l).2.1, (doV o l).2.2.1⟩ : Sv), (doV o l).2.2.2))
    (r : List ByteArray) (hr : r.length ≤ 140737488351232) (fold : List Sv) (hf : fold.length = 0 ∨ fold.length = 2) (hfv : ∀ v ∈ fold, Val1 v) (s : List Sv) (hsv : ∀ v ∈ s, Val1 v) (hl : s.length ≤ 30) (x : Ins) (hx : May x = true) (hxn : I64 x.f1) (m : Int)
    (hstep : (stepP (fold.map (·.f0)) (s.map (·.f0), m) x.f0).2 = 0) :
    XOps.arityF x.f0 ≤ (s.length : Int) ∧ Val1 (picV r fold s x) ∧ (s.take (s.length - (XOps.arityF x.f0).toNat) ++ [picV r fold s x]).map (·.f0) = (stepP (fold.map (·.f0)) (s.map (·.f0), m) x.f0).1.1 ∧ Ev (fun k => XEval.pickP TEXT (DO k) r fold s x) (picV r fold s x) := by
  have hrange := may_range hx
  by_cases c : 22 ≤ x.f0
  · have h22 : x.f0 = 22 ∨ x.f0 = 23 := check_Stack.may_op x hx c
    have ha : XOps.arityF x.f0 = 0 := by rcases h22 with h | h <;> rw [h] <;> rfl
    rw [step_given c] at hstep ⊢
    unfold givenP at hstep ⊢
    by_cases c2 : (fold.map (·.f0)).length = 0
    · rw [if_pos c2] at hstep; cases hstep
    rw [if_neg c2] at hstep ⊢
    have hf2 : fold.length = 2 := by simp at c2; rcases hf with h | h; · rw [List.length_eq_zero_iff] at h; exact absurd h c2
                                     · exact h
    have hp : picV r fold s x = fold.getD (x.f0 - 22).toNat XOps.zv := by
      unfold picV
      rw [if_neg (by omega), if_neg (by omega), if_neg (by omega), if_neg (by omega), if_pos h22]
    rw [ha, hp]
    refine ⟨by omega, val_getD hfv _, ?_, ?_⟩
    · by_cases c3 : (s.map (·.f0)).length = 30
      · rw [push_full (x := (s.map (·.f0), m)) c3] at hstep; cases hstep
      · rw [push_ok (x := (s.map (·.f0), m)) c3]
        simp only [Int.toNat_zero, Nat.sub_zero, List.take_length, List.map_append, List.map_cons, List.map_nil]
        rw [kind_getD _ (by omega)]
    · unfold XEval.pickP
      simp only [if_neg (show ¬ x.f0 = 0 by omega), if_neg (show ¬ x.f0 = 1 by omega), if_neg (show ¬ x.f0 = 2 by omega), if_neg (show ¬ x.f0 = 3 by omega), if_pos h22, if_pos hf2]
      exact Ev.now _
  · by_cases c2 : 0 < XOps.arityF x.f0
    · have h4 : 4 ≤ x.f0 := by
        by_cases h : x.f0 ≤ 3
        · rw [arity_low h] at c2; omega
        · omega
      obtain ⟨a, ha⟩ : ∃ a : Nat, XOps.arityF x.f0 = a := ⟨(XOps.arityF x.f0).toNat, by omega⟩
      rw [step_done c c2] at hstep ⊢
      unfold doneP at hstep ⊢
      simp only [ha, Int.toNat_natCast, List.length_map] at hstep ⊢
      by_cases c3 : (s.length : Int) < (a : Int)
      · rw [if_pos c3] at hstep; cases hstep
      rw [if_neg c3] at hstep ⊢
      obtain ⟨l, hld⟩ : ∃ l, s.drop (s.length - a) = l := ⟨_, rfl⟩
      have hdm : (s.map (·.f0)).drop (s.length - a) = l.map (·.f0) := by rw [← hld, List.map_drop]
      rw [hdm] at hstep ⊢
      rcases hq : XOps.resultF x.f0 (l.map (·.f0)) with ⟨t, er⟩
      rw [hq] at hstep
      simp only at hstep
      by_cases c4 : er ≠ 0
      · rw [if_pos c4] at hstep; exact absurd hstep c4
      obtain rfl : er = 0 := by omega
      simp only [ne_eq, not_true, if_false] at hstep ⊢
      have hlv : ∀ v ∈ l, Val1 v := fun v hv => hsv v (List.mem_of_mem_drop (by rw [hld]; exact hv))
      have hany : ¬ l.any (fun x => !XOps.isValB x) = true := by
        intro h
        obtain ⟨v, hv, hb⟩ := List.any_eq_true.1 h
        rw [(hlv v hv).1] at hb
        cases hb
      have hp : picV r fold s x = opV x.f0 (l.getD 0 XOps.zv) (l.getD 1 XOps.zv) (l.getD 2 XOps.zv) := by
        unfold picV
        rw [if_neg (by omega), if_neg (by omega), if_neg (by omega), if_neg (by omega), if_neg (by omega), ha, Int.toNat_natCast, hld]
      obtain ⟨ks, tt, f, hof⟩ : ∃ ks tt f, XOps.opFn x.f0 = some (ks, tt, f) := by
        rcases ho : XOps.opFn x.f0 with _ | ⟨ks, tt, f⟩
        · exfalso; unfold XOps.arityF at ha c2; rw [ho] at ha c2; simp at c2
        · exact ⟨ks, tt, f, rfl⟩
      obtain ⟨ht1, ht2⟩ := op_total hof l (fun i => (val_getD hlv i).1) hq
      have hi := op_i64 x.f0 _ _ _ (val_getD hlv 0).2 (val_getD hlv 1).2 (val_getD hlv 2).2 (isVal_size (val_getD hlv 0).1)
      rw [hp]
      refine ⟨by omega, ⟨ht1, hi⟩, ?_, ?_⟩
      · rw [push_ok (by simp only [List.length_take, List.length_map]; omega)]
        simp only [List.map_append, List.map_take, List.map_cons, List.map_nil, ht2]
        simp [hq]
      · unfold XEval.pickP
        simp only [if_neg (show ¬ x.f0 = 0 by omega), if_neg (show ¬ x.f0 = 1 by omega), if_neg (show ¬ x.f0 = 2 by omega), if_neg (show ¬ x.f0 = 3 by omega), if_neg (show ¬ (x.f0 = 22 ∨ x.f0 = 23) by omega), ha, Int.toNat_natCast, hld]
        refine Ev.map _ (hDO x.f0 l (by rw [← hld, List.length_drop]; omega) fun v hv => (hlv v hv).2) ?_
        rw [doV_of hany hq rfl]
    · have h3 : x.f0 ≤ 3 := arity_mid hrange.1 (by omega) c2
      have ha : XOps.arityF x.f0 = 0 := arity_low h3
      rw [step_plain c c2] at hstep ⊢
      rw [ha]
      have key : ∀ v : Sv, picV r fold s x = v → Val1 v → v.f0 = (decide (x.f0 = 1) || decide (x.f0 = 2)) → Ev (fun k => XEval.pickP TEXT (DO k) r fold s x) v →
          (0 : Int) ≤ (s.length : Int) ∧ Val1 (picV r fold s x) ∧ (s.take (s.length - (0 : Int).toNat) ++ [picV r fold s x]).map (·.f0) = (pushP (s.map (·.f0), m) (decide (x.f0 = 1) || decide (x.f0 = 2))).1.1 ∧ Ev (fun k => XEval.pickP TEXT (DO k) r fold s x) (picV r fold s x) := fun v hv h1 h2 h4 => by
        rw [hv]
        refine ⟨by omega, h1, ?_, h4⟩
        by_cases c3 : (s.map (·.f0)).length = 30
        · rw [push_full (x := (s.map (·.f0), m)) c3] at hstep; cases hstep
        · rw [push_ok (x := (s.map (·.f0), m)) c3]
          simp only [Int.toNat_zero, Nat.sub_zero, List.take_length, List.map_append, List.map_cons, List.map_nil, h2]
      have pk : ∀ v, XEval.pickP TEXT (DO 0) r fold s x = some v → (∀ k, XEval.pickP TEXT (DO k) r fold s x = XEval.pickP TEXT (DO 0) r fold s x) → Ev (fun k => XEval.pickP TEXT (DO k) r fold s x) v := fun v h1 h2 => ⟨0, fun k _ => by show XEval.pickP TEXT (DO k) r fold s x = some v; rw [h2, h1]⟩
      rcases (show x.f0 = 0 ∨ x.f0 = 1 ∨ x.f0 = 2 ∨ x.f0 = 3 by omega) with h | h | h | h
      · refine key (numV x.f1) (by unfold picV; rw [if_pos h]) (val_num hxn) (by rw [h]; rfl) (pk _ (by unfold XEval.pickP; rw [if_pos h]; rfl) fun k => by unfold XEval.pickP; rw [if_pos h, if_pos h])
      · have h0 : ¬ x.f0 = 0 := by omega
        refine key (textV x.f2) (by unfold picV; rw [if_neg h0, if_pos h]) (val_text _) (by rw [h]; rfl) (pk _ (by unfold XEval.pickP; rw [if_neg h0, if_pos h, hTX]) fun k => by unfold XEval.pickP; rw [if_neg h0, if_pos h, if_neg h0, if_pos h])
      · have h0 : ¬ x.f0 = 0 := by omega
        have h1 : ¬ x.f0 = 1 := by omega
        have hf := may_field hx h
        by_cases d : (r.length : Int) ≤ x.f1
        · refine key (textV ⟨#[]⟩) (by unfold picV; rw [if_neg h0, if_neg h1, if_pos h, if_pos d]) (val_text _) (by rw [h]; rfl) (pk _ (by unfold XEval.pickP; rw [if_neg h0, if_neg h1, if_pos h, if_pos d, hTX]) fun k => by unfold XEval.pickP; rw [if_neg h0, if_neg h1, if_pos h, if_neg h0, if_neg h1, if_pos h])
        · refine key (textV (r.getD x.f1.toNat ByteArray.empty)) (by unfold picV; rw [if_neg h0, if_neg h1, if_pos h, if_neg d]) (val_text _) (by rw [h]; rfl) (pk _ (by unfold XEval.pickP; rw [if_neg h0, if_neg h1, if_pos h, if_neg d, if_pos hf, hTX]) fun k => by unfold XEval.pickP; rw [if_neg h0, if_neg h1, if_pos h, if_neg h0, if_neg h1, if_pos h])
      · have h0 : ¬ x.f0 = 0 := by omega
        have h1 : ¬ x.f0 = 1 := by omega
        have h2 : ¬ x.f0 = 2 := by omega
        refine key (numV (r.length : Int)) (by unfold picV; rw [if_neg h0, if_neg h1, if_neg h2, if_pos h]) (val_num (by unfold I64; omega)) (by rw [h]; rfl) (pk _ (by unfold XEval.pickP; rw [if_neg h0, if_neg h1, if_neg h2, if_pos h]; rfl) fun k => by unfold XEval.pickP; rw [if_neg h0, if_neg h1, if_neg h2, if_pos h, if_neg h0, if_neg h1, if_neg h2, if_pos h])
set_option maxHeartbeats 4000000 in
theorem run_ok (hTX : ∀ x, TEXT x = some (textV x)) (hDO : ∀ o (l : List Sv), l.length ≤ 1000000 → (∀ v ∈ l, I64 v.f1) → Ev (fun k => DO k o l) ((⟨(doV o l).1, (doV o l).2.1, (doV o l).2.2.1⟩ : Sv), (doV o l).2.2.2))
    (r : List ByteArray) (hr : r.length ≤ 140737488351232) (fold : List Sv) (hf : fold.length = 0 ∨ fold.length = 2) (hfv : ∀ v ∈ fold, Val1 v) :
    ∀ (p : List Ins) (i : Nat) (s : List Sv) (m u : Int), (∀ x ∈ p, I64 x.f1) → (∀ v ∈ s, Val1 v) → s.length ≤ 30 → (runP May (fold.map (·.f0)) p i (s.map (·.f0), m)).2.2 = 0 →
      Ev (fun k => XEval.runE TEXT (DO k) r fold p s u) (runV r fold p s u) ∧ ((runV r fold p s u).2.2 = 0 ∨ (runV r fold p s u).2.2 = 12) ∧
      ((runV r fold p s u).2.2 = 0 → (∀ v ∈ (runV r fold p s u).1, Val1 v) ∧ (runV r fold p s u).1.map (·.f0) = (runP May (fold.map (·.f0)) p i (s.map (·.f0), m)).1.1)
  | [], i, s, m, u, hp, hs, hl, h => ⟨Ev.now _, .inl rfl, fun _ => ⟨hs, rfl⟩⟩
  | x :: p, i, s, m, u, hp, hs, hl, h => by
    rcases hm : May x with _ | _
    · rw [run_no hm] at h; cases h
    by_cases h2 : (stepP (fold.map (·.f0)) (s.map (·.f0), m) x.f0).2 = 0
    · rw [run_go hm h2] at h ⊢
      obtain ⟨ha, hv, hk, he⟩ := one_step hTX hDO r hr fold hf hfv s hs hl x hm (hp x List.mem_cons_self) m h2
      have hlen := stepP_len (fold := fold.map (·.f0)) (x := (s.map (·.f0), m)) (o := x.f0) (by simpa using hl)
      rw [← hk, List.length_map] at hlen
      have hvs : ∀ v ∈ s.take (s.length - (XOps.arityF x.f0).toNat) ++ [picV r fold s x], Val1 v := fun v hv' => by
        rcases List.mem_append.1 hv' with h | h
        · exact hs v (List.mem_of_mem_take h)
        · rw [List.mem_singleton.1 h]; exact hv
      have e : (stepP (fold.map (·.f0)) (s.map (·.f0), m) x.f0).1 = ((s.take (s.length - (XOps.arityF x.f0).toNat) ++ [picV r fold s x]).map (·.f0), (stepP (fold.map (·.f0)) (s.map (·.f0), m) x.f0).1.2) := by rw [hk]
      rw [e] at h ⊢
      have ih := fun u' => run_ok hTX hDO r hr fold hf hfv p (i + 1) (s.take (s.length - (XOps.arityF x.f0).toNat) ++ [picV r fold s x]) (stepP (fold.map (·.f0)) (s.map (·.f0), m) x.f0).1.2 u' (fun y hy => hp y (List.mem_cons_of_mem _ hy)) hvs hlen h
      have hbig : ¬ ((s.length : Int) < XOps.arityF x.f0 ∨ s.any XEval.big = true) := by
        rintro (h | h)
        · omega
        · obtain ⟨v, hv, hb⟩ := List.any_eq_true.1 h
          have := isVal_size (hs v hv).1
          unfold XEval.big at hb
          have := of_decide_eq_true hb
          omega
      by_cases c : XEval.costP s x.f0 > u
      · have er : runV r fold (x :: p) s u = (s, u, 12) := by unfold runV; rw [if_pos c]
        rw [er]
        refine ⟨?_, .inr rfl, fun h => by cases h⟩
        simp only [XEval.runE, if_neg hbig, if_pos c]
        exact Ev.now _
      · have er : runV r fold (x :: p) s u = runV r fold p (s.take (s.length - (XOps.arityF x.f0).toNat) ++ [picV r fold s x]) (u - XEval.costP s x.f0) := by conv => lhs; unfold runV; rw [if_neg c]
        rw [er]
        obtain ⟨i1, i2, i3⟩ := ih (u - XEval.costP s x.f0)
        refine ⟨?_, i2, i3⟩
        simp only [XEval.runE, if_neg hbig, if_neg c]
        exact Ev.bind he i1
    · rw [run_bad hm h2] at h; exact absurd h h2
end
end Go.Proofs.YtialoecplmnjfaaGreatDoorL
namespace Go.Proofs.YtialoecplmnjfaaGreatDoorL
open Go.RowKit Go.Proofs Go.Proofs.YtialoecplmnjfaaGreatDoor Go.Proofs.YtialoecplmnjfaaGreatDoor.PX Go.Proofs.YtialoecplmnjfaaGreatDoorW.PrintWords Go.Proofs.YtialoecplmnjfaaGreatDoorW.PrintMore Go.Proofs.YtialoecplmnjfaaGreatDoor.XCheck
theorem TX_ (x : ByteArray) : eval_Run.TX x = some (textV x) := by unfold eval_Run.TX; rw [text_f]; rfl
theorem DO_ (o : Int) (l : List Sv) (hl : l.length ≤ 1000000) (hn : ∀ v ∈ l, I64 v.f1) : Ev (fun k => eval_Run.DO k o l) ((⟨(doV o l).1, (doV o l).2.1, (doV o l).2.2.1⟩ : Sv), (doV o l).2.2.2) := Ev.map _ (do_ o l hl hn) rfl
theorem stack_go {p : List Ins} {fk : List Bool} (h : (stackP May p fk).2.2 = 0) : p.length ≤ 200 ∧ (fk.length = 0 ∨ fk.length = 2) ∧ (runP May fk p 0 ([], 0)).2.2 = 0 ∧ (stackP May p fk).1 = (runP May fk p 0 ([], 0)).1.1 := by
  unfold stackP at h ⊢
  by_cases c : fk.length ≠ 0 ∧ fk.length ≠ 2
  · rw [if_pos c] at h; cases h
  rw [if_neg c] at h ⊢
  by_cases d : 200 < p.length
  · rw [if_pos d] at h; cases h
  rw [if_neg d] at h ⊢
  exact ⟨by omega, by omega, h, rfl⟩
def outV (r : List ByteArray) (p : List Ins) (u : Int) : List Sv × Int × Int :=
  if (stackP May p []).2.2 = 0 then (if (runV r [] p [] u).2.2 = 0 then ((runV r [] p [] u).1, (runV r [] p [] u).2.1, 0) else ([], 0, 12)) else ([], u, (stackP May p []).2.2)
theorem run_f (p : List Ins) (r : List ByteArray) (u : Int) (hp : ∀ x ∈ p, I64 x.f1) (hr : r.length ≤ 140737488351232) (hu : I64 u) : Ev (fun k => eval_Run.f k p r u) (outV r p u) := by
  unfold eval_Run.f outV
  have hS : check_Stack.f p [] = some (stackP May p []) := rfl
  simp only [hS, Option.bind_some]
  by_cases c : (stackP May p []).2.2 = 0
  · obtain ⟨h1, _, h3, _⟩ := stack_go c
    simp only [if_pos c, if_pos (show p.length ≤ 10000 ∧ u ≤ 9223372036854775807 from ⟨by omega, hu.2⟩)]
    obtain ⟨e1, e2, _⟩ := run_ok TX_ DO_ r hr [] (.inl rfl) (by simp) p 0 [] 0 u hp (by simp) (by decide) h3
    refine Ev.map _ e1 ?_
    rcases e2 with e2 | e2
    · rw [e2]; rfl
    · rw [e2]; rfl
  · simp only [if_neg c]
    exact Ev.now _
def oneV (r : List ByteArray) (p : List Ins) (u : Int) : Bool × Int × ByteArray × Int × Int :=
  if (stackP May p []).2.2 = 0 then (if (stackP May p []).1.length = 1 then (if (runV r [] p [] u).2.2 = 0 then ((rd_T24 (runV r [] p [] u).1 0).f0, (rd_T24 (runV r [] p [] u).1 0).f1, (rd_T24 (runV r [] p [] u).1 0).f2, (runV r [] p [] u).2.1, 0) else (false, 0, ⟨#[]⟩, 0, 12)) else (false, 0, ⟨#[]⟩, u, 11)) else (false, 0, ⟨#[]⟩, u, (stackP May p []).2.2)
theorem out_len {p : List Ins} {r : List ByteArray} {u : Int} (hp : ∀ x ∈ p, I64 x.f1) (hr : r.length ≤ 140737488351232) (c : (stackP May p []).2.2 = 0) (d : (runV r [] p [] u).2.2 = 0) : (∀ v ∈ (runV r [] p [] u).1, Val1 v) ∧ (runV r [] p [] u).1.map (·.f0) = (stackP May p []).1 := by
  obtain ⟨h1, _, h3, h4⟩ := stack_go c
  obtain ⟨_, _, e3⟩ := run_ok TX_ DO_ r hr [] (.inl rfl) (by simp) p 0 [] 0 u hp (by simp) (by decide) h3
  rw [h4]
  exact e3 d
theorem one_f (p : List Ins) (r : List ByteArray) (u : Int) (hp : ∀ x ∈ p, I64 x.f1) (hr : r.length ≤ 140737488351232) (hu : I64 u) : Ev (fun k => eval_One.f k p r u) (oneV r p u) := by
  unfold eval_One.f oneV
  have hS : check_Stack.f p [] = some (stackP May p []) := rfl
  simp only [hS, Option.bind_some]
  by_cases c : (stackP May p []).2.2 = 0
  · simp only [if_pos c]
    by_cases e : (stackP May p []).1.length = 1
    · simp only [if_pos (show ((stackP May p []).1.length : Int) = 1 by omega), if_pos e]
      refine Ev.bind (run_f p r u hp hr hu) ?_
      unfold outV
      by_cases d : (runV r [] p [] u).2.2 = 0
      · have hl := congrArg List.length (out_len hp hr c d).2
        rw [List.length_map, e] at hl
        simp only [if_pos c, if_pos d, if_true, if_pos (show (0 : Int) < ((runV r [] p [] u).1.length : Int) by omega)]
        exact Ev.now _
      · simp only [if_pos c, if_neg d, if_neg (show ¬ (12 : Int) = 0 by decide)]
        exact Ev.now _
    · simp only [if_neg (show ¬ ((stackP May p []).1.length : Int) = 1 by omega), if_neg e]
      exact Ev.now _
  · simp only [if_neg c]
    exact Ev.now _
def yesP (r : List ByteArray) (p : List Ins) (u : Int) : Bool × Int × Int :=
  if p.length = 0 then (true, u, 0) else if checkP p [] [false] = 0 then ((oneV r p u).2.1 != 0, (oneV r p u).2.2.2.1, (oneV r p u).2.2.2.2) else (false, u, checkP p [] [false])
theorem evyes_f (p : List Ins) (r : List ByteArray) (u : Int) (hp : ∀ x ∈ p, I64 x.f1) (hr : r.length ≤ 140737488351232) (hu : I64 u) : Ev (fun k => eval_Yes.f k p r u) (yesP r p u) := by
  unfold eval_Yes.f yesP
  by_cases h0 : p.length = 0
  · simp only [if_pos (show (p.length : Int) = 0 by omega), if_pos h0]
    exact Ev.now _
  simp only [if_neg (show ¬ (p.length : Int) = 0 by omega), if_neg h0]
  refine Ev.bind (check_f p [] [false]) ?_
  by_cases c : checkP p [] [false] = 0
  · simp only [if_pos c]
    refine Ev.bind (one_f p r u hp hr hu) ?_
    exact Ev.now _
  · simp only [if_neg c]
    exact Ev.now _
end Go.Proofs.YtialoecplmnjfaaGreatDoorL
namespace Go.Proofs.YtialoecplmnjfaaGreatDoorL
open Go.RowKit Go.Proofs Go.Proofs.YtialoecplmnjfaaGreatDoor Go.Proofs.YtialoecplmnjfaaGreatDoor.PX Go.Proofs.YtialoecplmnjfaaGreatDoorW.PrintWords Go.Proofs.YtialoecplmnjfaaGreatDoorW.PrintMore Go.Proofs.YtialoecplmnjfaaGreatDoor.XCheck
abbrev It := S55
abbrev Jb := S26
theorem small_go (l : List S50) : ∀ m i : Nat, i + m = 40 → i ≤ l.length → ∃ b, Ev (fun k => w18_small.l0 k l (i : Int)) b
  | 0, i, hi, hl => by
    by_cases h : i < l.length
    · refine ⟨false, Ev.succ ?_⟩
      simp only [w18_small.l0, if_pos (show (i : Int) < (l.length : Int) by omega), if_pos (show (i : Int) = 40 by omega)]
      exact Ev.now _
    · refine ⟨true, Ev.succ ?_⟩
      simp only [w18_small.l0, if_neg (show ¬ (i : Int) < (l.length : Int) by omega)]
      exact Ev.now _
  | m + 1, i, hi, hl => by
    by_cases h : i < l.length
    · by_cases h2 : (((rd_T50 l (i : Int)).f2).size : Int) > 1100
      · refine ⟨false, Ev.succ ?_⟩
        simp only [w18_small.l0, if_pos (show (i : Int) < (l.length : Int) by omega), if_neg (show ¬ (i : Int) = 40 by omega), if_pos (show (0 : Int) ≤ (i : Int) by omega), if_pos h2]
        exact Ev.now _
      · obtain ⟨b, hb⟩ := small_go l m (i + 1) (by omega) (by omega)
        refine ⟨b, Ev.succ ?_⟩
        simp only [w18_small.l0, if_pos (show (i : Int) < (l.length : Int) by omega), if_neg (show ¬ (i : Int) = 40 by omega), if_pos (show (0 : Int) ≤ (i : Int) by omega), if_neg h2, wrap_succ (i := i) (by omega)]
        exact hb
    · refine ⟨true, Ev.succ ?_⟩
      simp only [w18_small.l0, if_neg (show ¬ (i : Int) < (l.length : Int) by omega)]
      exact Ev.now _
theorem small_f (l : List S50) : ∃ b, Ev (fun k => w18_small.f k l) b := small_go l 40 0 rfl (Nat.zero_le _)
theorem little_f (j : Jb) : ∃ b, Ev (fun k => w18_little.f k j.f0 j.f1 j.f2 j.f3 j.f4 j.f5 j.f6.f0 j.f6.f1 j.f6.f2 j.f7 j.f8 j.f9 j.f10 j.f11) b := by
  obtain ⟨b1, h1⟩ := small_f j.f1
  obtain ⟨b2, h2⟩ := small_f j.f2
  obtain ⟨b3, h3⟩ := small_f j.f3
  obtain ⟨b5, h5⟩ := small_f j.f5
  refine ⟨if b1 = true then (if b2 = true then (if b3 = true then (if b5 = true then decide ((j.f6.f2.size : Int) ≤ 1100) else false) else false) else false) else false, ?_⟩
  unfold w18_little.f
  refine Ev.bind h1 ?_
  cases b1
  · exact Ev.now _
  refine Ev.bind h2 ?_
  cases b2
  · exact Ev.now _
  refine Ev.bind h3 ?_
  cases b3
  · exact Ev.now _
  refine Ev.bind h5 ?_
  cases b5
  · exact Ev.now _
  · exact Ev.now _
theorem rdBB {xs : List (List ByteArray)} {i : Nat} (h : i < xs.length) : rd_L7 xs (i : Int) = xs[i] := by
  unfold rd_L7
  rw [Int.toNat_natCast, List.getD_eq_getElem?_getD, List.getElem?_eq_getElem h]
  rfl
theorem rdB {xs : List ByteArray} {i : Nat} (h : i < xs.length) : rdOf ByteArray.empty xs (i : Int) = xs[i] := by
  unfold rdOf
  rw [Int.toNat_natCast, List.getD_eq_getElem?_getD, List.getElem?_eq_getElem h]
  rfl
def Short (r : List ByteArray) : Prop := r.length ≤ 1500 ∧ ∀ s ∈ r, s.size ≤ 1500
theorem few_l1 (L : List (List ByteArray)) (i : Nat) (hi : i < L.length) (r : List ByteArray) (hr : L[i] = r) (hs : ∀ s ∈ r, s.size ≤ 140737488351232) (hil : L.length < 100000000000000) (Q : Prop) : ∀ (m q : Nat), q + m = r.length → ∀ n : Int, (q : Int) ≤ n → n ≤ 1500 →
    (∀ n' : Int, 0 ≤ n' → n' ≤ 1500 → ∃ b, Ev (fun k => r01_Few.l0 k L 40 1500 n' ((i + 1 : Nat) : Int)) b ∧ (b = true → Q)) →
    ∃ b, Ev (fun k => r01_Few.l1 k L 40 1500 n (i : Int) (q : Int)) b ∧ (b = true → Q ∧ r.length ≤ 1500 ∧ ∀ s ∈ r.drop q, s.size ≤ 1500)
  | 0, q, hq, n, h0, h1, hk => by
    obtain ⟨b, hb, hb2⟩ := hk (n + 1 - 1) (by omega) (by omega)
    rw [show n + 1 - 1 = n by omega] at hb
    refine ⟨b, Ev.succ ?_, fun e => ⟨hb2 e, by omega, fun s hs' => by rw [List.drop_eq_nil_of_le (by omega)] at hs'; cases hs'⟩⟩
    simp only [r01_Few.l1, if_pos (show (0 : Int) ≤ (i : Int) by omega), if_pos (show (i : Int) < (L.length : Int) by omega), rdBB hi, hr, if_neg (show ¬ (q : Int) < (r.length : Int) by omega), wrap_succ (i := i) (by omega)]
    exact hb
  | m + 1, q, hq, n, h0, h1, hk => by
    have hlt : q < r.length := by omega
    have hsz := hs _ (List.getElem_mem hlt)
    have e : wrap64 (wrap64 (n + 1) + ((rdOf ByteArray.empty r (q : Int)).size : Int)) = n + 1 + (r[q].size : Int) := by
      rw [rdB hlt, wrap_id (x := n + 1) (by omega) (by omega), wrap_id (by omega) (by omega)]
    by_cases c : n + 1 + (r[q].size : Int) > 1500
    · refine ⟨false, Ev.succ ?_, fun h => by cases h⟩
      simp only [r01_Few.l1, if_pos (show (0 : Int) ≤ (i : Int) by omega), if_pos (show (i : Int) < (L.length : Int) by omega), rdBB hi, hr, if_pos (show (q : Int) < (r.length : Int) by omega), if_pos (show (0 : Int) ≤ (q : Int) by omega), e, if_pos c]
      exact Ev.now _
    · obtain ⟨b, hb, hb2⟩ := few_l1 L i hi r hr hs hil Q m (q + 1) (by omega) (n + 1 + (r[q].size : Int)) (by omega) (by omega) hk
      refine ⟨b, Ev.succ ?_, fun h => ⟨(hb2 h).1, (hb2 h).2.1, fun s hs' => ?_⟩⟩
      · simp only [r01_Few.l1, if_pos (show (0 : Int) ≤ (i : Int) by omega), if_pos (show (i : Int) < (L.length : Int) by omega), rdBB hi, hr, if_pos (show (q : Int) < (r.length : Int) by omega), if_pos (show (0 : Int) ≤ (q : Int) by omega), e, if_neg c, wrap_succ (i := q) (by omega)]
        exact hb
      · rw [List.drop_eq_getElem_cons hlt] at hs'
        rcases List.mem_cons.1 hs' with h' | h'
        · rw [h']; omega
        · exact (hb2 h).2.2 s h'
theorem few_l0 (L : List (List ByteArray)) (hL : ∀ r ∈ L, r.length ≤ 140737488351232 ∧ ∀ s ∈ r, s.size ≤ 140737488351232) (hil : L.length < 100000000000000) : ∀ (m i : Nat), i + m = L.length → ∀ n : Int, 0 ≤ n → n ≤ 1500 →
    ∃ b, Ev (fun k => r01_Few.l0 k L 40 1500 n (i : Int)) b ∧ (b = true → L.length ≤ 40 ∧ ∀ r ∈ L.drop i, Short r)
  | 0, i, hi, n, h0, h1 => by
    refine ⟨decide ((L.length : Int) ≤ 40), Ev.succ ?_, fun h => ⟨by have := of_decide_eq_true h; omega, fun r hr => by rw [List.drop_eq_nil_of_le (by omega)] at hr; cases hr⟩⟩
    simp only [r01_Few.l0, if_neg (show ¬ (i : Int) < (L.length : Int) by omega)]
    exact Ev.now _
  | m + 1, i, hi, n, h0, h1 => by
    have hlt : i < L.length := by omega
    obtain ⟨hrl, hrs⟩ := hL _ (List.getElem_mem hlt)
    obtain ⟨b, hb, hb2⟩ := few_l1 L i hlt L[i] rfl hrs hil (L.length ≤ 40 ∧ ∀ r ∈ L.drop (i + 1), Short r) L[i].length 0 (by omega) n (by omega) h1 (fun n' h0' h1' => few_l0 L hL hil m (i + 1) (by omega) n' h0' h1')
    refine ⟨b, Ev.succ ?_, fun h => ⟨(hb2 h).1.1, fun r hr => ?_⟩⟩
    · simp only [r01_Few.l0, if_pos (show (i : Int) < (L.length : Int) by omega)]
      exact hb
    · rw [List.drop_eq_getElem_cons hlt] at hr
      rcases List.mem_cons.1 hr with h' | h'
      · rw [h']; exact (hb2 h).2
      · exact (hb2 h).1.2 r h'
theorem few18 (L : List (List ByteArray)) (hL : ∀ r ∈ L, r.length ≤ 140737488351232 ∧ ∀ s ∈ r, s.size ≤ 140737488351232) (hil : L.length < 100000000000000) : ∃ b, Ev (fun k => r01_Few.f k L 40 1500) b ∧ (b = true → L.length ≤ 40 ∧ ∀ r ∈ L, Short r) :=
  few_l0 L hL hil L.length 0 (by omega) 0 (by decide) (by decide)
theorem spans_le (p : Nat → Bool) (s : ByteArray) : ∀ (f pos : Nat) (st : Option Nat) (acc : List (Nat × Nat)), (Lib.spansFromP p s f pos st acc).1.length ≤ acc.length + f
  | 0, _, _, _ => by simp [Lib.spansFromP]
  | f + 1, pos, st, acc => by
    unfold Lib.spansFromP
    have h1 := fun st' => spans_le p s f (pos + (Utf8.decode s pos).2) st' acc
    have h2 := fun a => spans_le p s f (pos + (Utf8.decode s pos).2) none (acc ++ [(a, pos)])
    simp only [List.length_append, List.length_singleton] at h2
    split
    · split
      · cases st with
        | none => have := h1 none; simp only; omega
        | some a => have := h2 a; simp only; omega
      · cases st with
        | none => have := h1 (some pos); simp only; omega
        | some a => have := h1 (some a); simp only; omega
    · simp
theorem fields_le (p : Nat → Bool) (s : ByteArray) : (Lib.goFieldsP p s).length ≤ s.size + 1 := by
  unfold Lib.goFieldsP
  rw [List.length_map]
  unfold Lib.spansOfP Lib.closeSpans
  have := spans_le p s s.size 0 none []
  split
  · rw [List.length_append, List.length_singleton]; simp at this; omega
  · simp at this; omega
def itoa18 (i : Nat) : ByteArray := ⟨(Lib.itoa (i : Int)).toArray⟩
def seeW (W : List ByteArray) : List (List ByteArray) := (List.range W.length).map fun i => [W.getD i ByteArray.empty, itoa18 i]
def seeV (words : Bool) (r : List ByteArray) : List (List ByteArray) := if words = true then (if r.length = 0 then [] else seeW (Lib.goFieldsP XWords.blankR (rdOf ByteArray.empty r 0))) else [r]
theorem see_go (W : List ByteArray) (hW : W.length ≤ 100000) : ∀ (m i : Nat), i + m = W.length →
    Ev (fun k => mapper_See.l0 k ((List.range i).map fun i => [W.getD i ByteArray.empty, itoa18 i]) W (W.length : Int) (i : Int)) (seeW W)
  | 0, i, hi => by
    refine Ev.succ ?_
    simp only [mapper_See.l0, if_neg (show ¬ (i : Int) < (W.length : Int) by omega)]
    exact Ev.ret (by rw [show i = W.length by omega]; rfl)
  | m + 1, i, hi => by
    have ih := see_go W hW m (i + 1) (by omega)
    rw [List.range_succ, List.map_append, List.map_singleton] at ih
    have hrd : rdOf ByteArray.empty W (i : Int) = W.getD i ByteArray.empty := by unfold rdOf; rw [Int.toNat_natCast]
    have hit : strconv_Itoa.f (i : Int) = some (itoa18 i) := by unfold strconv_Itoa.f; rw [if_pos ⟨by omega, by omega⟩]; rfl
    refine Ev.succ ?_
    simp only [mapper_See.l0, if_pos (show (i : Int) < (W.length : Int) by omega), if_pos (show (0 : Int) ≤ (i : Int) by omega), hrd, hit, Option.bind_some, List.length_map, List.length_range, if_pos (show i < 5864062014805 by omega), wrap_succ (i := i) (by omega)]
    exact ih
theorem see_f (j : Jb) (r : List ByteArray) (hr : Short r) : Ev (fun k => mapper_See.f k j.f0 j.f1 j.f2 j.f3 j.f4 j.f5 j.f6.f0 j.f6.f1 j.f6.f2 j.f7 j.f8 j.f9 j.f10 j.f11 r) (seeV j.f0 r) := by
  unfold mapper_See.f seeV
  by_cases c : j.f0 = true
  · simp only [if_pos c]
    by_cases d : r.length = 0
    · simp only [if_pos (show (r.length : Int) = 0 by omega), if_pos d]
      exact Ev.now _
    · simp only [if_neg (show ¬ (r.length : Int) = 0 by omega), if_neg d, if_pos (show (0 : Int) < (r.length : Int) by omega)]
      have hlt : 0 < r.length := by omega
      have hrd : rdOf ByteArray.empty r 0 = r[0] := rdB (i := 0) hlt
      have hsz : (rdOf ByteArray.empty r 0).size ≤ 1500 := by rw [hrd]; exact hr.2 _ (List.getElem_mem hlt)
      have hf : field_Words.f (rdOf ByteArray.empty r 0) = some (Lib.goFieldsP XWords.blankR (rdOf ByteArray.empty r 0)) := by unfold field_Words.f; rw [if_pos (by omega)]
      simp only [hf, Option.bind_some]
      have hle := fields_le XWords.blankR (rdOf ByteArray.empty r 0)
      exact see_go (Lib.goFieldsP XWords.blankR (rdOf ByteArray.empty r 0)) (by omega) (Lib.goFieldsP XWords.blankR (rdOf ByteArray.empty r 0)).length 0 (by omega)
  · simp only [if_neg c]
    have hf : api_Rec_string.f r = some r := by unfold api_Rec_string.f; rw [if_pos (by have := hr.1; omega)]
    simp only [hf, Option.bind_some]
    exact Ev.now _
theorem see_len (words : Bool) (r : List ByteArray) (hr : Short r) : (seeV words r).length ≤ 1501 ∧ ∀ s ∈ seeV words r, s.length ≤ 1500 := by
  unfold seeV
  split
  · split
    · exact ⟨by simp, fun s hs => by cases hs⟩
    · rename_i d
      have hlt : 0 < r.length := by omega
      have hrd : rdOf ByteArray.empty r 0 = r[0] := rdB (i := 0) hlt
      have hsz : (rdOf ByteArray.empty r 0).size ≤ 1500 := by rw [hrd]; exact hr.2 _ (List.getElem_mem hlt)
      have hle := fields_le XWords.blankR (rdOf ByteArray.empty r 0)
      refine ⟨by unfold seeW; rw [List.length_map, List.length_range]; omega, fun s hs => ?_⟩
      obtain ⟨i, _, rfl⟩ := List.mem_map.1 hs
      simp
  · exact ⟨by simp, fun s hs => by rw [List.mem_singleton.1 hs]; exact hr.1⟩
theorem jone (p : List Ins) : ∃ v, job_one.f p = some v := by
  unfold job_one.f
  have hS : check_Stack.f p [] = some (stackP May p []) := rfl
  simp only [hS, Option.bind_some]
  split
  · split
    · rename_i h1
      rw [if_pos (by omega)]
      exact ⟨_, rfl⟩
    · exact ⟨_, rfl⟩
  · exact ⟨_, rfl⟩
theorem isv (b : Bool) (n : Int) (s : ByteArray) : ∃ v, job_isVal.f b n s = some v := by
  unfold job_isVal.f
  rw [text_f]
  simp only [Option.bind_some, num_f]
  split <;> exact ⟨_, rfl⟩
theorem goes_f (j : Jb) : ∃ b, Ev (fun k => job_Job_goes.f k j.f0 j.f1 j.f2 j.f3 j.f4 j.f5 j.f6.f0 j.f6.f1 j.f6.f2 j.f7 j.f8 j.f9 j.f10 j.f11) b := by
  have hj2 : ∀ x3 x32 x33, ∃ b, Ev (fun k => job_Job_goes.j2 k x3 x32 x33 j.f0 j.f1 j.f2 j.f3 j.f4 j.f5 j.f6.f0 j.f6.f1 j.f6.f2 j.f7 j.f8 j.f9 j.f10 j.f11) b := fun x3 x32 x33 => by
    by_cases c : x33 = true
    · refine ⟨!x3, Ev.succ ?_⟩
      simp only [job_Job_goes.j2, if_pos c]
      exact Ev.now _
    by_cases c6 : x32 = 6
    · refine ⟨x3, Ev.succ ?_⟩
      simp only [job_Job_goes.j2, if_neg c, if_pos c6]
      exact Ev.now _
    by_cases c7 : x32 = 7
    · refine ⟨checkP j.f5 [j.f6.f0, x3] [j.f6.f0] == 0, Ev.succ ?_⟩
      simp only [job_Job_goes.j2, if_neg c, if_neg c6, if_pos c7]
      exact Ev.bind (check_f _ _ _) (Ev.now _)
    · refine ⟨true, Ev.succ ?_⟩
      simp only [job_Job_goes.j2, if_neg c, if_neg c6, if_neg c7]
      exact Ev.now _
  have hj1 : ∀ x3 x30, ∃ b, Ev (fun k => job_Job_goes.j1 k x3 x30 j.f0 j.f1 j.f2 j.f3 j.f4 j.f5 j.f6.f0 j.f6.f1 j.f6.f2 j.f7 j.f8 j.f9 j.f10 j.f11) b := fun x3 x30 => by
    by_cases c : x30 = true
    · refine ⟨false, Ev.succ ?_⟩
      simp only [job_Job_goes.j1, if_pos c]
      exact Ev.now _
    by_cases c0 : j.f4 = 0
    · obtain ⟨b, hb⟩ := hj2 x3 j.f4 (j.f4 == 0)
      refine ⟨b, Ev.succ ?_⟩
      simp only [job_Job_goes.j1, if_neg c, if_pos c0]
      exact hb
    by_cases c1 : j.f4 = 1
    · obtain ⟨b, hb⟩ := hj2 x3 j.f4 (j.f4 == 1)
      refine ⟨b, Ev.succ ?_⟩
      simp only [job_Job_goes.j1, if_neg c, if_neg c0, if_pos c1]
      exact hb
    · obtain ⟨b, hb⟩ := hj2 x3 j.f4 (j.f4 == 2)
      refine ⟨b, Ev.succ ?_⟩
      simp only [job_Job_goes.j1, if_neg c, if_neg c0, if_neg c1]
      exact hb
  have hj0 : ∀ x15, ∃ b, Ev (fun k => job_Job_goes.j0 k x15 j.f0 j.f1 j.f2 j.f3 j.f4 j.f5 j.f6.f0 j.f6.f1 j.f6.f2 j.f7 j.f8 j.f9 j.f10 j.f11) b := fun x15 => by
    by_cases c : x15 = true
    · refine ⟨false, Ev.succ ?_⟩
      simp only [job_Job_goes.j0, if_pos c]
      exact Ev.now _
    obtain ⟨v, hv⟩ := jone j.f3
    by_cases d : v.2 = true
    · obtain ⟨b, hb⟩ := hj1 v.1 (checkP j.f2 [] [true] != 0)
      refine ⟨b, Ev.succ ?_⟩
      simp only [job_Job_goes.j0, if_neg c, hv, Option.bind_some, if_pos d]
      exact Ev.bind (check_f _ _ _) hb
    · obtain ⟨b, hb⟩ := hj1 v.1 true
      refine ⟨b, Ev.succ ?_⟩
      simp only [job_Job_goes.j0, if_neg c, hv, Option.bind_some, if_neg d]
      exact hb
  unfold job_Job_goes.f
  by_cases c : (j.f1.length : Int) > 0
  · simp only [if_pos c]
    obtain ⟨b, hb⟩ := hj0 (checkP j.f1 [] [false] != 0)
    exact ⟨b, Ev.bind (check_f _ _ _) hb⟩
  · simp only [if_neg c]
    exact hj0 false
theorem jcheck_f (j : Jb) : ∃ c, Ev (fun k => job_Check.f k j.f0 j.f1 j.f2 j.f3 j.f4 j.f5 j.f6.f0 j.f6.f1 j.f6.f2 j.f7 j.f8 j.f9 j.f10 j.f11) c := by
  obtain ⟨g, hg⟩ := goes_f j
  obtain ⟨v, hv⟩ := isv j.f6.f0 j.f6.f1 j.f6.f2
  have h1 : ∀ x3 x4, ∃ c, Ev (fun k => job_Check.j1 k x3 x4 j.f0 j.f1 j.f2 j.f3 j.f4 j.f5 j.f6.f0 j.f6.f1 j.f6.f2 j.f7 j.f8 j.f9 j.f10 j.f11) c := fun x3 x4 => by
    have key : ∃ c, ∀ k, job_Job_goes.f k j.f0 j.f1 j.f2 j.f3 j.f4 j.f5 j.f6.f0 j.f6.f1 j.f6.f2 j.f7 j.f8 j.f9 j.f10 j.f11 = some g → job_Check.j1 (k + 1) x3 x4 j.f0 j.f1 j.f2 j.f3 j.f4 j.f5 j.f6.f0 j.f6.f1 j.f6.f2 j.f7 j.f8 j.f9 j.f10 j.f11 = some c := by
      refine Classical.byContradiction fun hn => ?_
      have hh : ∀ c, ∃ k, job_Job_goes.f k j.f0 j.f1 j.f2 j.f3 j.f4 j.f5 j.f6.f0 j.f6.f1 j.f6.f2 j.f7 j.f8 j.f9 j.f10 j.f11 = some g ∧ ¬ job_Check.j1 (k + 1) x3 x4 j.f0 j.f1 j.f2 j.f3 j.f4 j.f5 j.f6.f0 j.f6.f1 j.f6.f2 j.f7 j.f8 j.f9 j.f10 j.f11 = some c := fun c => Classical.byContradiction fun hc => hn ⟨c, fun k hk => Classical.byContradiction fun h2 => hc ⟨k, hk, h2⟩⟩
      obtain ⟨k0, e0, f0⟩ := hh 0
      obtain ⟨k1, e1, f1⟩ := hh 1
      obtain ⟨k2, e2, f2⟩ := hh 11
      simp only [job_Check.j1, e0, hv, Option.bind_some] at f0
      simp only [job_Check.j1, e1, hv, Option.bind_some] at f1
      simp only [job_Check.j1, e2, hv, Option.bind_some] at f2
      revert f0 f1 f2
      repeat' split
      all_goals simp
    obtain ⟨c, hc⟩ := key
    obtain ⟨K, hK⟩ := hg
    refine ⟨c, Ev.succ ⟨K, fun k hk => hc k (hK k hk)⟩⟩
  have h0 : ∀ x3, ∃ c, Ev (fun k => job_Check.j0 k x3 j.f0 j.f1 j.f2 j.f3 j.f4 j.f5 j.f6.f0 j.f6.f1 j.f6.f2 j.f7 j.f8 j.f9 j.f10 j.f11) c := fun x3 => by
    obtain ⟨ca, ha⟩ := h1 x3 (decide (j.f11 ≤ 100000))
    obtain ⟨cb, hb⟩ := h1 x3 false
    by_cases c1 : j.f8 ≥ 1 ∧ j.f8 ≤ 8 ∧ j.f11 ≥ 0
    · refine ⟨ca, Ev.succ ?_⟩
      simp only [job_Check.j0, if_pos c1.1, if_pos c1.2.1, if_pos c1.2.2]
      exact ha
    · refine ⟨cb, Ev.succ ?_⟩
      by_cases d1 : j.f8 ≥ 1
      · by_cases d2 : j.f8 ≤ 8
        · simp only [job_Check.j0, if_pos d1, if_pos d2, if_neg (show ¬ j.f11 ≥ 0 from fun d3 => c1 ⟨d1, d2, d3⟩)]
          exact hb
        · simp only [job_Check.j0, if_pos d1, if_neg d2]
          exact hb
      · simp only [job_Check.j0, if_neg d1]
        exact hb
  unfold job_Check.f
  by_cases c : (j.f5.length : Int) = 0
  · simp only [if_pos c, num_f, Option.bind_some]
    exact h0 _
  · simp only [if_neg c]
    exact h0 _
end Go.Proofs.YtialoecplmnjfaaGreatDoorL
namespace Go.Proofs.YtialoecplmnjfaaGreatDoorL
open Go.RowKit Go.Proofs Go.Proofs.YtialoecplmnjfaaGreatDoor Go.Proofs.YtialoecplmnjfaaGreatDoor.PX Go.Proofs.YtialoecplmnjfaaGreatDoorW.PrintWords Go.Proofs.YtialoecplmnjfaaGreatDoorW.PrintMore Go.Proofs.YtialoecplmnjfaaGreatDoor.XCheck
abbrev Six := ByteArray × Bool × Int × ByteArray × Bool × Int
def oneR (w key val : List Ins) (u : Int) (s : List ByteArray) : Six :=
  if (yesP s w u).2.2 = 0 then (if (yesP s w u).1 = true then (if (oneV s key u).2.2.2.2 = 0 then ((oneV s key u).2.2.1, (oneV s val u).1, (oneV s val u).2.1, (oneV s val u).2.2.1, true, (oneV s val u).2.2.2.2) else (⟨#[]⟩, false, 0, ⟨#[]⟩, false, (oneV s key u).2.2.2.2)) else (⟨#[]⟩, false, 0, ⟨#[]⟩, false, 0))
  else (⟨#[]⟩, false, 0, ⟨#[]⟩, false, (yesP s w u).2.2)
def itemV (key val : List Ins) (u : Int) (s : List ByteArray) : It := ⟨(oneV s key u).2.2.1, ⟨(oneV s val u).1, (oneV s val u).2.1, (oneV s val u).2.2.1⟩⟩
structure Okay (j : Jb) : Prop where
  where_ : ∀ x ∈ j.f1, I64 x.f1
  key : ∀ x ∈ j.f2, I64 x.f1
  val : ∀ x ∈ j.f3, I64 x.f1
  fuel : I64 j.f11
theorem oneE (j : Jb) (hj : Okay j) (s : List ByteArray) (hs : s.length ≤ 140737488351232) : Ev (fun k => mapper_one.f k j.f0 j.f1 j.f2 j.f3 j.f4 j.f5 j.f6.f0 j.f6.f1 j.f6.f2 j.f7 j.f8 j.f9 j.f10 j.f11 s) (oneR j.f1 j.f2 j.f3 j.f11 s) := by
  unfold mapper_one.f oneR
  refine Ev.bind (evyes_f j.f1 s j.f11 hj.where_ hs hj.fuel) ?_
  by_cases c : (yesP s j.f1 j.f11).2.2 = 0
  · simp only [if_pos c]
    refine Ev.succ ?_
    by_cases d : (yesP s j.f1 j.f11).1 = true
    · simp only [mapper_one.j0, d, Bool.not_true, Bool.false_eq_true, if_false, if_true]
      refine Ev.bind (one_f j.f2 s j.f11 hj.key hs hj.fuel) ?_
      by_cases e : (oneV s j.f2 j.f11).2.2.2.2 = 0
      · simp only [if_pos e]
        exact Ev.bind (one_f j.f3 s j.f11 hj.val hs hj.fuel) (Ev.now _)
      · simp only [if_neg e]
        exact Ev.now _
    · simp only [mapper_one.j0, Bool.eq_false_iff.2 d, Bool.not_false, if_true, Bool.false_eq_true, if_false, c]
      exact Ev.now _
  · simp only [if_neg c]
    refine Ev.succ ?_
    simp only [mapper_one.j0, if_true]
    exact Ev.now _
def mapS (one : List ByteArray → Six) : List (List ByteArray) → List It → List It × Int
  | [], acc => (acc, 0)
  | s :: t, acc => if (one s).2.2.2.2.2 = 0 then (if (one s).2.2.2.2.1 = true then mapS one t (acc ++ [⟨(one s).1, ⟨(one s).2.1, (one s).2.2.1, (one s).2.2.2.1⟩⟩]) else mapS one t acc) else ([], (one s).2.2.2.2.2)
def mapT (one : List ByteArray → Six) (see : List ByteArray → List (List ByteArray)) : List (List ByteArray) → List It → List It × Int
  | [], acc => (acc, 0)
  | r :: t, acc => if (mapS one (see r) acc).2 = 0 then mapT one see t (mapS one (see r) acc).1 else mapS one (see r) acc
theorem mapS_len (one : List ByteArray → Six) : ∀ (l : List (List ByteArray)) (acc : List It), (mapS one l acc).1.length ≤ acc.length + l.length
  | [], acc => by simp [mapS]
  | s :: t, acc => by
    unfold mapS
    split
    · split
      · have := mapS_len one t (acc ++ [⟨(one s).1, ⟨(one s).2.1, (one s).2.2.1, (one s).2.2.2.1⟩⟩])
        simp only [List.length_append, List.length_nil, List.length_cons] at this ⊢
        omega
      · have := mapS_len one t acc
        simp only [List.length_cons]
        omega
    · simp
theorem map_l1 (j : Jb) (hj : Okay j) (L : List (List ByteArray)) (i : Nat) (hi : i < 1000000) (seen : List (List ByteArray)) (hlen : seen.length ≤ 100000) (hs : ∀ s ∈ seen, s.length ≤ 140737488351232) (X : List It × Int) : ∀ (m q : Nat), q + m = seen.length → ∀ acc : List It, acc.length + m ≤ 100000000 →
    ((mapS (oneR j.f1 j.f2 j.f3 j.f11) (seen.drop q) acc).2 = 0 → Ev (fun k => mapper_Map.l0 k (mapS (oneR j.f1 j.f2 j.f3 j.f11) (seen.drop q) acc).1 L (L.length : Int) ((i + 1 : Nat) : Int) j.f0 j.f1 j.f2 j.f3 j.f4 j.f5 j.f6.f0 j.f6.f1 j.f6.f2 j.f7 j.f8 j.f9 j.f10 j.f11) X) →
    ((mapS (oneR j.f1 j.f2 j.f3 j.f11) (seen.drop q) acc).2 ≠ 0 → X = mapS (oneR j.f1 j.f2 j.f3 j.f11) (seen.drop q) acc) →
    Ev (fun k => mapper_Map.l1 k acc L (L.length : Int) (i : Int) seen (seen.length : Int) (q : Int) j.f0 j.f1 j.f2 j.f3 j.f4 j.f5 j.f6.f0 j.f6.f1 j.f6.f2 j.f7 j.f8 j.f9 j.f10 j.f11) X
  | 0, q, hq, acc, ha, hk, he => by
    rw [List.drop_eq_nil_of_le (by omega)] at hk
    refine Ev.succ ?_
    simp only [mapper_Map.l1, if_neg (show ¬ (q : Int) < (seen.length : Int) by omega), wrap_succ (i := i) (by omega)]
    exact hk rfl
  | m + 1, q, hq, acc, ha, hk, he => by
    have hlt : q < seen.length := by omega
    rw [List.drop_eq_getElem_cons hlt] at hk he
    refine Ev.succ ?_
    simp only [mapper_Map.l1, if_pos (show (q : Int) < (seen.length : Int) by omega), if_pos (show (0 : Int) ≤ (q : Int) by omega), rdBB hlt]
    refine Ev.bind (oneE j hj seen[q] (hs _ (List.getElem_mem hlt))) ?_
    by_cases c : (oneR j.f1 j.f2 j.f3 j.f11 seen[q]).2.2.2.2.2 = 0
    · by_cases d : (oneR j.f1 j.f2 j.f3 j.f11 seen[q]).2.2.2.2.1 = true
      · simp only [mapS, if_pos c, if_pos d] at hk he
        simp only [if_pos c, if_pos d, if_pos (show acc.length < 2932031007402 by omega), wrap_succ (i := q) (by omega)]
        exact map_l1 j hj L i hi seen hlen hs X m (q + 1) (by omega) _ (by simp only [List.length_append, List.length_singleton]; omega) hk he
      · simp only [mapS, if_pos c, if_neg d] at hk he
        simp only [if_pos c, if_neg d, wrap_succ (i := q) (by omega)]
        exact map_l1 j hj L i hi seen hlen hs X m (q + 1) (by omega) acc (by omega) hk he
    · simp only [mapS, if_neg c] at hk he
      simp only [if_neg c]
      exact Ev.ret (he c).symm
theorem map_l0 (j : Jb) (hj : Okay j) (L : List (List ByteArray)) (hL : ∀ r ∈ L, Short r) (hl : L.length ≤ 40) : ∀ (m i : Nat), i + m = L.length → ∀ acc : List It, acc.length + m * 1501 ≤ 100000000 →
    Ev (fun k => mapper_Map.l0 k acc L (L.length : Int) (i : Int) j.f0 j.f1 j.f2 j.f3 j.f4 j.f5 j.f6.f0 j.f6.f1 j.f6.f2 j.f7 j.f8 j.f9 j.f10 j.f11) (mapT (oneR j.f1 j.f2 j.f3 j.f11) (seeV j.f0) (L.drop i) acc)
  | 0, i, hi, acc, ha => by
    refine Ev.succ ?_
    simp only [mapper_Map.l0, if_neg (show ¬ (i : Int) < (L.length : Int) by omega)]
    exact Ev.ret (by rw [List.drop_eq_nil_of_le (by omega)]; rfl)
  | m + 1, i, hi, acc, ha => by
    have hlt : i < L.length := by omega
    have hsh := hL _ (List.getElem_mem hlt)
    obtain ⟨h1, h2⟩ := see_len j.f0 L[i] hsh
    rw [List.drop_eq_getElem_cons hlt]
    have hml := mapS_len (oneR j.f1 j.f2 j.f3 j.f11) (seeV j.f0 L[i]) acc
    refine Ev.succ ?_
    simp only [mapper_Map.l0, if_pos (show (i : Int) < (L.length : Int) by omega), if_pos (show (0 : Int) ≤ (i : Int) by omega), rdBB hlt]
    refine Ev.bind (see_f j L[i] hsh) ?_
    refine map_l1 j hj L i (by omega) (seeV j.f0 L[i]) (by omega) (fun s hs => by have := h2 s hs; omega) _ (seeV j.f0 L[i]).length 0 (by omega) acc (by omega) (fun h => ?_) (fun h => ?_)
    · rw [List.drop_zero] at h ⊢
      unfold mapT
      rw [if_pos h]
      exact map_l0 j hj L hL hl m (i + 1) (by omega) _ (by omega)
    · rw [List.drop_zero] at h ⊢
      unfold mapT
      rw [if_neg h]
theorem map_f (j : Jb) (hj : Okay j) (L : List (List ByteArray)) (hL : ∀ r ∈ L, Short r) (hl : L.length ≤ 40) : ∃ c, Ev (fun k => mapper_Map.f k j.f0 j.f1 j.f2 j.f3 j.f4 j.f5 j.f6.f0 j.f6.f1 j.f6.f2 j.f7 j.f8 j.f9 j.f10 j.f11 L) (if c = 0 then mapT (oneR j.f1 j.f2 j.f3 j.f11) (seeV j.f0) L [] else ([], c)) := by
  obtain ⟨c, hc⟩ := jcheck_f j
  refine ⟨c, ?_⟩
  unfold mapper_Map.f
  refine Ev.bind hc ?_
  by_cases h : c = 0
  · simp only [if_pos h]
    exact map_l0 j hj L hL hl L.length 0 (by omega) [] (by simp only [List.length_nil]; omega)
  · simp only [if_neg h]
    exact Ev.now _
theorem mapS_all {one : List ByteArray → Six} {I : List ByteArray → It} (h : ∀ s, (one s).2.2.2.2.2 = 0 → (one s).2.2.2.2.1 = true ∧ (⟨(one s).1, ⟨(one s).2.1, (one s).2.2.1, (one s).2.2.2.1⟩⟩ : It) = I s) : ∀ (l : List (List ByteArray)) (acc : List It), (mapS one l acc).2 = 0 → (mapS one l acc).1 = acc ++ l.map I
  | [], acc, _ => by simp [mapS]
  | s :: t, acc, h0 => by
    unfold mapS at h0 ⊢
    by_cases c : (one s).2.2.2.2.2 = 0
    · obtain ⟨d, e⟩ := h s c
      rw [if_pos c, if_pos d, e] at h0 ⊢
      rw [mapS_all h t _ h0]
      simp
    · rw [if_neg c] at h0
      exact absurd h0 c
theorem mapT_all {one : List ByteArray → Six} {I : List ByteArray → It} (h : ∀ s, (one s).2.2.2.2.2 = 0 → (one s).2.2.2.2.1 = true ∧ (⟨(one s).1, ⟨(one s).2.1, (one s).2.2.1, (one s).2.2.2.1⟩⟩ : It) = I s) (see : List ByteArray → List (List ByteArray)) : ∀ (l : List (List ByteArray)) (acc : List It), (mapT one see l acc).2 = 0 → (mapT one see l acc).1 = acc ++ (l.flatMap see).map I
  | [], acc, _ => by simp [mapT]
  | r :: t, acc, h0 => by
    unfold mapT at h0 ⊢
    by_cases c : (mapS one (see r) acc).2 = 0
    · rw [if_pos c] at h0 ⊢
      rw [mapT_all h see t _ h0, mapS_all h _ _ c]
      simp
    · rw [if_neg c] at h0
      exact absurd h0 c
theorem mapS_none {one : List ByteArray → Six} (h : ∀ s, (one s).2.2.2.2.2 = 0 → (one s).2.2.2.2.1 = false) : ∀ (l : List (List ByteArray)) (acc : List It), (mapS one l acc).2 = 0 → (mapS one l acc).1 = acc
  | [], acc, _ => rfl
  | s :: t, acc, h0 => by
    unfold mapS at h0 ⊢
    by_cases c : (one s).2.2.2.2.2 = 0
    · have d := h s c
      rw [if_pos c, if_neg (by rw [d]; simp)] at h0 ⊢
      exact mapS_none h t _ h0
    · rw [if_neg c] at h0
      exact absurd h0 c
theorem mapT_none {one : List ByteArray → Six} (h : ∀ s, (one s).2.2.2.2.2 = 0 → (one s).2.2.2.2.1 = false) (see : List ByteArray → List (List ByteArray)) : ∀ (l : List (List ByteArray)) (acc : List It), (mapT one see l acc).2 = 0 → (mapT one see l acc).1 = acc
  | [], acc, _ => rfl
  | r :: t, acc, h0 => by
    unfold mapT at h0 ⊢
    by_cases c : (mapS one (see r) acc).2 = 0
    · rw [if_pos c] at h0 ⊢
      rw [mapT_none h see t _ h0, mapS_none h _ _ c]
    · rw [if_neg c] at h0
      exact absurd h0 c
def insN (n : Int) : Ins := ⟨0, n, ⟨#[]⟩⟩
theorem yes_nil (s : List ByteArray) (u : Int) : yesP s [] u = (true, u, 0) := rfl
theorem yes_num (n : Int) (hst : (stackP May [insN n] []).2.2 = 0) (hln : (stackP May [insN n] []).1 = [false]) (s : List ByteArray) (u : Int) : (yesP s [insN n] u).2.2 = 0 → (yesP s [insN n] u).1 = (n != 0) := by
  have hc : checkP [insN n] [] [false] = 0 := by
    unfold checkP
    rw [if_pos hst, if_pos hln]
  have hone : (stackP May [insN n] []).1.length = 1 := by rw [hln]; rfl
  unfold yesP
  rw [if_neg (show ¬ ([insN n] : List Ins).length = 0 by simp), if_pos hc]
  unfold oneV
  rw [if_pos hst, if_pos hone]
  unfold runV
  by_cases c : XEval.costP [] (insN n).f0 > u
  · rw [if_pos c]
    intro h
    simp at h
  · rw [if_neg c]
    intro _
    rfl
theorem one_num (n : Int) (hst : (stackP May [insN n] []).2.2 = 0) (hln : (stackP May [insN n] []).1 = [false]) (key val : List Ins) (u : Int) (hn : (n != 0) = true) (s : List ByteArray) (h0 : (oneR [insN n] key val u s).2.2.2.2.2 = 0) : (oneR [insN n] key val u s).2.2.2.2.1 = true ∧ (⟨(oneR [insN n] key val u s).1, ⟨(oneR [insN n] key val u s).2.1, (oneR [insN n] key val u s).2.2.1, (oneR [insN n] key val u s).2.2.2.1⟩⟩ : It) = itemV key val u s := by
  have hy := yes_num n hst hln s u
  unfold oneR at h0 ⊢
  by_cases c : (yesP s [insN n] u).2.2 = 0
  · have d := (hy c).trans hn
    rw [if_pos c, if_pos d] at h0 ⊢
    by_cases e : (oneV s key u).2.2.2.2 = 0
    · rw [if_pos e]
      exact ⟨rfl, rfl⟩
    · rw [if_neg e] at h0
      exact absurd h0 e
  · rw [if_neg c] at h0
    exact absurd h0 c
theorem one_nil (key val : List Ins) (u : Int) (s : List ByteArray) (h0 : (oneR [] key val u s).2.2.2.2.2 = 0) : (oneR [] key val u s).2.2.2.2.1 = true ∧ (⟨(oneR [] key val u s).1, ⟨(oneR [] key val u s).2.1, (oneR [] key val u s).2.2.1, (oneR [] key val u s).2.2.2.1⟩⟩ : It) = itemV key val u s := by
  unfold oneR at h0 ⊢
  rw [yes_nil] at h0 ⊢
  dsimp only at h0 ⊢
  rw [if_pos rfl, if_pos rfl] at h0 ⊢
  by_cases e : (oneV s key u).2.2.2.2 = 0
  · rw [if_pos e]
    exact ⟨rfl, rfl⟩
  · rw [if_neg e] at h0
    exact absurd h0 e
theorem one_zero (n : Int) (hst : (stackP May [insN n] []).2.2 = 0) (hln : (stackP May [insN n] []).1 = [false]) (key val : List Ins) (u : Int) (hn : (n != 0) = false) (s : List ByteArray) (h0 : (oneR [insN n] key val u s).2.2.2.2.2 = 0) : (oneR [insN n] key val u s).2.2.2.2.1 = false := by
  have hy := yes_num n hst hln s u
  unfold oneR at h0 ⊢
  by_cases c : (yesP s [insN n] u).2.2 = 0
  · have d := (hy c).trans hn
    rw [if_pos c, if_neg (by rw [d]; simp)]
  · rw [if_neg c]
theorem num1 : (stackP May [insN 1] []).2.2 = 0 ∧ (stackP May [insN 1] []).1 = [false] := ⟨by kernel_rfl, by kernel_rfl⟩
theorem num0 : (stackP May [insN 0] []).2.2 = 0 ∧ (stackP May [insN 0] []).1 = [false] := ⟨by kernel_rfl, by kernel_rfl⟩
theorem item_go (l : List It) (hl : l.length < 1000000000000) : ∀ m i : Nat, i + m = l.length → Ev (fun k => mapper_Item.l0 k l l (l.length : Int) (i : Int)) true
  | 0, i, hi => by
    refine Ev.succ ?_
    simp only [mapper_Item.l0, if_neg (show ¬ (i : Int) < (l.length : Int) by omega)]
    exact Ev.now _
  | m + 1, i, hi => by
    refine Ev.succ ?_
    simp only [mapper_Item.l0, if_pos (show (i : Int) < (l.length : Int) by omega), if_pos (show (0 : Int) ≤ (i : Int) by omega), beq_self_eq_true, Bool.not_true, Bool.or_false, Bool.false_eq_true, if_false, wrap_succ (i := i) (by omega)]
    exact item_go l hl m (i + 1) (by omega)
theorem msame_f (l : List It) (hl : l.length < 1000000000000) : Ev (fun k => mapper_Same.f k l l) true := by
  unfold mapper_Same.f
  refine Ev.bind (r := true) ?_ (Ev.now _)
  unfold mapper_Item.f
  simp only [if_true]
  exact item_go l hl l.length 0 (by omega)
theorem alive18 : Ev (fun k => w18_alive.f k) true := Ev.at_k 40 (fun k => w18_alive.mono k) (by kernel_rfl)
theorem j2_t {n : Int} {a b c : List It} : Ev (fun k => w18_MapperAll.j2 k n a b c true) true := by
  refine Ev.succ ?_
  simp only [w18_MapperAll.j2, if_true]
  exact Ev.bind alive18 (Ev.now _)
theorem flat_len (see : List ByteArray → List (List ByteArray)) (L : List (List ByteArray)) (h : ∀ r ∈ L, (see r).length ≤ 1501) : (L.flatMap see).length ≤ L.length * 1501 := by
  induction L with
  | nil => simp
  | cons r t ih =>
    have h1 := h r List.mem_cons_self
    have h2 := ih fun r' hr' => h r' (List.mem_cons_of_mem _ hr')
    rw [List.flatMap_cons, List.length_append, List.length_cons]
    omega
theorem law_l0 (j : Jb) (hj : Okay j) (L : List (List ByteArray)) (hL : ∀ r ∈ L, Short r) (hl : L.length ≤ 40) : ∀ (m i : Nat), i + m = L.length →
    Ev (fun k => w18_MapperAll.l0 k L (((L.take i).flatMap (seeV j.f0)).length : Int) (i : Int) j.f0 j.f1 j.f2 j.f3 j.f4 j.f5 j.f6.f0 j.f6.f1 j.f6.f2 j.f7 j.f8 j.f9 j.f10 j.f11) true
  | m + 1, i, hi => by
    have hlt : i < L.length := by omega
    have hsh := hL _ (List.getElem_mem hlt)
    have ih := law_l0 j hj L hL hl m (i + 1) (by omega)
    have htk : ((L.take (i + 1)).flatMap (seeV j.f0)).length = ((L.take i).flatMap (seeV j.f0)).length + (seeV j.f0 L[i]).length := by
      rw [List.take_add_one, List.getElem?_eq_getElem hlt, List.flatMap_append, List.length_append]
      simp
    have hb := flat_len (seeV j.f0) (L.take i) (fun r hr => (see_len j.f0 r (hL r (List.mem_of_mem_take hr))).1)
    rw [List.length_take] at hb
    have hb2 := (see_len j.f0 L[i] hsh).1
    have hw : wrap64 ((((L.take i).flatMap (seeV j.f0)).length : Int) + ((seeV j.f0 L[i]).length : Int)) = (((L.take (i + 1)).flatMap (seeV j.f0)).length : Int) := by
      rw [wrap_id (by omega) (by omega), htk]; push_cast; rfl
    refine Ev.succ ?_
    simp only [w18_MapperAll.l0, if_pos (show (i : Int) < (L.length : Int) by omega), if_pos (show (0 : Int) ≤ (i : Int) by omega), rdBB hlt]
    refine Ev.bind (see_f j L[i] hsh) ?_
    simp only [hw, wrap_succ (i := i) (by omega)]
    exact ih
  | 0, i, hi => by
    obtain ⟨ca, ha⟩ := map_f { j with f1 := [] } ⟨fun x hx => (by cases hx), hj.key, hj.val, hj.fuel⟩ L hL hl
    obtain ⟨cb, hb⟩ := map_f { j with f1 := [insN 1] } ⟨fun x hx => (by rw [List.mem_singleton.1 hx]; exact ⟨by decide, by decide⟩), hj.key, hj.val, hj.fuel⟩ L hL hl
    obtain ⟨cc, hc⟩ := map_f { j with f1 := [insN 0] } ⟨fun x hx => (by rw [List.mem_singleton.1 hx]; exact ⟨by decide, by decide⟩), hj.key, hj.val, hj.fuel⟩ L hL hl
    have Ia := mapT_all (one_nil j.f2 j.f3 j.f11) (seeV j.f0) L []
    have Ib := mapT_all (one_num 1 num1.1 num1.2 j.f2 j.f3 j.f11 rfl) (seeV j.f0) L []
    have Ic := mapT_none (one_zero 0 num0.1 num0.2 j.f2 j.f3 j.f11 rfl) (seeV j.f0) L []
    have hlen := flat_len (seeV j.f0) L (fun r hr => (see_len j.f0 r (hL r hr)).1)
    dsimp only at ha hb hc
    generalize hXa : (if ca = 0 then mapT (oneR [] j.f2 j.f3 j.f11) (seeV j.f0) L [] else ([], ca)) = Xa at ha
    generalize hXb : (if cb = 0 then mapT (oneR [insN 1] j.f2 j.f3 j.f11) (seeV j.f0) L [] else ([], cb)) = Xb at hb
    generalize hXc : (if cc = 0 then mapT (oneR [insN 0] j.f2 j.f3 j.f11) (seeV j.f0) L [] else ([], cc)) = Xc at hc
    have Fa : Xa.2 = 0 → Xa.1 = (L.flatMap (seeV j.f0)).map (itemV j.f2 j.f3 j.f11) := by
      rw [← hXa]
      split
      · intro h; rw [Ia h]; rfl
      · rename_i h; intro h'; exact absurd h' h
    have Fb : Xb.2 = 0 → Xb.1 = (L.flatMap (seeV j.f0)).map (itemV j.f2 j.f3 j.f11) := by
      rw [← hXb]
      split
      · intro h; rw [Ib h]; rfl
      · rename_i h; intro h'; exact absurd h' h
    have Fc : Xc.2 = 0 → Xc.1 = [] := by
      rw [← hXc]
      split
      · intro h; exact Ic h
      · intro h'; rfl
    refine Ev.succ ?_
    simp only [w18_MapperAll.l0, if_neg (show ¬ (i : Int) < (L.length : Int) by omega)]
    rw [List.take_of_length_le (by omega)]
    refine Ev.bind ha ?_
    refine Ev.bind hb ?_
    refine Ev.bind hc ?_
    by_cases ea : Xa.2 = 0
    · by_cases eb : Xb.2 = 0
      · simp only [if_pos ea, if_pos eb]
        by_cases ec : Xc.2 = 0
        · have e0 : (Xc.2 != 0) = false := by rw [ec]; rfl
          rw [e0]
          refine Ev.succ ?_
          simp only [w18_MapperAll.j2, Bool.false_eq_true, if_false]
          refine Ev.bind alive18 ?_
          simp only [if_true]
          rw [Fa ea, Fb eb, Fc ec]
          simp only [List.length_map, if_true]
          refine Ev.bind (msame_f _ (by rw [List.length_map]; omega)) ?_
          simp only [if_true]
          exact Ev.now _
        · have e0 : (Xc.2 != 0) = true := bne_iff_ne.2 ec
          rw [e0]
          exact j2_t
      · simp only [if_pos ea, if_neg eb]
        exact j2_t
    · simp only [if_neg ea]
      exact j2_t
end Go.Proofs.YtialoecplmnjfaaGreatDoorL
namespace Go.Proofs.YtialoecplmnjfaaGreatDoor.Pure
open Go.RowKit Go.Proofs Go.Proofs.YtialoecplmnjfaaGreatDoor Go.Proofs.YtialoecplmnjfaaGreatDoor.PX Go.Proofs.YtialoecplmnjfaaGreatDoorW.PrintWords Go.Proofs.YtialoecplmnjfaaGreatDoorL
theorem MapperAll : w18_MapperAll.Pure := by
  intro j L hj hL
  have hk : Okay j := ⟨fun x hx => wf_i64 (hj.2.1.2 x hx).2.1, fun x hx => wf_i64 (hj.2.2.1.2 x hx).2.1, fun x hx => wf_i64 (hj.2.2.2.1.2 x hx).2.1, wf_i64 hj.2.2.2.2.2.2.2.2.2.2.2⟩
  have hLl : L.length < 100000000000000 := by have := hL.1; omega
  obtain ⟨b, hb⟩ := little_f j
  obtain ⟨c, hc, hcl⟩ := few18 L (fun r hr => ⟨by have := (hL.2 r hr).1; omega, (hL.2 r hr).2⟩) hLl
  refine Ev.rounds ?_
  unfold w18_MapperAll.f
  refine Ev.bind hb ?_
  cases b
  · simp only [Bool.false_eq_true, if_false]
    refine Ev.succ ?_
    simp only [w18_MapperAll.j0, if_true]
    exact Ev.bind alive18 (Ev.now _)
  simp only [if_true]
  refine Ev.bind hc ?_
  refine Ev.succ ?_
  cases c
  · simp only [w18_MapperAll.j0, Bool.not_false, if_true]
    exact Ev.bind alive18 (Ev.now _)
  obtain ⟨h40, hsh⟩ := hcl rfl
  simp only [w18_MapperAll.j0, Bool.not_true, Bool.false_eq_true, if_false]
  exact law_l0 j hk L hsh h40 L.length 0 (by omega)
end Go.Proofs.YtialoecplmnjfaaGreatDoor.Pure
