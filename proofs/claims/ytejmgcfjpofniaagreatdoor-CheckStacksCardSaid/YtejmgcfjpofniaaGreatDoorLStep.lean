/- Layer 15: how a program goes, in plain words. -/
import Derived.Test.YtejmgcfjpofniaaGreatDoorPXx
import Derived.Test.YtejmgcfjpofniaaGreatDoorLBase
set_option linter.unusedVariables false
set_option linter.unusedSimpArgs false
namespace Go.Proofs.YtejmgcfjpofniaaGreatDoorL
open Go.RowKit Go.Proofs Go.Proofs.YtejmgcfjpofniaaGreatDoor Go.Proofs.YtejmgcfjpofniaaGreatDoor.PX Go.Proofs.YtejmgcfjpofniaaGreatDoorW.PrintWords Go.Proofs.YtejmgcfjpofniaaGreatDoorW.PrintMore Go.Proofs.YtejmgcfjpofniaaGreatDoor.XCheck
abbrev May : Ins → Bool := check_Stack.may
theorem mx_ge' (a b : Int) : a ≤ mx a b ∧ b ≤ mx a b := by unfold mx; split <;> omega
theorem push_ok {x : List Bool × Int} {t : Bool} (h : ¬ x.1.length = 30) : pushP x t = ((x.1 ++ [t], mx x.2 ((x.1.length : Int) + 1)), 0) := by
  unfold pushP
  rw [if_neg h]
theorem push_full {x : List Bool × Int} {t : Bool} (h : x.1.length = 30) : pushP x t = (x, 13) := by
  unfold pushP
  rw [if_pos h]
/-- The kinds of a step: none of it, all of it, or some. -/
theorem step_plain {fold : List Bool} {x : List Bool × Int} {o : Int} (c : ¬ 22 ≤ o) (c2 : ¬ 0 < XOps.arityF o) : stepP fold x o = pushP x (decide (o = 1) || decide (o = 2)) := by
  unfold stepP plainP
  rw [if_neg c, if_neg c2]
theorem step_done {fold : List Bool} {x : List Bool × Int} {o : Int} (c : ¬ 22 ≤ o) (c2 : 0 < XOps.arityF o) : stepP fold x o = doneP x o := by
  unfold stepP
  rw [if_neg c, if_pos c2]
theorem step_given {fold : List Bool} {x : List Bool × Int} {o : Int} (c : 22 ≤ o) : stepP fold x o = givenP fold x o := by
  unfold stepP
  rw [if_pos c]
theorem push_most {x : List Bool × Int} {t : Bool} : x.2 ≤ (pushP x t).1.2 ∧ ((pushP x t).2 = 0 → ((pushP x t).1.1.length : Int) ≤ (pushP x t).1.2) := by
  by_cases c : x.1.length = 30
  · rw [push_full c]
    exact ⟨Int.le_refl _, fun h => by cases h⟩
  · rw [push_ok c]
    have := mx_ge' x.2 ((x.1.length : Int) + 1)
    refine ⟨this.1, fun _ => ?_⟩
    simp only [List.length_append, List.length_cons, List.length_nil]
    omega
/-- A step that errs leaves the stack; one that goes: the most is no less, and no less than the kinds. -/
theorem step_err {fold : List Bool} {x : List Bool × Int} {o : Int} (hx : x.1.length ≤ 30) (h : (stepP fold x o).2 ≠ 0) : (stepP fold x o).1 = x := by
  have hp : ∀ t, (pushP x t).2 ≠ 0 → (pushP x t).1 = x := fun t h => by
    by_cases c : x.1.length = 30
    · rw [push_full c]
    · rw [push_ok c] at h; exact absurd rfl h
  by_cases c : 22 ≤ o
  · rw [step_given c] at h ⊢
    unfold givenP at h ⊢
    by_cases c2 : fold.length = 0
    · rw [if_pos c2]
    · rw [if_neg c2] at h ⊢; exact hp _ h
  · by_cases c2 : 0 < XOps.arityF o
    · rw [step_done c c2] at h ⊢
      unfold doneP at h ⊢
      by_cases c3 : (x.1.length : Int) < XOps.arityF o
      · rw [if_pos c3]
      · rw [if_neg c3] at h ⊢
        by_cases c4 : (XOps.resultF o (x.1.drop (x.1.length - (XOps.arityF o).toNat))).2 ≠ 0
        · rw [if_pos c4]
        · rw [if_neg c4] at h
          rw [push_ok (by simp only [List.length_take]; omega)] at h
          exact absurd rfl h
    · rw [step_plain c c2] at h ⊢; exact hp _ h
theorem step_most {fold : List Bool} {x : List Bool × Int} {o : Int} (h : (stepP fold x o).2 = 0) : x.2 ≤ (stepP fold x o).1.2 ∧ ((stepP fold x o).1.1.length : Int) ≤ (stepP fold x o).1.2 := by
  by_cases c : 22 ≤ o
  · rw [step_given c] at h ⊢
    unfold givenP at h ⊢
    by_cases c2 : fold.length = 0
    · rw [if_pos c2] at h; cases h
    · rw [if_neg c2] at h ⊢; exact ⟨push_most.1, push_most.2 h⟩
  · by_cases c2 : 0 < XOps.arityF o
    · rw [step_done c c2] at h ⊢
      unfold doneP at h ⊢
      by_cases c3 : (x.1.length : Int) < XOps.arityF o
      · rw [if_pos c3] at h; cases h
      · rw [if_neg c3] at h ⊢
        by_cases c4 : (XOps.resultF o (x.1.drop (x.1.length - (XOps.arityF o).toNat))).2 ≠ 0
        · rw [if_pos c4] at h; exact absurd h c4
        · rw [if_neg c4] at h ⊢
          exact ⟨push_most.1, push_most.2 h⟩
    · rw [step_plain c c2] at h ⊢; exact ⟨push_most.1, push_most.2 h⟩
theorem push_top {x : List Bool × Int} {t : Bool} (h : x.1.length ≤ 30) (h2 : x.2 ≤ 30) : (pushP x t).1.2 ≤ 30 := by
  by_cases c : x.1.length = 30
  · rw [push_full c]; exact h2
  · rw [push_ok c]
    show mx x.2 ((x.1.length : Int) + 1) ≤ 30
    unfold mx
    split <;> omega
theorem step_top {fold : List Bool} {x : List Bool × Int} {o : Int} (hx : x.1.length ≤ 30) (h2 : x.2 ≤ 30) : (stepP fold x o).1.2 ≤ 30 := by
  by_cases c : 22 ≤ o
  · rw [step_given c]
    unfold givenP
    by_cases c2 : fold.length = 0
    · rw [if_pos c2]; exact h2
    · rw [if_neg c2]; exact push_top hx h2
  · by_cases c2 : 0 < XOps.arityF o
    · rw [step_done c c2]
      unfold doneP
      by_cases c3 : (x.1.length : Int) < XOps.arityF o
      · rw [if_pos c3]; exact h2
      · rw [if_neg c3]
        by_cases c4 : (XOps.resultF o (x.1.drop (x.1.length - (XOps.arityF o).toNat))).2 ≠ 0
        · rw [if_pos c4]; exact h2
        · rw [if_neg c4]
          exact push_top (by simp only [List.length_take]; omega) h2
    · rw [step_plain c c2]; exact push_top hx h2
theorem run_nil (fold : List Bool) (i : Nat) (x : List Bool × Int) : runP May fold [] i x = (x, (i : Int), 0) := rfl
theorem run_no {fold : List Bool} {a : Ins} {r : List Ins} {i : Nat} {x : List Bool × Int} (h : May a = false) : runP May fold (a :: r) i x = (x, (i : Int), 1) := by
  conv => lhs; unfold runP
  rw [if_pos h]
theorem run_bad {fold : List Bool} {a : Ins} {r : List Ins} {i : Nat} {x : List Bool × Int} (h : May a = true) (h2 : (stepP fold x a.f0).2 ≠ 0) : runP May fold (a :: r) i x = ((stepP fold x a.f0).1, (i : Int), (stepP fold x a.f0).2) := by
  conv => lhs; unfold runP
  rw [if_neg (by rw [h]; simp), if_pos h2]
theorem run_go {fold : List Bool} {a : Ins} {r : List Ins} {i : Nat} {x : List Bool × Int} (h : May a = true) (h2 : (stepP fold x a.f0).2 = 0) : runP May fold (a :: r) i x = runP May fold r (i + 1) (stepP fold x a.f0).1 := by
  conv => lhs; unfold runP
  rw [if_neg (by rw [h]; simp), if_neg (by rw [h2]; decide)]
theorem run_top (fold : List Bool) : ∀ (p : List Ins) (i : Nat) (x : List Bool × Int), x.1.length ≤ 30 → x.2 ≤ 30 → (runP May fold p i x).1.2 ≤ 30
  | [], i, x, hx, h2 => h2
  | a :: r, i, x, hx, h2 => by
    rcases hm : May a with _ | _
    · rw [run_no hm]; exact h2
    · by_cases h3 : (stepP fold x a.f0).2 = 0
      · rw [run_go hm h3]
        exact run_top fold r (i + 1) _ (stepP_len hx) (step_top hx h2)
      · rw [run_bad hm h3]
        exact step_top hx h2
/-- How far a program goes; its beginnings. -/
theorem run_all (fold : List Bool) : ∀ (p : List Ins) (i : Nat) (x : List Bool × Int), x.1.length ≤ 30 → ∃ j, j ≤ p.length ∧ (runP May fold p i x).2.1 = ((i + j : Nat) : Int) ∧ ((runP May fold p i x).2.2 = 0 ↔ j = p.length) ∧
    (∀ q, q ≤ j → (runP May fold (p.take q) i x).2 = (((i + q : Nat) : Int), 0)) ∧ (runP May fold (p.take j) i x).1 = (runP May fold p i x).1 ∧ (runP May fold p i x).1.1.length ≤ 30 ∧ x.2 ≤ (runP May fold p i x).1.2 ∧ ((x.1.length : Int) ≤ x.2 → ((runP May fold p i x).1.1.length : Int) ≤ (runP May fold p i x).1.2)
  | [], i, x, hx => by
    refine ⟨0, Nat.le_refl _, rfl, ⟨fun _ => rfl, fun _ => rfl⟩, fun q hq => ?_, rfl, hx, Int.le_refl _, fun h => h⟩
    obtain rfl : q = 0 := by omega
    rfl
  | a :: r, i, x, hx => by
    have zero : ∀ q, q ≤ 0 → (runP May fold ((a :: r).take q) i x).2 = (((i + q : Nat) : Int), 0) := fun q hq => by
      obtain rfl : q = 0 := by omega
      rfl
    rcases hm : May a with _ | _
    · rw [run_no hm]
      exact ⟨0, Nat.zero_le _, rfl, ⟨(fun h => by cases h), (fun h => by simp at h)⟩, zero, rfl, hx, Int.le_refl _, fun h => h⟩
    · by_cases h2 : (stepP fold x a.f0).2 = 0
      · rw [run_go hm h2]
        obtain ⟨j, h3, h4, h5, h6, h7, h8, h9, h10⟩ := run_all fold r (i + 1) (stepP fold x a.f0).1 (stepP_len hx)
        have hs := step_most h2
        refine ⟨j + 1, by simp; omega, by rw [h4]; omega, by rw [h5]; simp, fun q hq => ?_, ?_, h8, by omega, fun _ => h10 hs.2⟩
        · rcases q with _ | q
          · rfl
          · rw [List.take_succ_cons, run_go hm h2, h6 q (by omega)]
            congr 1
            omega
        · rw [List.take_succ_cons, run_go hm h2]
          exact h7
      · rw [run_bad hm h2, step_err hx h2]
        exact ⟨0, Nat.zero_le _, rfl, ⟨(fun h => absurd h h2), (fun h => by simp at h)⟩, zero, rfl, hx, Int.le_refl _, fun h => h⟩
theorem run_append (fold : List Bool) (q : List Ins) : ∀ (p : List Ins) (i : Nat) (x : List Bool × Int), (runP May fold p i x).2.2 = 0 → runP May fold (p ++ q) i x = runP May fold q (i + p.length) (runP May fold p i x).1
  | [], i, x, h => rfl
  | a :: r, i, x, h => by
    rcases hm : May a with _ | _
    · rw [run_no hm] at h; cases h
    · by_cases h2 : (stepP fold x a.f0).2 = 0
      · rw [run_go hm h2] at h ⊢
        rw [List.cons_append, run_go hm h2, run_append fold q r (i + 1) _ h]
        congr 1
        simp
        omega
      · rw [run_bad hm h2] at h; exact absurd h h2
/-! ### over other kinds -/
theorem step_over {x : List Bool × Int} {o : Int} (b : List Bool) (m0 : Int) (hx : x.1.length ≤ 30) (hb : (b ++ x.1).length ≤ 30) (h : (stepP [] x o).2 = 0) :
    ((stepP [] (b ++ x.1, m0) o).2 = 0 ∧ (stepP [] (b ++ x.1, m0) o).1.1 = b ++ (stepP [] x o).1.1 ∧ (b ++ (stepP [] x o).1.1).length ≤ 30) ∨ ((stepP [] (b ++ x.1, m0) o).2 = 13 ∧ 30 < b.length + (stepP [] x o).1.1.length) := by
  obtain ⟨t, m⟩ := x
  simp only at hx hb ⊢
  rw [List.length_append] at hb
  by_cases c : 22 ≤ o
  · rw [step_given c] at h
    cases h
  · by_cases c2 : 0 < XOps.arityF o
    · rw [step_done c c2] at h ⊢
      rw [step_done c c2]
      obtain ⟨a, ha⟩ : ∃ a : Nat, XOps.arityF o = a := ⟨(XOps.arityF o).toNat, by omega⟩
      unfold doneP at h ⊢
      simp only [ha, Int.toNat_natCast] at h c2 ⊢
      by_cases c3 : (t.length : Int) < (a : Int)
      · rw [if_pos c3] at h; cases h
      · rw [if_neg c3] at h ⊢
        have hd : (b ++ t).drop ((b ++ t).length - a) = t.drop (t.length - a) := by
          rw [List.length_append, List.drop_append]
          rw [List.drop_of_length_le (by omega), List.nil_append]
          congr 1
          omega
        have ht : (b ++ t).take ((b ++ t).length - a) = b ++ t.take (t.length - a) := by
          rw [List.length_append, List.take_append]
          rw [List.take_of_length_le (by omega)]
          congr 2
          omega
        rw [if_neg (show ¬ (((b ++ t).length : Nat) : Int) < (a : Int) by rw [List.length_append]; omega), hd, ht]
        by_cases c4 : (XOps.resultF o (t.drop (t.length - a))).2 ≠ 0
        · rw [if_pos c4] at h; exact absurd h c4
        · rw [if_neg c4] at h ⊢
          rw [if_neg c4]
          have l1 : ¬ (t.take (t.length - a)).length = 30 := by rw [List.length_take]; omega
          have l2 : ¬ (b ++ t.take (t.length - a)).length = 30 := by rw [List.length_append, List.length_take]; omega
          rw [push_ok (x := (t.take (t.length - a), m)) l1, push_ok (x := (b ++ t.take (t.length - a), m0)) l2]
          refine .inl ⟨rfl, by simp, ?_⟩
          simp only [List.length_append, List.length_take, List.length_cons, List.length_nil]
          omega
    · rw [step_plain c c2] at h ⊢
      rw [step_plain c c2]
      by_cases c5 : t.length = 30
      · rw [push_full (x := (t, m)) c5] at h; cases h
      · rw [push_ok (x := (t, m)) c5]
        by_cases c6 : (b ++ t).length = 30
        · rw [push_full (x := (b ++ t, m0)) c6]
          refine .inr ⟨rfl, ?_⟩
          rw [List.length_append] at c6
          simp only [List.length_append, List.length_cons, List.length_nil]
          omega
        · rw [push_ok (x := (b ++ t, m0)) c6]
          rw [List.length_append] at c6
          refine .inl ⟨rfl, by simp, ?_⟩
          simp only [List.length_append, List.length_cons, List.length_nil]
          omega
theorem run_over (b : List Bool) : ∀ (p : List Ins) (i i' : Nat) (x : List Bool × Int) (m0 : Int), x.1.length ≤ 30 → (b ++ x.1).length ≤ 30 → (x.1.length : Int) ≤ x.2 → (runP May [] p i x).2.2 = 0 →
    ((runP May [] p i' (b ++ x.1, m0)).2.2 = 0 ∧ (runP May [] p i' (b ++ x.1, m0)).1.1 = b ++ (runP May [] p i x).1.1) ∨ ((runP May [] p i' (b ++ x.1, m0)).2.2 = 13 ∧ 30 < (b.length : Int) + (runP May [] p i x).1.2)
  | [], i, i', x, m0, hx, hb, hm, h => .inl ⟨rfl, rfl⟩
  | a :: r, i, i', x, m0, hx, hb, hm, h => by
    rcases hma : May a with _ | _
    · rw [run_no hma] at h; cases h
    · by_cases h2 : (stepP [] x a.f0).2 = 0
      · rw [run_go hma h2] at h ⊢
        have hs := step_most h2
        rcases step_over b m0 hx hb h2 with ⟨k1, k2, k3⟩ | ⟨k1, k2⟩
        · rw [run_go hma k1]
          have e : (stepP [] (b ++ x.1, m0) a.f0).1 = (b ++ (stepP [] x a.f0).1.1, (stepP [] (b ++ x.1, m0) a.f0).1.2) := by rw [← k2]
          rw [e]
          exact run_over b r (i + 1) (i' + 1) (stepP [] x a.f0).1 _ (stepP_len hx) k3 hs.2 h
        · rw [run_bad hma (by rw [k1]; decide)]
          refine .inr ⟨k1, ?_⟩
          obtain ⟨j, _, _, _, _, _, _, h9, _⟩ := run_all [] r (i + 1) (stepP [] x a.f0).1 (stepP_len hx)
          omega
      · rw [run_bad hma h2] at h; exact absurd h h2
end Go.Proofs.YtejmgcfjpofniaaGreatDoorL
