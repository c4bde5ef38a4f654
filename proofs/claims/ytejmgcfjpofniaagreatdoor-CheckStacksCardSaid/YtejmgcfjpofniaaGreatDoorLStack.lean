/- Layer 15: the document's Stack, Check, in the same plain words; rows of kinds that are alike. -/
import Derived.Test.YtejmgcfjpofniaaGreatDoorPXx
import Derived.Test.YtejmgcfjpofniaaGreatDoorLCheck
set_option linter.unusedVariables false
set_option linter.unusedSimpArgs false
namespace Go.Proofs.YtejmgcfjpofniaaGreatDoorL
open Go.RowKit Go.Proofs Go.Proofs.YtejmgcfjpofniaaGreatDoor Go.Proofs.YtejmgcfjpofniaaGreatDoor.PX Go.Proofs.YtejmgcfjpofniaaGreatDoorW.PrintWords Go.Proofs.YtejmgcfjpofniaaGreatDoorW.PrintMore Go.Proofs.YtejmgcfjpofniaaGreatDoor.XCheck
theorem rd_ins (p : List Ins) (i : Nat) (h : i < p.length) : rd_T48 p (i : Int) = p[i] := by
  unfold rd_T48
  rw [Int.toNat_natCast, List.getD_eq_getElem?_getD, List.getElem?_eq_getElem h]
  rfl
theorem push_m {s : List Bool} {m m' : Int} {t : Bool} : (pushP (s, m) t).2 = (pushP (s, m') t).2 ∧ (pushP (s, m) t).1.1 = (pushP (s, m') t).1.1 := by
  unfold pushP
  by_cases c : s.length = 30
  · simp [c]
  · simp [c]
theorem step_m {fold s : List Bool} {m m' : Int} {o : Int} : (stepP fold (s, m) o).2 = (stepP fold (s, m') o).2 ∧ (stepP fold (s, m) o).1.1 = (stepP fold (s, m') o).1.1 := by
  by_cases c : 22 ≤ o
  · rw [step_given c, step_given c]
    unfold givenP
    by_cases c2 : fold.length = 0
    · rw [if_pos c2, if_pos c2]; exact ⟨rfl, rfl⟩
    · rw [if_neg c2, if_neg c2]; exact push_m
  · by_cases c2 : 0 < XOps.arityF o
    · rw [step_done c c2, step_done c c2]
      unfold doneP
      simp only
      by_cases c3 : (s.length : Int) < XOps.arityF o
      · simp [c3]
      · simp only [if_neg c3]
        by_cases c4 : (XOps.resultF o (s.drop (s.length - (XOps.arityF o).toNat))).2 ≠ 0
        · simp only [if_pos c4, and_self]
        · simp only [if_neg c4]; exact push_m
    · rw [step_plain c c2, step_plain c c2]; exact push_m
theorem rstack_go (fold : List Bool) (hf : fold.length = 0 ∨ fold.length = 2) (p : List Ins) (hp : p.length ≤ 200) : ∀ m i : Nat, i + m = p.length → ∀ (s : List Bool) (most : Int), s.length ≤ 30 →
    Ev (fun k => threshingref15_Stack.l0 k p fold s (i : Int)) ((runP May fold (p.drop i) i (s, most)).1.1, (runP May fold (p.drop i) i (s, most)).2.1, (runP May fold (p.drop i) i (s, most)).2.2)
  | 0, i, hi, s, most, hs => by
    refine Ev.succ ?_
    simp only [threshingref15_Stack.l0, if_neg (show ¬ (i : Int) < (p.length : Int) by omega)]
    refine Ev.ret ?_
    rw [List.drop_of_length_le (by omega), run_nil]
    have : p.length = i := by omega
    rw [this]
  | m + 1, i, hi, s, most, hs => by
    have h : i < p.length := by omega
    have hd : p.drop i = p[i] :: p.drop (i + 1) := List.drop_eq_getElem_cons h
    refine Ev.succ ?_
    simp only [threshingref15_Stack.l0, if_pos (show (i : Int) < (p.length : Int) by omega), if_pos (show (0 : Int) ≤ (i : Int) by omega), rd_ins p i h, wrap_succ (i := i) (by omega)]
    refine Ev.bind (rstep fold s p[i] hf hs) ?_
    rw [hd]
    rcases hm : May p[i] with _ | _
    · have e : rstepP fold s p[i] = ([], 1) := by unfold rstepP; rw [if_pos hm]
      rw [e, run_no hm]
      simp only [if_neg (show ¬ (1 : Int) = 0 by decide)]
      exact Ev.now _
    · have e : rstepP fold s p[i] = if (stepP fold (s, 0) (p[i]).f0).2 ≠ 0 then ([], (stepP fold (s, 0) (p[i]).f0).2) else ((stepP fold (s, 0) (p[i]).f0).1.1, 0) := by unfold rstepP; rw [if_neg (by rw [hm]; simp)]
      have hsm := step_m (fold := fold) (s := s) (m := most) (m' := 0) (o := (p[i]).f0)
      rw [e]
      by_cases h2 : (stepP fold (s, most) (p[i]).f0).2 = 0
      · have h3 : ¬ (stepP fold (s, 0) (p[i]).f0).2 ≠ 0 := by rw [← hsm.1]; simpa using h2
        rw [if_neg h3, run_go hm h2]
        simp only [if_true]
        have := rstack_go fold hf p hp m (i + 1) (by omega) (stepP fold (s, most) (p[i]).f0).1.1 (stepP fold (s, most) (p[i]).f0).1.2 (stepP_len (fold := fold) (x := (s, most)) hs)
        rw [hsm.2] at this
        rw [show (stepP fold (s, most) (p[i]).f0).1 = ((stepP fold (s, 0) (p[i]).f0).1.1, (stepP fold (s, most) (p[i]).f0).1.2) by rw [← hsm.2]]
        exact this
      · have h3 : (stepP fold (s, 0) (p[i]).f0).2 ≠ 0 := by rw [← hsm.1]; exact h2
        rw [if_pos h3, run_bad hm h2, step_err hs h2]
        simp only [if_neg h3]
        refine Ev.ret ?_
        rw [hsm.1]
theorem rstack (p : List Ins) (fold : List Bool) (hfl : fold.length ≤ 1000000) : Ev (fun k => threshingref15_Stack.f k p fold) (stackP May p fold) := by
  have key : ∀ b : Bool, (b = true ↔ (fold.length ≠ 0 ∧ fold.length ≠ 2)) → Ev (fun k => threshingref15_Stack.j0 k p fold b) (stackP May p fold) := fun b hb => by
    refine Ev.succ ?_
    unfold stackP
    cases b
    · have h1 : ¬ (fold.length ≠ 0 ∧ fold.length ≠ 2) := fun h => by have := hb.2 h; cases this
      rw [if_neg h1]
      by_cases h2 : 200 < p.length
      · simp only [threshingref15_Stack.j0, Bool.false_eq_true, if_false, if_pos (show (p.length : Int) > 200 by omega), if_pos h2]
        exact Ev.now _
      · simp only [threshingref15_Stack.j0, Bool.false_eq_true, if_false, if_neg (show ¬ (p.length : Int) > 200 by omega), if_neg h2]
        exact rstack_go fold (by omega) p (by omega) p.length 0 (by omega) [] 0 (by decide)
    · rw [if_pos (hb.1 rfl)]
      simp only [threshingref15_Stack.j0, if_true]
      exact Ev.now _
  unfold threshingref15_Stack.f
  by_cases h0 : (fold.length : Int) = 0
  · simp only [if_pos h0]
    exact key false ⟨(fun h => by cases h), (fun h => absurd (by omega : fold.length = 0) h.1)⟩
  · simp only [if_neg h0]
    refine key _ ⟨fun h => ?_, fun h => ?_⟩
    · have : ¬ (fold.length : Int) = 2 := by simpa using h
      exact ⟨by omega, by omega⟩
    · have : ¬ (fold.length : Int) = 2 := by omega
      simpa using this
/-! ### rows of kinds that are alike -/
theorem rsame_go (a b : List Bool) (hl : a.length = b.length) (hs : a.length < 1000) : ∀ m i : Nat, i + m = a.length → Ev (fun k => threshingref15_Same.l0 k a b (i : Int)) (decide (a.drop i = b.drop i))
  | 0, i, hi => by
    refine Ev.succ ?_
    simp only [threshingref15_Same.l0, if_neg (show ¬ (i : Int) < (a.length : Int) by omega)]
    refine Ev.ret ?_
    rw [List.drop_of_length_le (by omega), List.drop_of_length_le (by omega)]
    rfl
  | m + 1, i, hi => by
    have h1 : i < a.length := by omega
    have h2 : i < b.length := by omega
    have ea : a.drop i = a[i] :: a.drop (i + 1) := List.drop_eq_getElem_cons h1
    have eb : b.drop i = b[i] :: b.drop (i + 1) := List.drop_eq_getElem_cons h2
    have ra : rdOf false a (i : Int) = a[i] := by rw [rdOf_nat, List.getD_eq_getElem?_getD, List.getElem?_eq_getElem h1]; rfl
    have rb : rdOf false b (i : Int) = b[i] := by rw [rdOf_nat, List.getD_eq_getElem?_getD, List.getElem?_eq_getElem h2]; rfl
    refine Ev.succ ?_
    simp only [threshingref15_Same.l0, if_pos (show (i : Int) < (a.length : Int) by omega), if_pos (show (0 : Int) ≤ (i : Int) by omega), if_pos (show (i : Int) < (b.length : Int) by omega), ra, rb, wrap_succ (i := i) (by omega)]
    by_cases c : a[i] = b[i]
    · have : (a[i] != b[i]) = false := by simp [c]
      simp only [this, Bool.false_eq_true, if_false]
      refine (rsame_go a b hl hs m (i + 1) (by omega)).to ?_
      have h3 : (a.drop i = b.drop i) ↔ (a.drop (i + 1) = b.drop (i + 1)) := by
        rw [ea, eb, List.cons.injEq]
        exact ⟨fun h => h.2, fun h => ⟨c, h⟩⟩
      exact decide_eq_decide.2 h3.symm
    · have : (a[i] != b[i]) = true := by simp [c]
      simp only [this, if_true]
      refine Ev.ret ?_
      symm
      refine decide_eq_false ?_
      rw [ea, eb, List.cons.injEq]
      exact fun h => c h.1
theorem rsame (a b : List Bool) (hs : a.length < 1000) : Ev (fun k => threshingref15_Same.f k a b) (decide (a = b)) := by
  unfold threshingref15_Same.f
  by_cases c : a.length = b.length
  · simp only [if_pos (show (a.length : Int) = (b.length : Int) by omega)]
    exact rsame_go a b c hs a.length 0 (by omega)
  · simp only [if_neg (show ¬ (a.length : Int) = (b.length : Int) by omega)]
    refine Ev.ret ?_
    symm
    exact decide_eq_false fun e => c (by rw [e])
theorem equal_go (a b : List Bool) (hl : a.length = b.length) (hs : a.length < 1000) : ∀ m i : Nat, i + m = a.length → Ev (fun k => slices_Equal_bool_bool.l0 k a b (a.length : Int) (i : Int)) (decide (a.drop i = b.drop i))
  | 0, i, hi => by
    refine Ev.succ ?_
    simp only [slices_Equal_bool_bool.l0, if_neg (show ¬ (i : Int) < (a.length : Int) by omega)]
    refine Ev.ret ?_
    rw [List.drop_of_length_le (by omega), List.drop_of_length_le (by omega)]
    rfl
  | m + 1, i, hi => by
    have h1 : i < a.length := by omega
    have h2 : i < b.length := by omega
    have ea : a.drop i = a[i] :: a.drop (i + 1) := List.drop_eq_getElem_cons h1
    have eb : b.drop i = b[i] :: b.drop (i + 1) := List.drop_eq_getElem_cons h2
    have ra : rdOf false a (i : Int) = a[i] := by rw [rdOf_nat, List.getD_eq_getElem?_getD, List.getElem?_eq_getElem h1]; rfl
    have rb : rdOf false b (i : Int) = b[i] := by rw [rdOf_nat, List.getD_eq_getElem?_getD, List.getElem?_eq_getElem h2]; rfl
    refine Ev.succ ?_
    simp only [slices_Equal_bool_bool.l0, if_pos (show (i : Int) < (a.length : Int) by omega), if_pos (show (0 : Int) ≤ (i : Int) by omega), if_pos (show (i : Int) < (b.length : Int) by omega), ra, rb, wrap_succ (i := i) (by omega)]
    by_cases c : a[i] = b[i]
    · have : (a[i] != b[i]) = false := by simp [c]
      simp only [this, Bool.false_eq_true, if_false]
      refine (equal_go a b hl hs m (i + 1) (by omega)).to ?_
      have h3 : (a.drop i = b.drop i) ↔ (a.drop (i + 1) = b.drop (i + 1)) := by
        rw [ea, eb, List.cons.injEq]
        exact ⟨fun h => h.2, fun h => ⟨c, h⟩⟩
      exact decide_eq_decide.2 h3.symm
    · have : (a[i] != b[i]) = true := by simp [c]
      simp only [this, if_true]
      refine Ev.ret ?_
      symm
      refine decide_eq_false ?_
      rw [ea, eb, List.cons.injEq]
      exact fun h => c h.1
theorem equal_f (a b : List Bool) (hs : a.length < 1000) : Ev (fun k => slices_Equal_bool_bool.f k a b) (decide (a = b)) := by
  unfold slices_Equal_bool_bool.f
  by_cases c : a.length = b.length
  · simp only [if_pos (show (a.length : Int) = (b.length : Int) by omega)]
    exact equal_go a b c hs a.length 0 (by omega)
  · simp only [if_neg (show ¬ (a.length : Int) = (b.length : Int) by omega)]
    refine Ev.ret ?_
    symm
    exact decide_eq_false fun e => c (by rw [e])
theorem stack_len (p : List Ins) (fold : List Bool) : (stackP May p fold).1.length ≤ 30 := by
  unfold stackP
  split
  · decide
  · split
    · decide
    · obtain ⟨_, _, _, _, _, _, h, _⟩ := run_all fold p 0 ([], 0) (by decide)
      exact h
def checkP (p : List Ins) (fold want : List Bool) : Int := if (stackP May p fold).2.2 = 0 then (if (stackP May p fold).1 = want then 0 else 11) else (stackP May p fold).2.2
theorem check_f (p : List Ins) (fold want : List Bool) : Ev (fun k => check_Check.f k p fold want) (checkP p fold want) := by
  unfold check_Check.f
  have hl := stack_len p fold
  have hS : check_Stack.f p fold = some (stackP May p fold) := rfl
  obtain ⟨st, hst⟩ : ∃ st, stackP May p fold = st := ⟨_, rfl⟩
  simp only [hS, Option.bind_some]
  unfold checkP
  rw [hst] at hl ⊢
  rcases st with ⟨s, n, er⟩
  simp only at hl ⊢
  by_cases c : er = 0
  · simp only [if_pos c]
    refine Ev.bind (equal_f s want (by omega)) ?_
    by_cases c2 : s = want
    · simp only [decide_eq_true c2, if_true, if_pos c2]
      exact Ev.ret (by rw [c])
    · simp only [decide_eq_false c2, Bool.false_eq_true, if_false, if_neg c2]
      exact Ev.now _
  · simp only [if_neg c]
    exact Ev.now _
theorem rcheck (p : List Ins) (fold want : List Bool) (hfl : fold.length ≤ 1000000) : Ev (fun k => threshingref15_Check.f k p fold want) (checkP p fold want) := by
  unfold threshingref15_Check.f
  have hl := stack_len p fold
  refine Ev.bind (rstack p fold hfl) ?_
  unfold checkP
  obtain ⟨st, hst⟩ : ∃ st, stackP May p fold = st := ⟨_, rfl⟩
  rw [hst] at hl ⊢
  rcases st with ⟨s, n, er⟩
  simp only at hl ⊢
  by_cases c : er = 0
  · simp only [if_pos c]
    refine Ev.bind (rsame s want (by omega)) ?_
    by_cases c2 : s = want
    · simp only [decide_eq_true c2, if_true, if_pos c2]
      exact Ev.ret (by rw [c])
    · simp only [decide_eq_false c2, Bool.false_eq_true, if_false, if_neg c2]
      exact Ev.now _
  · simp only [if_neg c]
    exact Ev.now _
end Go.Proofs.YtejmgcfjpofniaaGreatDoorL
