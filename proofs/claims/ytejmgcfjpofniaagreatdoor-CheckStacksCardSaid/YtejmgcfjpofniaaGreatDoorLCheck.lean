/- Layer 15: how a program goes, in plain words; the document's answer. -/
import Derived.Test.YtejmgcfjpofniaaGreatDoorPXx
import Derived.Test.YtejmgcfjpofniaaGreatDoorLBase
import Derived.Test.YtejmgcfjpofniaaGreatDoorLRes13
import Derived.Test.YtejmgcfjpofniaaGreatDoorLStep
set_option linter.unusedVariables false
set_option linter.unusedSimpArgs false
namespace Go.Proofs.YtejmgcfjpofniaaGreatDoorL
open Go.RowKit Go.Proofs Go.Proofs.YtejmgcfjpofniaaGreatDoor Go.Proofs.YtejmgcfjpofniaaGreatDoor.PX Go.Proofs.YtejmgcfjpofniaaGreatDoorW.PrintWords Go.Proofs.YtejmgcfjpofniaaGreatDoorW.PrintMore Go.Proofs.YtejmgcfjpofniaaGreatDoor.XCheck
theorem mx_assoc (a b c : Int) : mx (mx a b) c = mx a (mx b c) := by unfold mx; repeat' split <;> omega
/-! ### which instructions may be -/
theorem isOp_f (o : Int) : code_isOp.f o = some (decide (0 ≤ o ∧ o ≤ 23)) := by
  have hA : value_Arity.f o = some (XOps.arityF o) := rfl
  unfold code_isOp.f
  rw [hA]
  simp only [Option.bind_some]
  rcases op_cases o with rfl | rfl | rfl | rfl | rfl | rfl | rfl | rfl | rfl | rfl | rfl | rfl | rfl | rfl | rfl | rfl | rfl | rfl | hn
  case inr.inr.inr.inr.inr.inr.inr.inr.inr.inr.inr.inr.inr.inr.inr.inr.inr.inr =>
    have h0 : XOps.arityF o = 0 := by
      unfold XOps.arityF
      rw [op_none hn]
    rw [h0]
    by_cases c : o ≥ 0
    · rw [if_pos c]
      by_cases c3 : o ≤ 3
      · rw [if_pos c3, decide_eq_true (by omega)]
      · rw [if_neg c3]
        by_cases c22 : o = 22
        · rw [if_pos c22, decide_eq_true (by omega)]
        · rw [if_neg c22]
          by_cases c23 : o = 23
          · rw [if_pos c23, decide_eq_true (by omega)]
          · rw [if_neg c23, decide_eq_false (show ¬ (0 ≤ o ∧ o ≤ 23) by omega)]
            rfl
    · rw [if_neg c, if_neg (by omega), if_neg (by omega), decide_eq_false (show ¬ (0 ≤ o ∧ o ≤ 23) by omega)]
      rfl
  all_goals rfl
theorem nil_size {x : ByteArray} (h : x.toList = ([] : List UInt8)) : x.size = 0 := by
  rw [toList_data] at h
  have := data_length x
  rw [h] at this
  exact this.symm
theorem may_ref (o n : Int) (x : ByteArray) : threshingref14_May.f o n x = code_May.f o n x := by
  unfold threshingref14_May.f code_May.f
  simp only [isOp_f, Option.bind_some]
  by_cases c0 : o = 0
  · subst c0
    simp only [if_neg (show ¬ (0 : Int) < 0 by decide), if_neg (show ¬ (0 : Int) > 23 by decide), if_neg (show ¬ (0 : Int) = 1 by decide), if_true, show decide ((0 : Int) ≤ 0 ∧ (0 : Int) ≤ 23) = true from rfl]
    by_cases h : x.toList = ([] : List UInt8)
    · rw [if_pos h, if_neg (by rw [nil_size h]; decide)]
      simp [h]
    · rw [if_neg h]
      simp [h]
  by_cases c1 : o = 1
  · subst c1
    simp only [if_neg (show ¬ (1 : Int) < 0 by decide), if_neg (show ¬ (1 : Int) > 23 by decide), if_true, if_neg (show ¬ (1 : Int) = 0 by decide), if_neg (show ¬ (1 : Int) = 2 by decide), show decide ((0 : Int) ≤ 1 ∧ (1 : Int) ≤ 23) = true from rfl]
    by_cases h : (x.size : Int) > 1000
    · rw [if_pos h]
      by_cases hn : n = 0
      · rw [if_pos hn, decide_eq_false (by omega)]
      · rw [if_neg hn]
    · rw [if_neg h]
      by_cases hn : n = 0
      · rw [if_pos hn, decide_eq_true (by omega)]
        simp [hn]
      · rw [if_neg hn]
        simp [hn]
  by_cases c2 : o = 2
  · subst c2
    simp only [if_neg (show ¬ (2 : Int) < 0 by decide), if_neg (show ¬ (2 : Int) > 23 by decide), if_true, if_neg (show ¬ (2 : Int) = 0 by decide), if_neg (show ¬ (2 : Int) = 1 by decide), show decide ((0 : Int) ≤ 2 ∧ (2 : Int) ≤ 23) = true from rfl]
    by_cases h : x.toList = ([] : List UInt8)
    · rw [if_pos h, if_neg (by rw [nil_size h]; decide)]
      by_cases hn : n ≥ 0
      · rw [if_pos hn, if_pos hn]
        by_cases hm : n ≤ 49
        · rw [if_pos hm, if_pos (by omega)]
          simp [h]
        · rw [if_neg hm, if_neg (by omega)]
      · rw [if_neg hn, if_neg hn]
    · rw [if_neg h]
      by_cases hn : n ≥ 0
      · rw [if_pos hn]
        by_cases hm : n < 50
        · rw [if_pos hm]
          simp [h]
        · rw [if_neg hm]
      · rw [if_neg hn]
  simp only [if_neg c0, if_neg c1, if_neg c2]
  by_cases hl : o < 0
  · rw [if_pos hl, decide_eq_false (show ¬ (0 ≤ o ∧ o ≤ 23) by omega)]
    rfl
  · rw [if_neg hl]
    by_cases hh : o > 23
    · rw [if_pos hh, decide_eq_false (show ¬ (0 ≤ o ∧ o ≤ 23) by omega)]
      rfl
    · rw [if_neg hh, decide_eq_true (show 0 ≤ o ∧ o ≤ 23 by omega)]
      simp only [if_true]
      by_cases h : x.toList = ([] : List UInt8)
      · rw [if_pos h, if_neg (by rw [nil_size h]; decide)]
        by_cases hn : n = 0
        · simp [hn, h]
        · simp [hn]
      · rw [if_neg h]
        by_cases hn : n = 0
        · simp [hn, h]
        · simp [hn]
theorem rmay (a : Ins) : threshingref14_May.f a.f0 a.f1 a.f2 = some (May a) := (may_ref _ _ _).trans (check_Stack.may_eq a)
/-! ### one step -/
theorem arity_pos_lt {o : Int} (h : 0 < XOps.arityF o) : o < 22 := check_Stack.arity_lt h
theorem arity_ge (o : Int) : 0 ≤ XOps.arityF o := by
  unfold XOps.arityF
  split <;> omega
def kindP (o : Int) : Bool := decide (o = 1) || decide (o = 2)
def rstepP (fold : List Bool) (s : List Bool) (a : Ins) : List Bool × Int :=
  if May a = false then ([], 1) else if (stepP fold (s, 0) a.f0).2 ≠ 0 then ([], (stepP fold (s, 0) a.f0).2) else ((stepP fold (s, 0) a.f0).1.1, 0)
theorem wrap_sub {a b : Nat} (h : b ≤ a) (ha : a < 4611686018427387904) : wrap64 ((a : Int) - (b : Int)) = ((a - b : Nat) : Int) := by
  rw [wrap_id (by omega) (by omega)]
  omega
theorem rj2 (s : List Bool) (hs : s.length ≤ 30) (o : Int) (n' : Int) (x : ByteArray) (kind : Bool) : ∀ n : Nat, n ≤ s.length → (0 < n → XOps.arityF o = n) →
    Ev (fun k => threshingref15_step.j2 k s (n : Int) kind o n' x) (if 0 < n then (if (XOps.resultF o (s.drop (s.length - n))).2 ≠ 0 then ([], (XOps.resultF o (s.drop (s.length - n))).2) else (s.take (s.length - n) ++ [(XOps.resultF o (s.drop (s.length - n))).1], 0)) else (if s.length = 30 then ([], 13) else (s ++ [kind], 0))) := by
  intro n hn hna
  refine Ev.succ ?_
  have hw := wrap_sub hn (by omega)
  have h0 : (0 : Int) ≤ ((s.length - n : Nat) : Int) := by omega
  have h1 : ((s.length - n : Nat) : Int) ≤ (s.length : Int) := by omega
  have ht : (s.take (s.length - n)).length = s.length - n := by rw [List.length_take]; omega
  by_cases c : 0 < n
  · simp only [threshingref15_step.j2, if_pos (show (n : Int) > 0 by omega), hw, if_pos h0, if_pos h1, Int.toNat_natCast, if_pos c]
    refine Ev.bind (result_f o _) ?_
    by_cases c2 : (XOps.resultF o (s.drop (s.length - n))).2 ≠ 0
    · simp only [if_neg c2, if_pos c2]
      exact Ev.now _
    · have c3 : (XOps.resultF o (s.drop (s.length - n))).2 = 0 := by simpa using c2
      simp only [c3, if_true, if_neg (show ¬ ((0 : Int) ≠ 0) by decide), Option.bind_some, List.length_nil, Nat.zero_add, ht, if_pos (show s.length - n < 140737488355328 by omega), List.nil_append, List.length_append, List.length_cons]
      rw [if_neg (show ¬ (((s.length - n + (0 + 1) : Nat) : Int) > 30) by omega)]
      exact Ev.now _
  · obtain rfl : n = 0 := by omega
    have hz : s.length - 0 = s.length := rfl
    have ht2 : s.take s.length = s := List.take_length
    simp only [threshingref15_step.j2, if_neg (show ¬ (((0 : Nat) : Int) > 0) by decide), hw, hz, Option.bind_some, if_pos (show (0 : Int) ≤ (s.length : Int) by omega), if_pos (show (s.length : Int) ≤ (s.length : Int) by omega), Int.toNat_natCast, ht2, List.length_nil, Nat.zero_add, if_pos (show s.length < 140737488355328 by omega), List.nil_append, List.length_append, List.length_cons, if_neg c]
    by_cases c2 : s.length = 30
    · simp only [if_pos c2, if_pos (show ((s.length + (0 + 1) : Nat) : Int) > 30 by omega)]
      exact Ev.now _
    · simp only [if_neg c2, if_neg (show ¬ (((s.length + (0 + 1) : Nat) : Int) > 30) by omega)]
      exact Ev.now _
theorem rstep (fold s : List Bool) (a : Ins) (hf : fold.length = 0 ∨ fold.length = 2) (hs : s.length ≤ 30) : Ev (fun k => threshingref15_step.f k s a.f0 a.f1 a.f2 fold) (rstepP fold s a) := by
  unfold threshingref15_step.f
  simp only [rmay, Option.bind_some]
  have bad : Ev (fun k => threshingref15_step.j0 k s fold true a.f0 a.f1 a.f2) ([], 1) := by
    refine Ev.succ ?_
    simp only [threshingref15_step.j0, if_true]
    exact Ev.now _
  rcases hm : May a with _ | _
  · simp only [Bool.false_eq_true, if_false]
    refine bad.to ?_
    unfold rstepP
    rw [if_pos hm]
  · have hop := check_Stack.may_op a hm
    have hr : rstepP fold s a = if (stepP fold (s, 0) a.f0).2 ≠ 0 then ([], (stepP fold (s, 0) a.f0).2) else ((stepP fold (s, 0) a.f0).1.1, 0) := by unfold rstepP; rw [if_neg (by rw [hm]; simp)]
    rw [hr]
    simp only [if_true]
    by_cases c : 22 ≤ a.f0
    · have hge : a.f0 ≥ 22 := c
      simp only [if_pos hge]
      have h0 : XOps.arityF a.f0 = 0 := by
        have := arity_ge a.f0
        by_cases d : 0 < XOps.arityF a.f0
        · have := arity_pos_lt d; omega
        · omega
      rcases hf with hf | hf
      · have hb : ((fold.length : Int) == 0) = true := by rw [hf]; rfl
        rw [hb]
        refine bad.to ?_
        rw [step_given c]
        unfold givenP
        rw [if_pos hf]
        rfl
      · have hb : ((fold.length : Int) == 0) = false := by rw [hf]; rfl
        rw [hb]
        have hw : wrap64 (a.f0 - 22) = a.f0 - 22 := by
          have := hop c
          exact wrap_id (by omega) (by omega)
        have hj : Ev (fun k => threshingref15_step.j1 k s fold 0 (a.f0 == 2) a.f0 a.f1 a.f2) (if s.length = 30 then ([], 13) else (s ++ [rdOf false fold (a.f0 - 22)], 0)) := by
          refine Ev.succ ?_
          have := hop c
          simp only [threshingref15_step.j1, if_pos hge, hw, if_pos (show (0 : Int) ≤ a.f0 - 22 by omega), if_pos (show a.f0 - 22 < (fold.length : Int) by omega)]
          exact rj2 s hs a.f0 a.f1 a.f2 _ 0 (Nat.zero_le _) (fun h => absurd h (Nat.lt_irrefl _))
        refine Ev.succ ?_
        simp only [threshingref15_step.j0, Bool.false_eq_true, if_false]
        refine Ev.bind (arity_f a.f0) ?_
        rw [h0]
        simp only [if_neg (show ¬ (0 : Int) > (s.length : Int) by omega), if_neg (show ¬ a.f0 = 1 by omega)]
        refine hj.to ?_
        rw [step_given c]
        unfold givenP
        rw [if_neg (show ¬ fold.length = 0 by omega)]
        unfold pushP rdOf
        by_cases c2 : s.length = 30
        · simp [c2]
        · simp [c2]
    · have hlt : ¬ a.f0 ≥ 22 := c
      simp only [if_neg hlt]
      obtain ⟨n, hn⟩ : ∃ n : Nat, XOps.arityF a.f0 = n := ⟨(XOps.arityF a.f0).toNat, by have := arity_ge a.f0; omega⟩
      refine Ev.succ ?_
      simp only [threshingref15_step.j0, Bool.false_eq_true, if_false]
      refine Ev.bind (arity_f a.f0) ?_
      rw [hn]
      by_cases c2 : 0 < n
      · rw [step_done c (show 0 < XOps.arityF a.f0 by rw [hn]; omega)]
        unfold doneP
        simp only [hn, Int.toNat_natCast]
        by_cases c3 : (n : Int) > (s.length : Int)
        · simp only [if_pos c3]
          try rw [if_pos (show (s.length : Int) < (n : Int) by omega)]
          exact Ev.now _
        · simp only [if_neg c3]
          try rw [if_neg (show ¬ (s.length : Int) < (n : Int) by omega)]
          have hj := fun kind => rj2 s hs a.f0 a.f1 a.f2 kind n (by omega) (fun _ => hn)
          simp only [if_pos c2] at hj
          have key : ∀ kind, Ev (fun k => threshingref15_step.j1 k s fold (n : Int) kind a.f0 a.f1 a.f2) (if (XOps.resultF a.f0 (s.drop (s.length - n))).2 ≠ 0 then ([], (XOps.resultF a.f0 (s.drop (s.length - n))).2) else (s.take (s.length - n) ++ [(XOps.resultF a.f0 (s.drop (s.length - n))).1], 0)) := fun kind => by
            refine Ev.succ ?_
            simp only [threshingref15_step.j1, if_neg hlt]
            exact hj kind
          have e : (if (if (XOps.resultF a.f0 (s.drop (s.length - n))).2 ≠ 0 then ((s, (0 : Int)), (XOps.resultF a.f0 (s.drop (s.length - n))).2) else pushP (s.take (s.length - n), 0) (XOps.resultF a.f0 (s.drop (s.length - n))).1).2 ≠ 0 then (([] : List Bool), (if (XOps.resultF a.f0 (s.drop (s.length - n))).2 ≠ 0 then ((s, (0 : Int)), (XOps.resultF a.f0 (s.drop (s.length - n))).2) else pushP (s.take (s.length - n), 0) (XOps.resultF a.f0 (s.drop (s.length - n))).1).2) else ((if (XOps.resultF a.f0 (s.drop (s.length - n))).2 ≠ 0 then ((s, (0 : Int)), (XOps.resultF a.f0 (s.drop (s.length - n))).2) else pushP (s.take (s.length - n), 0) (XOps.resultF a.f0 (s.drop (s.length - n))).1).1.1, 0)) = (if (XOps.resultF a.f0 (s.drop (s.length - n))).2 ≠ 0 then ([], (XOps.resultF a.f0 (s.drop (s.length - n))).2) else (s.take (s.length - n) ++ [(XOps.resultF a.f0 (s.drop (s.length - n))).1], 0)) := by
            by_cases c4 : (XOps.resultF a.f0 (s.drop (s.length - n))).2 ≠ 0
            · simp only [if_pos c4]
            · simp only [if_neg c4]
              rw [push_ok (by simp only [List.length_take]; omega)]
              simp
          rw [e]
          by_cases c5 : a.f0 = 1
          · simp only [if_pos c5]; exact key _
          · simp only [if_neg c5]; exact key _
      · obtain rfl : n = 0 := by omega
        rw [step_plain c (show ¬ 0 < XOps.arityF a.f0 by rw [hn]; decide)]
        simp only [if_neg (show ¬ (((0 : Nat) : Int) > (s.length : Int)) by omega)]
        have key : ∀ kind, Ev (fun k => threshingref15_step.j1 k s fold ((0 : Nat) : Int) kind a.f0 a.f1 a.f2) (if s.length = 30 then ([], 13) else (s ++ [kind], 0)) := fun kind => by
          refine Ev.succ ?_
          simp only [threshingref15_step.j1, if_neg hlt]
          exact rj2 s hs a.f0 a.f1 a.f2 kind 0 (Nat.zero_le _) (fun h => absurd h (Nat.lt_irrefl _))
        have e : ∀ kind, (if (pushP (s, 0) kind).2 ≠ 0 then (([] : List Bool), (pushP (s, 0) kind).2) else ((pushP (s, 0) kind).1.1, 0)) = (if s.length = 30 then ([], 13) else (s ++ [kind], 0)) := fun kind => by
          unfold pushP
          by_cases c6 : s.length = 30
          · simp [c6]
          · simp [c6]
        rw [e]
        by_cases c5 : a.f0 = 1
        · simp only [if_pos c5]
          refine (key _).to ?_
          simp [c5]
        · simp only [if_neg c5]
          refine (key _).to ?_
          have : (decide (a.f0 = 1) || decide (a.f0 = 2)) = (a.f0 == 2) := by
            rw [decide_eq_false c5, Bool.false_or]
            rfl
          rw [this]
end Go.Proofs.YtejmgcfjpofniaaGreatDoorL
