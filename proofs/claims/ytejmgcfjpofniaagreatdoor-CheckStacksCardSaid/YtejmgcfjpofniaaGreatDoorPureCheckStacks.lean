/- The pure statement of CheckStacks. -/
import Derived.Test.YtejmgcfjpofniaaGreatDoorPXx
import Derived.Test.YtejmgcfjpofniaaGreatDoorLStack
import Derived.Test.YtejmgcfjpofniaaGreatDoorPureCheckWants
set_option linter.unusedVariables false
set_option linter.unusedSimpArgs false
namespace Go.Proofs.YtejmgcfjpofniaaGreatDoor.Pure
open Go.RowKit Go.Proofs Go.Proofs.YtejmgcfjpofniaaGreatDoor Go.Proofs.YtejmgcfjpofniaaGreatDoor.PX Go.Proofs.YtejmgcfjpofniaaGreatDoorW.PrintWords Go.Proofs.YtejmgcfjpofniaaGreatDoorL Go.Proofs.YtejmgcfjpofniaaGreatDoor.XCheck
/-! ### how deep it goes -/
theorem step_mx {fold : List Bool} {x : List Bool × Int} {o : Int} (h : (stepP fold x o).2 = 0) : (stepP fold x o).1.2 = mx x.2 ((stepP fold x o).1.1.length : Int) := by
  have hp : ∀ (x : List Bool × Int) t, (pushP x t).2 = 0 → (pushP x t).1.2 = mx x.2 ((pushP x t).1.1.length : Int) := fun x t h => by
    by_cases c : x.1.length = 30
    · rw [push_full c] at h; cases h
    · rw [push_ok c]
      simp only [List.length_append, List.length_cons, List.length_nil]
      congr 1
  by_cases c : 22 ≤ o
  · rw [step_given c] at h ⊢
    unfold givenP at h ⊢
    by_cases c2 : fold.length = 0
    · rw [if_pos c2] at h; cases h
    · rw [if_neg c2] at h ⊢; exact hp _ _ h
  · by_cases c2 : 0 < XOps.arityF o
    · rw [step_done c c2] at h ⊢
      unfold doneP at h ⊢
      by_cases c3 : (x.1.length : Int) < XOps.arityF o
      · rw [if_pos c3] at h; cases h
      · rw [if_neg c3] at h ⊢
        by_cases c4 : (XOps.resultF o (x.1.drop (x.1.length - (XOps.arityF o).toNat))).2 ≠ 0
        · rw [if_pos c4] at h; exact absurd h c4
        · rw [if_neg c4] at h ⊢
          exact hp (x.1.take (x.1.length - (XOps.arityF o).toNat), x.2) _ h
    · rw [step_plain c c2] at h ⊢; exact hp _ _ h
theorem run_one {fold : List Bool} {a : Ins} {i : Nat} {x : List Bool × Int} (h : (runP May fold [a] i x).2.2 = 0) : (stepP fold x a.f0).2 = 0 ∧ (runP May fold [a] i x).1 = (stepP fold x a.f0).1 := by
  rcases hm : May a with _ | _
  · rw [run_no hm] at h; cases h
  · by_cases h2 : (stepP fold x a.f0).2 = 0
    · rw [run_go hm h2, run_nil]
      exact ⟨h2, rfl⟩
    · rw [run_bad hm h2] at h; exact absurd h h2
theorem rdepth_go (fold : List Bool) (hfl : fold.length = 0 ∨ fold.length = 2) (p : List Ins) (hp : p.length ≤ 200) (j : Nat) (hj : j ≤ p.length) (hpre : ∀ q, q ≤ j → (runP May fold (p.take q) 0 ([], 0)).2 = (((q : Nat) : Int), 0)) :
    ∀ d q : Nat, q + d = j → ∀ M : Int, mx M ((runP May fold (p.take q) 0 ([], 0)).1.1.length : Int) = (runP May fold (p.take q) 0 ([], 0)).1.2 →
      Ev (fun k => threshingref15_Depth.l0 k p fold (j : Int) M (q : Int)) (runP May fold (p.take j) 0 ([], 0)).1.2 := by
  have hst : ∀ q, q ≤ j → stackP May (p.take q) fold = ((runP May fold (p.take q) 0 ([], 0)).1.1, (runP May fold (p.take q) 0 ([], 0)).2.1, (runP May fold (p.take q) 0 ([], 0)).2.2) := fun q hq => by
    unfold stackP
    rw [if_neg (by omega), if_neg (by rw [List.length_take]; omega)]
  have one : ∀ (q : Nat) (M : Int), q ≤ j → (∀ r, Ev (fun k => threshingref15_Depth.l0 k p fold (j : Int) (mx M ((runP May fold (p.take q) 0 ([], 0)).1.1.length : Int)) ((q + 1 : Nat) : Int)) r → Ev (fun k => threshingref15_Depth.l0 k p fold (j : Int) M (q : Int)) r) := fun q M hq r hr => by
    refine Ev.succ ?_
    simp only [threshingref15_Depth.l0, if_pos (show (q : Int) ≤ (j : Int) by omega), if_pos (show (0 : Int) ≤ (q : Int) by omega), if_pos (show (q : Int) ≤ (p.length : Int) by omega), Int.toNat_natCast, wrap_succ (i := q) (by omega)]
    refine Ev.bind (rstack (p.take q) fold (by omega)) ?_
    rw [hst q hq]
    exact hr
  intro d
  induction d with
  | zero =>
    intro q hq M hM
    obtain rfl : q = j := by omega
    refine one q M (Nat.le_refl _) _ ?_
    rw [hM]
    refine Ev.succ ?_
    simp only [threshingref15_Depth.l0, if_neg (show ¬ ((q + 1 : Nat) : Int) ≤ (q : Int) by omega)]
    exact Ev.now _
  | succ d ih =>
    intro q hq M hM
    refine one q M (by omega) _ ?_
    rw [hM]
    refine ih (q + 1) (by omega) _ ?_
    have hlt : q < p.length := by omega
    have e : p.take (q + 1) = p.take q ++ [p[q]] := by rw [List.take_succ_eq_append_getElem hlt]
    have h0 : (runP May fold (p.take q) 0 ([], 0)).2.2 = 0 := by rw [hpre q (by omega)]
    have happ := run_append fold [p[q]] (p.take q) 0 ([], 0) h0
    rw [← e] at happ
    have h1 : (runP May fold (p.take (q + 1)) 0 ([], 0)).2.2 = 0 := by rw [hpre (q + 1) (by omega)]
    rw [happ] at h1 ⊢
    obtain ⟨h2, h3⟩ := run_one h1
    rw [h3]
    exact (step_mx h2).symm
theorem rdepth (p : List Ins) (fold : List Bool) (hfl : fold.length ≤ 1000000) : Ev (fun k => threshingref15_Depth.f k p fold) (depthP May p fold) := by
  unfold threshingref15_Depth.f
  refine Ev.bind (rstack p fold hfl) ?_
  have none_ : (∀ q : List Ins, stackP May (q.take 0) fold = ([], (stackP May (q.take 0) fold).2.1, (stackP May (q.take 0) fold).2.2)) := fun q => by
    unfold stackP
    rw [List.take_zero]
    split
    · rfl
    · rw [if_neg (by simp)]
      rfl
  have short : Ev (fun k => threshingref15_Depth.l0 k p fold 0 0 0) 0 := by
    refine Ev.succ ?_
    simp only [threshingref15_Depth.l0, if_pos (show (0 : Int) ≤ 0 by decide), if_pos (show (0 : Int) ≤ (p.length : Int) by omega), show (0 : Int).toNat = 0 from rfl]
    refine Ev.bind (rstack (p.take 0) fold hfl) ?_
    rw [none_ p]
    refine Ev.succ ?_
    have hw : wrap64 (0 + 1) = 1 := by unfold wrap64; omega
    simp only [threshingref15_Depth.l0, hw, if_neg (show ¬ (1 : Int) ≤ 0 by decide)]
    exact Ev.ret rfl
  unfold depthP
  by_cases h1 : fold.length ≠ 0 ∧ fold.length ≠ 2
  · have e : stackP May p fold = ([], 0, 1) := by unfold stackP; rw [if_pos h1]
    rw [if_pos h1, e]
    exact short
  rw [if_neg h1]
  by_cases h2 : 200 < p.length
  · have e : stackP May p fold = ([], 0, 5) := by unfold stackP; rw [if_neg h1, if_pos h2]
    rw [if_pos h2, e]
    exact short
  rw [if_neg h2]
  have e : stackP May p fold = ((runP May fold p 0 ([], 0)).1.1, (runP May fold p 0 ([], 0)).2.1, (runP May fold p 0 ([], 0)).2.2) := by unfold stackP; rw [if_neg h1, if_neg h2]
  obtain ⟨j, hj, hn, he, hpre, htk, hlen, hm0, hmost⟩ := run_all fold p 0 ([], 0) (by decide)
  simp only [Nat.zero_add] at hn hpre
  rw [e, ← htk]
  simp only [hn]
  exact rdepth_go fold (by omega) p (by omega) j hj hpre j 0 (by omega) 0 (by rw [List.take_zero, run_nil]; rfl)
/-! ### what it asks for -/
def needsP : List Ins → Int → Int
  | [], n => n
  | a :: r, n => needsP r (if a.f0 = 2 ∧ May a = true then mx n (wrap64 (a.f1 + 1)) else n)
theorem needs_go (p : List Ins) (hp : p.length < 4611686018427387904) : ∀ m i : Nat, i + m = p.length → ∀ n : Int, Ev (fun k => check_Needs.l0 k n p (p.length : Int) (i : Int)) (needsP (p.drop i) n)
  | 0, i, hi, n => by
    refine Ev.succ ?_
    simp only [check_Needs.l0, if_neg (show ¬ (i : Int) < (p.length : Int) by omega)]
    refine Ev.ret ?_
    rw [List.drop_of_length_le (by omega)]
    rfl
  | m + 1, i, hi, n => by
    have h : i < p.length := by omega
    have hd : p.drop i = p[i] :: p.drop (i + 1) := List.drop_eq_getElem_cons h
    have hmay : code_May.f (p[i]).f0 (p[i]).f1 (p[i]).f2 = some (May p[i]) := check_Stack.may_eq _
    refine Ev.succ ?_
    simp only [check_Needs.l0, if_pos (show (i : Int) < (p.length : Int) by omega), if_pos (show (0 : Int) ≤ (i : Int) by omega), rd_ins p i h, wrap_succ (i := i) (by omega), hmay, Option.bind_some]
    rw [hd]
    have ih := needs_go p hp m (i + 1) (by omega)
    unfold needsP
    by_cases c : (p[i]).f0 = 2
    · simp only [if_pos c]
      rcases hm : May p[i] with _ | _
      · simp only [Bool.false_eq_true, if_false, and_false]
        exact ih n
      · simp only [if_true, c, and_self]
        exact ih _
    · simp only [if_neg c, c, false_and, if_false]
      exact ih n
theorem rneeds_go (p : List Ins) (hp : p.length < 4611686018427387904) : ∀ m i : Nat, i + m = p.length → ∀ n : Int, Ev (fun k => threshingref15_Needs.l0 k p n (i : Int)) (needsP (p.drop i) n)
  | 0, i, hi, n => by
    refine Ev.succ ?_
    simp only [threshingref15_Needs.l0, if_neg (show ¬ (i : Int) < (p.length : Int) by omega)]
    refine Ev.ret ?_
    rw [List.drop_of_length_le (by omega)]
    rfl
  | m + 1, i, hi, n => by
    have h : i < p.length := by omega
    have hd : p.drop i = p[i] :: p.drop (i + 1) := List.drop_eq_getElem_cons h
    refine Ev.succ ?_
    simp only [threshingref15_Needs.l0, if_pos (show (i : Int) < (p.length : Int) by omega), if_pos (show (0 : Int) ≤ (i : Int) by omega), rd_ins p i h, wrap_succ (i := i) (by omega), rmay, Option.bind_some]
    rw [hd]
    have ih := rneeds_go p hp m (i + 1) (by omega)
    unfold needsP
    by_cases c : (p[i]).f0 = 2
    · simp only [if_pos c]
      rcases hm : May p[i] with _ | _
      · simp only [Bool.false_eq_true, if_false, and_false]
        exact ih n
      · simp only [if_true, c, and_self]
        exact ih _
    · simp only [if_neg c, c, false_and, if_false]
      exact ih n
theorem CheckStacks : threshinglaw15_CheckStacks.Pure := by
  intro p fold hp hfold
  have hl : p.length < 4611686018427387904 := by omega
  have live : Ev (fun k => threshinglaw15_CheckStacks.j0 k p fold true) true := by
    refine Ev.succ ?_
    simp only [threshinglaw15_CheckStacks.j0, if_true]
    exact Ev.bind alive15 (Ev.now _)
  have main : fold.length ≤ 5 → Ev (fun k => threshinglaw15_CheckStacks.j0 k p fold false) true := fun h5 => by
    refine Ev.succ ?_
    have hS : check_Stack.f p fold = some (stackP May p fold) := rfl
    have hD : check_Depth.f p fold = some (depthP May p fold) := rfl
    simp only [threshinglaw15_CheckStacks.j0, Bool.false_eq_true, if_false, hS, Option.bind_some]
    refine Ev.bind (rstack p fold (by omega)) ?_
    refine Ev.bind alive15 ?_
    simp only [if_true]
    refine Ev.bind (rsame _ _ (by have := stack_len p fold; omega)) ?_
    simp only [decide_true, if_true, hD, Option.bind_some]
    refine Ev.bind (rdepth p fold (by omega)) ?_
    simp only [if_true]
    refine Ev.bind (needs_go p hl p.length 0 (by omega) 0) ?_
    refine Ev.bind (rneeds_go p hl p.length 0 (by omega) 0) ?_
    simp only [if_true]
    exact Ev.ret (by simp)
  obtain ⟨b, hb⟩ := small_go p 250 0 rfl (Nat.zero_le _)
  refine Ev.rounds ?_
  unfold threshinglaw15_CheckStacks.f
  refine Ev.bind hb ?_
  cases b
  · simp only [Bool.false_eq_true, if_false]
    exact live
  simp only [if_true]
  by_cases h5 : (fold.length : Int) > 5
  · simp only [decide_eq_true h5]
    exact live
  · simp only [decide_eq_false h5]
    exact main (by omega)
end Go.Proofs.YtejmgcfjpofniaaGreatDoor.Pure
