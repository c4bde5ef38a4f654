/- The pure statement of CheckWants. -/
import Derived.Test.YtejmgcfjpofniaaGreatDoorPXx
import Derived.Test.YtejmgcfjpofniaaGreatDoorLStack
set_option linter.unusedVariables false
set_option linter.unusedSimpArgs false
namespace Go.Proofs.YtejmgcfjpofniaaGreatDoor.Pure
open Go.RowKit Go.Proofs Go.Proofs.YtejmgcfjpofniaaGreatDoor Go.Proofs.YtejmgcfjpofniaaGreatDoor.PX Go.Proofs.YtejmgcfjpofniaaGreatDoorW.PrintWords Go.Proofs.YtejmgcfjpofniaaGreatDoorL Go.Proofs.YtejmgcfjpofniaaGreatDoor.XCheck
theorem alive15 : Ev (fun k => threshinglaw15_alive.f k) true := Ev.at_k 20 (fun k => threshinglaw15_alive.mono k) (by kernel_rfl)
theorem small_go (l : List Ins) : ∀ m i : Nat, i + m = 250 → i ≤ l.length → ∃ b, Ev (fun k => threshinglaw15_small.l0 k l (i : Int)) b
  | 0, i, hi, hl => by
    by_cases h : i < l.length
    · refine ⟨false, Ev.succ ?_⟩
      simp only [threshinglaw15_small.l0, if_pos (show (i : Int) < (l.length : Int) by omega), if_pos (show (i : Int) = 250 by omega)]
      exact Ev.now _
    · refine ⟨true, Ev.succ ?_⟩
      simp only [threshinglaw15_small.l0, if_neg (show ¬ (i : Int) < (l.length : Int) by omega)]
      exact Ev.now _
  | m + 1, i, hi, hl => by
    by_cases h : i < l.length
    · by_cases h2 : (((rd_T48 l (i : Int)).f2).size : Int) > 1100
      · refine ⟨false, Ev.succ ?_⟩
        simp only [threshinglaw15_small.l0, if_pos (show (i : Int) < (l.length : Int) by omega), if_neg (show ¬ (i : Int) = 250 by omega), if_pos (show (0 : Int) ≤ (i : Int) by omega), if_pos h2]
        exact Ev.now _
      · obtain ⟨b, hb⟩ := small_go l m (i + 1) (by omega) (by omega)
        refine ⟨b, Ev.succ ?_⟩
        simp only [threshinglaw15_small.l0, if_pos (show (i : Int) < (l.length : Int) by omega), if_neg (show ¬ (i : Int) = 250 by omega), if_pos (show (0 : Int) ≤ (i : Int) by omega), if_neg h2, wrap_succ (i := i) (by omega)]
        exact hb
    · refine ⟨true, Ev.succ ?_⟩
      simp only [threshinglaw15_small.l0, if_neg (show ¬ (i : Int) < (l.length : Int) by omega)]
      exact Ev.now _
theorem CheckWants : threshinglaw15_CheckWants.Pure := by
  intro p fold want hp hfold hwant
  have live : ∀ w, Ev (fun k => threshinglaw15_CheckWants.j0 k p fold w true) true := fun w => by
    refine Ev.succ ?_
    simp only [threshinglaw15_CheckWants.j0, if_true]
    exact Ev.bind alive15 (Ev.now _)
  have main : fold.length ≤ 5 → Ev (fun k => threshinglaw15_CheckWants.j0 k p fold want false) true := fun h5 => by
    refine Ev.succ ?_
    simp only [threshinglaw15_CheckWants.j0, Bool.false_eq_true, if_false]
    refine Ev.bind alive15 ?_
    simp only [if_true]
    refine Ev.bind (check_f p fold want) ?_
    refine Ev.bind (rcheck p fold want (by omega)) ?_
    exact Ev.ret (by simp)
  obtain ⟨b, hb⟩ := small_go p 250 0 rfl (Nat.zero_le _)
  refine Ev.rounds ?_
  unfold threshinglaw15_CheckWants.f
  refine Ev.bind hb ?_
  cases b
  · simp only [Bool.false_eq_true, if_false]
    exact live _
  simp only [if_true]
  by_cases h5 : (fold.length : Int) > 5
  · simp only [if_pos h5]
    exact live _
  · simp only [if_neg h5]
    by_cases h6 : (want.length : Int) > 40
    · simp only [decide_eq_true h6]
      exact live _
    · simp only [decide_eq_false h6]
      exact main (by omega)
end Go.Proofs.YtejmgcfjpofniaaGreatDoor.Pure
