/- The pure statement of ValueDoes. -/
import Derived.Test.YtpgddpkljbgjpaaGreatDoorPXx
import Derived.Test.YtpgddpkljbgjpaaGreatDoorLRef13
set_option linter.unusedVariables false
set_option linter.unusedSimpArgs false
namespace Go.Proofs.YtpgddpkljbgjpaaGreatDoor.Pure
open Go.RowKit Go.Proofs Go.Proofs.YtpgddpkljbgjpaaGreatDoor Go.Proofs.YtpgddpkljbgjpaaGreatDoor.PX Go.Proofs.YtpgddpkljbgjpaaGreatDoorW.PrintWords Go.Proofs.YtpgddpkljbgjpaaGreatDoorL
theorem small_go (l : List XOps.Sv) : ∀ m i : Nat, i + m = 8 → i ≤ l.length → ∃ b, Ev (fun k => threshinglaw13_small.l0 k l (i : Int)) b ∧ (b = true → l.length ≤ 8)
  | 0, i, hi, hl => by
    by_cases h : i < l.length
    · refine ⟨false, Ev.succ ?_, fun h => by cases h⟩
      simp only [threshinglaw13_small.l0, if_pos (show (i : Int) < (l.length : Int) by omega), if_pos (show (i : Int) = 8 by omega)]
      exact Ev.now _
    · refine ⟨true, Ev.succ ?_, fun _ => by omega⟩
      simp only [threshinglaw13_small.l0, if_neg (show ¬ (i : Int) < (l.length : Int) by omega)]
      exact Ev.now _
  | m + 1, i, hi, hl => by
    by_cases h : i < l.length
    · by_cases h2 : (((rd_T27 l (i : Int)).f2).size : Int) > 2100
      · refine ⟨false, Ev.succ ?_, fun h => by cases h⟩
        simp only [threshinglaw13_small.l0, if_pos (show (i : Int) < (l.length : Int) by omega), if_neg (show ¬ (i : Int) = 8 by omega), if_pos (show (0 : Int) ≤ (i : Int) by omega), if_pos h2]
        exact Ev.now _
      · obtain ⟨b, hb, hb2⟩ := small_go l m (i + 1) (by omega) (by omega)
        refine ⟨b, Ev.succ ?_, hb2⟩
        simp only [threshinglaw13_small.l0, if_pos (show (i : Int) < (l.length : Int) by omega), if_neg (show ¬ (i : Int) = 8 by omega), if_pos (show (0 : Int) ≤ (i : Int) by omega), if_neg h2, wrap_succ (i := i) (by omega)]
        exact hb
    · refine ⟨true, Ev.succ ?_, fun _ => by omega⟩
      simp only [threshinglaw13_small.l0, if_neg (show ¬ (i : Int) < (l.length : Int) by omega)]
      exact Ev.now _
theorem small_ (l : List XOps.Sv) : ∃ b, Ev (fun k => threshinglaw13_small.f k l) b ∧ (b = true → l.length ≤ 8) := small_go l 8 0 rfl (Nat.zero_le _)
theorem does_go (o : Int) (l : List XOps.Sv) (hl : l.length ≤ 8) (e : Int) (b : Bool) (r : Int) (u : Bool × Int × ByteArray) : ∀ m i : Nat, i + m = l.length →
    Ev (fun k => threshinglaw13_ValueDoes.l0 k o l l e e b r b r true (i : Int) u.1 u.2.1 u.2.2 u.1 u.2.1 u.2.2) true
  | 0, i, hi => by
    have hu : (u.1 == u.1 && (u.2.1 == u.2.1 && (u.2.2.toList == u.2.2.toList))) = true := by simp
    refine Ev.succ ?_
    simp only [threshinglaw13_ValueDoes.l0, if_neg (show ¬ (i : Int) < (l.length : Int) by omega)]
    refine Ev.bind alive_ ?_
    simp only [if_true, hu, BEq.rfl, value_Arity.f, Option.bind_some]
    refine Ev.bind (arity_f o) ?_
    simp only [if_true]
    exact Ev.now _
  | m + 1, i, hi => by
    have hx : ∀ y : XOps.Sv, (y.f0 == y.f0 && (y.f1 == y.f1 && (y.f2.toList == y.f2.toList))) = true := fun y => by simp
    have ih := does_go o l hl e b r u m (i + 1) (by omega)
    refine Ev.succ ?_
    simp only [threshinglaw13_ValueDoes.l0, if_pos (show (i : Int) < (l.length : Int) by omega), if_pos (show (0 : Int) ≤ (i : Int) by omega), if_true, hx, wrap_succ (i := i) (by omega)]
    exact ih
theorem ValueDoes : threshinglaw13_ValueDoes.Pure := by
  intro o l is ho hl his
  have hn : ∀ v ∈ l, -9223372036854775808 ≤ v.f1 ∧ v.f1 ≤ 9223372036854775807 := fun v hv => wf_i64 (hl.2 v hv).2.1
  have live : Ev (fun k => threshinglaw13_ValueDoes.j0 k o l is true) true := by
    refine Ev.succ ?_
    simp only [threshinglaw13_ValueDoes.j0, if_true]
    exact Ev.bind alive_ (Ev.now _)
  obtain ⟨b, hb, hb2⟩ := small_ l
  refine Ev.rounds ?_
  unfold threshinglaw13_ValueDoes.f
  refine Ev.bind hb ?_
  cases b
  · simp only [Bool.false_eq_true, if_false]
    exact live
  · simp only [if_true]
    have h8 := hb2 rfl
    by_cases c : (is.length : Int) > 8
    · simp only [decide_eq_true c]
      exact live
    · simp only [decide_eq_false c]
      refine Ev.succ ?_
      simp only [threshinglaw13_ValueDoes.j0, Bool.false_eq_true, if_false, Option.bind_some, List.length_nil, if_pos (show 0 + l.length < 4398046511104 by omega), List.nil_append]
      refine Ev.bind (do_ o l (by omega) hn) ?_
      refine Ev.bind (rdo o l (by omega) hn) ?_
      simp only [value_Result.f, Option.bind_some]
      refine Ev.bind (result_f o is) ?_
      exact does_go o l h8 _ _ _ ((doV o l).1, (doV o l).2.1, (doV o l).2.2.1) l.length 0 (by omega)
end Go.Proofs.YtpgddpkljbgjpaaGreatDoor.Pure
