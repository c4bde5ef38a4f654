/- The pure statement of ValueTotal. -/
import Derived.Test.YtpgddpkljbgjpaaDoorPXx
import Derived.Test.YtpgddpkljbgjpaaDoorLOps
set_option linter.unusedVariables false
set_option linter.unusedSimpArgs false
namespace Go.Proofs.YtpgddpkljbgjpaaDoor.Pure
open Go.RowKit Go.Proofs Go.Proofs.YtpgddpkljbgjpaaDoor Go.Proofs.YtpgddpkljbgjpaaDoor.PX Go.Proofs.YtpgddpkljbgjpaaDoorW.PrintWords Go.Proofs.YtpgddpkljbgjpaaDoorL
theorem small_go (l : List XOps.Sv) : ∀ m i : Nat, i + m = 8 → i ≤ l.length → ∃ b, Ev (fun k => threshinglaw13_small.l0 k l (i : Int)) b ∧ (b = true → l.length ≤ 8)
  | 0, i, hi, hl => by
    by_cases h : i < l.length
    · refine ⟨false, Ev.succ ?_, fun h => by cases h⟩
      simp only [threshinglaw13_small.l0, if_pos (show (i : Int) < (l.length : Int) by omega), if_pos (show (i : Int) = 8 by omega)]
      exact Ev.now _
    · refine ⟨true, Ev.succ ?_, fun _ => by omega⟩
      simp only [threshinglaw13_small.l0, if_neg (show ¬ (i : Int) < (l.length : Int) by omega)]
      exact Ev.now _
  | m + 1, i, hi, hl => by
    by_cases h : i < l.length
    · by_cases h2 : (((rd_T23 l (i : Int)).f2).size : Int) > 2100
      · refine ⟨false, Ev.succ ?_, fun h => by cases h⟩
        simp only [threshinglaw13_small.l0, if_pos (show (i : Int) < (l.length : Int) by omega), if_neg (show ¬ (i : Int) = 8 by omega), if_pos (show (0 : Int) ≤ (i : Int) by omega), if_pos h2]
        exact Ev.now _
      · obtain ⟨b, hb, hb2⟩ := small_go l m (i + 1) (by omega) (by omega)
        refine ⟨b, Ev.succ ?_, hb2⟩
        simp only [threshinglaw13_small.l0, if_pos (show (i : Int) < (l.length : Int) by omega), if_neg (show ¬ (i : Int) = 8 by omega), if_pos (show (0 : Int) ≤ (i : Int) by omega), if_neg h2, wrap_succ (i := i) (by omega)]
        exact hb
    · refine ⟨true, Ev.succ ?_, fun _ => by omega⟩
      simp only [threshinglaw13_small.l0, if_neg (show ¬ (i : Int) < (l.length : Int) by omega)]
      exact Ev.now _
theorem small_ (l : List XOps.Sv) : ∃ b, Ev (fun k => threshinglaw13_small.f k l) b ∧ (b = true → l.length ≤ 8) := small_go l 8 0 rfl (Nat.zero_le _)
theorem total_end (o : Int) (l : List XOps.Sv) (hl : l.length ≤ 8) (hn : ∀ v ∈ l, -9223372036854775808 ≤ v.f1 ∧ v.f1 ≤ 9223372036854775807) (hg : ∀ j, j < l.length → XOps.isValB (l.getD j XOps.zv) = true) :
    Ev (fun k => threshinglaw13_ValueTotal.l0 k o l (l.map (·.f0)) (l.length : Int)) true := by
  have c1 : ¬ l.any (fun x => !XOps.isValB x) = true := by
    rw [List.any_eq_true]
    rintro ⟨x, hx, hx2⟩
    obtain ⟨j, hj, rfl⟩ := List.getElem_of_mem hx
    have := hg j hj
    rw [List.getD_eq_getElem?_getD, List.getElem?_eq_getElem hj, Option.getD_some] at this
    rw [this] at hx2
    cases hx2
  by_cases c2 : (XOps.resultF o (l.map (·.f0))).2 ≠ 0
  · have hd : doV o l = (false, 0, (⟨#[]⟩ : ByteArray), (XOps.resultF o (l.map (·.f0))).2) := by
      unfold doV
      rw [if_neg c1, if_pos c2]
    refine Ev.succ ?_
    simp only [threshinglaw13_ValueTotal.l0, if_neg (show ¬ (l.length : Int) < (l.length : Int) by omega)]
    refine Ev.bind ((do_ o l (by omega) hn).to hd) ?_
    simp only [value_Result.f, Option.bind_some, if_true]
    refine Ev.bind alive_ ?_
    simp only [if_true, if_neg c2]
    exact Ev.now _
  · have c4 : (XOps.resultF o (l.map (·.f0))).2 = 0 := by simpa using c2
    have c3 : XOps.resultF o (l.map (·.f0)) = ((XOps.resultF o (l.map (·.f0))).1, 0) := by rw [← c4]
    obtain ⟨ks, t, f, hof, hk, _, _⟩ := XOps.res_len c3
    obtain ⟨h1, h2⟩ := op_total hof l (getD_val c1) c3
    have hd : doV o l = ((opV o (l.getD 0 XOps.zv) (l.getD 1 XOps.zv) (l.getD 2 XOps.zv)).f0, (opV o (l.getD 0 XOps.zv) (l.getD 1 XOps.zv) (l.getD 2 XOps.zv)).f1, (opV o (l.getD 0 XOps.zv) (l.getD 1 XOps.zv) (l.getD 2 XOps.zv)).f2, 0) := by
      unfold doV
      rw [if_neg c1, if_neg c2]
    generalize opV o (l.getD 0 XOps.zv) (l.getD 1 XOps.zv) (l.getD 2 XOps.zv) = r at h1 h2 hd
    have har : ((l.length : Int) == XOps.arityF o) = true := by
      rw [List.length_map] at hk
      unfold XOps.arityF
      rw [hof]
      simp [hk]
    refine Ev.succ ?_
    simp only [threshinglaw13_ValueTotal.l0, if_neg (show ¬ (l.length : Int) < (l.length : Int) by omega)]
    refine Ev.bind ((do_ o l (by omega) hn).to hd) ?_
    simp only [value_Result.f, Option.bind_some, c4, if_true]
    refine Ev.bind alive_ ?_
    simp only [if_true, is_, h1, Option.bind_some]
    simp only [h2, Option.bind_some, if_true, BEq.rfl, value_Arity.f, har]
    exact Ev.now _
theorem total_go (o : Int) (l : List XOps.Sv) (hl : l.length ≤ 8) (hn : ∀ v ∈ l, -9223372036854775808 ≤ v.f1 ∧ v.f1 ≤ 9223372036854775807) : ∀ m i : Nat, i + m = l.length → (∀ j, j < i → XOps.isValB (l.getD j XOps.zv) = true) →
    Ev (fun k => threshinglaw13_ValueTotal.l0 k o l ((l.take i).map (·.f0)) (i : Int)) true
  | 0, i, hi, hg => by
    obtain rfl : i = l.length := by omega
    rw [List.take_length]
    exact total_end o l hl hn hg
  | m + 1, i, hi, hg => by
    have hx : rd_T23 l (i : Int) = l.getD i XOps.zv := rfl
    by_cases hv : XOps.isValB (l.getD i XOps.zv) = true
    · have ih := total_go o l hl hn m (i + 1) (by omega) (fun j hj => by
        rcases Nat.lt_or_ge j i with h | h
        · exact hg j h
        · obtain rfl : j = i := by omega
          exact hv)
      have ht : (l.take (i + 1)).map (·.f0) = (l.take i).map (·.f0) ++ [(l.getD i XOps.zv).f0] := by
        rw [List.take_add_one, List.getElem?_eq_getElem (show i < l.length by omega), List.map_append, List.getD_eq_getElem?_getD, List.getElem?_eq_getElem (show i < l.length by omega)]
        rfl
      rw [ht] at ih
      refine Ev.succ ?_
      simp only [threshinglaw13_ValueTotal.l0, if_pos (show (i : Int) < (l.length : Int) by omega), if_pos (show (0 : Int) ≤ (i : Int) by omega), hx, is_, Option.bind_some, if_pos hv, if_pos (show ((l.take i).map (·.f0)).length < 140737488355328 by simp; omega), wrap_succ (i := i) (by omega)]
      exact ih
    · refine Ev.succ ?_
      simp only [threshinglaw13_ValueTotal.l0, if_pos (show (i : Int) < (l.length : Int) by omega), if_pos (show (0 : Int) ≤ (i : Int) by omega), hx, is_, Option.bind_some, if_neg hv]
      refine Ev.bind alive_ ?_
      exact Ev.now _
theorem ValueTotal : threshinglaw13_ValueTotal.Pure := by
  intro o l ho hl
  have hn : ∀ v ∈ l, -9223372036854775808 ≤ v.f1 ∧ v.f1 ≤ 9223372036854775807 := fun v hv => wf_i64 (hl.2 v hv).2.1
  obtain ⟨b, hb, hb2⟩ := small_ l
  refine Ev.rounds ?_
  unfold threshinglaw13_ValueTotal.f
  refine Ev.bind hb ?_
  cases b
  · simp only [Bool.false_eq_true, if_false]
    refine Ev.bind alive_ ?_
    exact Ev.now _
  · simp only [if_true]
    have := total_go o l (hb2 rfl) hn l.length 0 (by omega) (fun j hj => absurd hj (Nat.not_lt_zero _))
    simpa using this
end Go.Proofs.YtpgddpkljbgjpaaDoor.Pure
