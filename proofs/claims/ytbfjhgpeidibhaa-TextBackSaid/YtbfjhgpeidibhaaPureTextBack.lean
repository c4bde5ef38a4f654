/- The pure statement of TextBack: what was written is read, and canonical; a canonical file, written again, is itself. -/
import Derived.Test.YtbfjhgpeidibhaaPXx6
import Derived.Test.YtbfjhgpeidibhaaLText2
namespace Go.Proofs.Ytbfjhgpeidibhaa.Pure
open Go.RowKit Go.Proofs.Ytbfjhgpeidibhaa.PX Go.Proofs.YtbfjhgpeidibhaaW.PrintWords Go.Proofs.YtbfjhgpeidibhaaL
theorem back_j1 {b : List Int} (hb : Bytes b) (hl : b.length ≤ 2000) : Ev (fun k => threshinglaw05_TextBack.j1 k b) true := by
  refine Ev.succ ?_
  simp only [threshinglaw05_TextBack.j1]
  refine Ev.bind (scan_ev hb (by omega)) ?_
  have hn := lines_len b 0 []
  simp only [List.length_nil] at hn
  dsimp only
  refine Ev.bind (all_ev (by omega) (fun p hp => (lines_place b 0 [] p hp).2.2)) ?_
  obtain ⟨_, h2⟩ := recs_small (l := b) 0
  have hj := joined_lines hb 0 [] Bytes.nil
  have hjl : (joined (recs (lines 0 [] b))).length ≤ 1000000 := by
    rw [hj]
    split <;> simp <;> omega
  refine Ev.bind (write_ev _ (fun r hr => by have := h2 r hr; omega) hjl) ?_
  refine Ev.bind alive_ev ?_
  simp only [if_true, canon_eq b (show b.length ≤ 1000000 by omega), Option.bind_some]
  simp only [Go.Proofs.YtbfjhgpeidibhaaL.written]
  by_cases hall : (recs (lines 0 [] b)).all lineB = true
  · simp only [if_pos hall, if_true]
    by_cases hcn : (decide (b.length = 0) || decide (b.getD (b.length - 1) 0 = 10)) = true
    · simp only [if_pos hcn]
      refine Ev.ret ?_
      have : joined (recs (lines 0 [] b)) = b := by
        rw [hj]
        simp only [Bool.or_eq_true, decide_eq_true_eq] at hcn
        rw [List.nil_append]
        rcases hcn with h0 | h0
        · have : b = [] := List.eq_nil_of_length_eq_zero h0
          rw [if_pos (.inl this)]
        · by_cases hne : b = []
          · rw [if_pos (.inl hne)]
          · rw [if_pos (.inr ⟨h0, hne⟩)]
      rw [this]
      simp
    · simp only [if_neg hcn]
      exact Ev.ret rfl
  · simp only [if_neg hall, if_neg (show ¬ ((10 : Int) = 0) by decide)]
    exact Ev.ret rfl
theorem TextBack : threshinglaw05_TextBack.Pure := by
  intro l b h hb0
  have hb : Bytes b := Bytes.of_wf hb0.2
  have hl : l.length ≤ 140737488351232 := by omega
  have hr : ∀ r ∈ l, r.length ≤ 140737488351232 ∧ ∀ s ∈ r, s.size ≤ 140737488351232 := fun r hr => ⟨by have := (h.2 r hr).1; omega, (h.2 r hr).2⟩
  have hal : ∀ b', b' = true → Ev (fun k => threshinglaw05_TextBack.j0 k l b b') true := by
    intro b' h'
    refine Ev.succ ?_
    simp only [threshinglaw05_TextBack.j0, h', if_true]
    refine Ev.bind alive_ev ?_
    exact Ev.ret rfl
  refine Ev.rounds ?_
  simp only [threshinglaw05_TextBack.f]
  refine Ev.bind (few_at 2000 rfl (by omega) hl hr) ?_
  by_cases hc : wl l ≤ 2000 ∧ (l.length : Int) ≤ 120
  · have hj : (joined l).length ≤ 100000 := by have := joined_le l; omega
    simp only [decide_eq_true hc, if_true]
    by_cases hbl : (b.length : Int) > 2000
    · exact hal _ (decide_eq_true hbl)
    · simp only [decide_eq_false hbl]
      refine Ev.succ ?_
      simp only [threshinglaw05_TextBack.j0, Bool.false_eq_true, if_false]
      refine Ev.bind (write_ev l (fun r h => (hr r h).1) (by omega)) ?_
      simp only [Go.Proofs.YtbfjhgpeidibhaaL.written]
      by_cases hall : l.all lineB = true
      · simp only [if_pos hall, if_true]
        refine Ev.bind (scan_ev (Bytes.joined l) (by omega)) ?_
        simp only [if_true, canon_eq (joined l) (show (joined l).length ≤ 1000000 by omega), Option.bind_some]
        have hcn : (decide ((joined l).length = 0) || decide ((joined l).getD ((joined l).length - 1) 0 = 10)) = true := by
          simpa using joined_last l
        simp only [hcn, if_true]
        have hn := lines_len (joined l) 0 []
        simp only [List.length_nil] at hn
        refine Ev.bind (all_ev (by omega) (fun p hp => (lines_place _ 0 [] p hp).2.2)) ?_
        rw [recs_joined l 0 hall]
        refine Ev.bind (recs_ev (by omega) (fun r hr' => ?_)) ?_
        · have := wl_ge hr'
          have := wr_len r
          omega
        · simp only [decide_true, if_true]
          exact back_j1 hb (by omega)
      · simp only [if_neg hall, if_neg (show ¬ ((10 : Int) = 0) by decide)]
        exact back_j1 hb (by omega)
  · simp only [decide_eq_false hc, Bool.false_eq_true, if_false]
    exact hal _ rfl
end Go.Proofs.Ytbfjhgpeidibhaa.Pure
