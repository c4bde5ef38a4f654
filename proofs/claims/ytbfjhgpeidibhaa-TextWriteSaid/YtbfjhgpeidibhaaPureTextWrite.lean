/- The pure statement of TextWrite: any records as a file, or that they may not be, are as the document says. -/
import Derived.Test.YtbfjhgpeidibhaaPXx4
import Derived.Test.YtbfjhgpeidibhaaLText
namespace Go.Proofs.Ytbfjhgpeidibhaa.Pure
open Go.RowKit Go.Proofs.Ytbfjhgpeidibhaa.PX Go.Proofs.YtbfjhgpeidibhaaW.PrintWords Go.Proofs.YtbfjhgpeidibhaaL
theorem TextWrite : threshinglaw05_TextWrite.Pure := by
  intro l h
  refine Ev.rounds ?_
  have hl : l.length ≤ 140737488351232 := by omega
  have hr : ∀ r ∈ l, r.length ≤ 140737488351232 ∧ ∀ s ∈ r, s.size ≤ 140737488351232 := fun r hr => ⟨by have := (h.2 r hr).1; omega, (h.2 r hr).2⟩
  simp only [threshinglaw05_TextWrite.f]
  refine Ev.bind (few_at 2000 rfl (by omega) hl hr) ?_
  by_cases hc : wl l ≤ 2000 ∧ (l.length : Int) ≤ 120
  · have hj : (joined l).length ≤ 1000000 := by have := joined_le l; omega
    simp only [decide_eq_true hc, if_true]
    refine Ev.bind (write_ev l (fun r h => (hr r h).1) hj) ?_
    refine Ev.bind (ref_write_ev l (fun r h => (hr r h).1) hj) ?_
    refine Ev.bind alive_ev ?_
    simp only [if_true]
    exact Ev.ret (by simp)
  · simp only [decide_eq_false hc, Bool.false_eq_true, if_false]
    refine Ev.bind alive_ev ?_
    exact Ev.ret rfl
end Go.Proofs.Ytbfjhgpeidibhaa.Pure
