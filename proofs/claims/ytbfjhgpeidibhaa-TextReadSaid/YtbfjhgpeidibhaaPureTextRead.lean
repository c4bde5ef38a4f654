/- The pure statement of TextRead: a split of any file is as the document says. -/
import Derived.Test.YtbfjhgpeidibhaaPXx13
import Derived.Test.YtbfjhgpeidibhaaLText2
namespace Go.Proofs.Ytbfjhgpeidibhaa.Pure
open Go.RowKit Go.Proofs.Ytbfjhgpeidibhaa.PX Go.Proofs.YtbfjhgpeidibhaaW.PrintWords Go.Proofs.YtbfjhgpeidibhaaL
theorem TextRead : threshinglaw05_TextRead.Pure := by
  intro l from_ tz h _ _
  have hb : Bytes l := Bytes.of_wf h.2
  refine Ev.rounds ?_
  by_cases hc : (l.length : Int) > 2000
  · simp only [threshinglaw05_TextRead.f, if_pos hc]
    refine Ev.bind alive_ev ?_
    exact Ev.ret rfl
  · have hl : l.length ≤ 1000000 := by omega
    simp only [threshinglaw05_TextRead.f, if_neg hc]
    refine Ev.bind (read_ev hb hl from_ tz) ?_
    refine Ev.bind (ref_read_ev hl from_ tz) ?_
    refine Ev.bind alive_ev ?_
    simp only [if_true]
    obtain ⟨h1, h2⟩ := reads_small hl from_ tz
    refine Ev.bind (recs_ev (by omega) (fun r hr => by have := h2 r hr; omega)) ?_
    simp only [decide_true, if_true]
    exact Ev.ret (by simp)
end Go.Proofs.Ytbfjhgpeidibhaa.Pure
