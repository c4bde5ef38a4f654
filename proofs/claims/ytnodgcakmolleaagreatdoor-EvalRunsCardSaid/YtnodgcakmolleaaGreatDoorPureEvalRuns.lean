/- The pure statement of EvalRuns. -/
import Derived.Test.YtnodgcakmolleaaGreatDoorPXx
import Derived.Test.YtnodgcakmolleaaGreatDoorLAll
set_option linter.unusedVariables false
set_option linter.unusedSimpArgs false
namespace Go.Proofs.YtnodgcakmolleaaGreatDoor.Pure
open Go.RowKit Go.Proofs Go.Proofs.YtnodgcakmolleaaGreatDoor Go.Proofs.YtnodgcakmolleaaGreatDoor.PX Go.Proofs.YtnodgcakmolleaaGreatDoorW.PrintWords Go.Proofs.YtnodgcakmolleaaGreatDoorL Go.Proofs.YtnodgcakmolleaaGreatDoor.XCheck
theorem EvalRuns : w16_EvalRuns.Pure := by
 intro p r u hp hr hu
 have hu : I64 u := wf_i64 hu
 have hpn : ∀ x ∈ p, I64 x.f1 := fun x hx => wf_i64 (hp.2 x hx).2.1
 have hrl : r.length ≤ 140737488351232 := by have := hr.1; omega
 obtain ⟨b, hb⟩ := small_ev p r hrl
 refine Ev.rounds ?_
 unfold w16_EvalRuns.f
 refine Ev.bind hb ?_
 cases b
 ·simp only [Bool.false_eq_true, if_false]
  exact Ev.bind alive16 (Ev.now _)
 simp only [if_true]
 refine Ev.bind (run_f p r u hpn hrl hu) ?_
 refine Ev.bind (rRun_f p r u hpn hrl hu) ?_
 refine Ev.bind (one_f p r u hpn hrl hu) ?_
 refine Ev.bind (rone_f p r u hpn hrl hu) ?_
 refine Ev.bind (evyes_f p r u hpn hrl hu) ?_
 refine Ev.bind (ryes_f p r u hpn hrl hu) ?_
 refine Ev.bind alive16 ?_
 simp only [if_true]
 refine Ev.bind (same_refl _ (by have := out_small (p := p) (r := r) (u := u) hpn hrl; omega)) ?_
 simp only [if_true, beq_self_eq_true, Bool.and_self]
 exact Ev.now _
end Go.Proofs.YtnodgcakmolleaaGreatDoor.Pure
