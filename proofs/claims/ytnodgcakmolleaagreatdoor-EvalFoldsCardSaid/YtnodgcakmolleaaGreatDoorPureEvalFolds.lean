/- The pure statement of EvalFolds. -/
import Derived.Test.YtnodgcakmolleaaGreatDoorPXx
import Derived.Test.YtnodgcakmolleaaGreatDoorLAll
set_option linter.unusedVariables false
set_option linter.unusedSimpArgs false
namespace Go.Proofs.YtnodgcakmolleaaGreatDoor.Pure
open Go.RowKit Go.Proofs Go.Proofs.YtnodgcakmolleaaGreatDoor Go.Proofs.YtnodgcakmolleaaGreatDoor.PX Go.Proofs.YtnodgcakmolleaaGreatDoorW.PrintWords Go.Proofs.YtnodgcakmolleaaGreatDoorL Go.Proofs.YtnodgcakmolleaaGreatDoor.XCheck
theorem clip_iff (s : ByteArray) : (s.toList == (clip s).toList) = decide (s.size ≤ 1000) := by
 by_cases c : s.size ≤ 1000
 ·rw [clip_small c, decide_eq_true c]
  simp
 ·rw [decide_eq_false c]
  have h1 := (clip_size s).1
  have : ¬ s.toList = (clip s).toList := fun h => by
   rw [toList_inj] at h
   rw [← h] at h1
   exact c h1
  simpa using this
theorem isB_eq (x : Sv) : eval_Fold.isB x = XOps.isValB x := by
 unfold eval_Fold.isB eval_isVal.f XOps.isValB
 by_cases c : x.f0 = true
 ·rw [if_pos c, if_pos c, text_f]
  simp only [Option.bind_some, Option.getD_some]
  rw [clip_iff, c]
  by_cases d : x.f1 = 0
  ·simp only [d, beq_self_eq_true, Bool.true_and, decide_true]
   by_cases e : x.f2.size ≤ 1000
   ·rw [decide_eq_true e, decide_eq_true (show (x.f2.size : Int) ≤ 1000 by omega)]
   ·rw [decide_eq_false e, decide_eq_false (show ¬ (x.f2.size : Int) ≤ 1000 by omega)]
  ·have : (x.f1 == 0) = false := by simp [d]
   simp [this, d]
 ·rw [if_neg c, if_neg c, num_f]
  have c2 : x.f0 = false := by simpa using c
  simp only [Option.bind_some, Option.getD_some, c2, beq_self_eq_true, Bool.true_and]
  rw [toList_data ⟨#[]⟩]
def foldV (p : List Ins) (a b : Sv) (u : Int) : Sv × Int × Int :=
 if XOps.isValB a = false ∨ XOps.isValB b = false then (XOps.zv, u, 1) else
 if checkP p [a.f0, b.f0] [a.f0] = 0 then (if (runV [] [a, b] p [] u).2.2 = 0 then (rd_T32 (runV [] [a, b] p [] u).1 0, (runV [] [a, b] p [] u).2.1, 0) else (XOps.zv, 0, 12)) else (XOps.zv, u, checkP p [a.f0, b.f0] [a.f0])
theorem check_go {p : List Ins} {fk want : List Bool} (h : checkP p fk want = 0) : (stackP May p fk).2.2 = 0 ∧ (stackP May p fk).1 = want := by
 unfold checkP at h
 by_cases c : (stackP May p fk).2.2 = 0
 ·rw [if_pos c] at h
  by_cases d : (stackP May p fk).1 = want
  ·exact ⟨c, d⟩
  ·rw [if_neg d] at h; cases h
 ·rw [if_neg c] at h; exact absurd h c
theorem fold_facts {p : List Ins} {a b : Sv} {u : Int} (hp : ∀ x ∈ p, I64 x.f1) (ha : Val1 a) (hb : Val1 b) (h : checkP p [a.f0, b.f0] [a.f0] = 0) :
  p.length ≤ 200 ∧ Ev (fun k => XEval.runE eval_Run.TX (eval_Run.DO k) [] [a, b] p [] u) (runV [] [a, b] p [] u) ∧ ((runV [] [a, b] p [] u).2.2 = 0 ∨ (runV [] [a, b] p [] u).2.2 = 12) ∧ ((runV [] [a, b] p [] u).2.2 = 0 → ∃ y, (runV [] [a, b] p [] u).1 = [y]) := by
 obtain ⟨h1, h2⟩ := check_go h
 obtain ⟨g1, _, g3, g4⟩ := stack_go h1
 have hv : ∀ v ∈ [a, b], Val1 v := fun v hv => by
  simp only [List.mem_cons, List.not_mem_nil, or_false] at hv
  rcases hv with rfl | rfl
  ·exact ha
  ·exact hb
 obtain ⟨e1, e2, e3⟩ := run_ok TX_ DO_ [] (by simp) [a, b] (.inr rfl) hv p 0 [] 0 u hp (by simp) (by decide) g3
 refine ⟨g1, e1, e2, fun h => ?_⟩
 obtain ⟨_, k2⟩ := e3 h
 have hl := congrArg List.length k2
 have hk : (runP May ([a, b].map (·.f0)) p 0 (([] : List Sv).map (·.f0), 0)).1.1 = [a.f0] := by rw [← h2, g4]; rfl
 rw [hk, List.length_map] at hl
 match hq : (runV [] [a, b] p [] u).1, hl with
 | [y], _ => exact ⟨y, rfl⟩
theorem g_f (p : List Ins) (a b : Sv) (u : Int) (hp : ∀ x ∈ p, I64 x.f1) (ha : I64 a.f1) (hb : I64 b.f1) (hu : I64 u) : Ev (fun k => eval_Fold.g k p a b u) (foldV p a b u) := by
 unfold eval_Fold.g foldV
 simp only [isB_eq]
 by_cases c : XOps.isValB a = false ∨ XOps.isValB b = false
 ·simp only [if_pos c]
  exact Ev.now _
 simp only [if_neg c]
 have va : Val1 a := ⟨by simpa using fun e => c (.inl e), ha⟩
 have vb : Val1 b := ⟨by simpa using fun e => c (.inr e), hb⟩
 refine Ev.bind (check_f p [a.f0, b.f0] [a.f0]) ?_
 by_cases d : checkP p [a.f0, b.f0] [a.f0] = 0
 ·obtain ⟨g1, g2, g3, g4⟩ := fold_facts (u := u) hp va vb d
  simp only [if_pos d, if_pos (show p.length ≤ 10000 ∧ u ≤ 9223372036854775807 from ⟨by omega, hu.2⟩)]
  refine Ev.bind g2 ?_
  rcases g3 with g3 | g3
  ·obtain ⟨y, hy⟩ := g4 g3
   simp only [g3, if_true, hy]
   exact Ev.ret rfl
  ·simp only [g3, if_neg (show ¬ (12 : Int) = 0 by decide)]
   exact Ev.now _
 ·simp only [if_neg d]
  exact Ev.now _
theorem rfold_f (p : List Ins) (a b : Sv) (u : Int) (hp : ∀ x ∈ p, I64 x.f1) (ha : I64 a.f1) (hb : I64 b.f1) (hu : I64 u) : Ev (fun k => r16_Fold.f k p a.f0 a.f1 a.f2 b.f0 b.f1 b.f2 u) ((foldV p a b u).1.f0, (foldV p a b u).1.f1, (foldV p a b u).1.f2, (foldV p a b u).2.1, (foldV p a b u).2.2) := by
 have key : ∀ bad : Bool, (bad = true ↔ (XOps.isValB a = false ∨ XOps.isValB b = false)) → Ev (fun k => r16_Fold.j0 k p u bad a.f0 a.f1 a.f2 b.f0 b.f1 b.f2) ((foldV p a b u).1.f0, (foldV p a b u).1.f1, (foldV p a b u).1.f2, (foldV p a b u).2.1, (foldV p a b u).2.2) := fun bad hbad => by
  refine Ev.succ ?_
  unfold foldV
  cases bad
  ·have c : ¬ (XOps.isValB a = false ∨ XOps.isValB b = false) := fun h => by have := hbad.2 h; cases this
   simp only [r16_Fold.j0, Bool.false_eq_true, if_false, if_neg c]
   have va : Val1 a := ⟨by simpa using fun e => c (.inl e), ha⟩
   have vb : Val1 b := ⟨by simpa using fun e => c (.inr e), hb⟩
   refine Ev.bind (rcheck p [a.f0, b.f0] [a.f0] (by simp)) ?_
   by_cases d : checkP p [a.f0, b.f0] [a.f0] = 0
   ·obtain ⟨g1, g2, g3, g4⟩ := fold_facts (u := u) hp va vb d
    have hv : ∀ v ∈ [a, b], Val1 v := fun v hv => by
     simp only [List.mem_cons, List.not_mem_nil, or_false] at hv
     rcases hv with rfl | rfl
     ·exact va
     ·exact vb
    simp only [if_pos d]
    refine Ev.bind (rrun_f p [] [a, b] u hp (by simp) (.inr rfl) hv hu (check_go d).1) ?_
    rcases g3 with g3 | g3
    ·obtain ⟨y, hy⟩ := g4 g3
     simp only [g3, if_true, hy, List.length_cons, List.length_nil, if_pos (show (0 : Int) < (((0 + 1 : Nat)) : Int) by decide)]
     exact Ev.now _
    ·simp only [g3, if_neg (show ¬ (12 : Int) = 0 by decide), Bool.false_eq_true, if_false]
     exact Ev.now _
   ·simp only [if_neg d]
    exact Ev.now _
  ·simp only [r16_Fold.j0, if_true, if_pos (hbad.1 rfl)]
   exact Ev.now _
 unfold r16_Fold.f
 rw [is_ a, is_ b]
 simp only [Option.bind_some]
 by_cases c : XOps.isValB a = true
 ·simp only [if_pos c]
  refine key _ ?_
  rw [c]
  cases XOps.isValB b <;> simp
 ·have c2 : XOps.isValB a = false := by simpa using c
  simp only [if_neg c]
  exact key true ⟨fun _ => .inl c2, fun _ => rfl⟩
theorem EvalFolds : w16_EvalFolds.Pure := by
 intro p w hp hw
 obtain ⟨⟨_, ha, _⟩, ⟨_, hb, _⟩, hu⟩ := hw
 have ha : I64 w.f0.f1 := wf_i64 ha
 have hb : I64 w.f1.f1 := wf_i64 hb
 have hu : I64 w.f2 := wf_i64 hu
 have hpn : ∀ x ∈ p, I64 x.f1 := fun x hx => wf_i64 (hp.2 x hx).2.1
 have live : Ev (fun k => w16_EvalFolds.j0 k p true w.f0.f0 w.f0.f1 w.f0.f2 w.f1.f0 w.f1.f1 w.f1.f2 w.f2) true := by
  refine Ev.succ ?_
  simp only [w16_EvalFolds.j0, if_true]
  exact Ev.bind alive16 (Ev.now _)
 have main : Ev (fun k => w16_EvalFolds.j0 k p false w.f0.f0 w.f0.f1 w.f0.f2 w.f1.f0 w.f1.f1 w.f1.f2 w.f2) true := by
  refine Ev.succ ?_
  simp only [w16_EvalFolds.j0, Bool.false_eq_true, if_false]
  have he : Ev (fun k => eval_Fold.f k p w.f0.f0 w.f0.f1 w.f0.f2 w.f1.f0 w.f1.f1 w.f1.f2 w.f2) ((foldV p w.f0 w.f1 w.f2).1.f0, (foldV p w.f0 w.f1 w.f2).1.f1, (foldV p w.f0 w.f1 w.f2).1.f2, (foldV p w.f0 w.f1 w.f2).2.1, (foldV p w.f0 w.f1 w.f2).2.2) :=
   Ev.map _ (g_f p w.f0 w.f1 w.f2 hpn ha hb hu) rfl
  refine Ev.bind he ?_
  refine Ev.bind (rfold_f p w.f0 w.f1 w.f2 hpn ha hb hu) ?_
  refine Ev.bind alive16 ?_
  simp only [if_true, beq_self_eq_true, Bool.and_self]
  exact Ev.now _
 obtain ⟨b, hb⟩ := small_ev p [] (by simp)
 refine Ev.rounds ?_
 unfold w16_EvalFolds.f
 refine Ev.bind hb ?_
 cases b
 ·simp only [Bool.false_eq_true, if_false]
  exact live
 simp only [if_true]
 by_cases h5 : (w.f0.f2.size : Int) > 2000
 ·simp only [if_pos h5]
  exact live
 ·simp only [if_neg h5]
  by_cases h6 : (w.f1.f2.size : Int) > 2000
  ·simp only [decide_eq_true h6]
   exact live
  ·simp only [decide_eq_false h6]
   exact main
end Go.Proofs.YtnodgcakmolleaaGreatDoor.Pure
