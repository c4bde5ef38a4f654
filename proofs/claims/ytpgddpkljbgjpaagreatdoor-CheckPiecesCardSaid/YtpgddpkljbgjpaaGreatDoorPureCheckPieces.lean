/- The pure statement of CheckPieces. -/
import Derived.Test.YtpgddpkljbgjpaaGreatDoorPXx
import Derived.Test.YtpgddpkljbgjpaaGreatDoorLStep
set_option linter.unusedVariables false
set_option linter.unusedSimpArgs false
namespace Go.Proofs.YtpgddpkljbgjpaaGreatDoor.Pure
open Go.RowKit Go.Proofs Go.Proofs.YtpgddpkljbgjpaaGreatDoor Go.Proofs.YtpgddpkljbgjpaaGreatDoor.PX Go.Proofs.YtpgddpkljbgjpaaGreatDoorW.PrintWords Go.Proofs.YtpgddpkljbgjpaaGreatDoorL Go.Proofs.YtpgddpkljbgjpaaGreatDoor.XCheck
theorem alive15 : Ev (fun k => threshinglaw15_alive.f k) true := Ev.at_k 20 (fun k => threshinglaw15_alive.mono k) (by kernel_rfl)
theorem small_go (l : List Ins) : ∀ m i : Nat, i + m = 250 → i ≤ l.length → ∃ b, Ev (fun k => threshinglaw15_small.l0 k l (i : Int)) b
  | 0, i, hi, hl => by
    by_cases h : i < l.length
    · refine ⟨false, Ev.succ ?_⟩
      simp only [threshinglaw15_small.l0, if_pos (show (i : Int) < (l.length : Int) by omega), if_pos (show (i : Int) = 250 by omega)]
      exact Ev.now _
    · refine ⟨true, Ev.succ ?_⟩
      simp only [threshinglaw15_small.l0, if_neg (show ¬ (i : Int) < (l.length : Int) by omega)]
      exact Ev.now _
  | m + 1, i, hi, hl => by
    by_cases h : i < l.length
    · by_cases h2 : (((rd_T63 l (i : Int)).f2).size : Int) > 1100
      · refine ⟨false, Ev.succ ?_⟩
        simp only [threshinglaw15_small.l0, if_pos (show (i : Int) < (l.length : Int) by omega), if_neg (show ¬ (i : Int) = 250 by omega), if_pos (show (0 : Int) ≤ (i : Int) by omega), if_pos h2]
        exact Ev.now _
      · obtain ⟨b, hb⟩ := small_go l m (i + 1) (by omega) (by omega)
        refine ⟨b, Ev.succ ?_⟩
        simp only [threshinglaw15_small.l0, if_pos (show (i : Int) < (l.length : Int) by omega), if_neg (show ¬ (i : Int) = 250 by omega), if_pos (show (0 : Int) ≤ (i : Int) by omega), if_neg h2, wrap_succ (i := i) (by omega)]
        exact hb
    · refine ⟨true, Ev.succ ?_⟩
      simp only [threshinglaw15_small.l0, if_neg (show ¬ (i : Int) < (l.length : Int) by omega)]
      exact Ev.now _
theorem same_go (a b : List Bool) (hl : a.length = b.length) (hs : a.length < 1000) : ∀ m i : Nat, i + m = a.length → Ev (fun k => threshingref15_Same.l0 k a b (i : Int)) (decide (a.drop i = b.drop i))
  | 0, i, hi => by
    refine Ev.succ ?_
    simp only [threshingref15_Same.l0, if_neg (show ¬ (i : Int) < (a.length : Int) by omega)]
    refine Ev.ret ?_
    rw [List.drop_of_length_le (by omega), List.drop_of_length_le (by omega)]
    rfl
  | m + 1, i, hi => by
    have h1 : i < a.length := by omega
    have h2 : i < b.length := by omega
    have ea : a.drop i = a[i] :: a.drop (i + 1) := List.drop_eq_getElem_cons h1
    have eb : b.drop i = b[i] :: b.drop (i + 1) := List.drop_eq_getElem_cons h2
    have ra : rdOf false a (i : Int) = a[i] := by rw [rdOf_nat, List.getD_eq_getElem?_getD, List.getElem?_eq_getElem h1]; rfl
    have rb : rdOf false b (i : Int) = b[i] := by rw [rdOf_nat, List.getD_eq_getElem?_getD, List.getElem?_eq_getElem h2]; rfl
    refine Ev.succ ?_
    simp only [threshingref15_Same.l0, if_pos (show (i : Int) < (a.length : Int) by omega), if_pos (show (0 : Int) ≤ (i : Int) by omega), if_pos (show (i : Int) < (b.length : Int) by omega), ra, rb, wrap_succ (i := i) (by omega)]
    by_cases c : a[i] = b[i]
    · have : (a[i] != b[i]) = false := by simp [c]
      simp only [this, Bool.false_eq_true, if_false]
      refine (same_go a b hl hs m (i + 1) (by omega)).to ?_
      have h3 : (a.drop i = b.drop i) ↔ (a.drop (i + 1) = b.drop (i + 1)) := by
        rw [ea, eb, List.cons.injEq]
        exact ⟨fun h => h.2, fun h => ⟨c, h⟩⟩
      exact decide_eq_decide.2 h3.symm
    · have : (a[i] != b[i]) = true := by simp [c]
      simp only [this, if_true]
      refine Ev.ret ?_
      symm
      refine decide_eq_false ?_
      rw [ea, eb, List.cons.injEq]
      exact fun h => c h.1
theorem same_f (a b : List Bool) (hs : a.length < 1000) : Ev (fun k => threshingref15_Same.f k a b) (decide (a = b)) := by
  unfold threshingref15_Same.f
  by_cases c : a.length = b.length
  · simp only [if_pos (show (a.length : Int) = (b.length : Int) by omega)]
    exact same_go a b c hs a.length 0 (by omega)
  · simp only [if_neg (show ¬ (a.length : Int) = (b.length : Int) by omega)]
    refine Ev.ret ?_
    symm
    exact decide_eq_false fun e => c (by rw [e])
theorem stack_run {p : List Ins} (h : p.length ≤ 200) : stackP May p [] = ((runP May [] p 0 ([], 0)).1.1, (runP May [] p 0 ([], 0)).2.1, (runP May [] p 0 ([], 0)).2.2) := by
  unfold stackP
  rw [if_neg (by simp), if_neg (by omega)]
theorem depth_run {p : List Ins} (h : p.length ≤ 200) : depthP May p [] = (runP May [] p 0 ([], 0)).1.2 := by
  unfold depthP
  rw [if_neg (by simp), if_neg (by omega)]
theorem CheckPieces : threshinglaw15_CheckPieces.Pure := by
  intro p at_ hp hat
  have hatb := wf_i64 hat
  have live : ∀ x1, Ev (fun k => threshinglaw15_CheckPieces.j0 k p x1 true) true := fun x1 => by
    refine Ev.succ ?_
    simp only [threshinglaw15_CheckPieces.j0, if_true]
    exact Ev.bind alive15 (Ev.now _)
  obtain ⟨b, hb⟩ := small_go p 250 0 rfl (Nat.zero_le _)
  refine Ev.rounds ?_
  unfold threshinglaw15_CheckPieces.f
  refine Ev.bind hb ?_
  cases b
  · simp only [Bool.false_eq_true, if_false]
    exact live _
  simp only [if_true]
  by_cases hl : (p.length : Int) > 100
  · simp only [decide_eq_true hl]
    exact live _
  simp only [decide_eq_false hl]
  obtain ⟨j, hj, hn, he, hpre, htk, hlen, hm0, hmost⟩ := run_all [] p 0 ([], 0) (by decide)
  have hmost := hmost (by decide)
  have hmb := run_top [] p 0 ([], 0) (by decide) (by decide)
  rcases hr : runP May [] p 0 ([], 0) with ⟨⟨s, most⟩, n, er⟩
  rw [hr] at hn he htk hlen hm0 hmost hmb
  simp only [Nat.zero_add] at hn he htk hlen hm0 hmost hpre hmb
  have hS : check_Stack.f p [] = some (s, n, er) := by
    rw [show check_Stack.f p [] = some (stackP May p []) from rfl, stack_run (by omega), hr]
  have hD : check_Depth.f p [] = some most := by
    show some (depthP May p []) = _
    rw [depth_run (by omega), hr]
  subst hn
  have hT : ∀ q : Nat, q ≤ j → check_Stack.f (p.take q) [] = some ((runP May [] (p.take q) 0 ([], 0)).1.1, (q : Int), 0) := fun q hq => by
    rw [show check_Stack.f (p.take q) [] = some (stackP May (p.take q) []) from rfl, stack_run (by rw [List.length_take]; omega), hpre q hq]
  have hTj : check_Stack.f (p.take j) [] = some (s, (j : Int), 0) := by rw [hT j (Nat.le_refl _), htk]
  have hee : ((er == 0) != ((j : Int) == (p.length : Int))) = false := by
    by_cases c : er = 0
    · have := he.1 c
      simp [c, this]
    · have : ¬ j = p.length := fun h => c (he.2 h)
      have b1 : (er == 0) = false := by simp [c]
      have b2 : ((j : Int) == (p.length : Int)) = false := by simp; omega
      rw [b1, b2]
      rfl
  -- the end
  have hj4 : Ev (fun k => threshinglaw15_CheckPieces.j4 k p s er) true := by
    refine Ev.succ ?_
    by_cases c : er = 0
    · have hjl := he.1 c
      have hrun0 : (runP May [] p 0 ([], 0)).2.2 = 0 := by rw [hr]; exact c
      have happ := run_append [] p p 0 ([], 0) hrun0
      rw [hr] at happ
      simp only [Nat.zero_add] at happ
      have hover := run_over s p 0 p.length ([], 0) most (by decide) (by simpa using hlen) (by decide) hrun0
      rw [hr] at hover
      simp only [List.append_nil] at hover
      have hSS : check_Stack.f (p ++ p) [] = some ((runP May [] p p.length (s, most)).1.1, (runP May [] p p.length (s, most)).2.1, (runP May [] p p.length (s, most)).2.2) := by
        rw [show check_Stack.f (p ++ p) [] = some (stackP May (p ++ p) []) from rfl, stack_run (by rw [List.length_append]; omega), happ]
      simp only [threshinglaw15_CheckPieces.j4, if_pos c, Option.bind_some, List.length_nil, Nat.zero_add, List.nil_append, if_pos (show p.length < 4398046511104 by omega), if_pos (show p.length + p.length < 4398046511104 by omega), hSS, if_pos (show s.length < 140737488355328 by omega), if_pos (show s.length + s.length < 140737488355328 by omega)]
      refine Ev.bind alive15 ?_
      simp only [if_true]
      rcases hover with ⟨k1, k2⟩ | ⟨k1, k2⟩
      · simp only [k1, if_true]
        refine Ev.bind (same_f _ _ (by rw [k2, List.length_append]; omega)) ?_
        rw [k2]
        simp only [decide_true, if_true]
        exact Ev.now _
      · have hne : ¬ (runP May [] p p.length (s, most)).2.2 = 0 := by rw [k1]; decide
        simp only [k1, if_neg (show ¬ (13 : Int) = 0 by decide), if_true, hD, Option.bind_some]
        refine Ev.ret ?_
        rw [wrap_id (by omega) (by omega)]
        exact decide_eq_true (by omega)
    · simp only [threshinglaw15_CheckPieces.j4, if_neg c]
      exact Ev.bind alive15 (Ev.now _)
  have hj3 : ∀ bb, (bb = true → 0 ≤ at_ ∧ at_ < (j : Int)) → Ev (fun k => threshinglaw15_CheckPieces.j3 k p at_ s er bb) true := fun bb hbb => by
    refine Ev.succ ?_
    cases bb
    · simp only [threshinglaw15_CheckPieces.j3, Bool.false_eq_true, if_false]
      exact hj4
    · obtain ⟨g0, g1⟩ := hbb rfl
      obtain ⟨q, rfl⟩ : ∃ q : Nat, at_ = q := ⟨at_.toNat, by omega⟩
      simp only [threshinglaw15_CheckPieces.j3, if_true, if_pos g0, if_pos (show (q : Int) ≤ (p.length : Int) by omega), Int.toNat_natCast, hT q (by omega), Option.bind_some]
      exact hj4
  have hj2 : Ev (fun k => threshinglaw15_CheckPieces.j2 k p at_ s (j : Int) er false) true := by
    refine Ev.succ ?_
    by_cases c : at_ ≥ 0
    · simp only [threshinglaw15_CheckPieces.j2, Bool.false_eq_true, if_false, if_pos c]
      exact hj3 _ (fun h => ⟨c, of_decide_eq_true h⟩)
    · simp only [threshinglaw15_CheckPieces.j2, Bool.false_eq_true, if_false, if_neg c]
      exact hj3 _ (fun h => by cases h)
  have hj1 : Ev (fun k => threshinglaw15_CheckPieces.j1 k p at_ s (j : Int) er false) true := by
    refine Ev.succ ?_
    simp only [threshinglaw15_CheckPieces.j1, Bool.false_eq_true, if_false, if_pos (show (0 : Int) ≤ (j : Int) by omega), if_pos (show (j : Int) ≤ (p.length : Int) by omega), Int.toNat_natCast, hTj, Option.bind_some, if_true]
    refine Ev.bind (same_f s s (by omega)) ?_
    simp only [decide_true, if_true, hD, Option.bind_some, decide_eq_false (show ¬ most < (s.length : Int) by omega)]
    exact hj2
  refine Ev.succ ?_
  simp only [threshinglaw15_CheckPieces.j0, Bool.false_eq_true, if_false, hS, Option.bind_some, if_neg (show ¬ (j : Int) < 0 by omega), if_neg (show ¬ (j : Int) > (p.length : Int) by omega), hee]
  exact hj1
end Go.Proofs.YtpgddpkljbgjpaaGreatDoor.Pure
