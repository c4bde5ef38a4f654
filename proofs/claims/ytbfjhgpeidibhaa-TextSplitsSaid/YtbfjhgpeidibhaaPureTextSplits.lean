/- The pure statement of TextSplits: by whatever rising places any file is split, what its splits read, in order, is what is read of it in one. -/
import Derived.Test.YtbfjhgpeidibhaaPXx14
import Derived.Test.YtbfjhgpeidibhaaLText2
namespace Go.Proofs.Ytbfjhgpeidibhaa.Pure
open Go.RowKit Go.Proofs.Ytbfjhgpeidibhaa.PX Go.Proofs.YtbfjhgpeidibhaaW.PrintWords Go.Proofs.YtbfjhgpeidibhaaL
/-- Places that rise from 0 to n. -/
structure Rising (c : List Int) (n : Int) : Prop where
  ne : c ≠ []
  head : c.getD 0 0 = 0
  last : c.getD (c.length - 1) 0 = n
  up : ∀ i, i + 1 < c.length → c.getD i 0 < c.getD (i + 1) 0
  lo : ∀ i, i < c.length → 0 ≤ c.getD i 0
theorem rising_snoc {c : List Int} {n m : Int} (h : Rising c n) (hm : n < m) : Rising (c ++ [m]) m := by
  have hp : 0 < c.length := List.length_pos_iff.2 h.ne
  have g : ∀ i, i < c.length → (c ++ [m]).getD i 0 = c.getD i 0 := fun i hi => by
    rw [List.getD_eq_getElem?_getD, List.getD_eq_getElem?_getD, List.getElem?_append_left hi]
  have gl : (c ++ [m]).getD c.length 0 = m := by simp
  have hn : 0 ≤ n := by have := h.lo (c.length - 1) (by omega); rw [h.last] at this; exact this
  refine ⟨by simp, by rw [g 0 hp]; exact h.head, by simp, fun i hi => ?_, fun i hi => ?_⟩
  · simp only [List.length_append, List.length_cons, List.length_nil] at hi
    rw [g i (by omega)]
    rcases Nat.lt_or_ge (i + 1) c.length with h1 | h1
    · rw [g _ h1]; exact h.up i h1
    · have e : i + 1 = c.length := by omega
      rw [e, gl]
      have : c.getD i 0 = n := by rw [← h.last]; congr 1; omega
      rw [this]
      exact hm
  · simp only [List.length_append, List.length_cons, List.length_nil] at hi
    rcases Nat.lt_or_ge i c.length with h1 | h1
    · rw [g _ h1]; exact h.lo i h1
    · have e : i = c.length := by omega
      rw [e, gl]
      omega
theorem cuts_l1 {n k : Nat} {l c : List Int} (hl : l.length ≤ 140737488351232) (hk : k < 100000) (hc : c.length < 100000) {Q : List Int → Prop} (hi' : ∃ r, Ev (fun q => threshingref05_Cuts.l0 q (n : Int) l (c ++ [(k : Int)]) ((k + 1 : Nat) : Int)) r ∧ Q r) (ho : ∃ r, Ev (fun q => threshingref05_Cuts.l0 q (n : Int) l c ((k + 1 : Nat) : Int)) r ∧ Q r) :
    ∀ (e i : Nat), l.length - i ≤ e → i ≤ l.length → ∃ r, Ev (fun q => threshingref05_Cuts.l1 q (n : Int) l c (k : Int) (i : Int)) r ∧ Q r := by
  have fin : ∀ i : Nat, l.length ≤ i → ∃ r, Ev (fun q => threshingref05_Cuts.l1 q (n : Int) l c (k : Int) (i : Int)) r ∧ Q r := by
    intro i h
    obtain ⟨r, h1, h2⟩ := ho
    refine ⟨r, Ev.succ ?_, h2⟩
    simp only [threshingref05_Cuts.l1, if_neg (show ¬ ((i : Int) < (l.length : Int)) by omega), wrap_succ (i := k) (by omega)]
    exact h1
  intro e
  induction e with
  | zero => intro i h1 h2; exact fin i (by omega)
  | succ e ih =>
    intro i h1 h2
    rcases Nat.lt_or_ge i l.length with hi | hi
    · by_cases hx : l[i] = (k : Int)
      · obtain ⟨r, h3, h4⟩ := hi'
        refine ⟨r, Ev.succ ?_, h4⟩
        simp only [threshingref05_Cuts.l1, if_pos (show ((i : Int) < (l.length : Int)) by omega), if_pos (show (0 : Int) ≤ (i : Int) by omega), rd_get l i hi, if_pos hx, if_pos (show c.length < 17592186044416 by omega), wrap_succ (i := k) (by omega)]
        exact h3
      · obtain ⟨r, h3, h4⟩ := ih (i + 1) (by omega) (by omega)
        refine ⟨r, Ev.succ ?_, h4⟩
        simp only [threshingref05_Cuts.l1, if_pos (show ((i : Int) < (l.length : Int)) by omega), if_pos (show (0 : Int) ≤ (i : Int) by omega), rd_get l i hi, if_neg hx, wrap_succ (i := i) (by omega)]
        exact h3
    · exact fin i hi
theorem cuts_l0 {n : Nat} (hn : n ≤ 2000) {l : List Int} (hl : l.length ≤ 140737488351232) : ∀ (d k : Nat) (c : List Int) (m : Int), n - k ≤ d → 1 ≤ k → k ≤ n → Rising c m → m < k → c.length ≤ k →
    ∃ r, Ev (fun q => threshingref05_Cuts.l0 q (n : Int) l c (k : Int)) r ∧ Rising r (n : Int) ∧ r.length ≤ 10000 := by
  have fin : ∀ (k : Nat) (c : List Int) (m : Int), 1 ≤ k → k = n → Rising c m → m < k → c.length ≤ k → ∃ r, Ev (fun q => threshingref05_Cuts.l0 q (n : Int) l c (k : Int)) r ∧ Rising r (n : Int) ∧ r.length ≤ 10000 := by
    intro k c m h0 h1 h2 h3 h4
    refine ⟨c ++ [(n : Int)], Ev.succ ?_, rising_snoc h2 (by omega), by simp; omega⟩
    simp only [threshingref05_Cuts.l0, if_neg (show ¬ ((k : Int) < (n : Int)) by omega), if_pos (show ((n : Int) > 0) by omega), if_pos (show c.length < 17592186044416 by omega)]
    exact Ev.ret rfl
  intro d
  induction d with
  | zero => intro k c m h1 h2 h3 h4 h5 h6; exact fin k c m h2 (by omega) h4 h5 h6
  | succ d ih =>
    intro k c m h1 h2 h3 h4 h5 h6
    rcases Nat.lt_or_ge k n with hk | hk
    · obtain ⟨r, h7, h8⟩ := cuts_l1 (n := n) (k := k) (l := l) (c := c) (Q := fun r => Rising r (n : Int) ∧ r.length ≤ 10000) hl (by omega) (by omega)
        (ih (k + 1) (c ++ [(k : Int)]) k (by omega) (by omega) (by omega) (rising_snoc h4 h5) (by omega) (by simp; omega))
        (ih (k + 1) c m (by omega) (by omega) (by omega) h4 (by omega) (by omega)) l.length 0 (by omega) (by omega)
      refine ⟨r, Ev.succ ?_, h8⟩
      simp only [threshingref05_Cuts.l0, if_pos (show ((k : Int) < (n : Int)) by omega)]
      exact h7
    · exact fin k c m h2 (by omega) h4 h5 h6
theorem rising_zero : Rising [0] 0 := ⟨by simp, rfl, rfl, fun i hi => by simp at hi, fun i hi => by simp at hi; subst hi; simp⟩
theorem cuts_ev {n : Nat} (hn : n ≤ 2000) {l : List Int} (hl : l.length ≤ 140737488351232) : ∃ r, Ev (fun q => threshingref05_Cuts.f q (n : Int) l) r ∧ Rising r (n : Int) ∧ r.length ≤ 10000 := by
  simp only [threshingref05_Cuts.f]
  rcases Nat.eq_zero_or_pos n with rfl | h0
  · refine ⟨[0], Ev.succ ?_, rising_zero, by simp⟩
    simp only [threshingref05_Cuts.l0]
    exact Ev.ret rfl
  · exact cuts_l0 hn hl n 1 [0] 0 (by omega) (by omega) (by omega) rising_zero (by omega) (by simp)

theorem lines_up : ∀ (s : List Int) (a : Int) (acc : List Int), (lines a acc s).Pairwise (fun p q => p.f0 < q.f0) := by
  intro s
  induction s with
  | nil =>
    intro a acc
    rw [lines]
    split <;> simp
  | cons c s ih =>
    intro a acc
    rw [lines]
    split
    · refine List.pairwise_cons.2 ⟨fun q hq => ?_, ih _ _⟩
      have := (lines_ge s _ q hq).1
      show a < _
      omega
    · exact ih _ _
theorem filter_cut {L : List Piece} (h : L.Pairwise (fun p q => p.f0 < q.f0)) {a b : Int} (hab : a ≤ b) : L.filter (fun p => decide (p.f0 < a)) ++ L.filter (inside a b) = L.filter (fun p => decide (p.f0 < b)) := by
  induction L with
  | nil => rfl
  | cons p L ih =>
    obtain ⟨h1, h2⟩ := List.pairwise_cons.1 h
    by_cases hp : p.f0 < a
    · rw [List.filter_cons, if_pos (decide_eq_true hp), List.filter_cons, if_neg (by simp [inside]; omega), List.filter_cons, if_pos (decide_eq_true (by omega)), List.cons_append, ih h2]
    · have e : (p :: L).filter (fun p => decide (p.f0 < a)) = [] := by
        rw [List.filter_eq_nil_iff]
        intro q hq
        simp only [decide_eq_true_eq]
        rcases List.mem_cons.1 hq with rfl | hq
        · exact hp
        · have := h1 q hq; omega
      rw [e, List.nil_append]
      refine List.filter_congr fun q hq => ?_
      have : a ≤ q.f0 := by
        rcases List.mem_cons.1 hq with rfl | hq
        · omega
        · have := h1 q hq; omega
      simp [inside, this]
theorem recs_filter_len (l : List Int) (f : Piece → Bool) : (recs ((lines 0 [] l).filter f)).length ≤ l.length := by
  have hsub : (recs ((lines 0 [] l).filter f)).Sublist (recs (lines 0 [] l)) := by
    unfold recs
    induction (lines 0 [] l) with
    | nil => simp
    | cons p x ih =>
      rw [List.filter_cons, List.flatMap_cons]
      split
      · rw [List.flatMap_cons]
        exact List.Sublist.append (List.Sublist.refl _) ih
      · exact List.Sublist.trans ih (List.sublist_append_right _ _)
  exact Nat.le_trans hsub.length_le (recs_small (l := l) 0).1
theorem TextSplits : threshinglaw05_TextSplits.Pure := by
  intro l cs h h2
  have hb : Bytes l := Bytes.of_wf h.2
  have hal : ∀ b', b' = true → Ev (fun k => threshinglaw05_TextSplits.j0 k l cs b') true := by
    intro b' h'
    refine Ev.succ ?_
    simp only [threshinglaw05_TextSplits.j0, h', if_true]
    refine Ev.bind alive_ev ?_
    exact Ev.ret rfl
  refine Ev.rounds ?_
  by_cases hc : (l.length : Int) > 2000
  · simp only [threshinglaw05_TextSplits.f, if_pos hc]
    exact hal _ rfl
  · simp only [threshinglaw05_TextSplits.f, if_neg hc]
    by_cases hc2 : (cs.length : Int) > 100
    · exact hal _ (decide_eq_true hc2)
    · simp only [decide_eq_false hc2]
      have hl : l.length ≤ 1000000 := by omega
      obtain ⟨c, h3, h4, h5⟩ := cuts_ev (n := l.length) (by omega) (l := cs) (by omega)
      refine Ev.succ ?_
      simp only [threshinglaw05_TextSplits.j0, Bool.false_eq_true, if_false]
      refine Ev.bind h3 ?_
      have hp : 0 < c.length := List.length_pos_iff.2 h4.ne
      have hle : ∀ d i : Nat, c.length - i ≤ d → i < c.length → c.getD i 0 ≤ l.length := by
        intro d
        induction d with
        | zero => intro i h1 h2; omega
        | succ d ih =>
          intro i h1 h2
          rcases Nat.lt_or_ge (i + 1) c.length with h3 | h3
          · have := ih (i + 1) (by omega) h3
            have := h4.up i h3
            omega
          · have e : i = c.length - 1 := by omega
            rw [e, h4.last]
            exact Int.le_refl _
      have key : ∀ (d i : Nat), c.length - i ≤ d → 1 ≤ i → i ≤ c.length → Ev (fun k => threshinglaw05_TextSplits.l0 k l c (recs ((lines 0 [] l).filter fun p => decide (p.f0 < c.getD (i - 1) 0))) (i : Int)) true := by
        have fin : ∀ i : Nat, i = c.length → 1 ≤ i → Ev (fun k => threshinglaw05_TextSplits.l0 k l c (recs ((lines 0 [] l).filter fun p => decide (p.f0 < c.getD (i - 1) 0))) (i : Int)) true := by
          intro i h1 h2
          subst h1
          refine Ev.succ ?_
          simp only [threshinglaw05_TextSplits.l0, if_neg (show ¬ ((c.length : Int) < (c.length : Int)) by omega)]
          refine Ev.bind (scan_ev hb hl) ?_
          refine Ev.bind alive_ev ?_
          simp only [if_true]
          have hn := lines_len l 0 []
          simp only [List.length_nil] at hn
          refine Ev.bind (all_ev (by omega) (fun p hp => (lines_place l 0 [] p hp).2.2)) ?_
          have e : (lines 0 [] l).filter (fun p => decide (p.f0 < c.getD (c.length - 1) 0)) = lines 0 [] l := by
            rw [List.filter_eq_self]
            intro p hp
            have := (lines_ge l 0 p hp).2
            rw [h4.last]
            exact decide_eq_true (by omega)
          rw [e]
          obtain ⟨g1, g2⟩ := recs_small (l := l) 0
          refine Ev.bind (recs_ev (by omega) (fun r hr => by have := g2 r hr; omega)) ?_
          exact Ev.ret (by simp)
        intro d
        induction d with
        | zero => intro i h1 h2 h3; exact fin i (by omega) h2
        | succ d ih =>
          intro i h1 h2 h3
          rcases Nat.lt_or_ge i c.length with hi | hi
          · have u1 := h4.up (i - 1) (by omega)
            rw [show i - 1 + 1 = i by omega] at u1
            have u2 := h4.lo (i - 1) (by omega)
            have u3 := hle c.length i (by omega) hi
            have e1 : rd c ((i - 1 : Nat) : Int) = c.getD (i - 1) 0 := rd_nat _ _
            have e2 : rd c (i : Int) = c.getD i 0 := rd_nat _ _
            refine Ev.succ ?_
            simp only [threshinglaw05_TextSplits.l0, if_pos (show ((i : Int) < (c.length : Int)) by omega), wrap_nat (n := i - 1) (show (i : Int) - 1 = ((i - 1 : Nat) : Int) by omega) (by omega), if_pos (show (0 : Int) ≤ ((i - 1 : Nat) : Int) by omega), if_pos (show ((i - 1 : Nat) : Int) < (c.length : Int) by omega), if_pos (show (0 : Int) ≤ (i : Int) by omega), e1, e2]
            refine Ev.bind (read_ev hb hl _ _) ?_
            have e3 : reads l (c.getD (i - 1) 0) (c.getD i 0) = (recs ((lines 0 [] l).filter (inside (c.getD (i - 1) 0) (c.getD i 0))), 0) := by
              rw [reads, if_neg (by omega)]
            have g1 := recs_filter_len l (fun p => decide (p.f0 < c.getD (i - 1) 0))
            have g2 := recs_filter_len l (inside (c.getD (i - 1) 0) (c.getD i 0))
            rw [e3]
            dsimp only
            simp only [if_true]
            simp only [if_pos (show (recs ((lines 0 [] l).filter fun p => decide (p.f0 < c.getD (i - 1) 0))).length + (recs ((lines 0 [] l).filter (inside (c.getD (i - 1) 0) (c.getD i 0)))).length < 5864062014805 by omega), wrap_succ (i := i) (by omega), ← recs_append, filter_cut (lines_up l 0 []) (Int.le_of_lt u1)]
            exact ih (i + 1) (by omega) (by omega) (by omega)
          · exact fin i (by omega) h2
      have := key c.length 1 (by omega) (by omega) (by omega)
      rw [show (1 - 1 : Nat) = 0 from rfl, h4.head] at this
      have e0 : (lines 0 [] l).filter (fun p => decide (p.f0 < 0)) = [] := by
        rw [List.filter_eq_nil_iff]
        intro p hp
        have := (lines_ge l 0 p hp).1
        simp only [decide_eq_true_eq]
        omega
      rw [e0] at this
      exact this
end Go.Proofs.Ytbfjhgpeidibhaa.Pure
