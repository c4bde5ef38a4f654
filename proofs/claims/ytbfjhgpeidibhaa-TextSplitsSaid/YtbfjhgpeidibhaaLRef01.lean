/- What the reference's plain words (few records; alike records) come to. -/
import Derived.Test.YtbfjhgpeidibhaaPXx1
import Derived.Test.YtbfjhgpeidibhaaPXx4
import Derived.Test.YtbfjhgpeidibhaaLBase
namespace Go.Proofs.YtbfjhgpeidibhaaL
open Go.RowKit Go.Proofs.Ytbfjhgpeidibhaa.PX Go.Proofs.YtbfjhgpeidibhaaW.PrintWords

theorem rd_L1_nat (l : List (List ByteArray)) (i : Nat) (h : i < l.length) : rd_L1 l (i : Int) = l[i] := by
  unfold rd_L1
  rw [Int.toNat_natCast, List.getD_eq_getElem?_getD, List.getElem?_eq_getElem h]
  rfl
theorem rdOf_get {α : Type} (d : α) (l : List α) (i : Nat) (h : i < l.length) : rdOf d l (i : Int) = l[i] := by
  rw [rdOf_nat, List.getD_eq_getElem?_getD, List.getElem?_eq_getElem h, Option.getD_some]
theorem rd_get (l : List Int) (i : Nat) (h : i < l.length) : rd l (i : Int) = l[i] := by
  rw [rd_nat, List.getD_eq_getElem?_getD, List.getElem?_eq_getElem h, Option.getD_some]

/-! ### few -/
def wr (r : List ByteArray) : Nat := (r.map fun s => s.size + 1).sum
def wl (l : List (List ByteArray)) : Nat := (l.map wr).sum
theorem wr_cons (s : ByteArray) (r : List ByteArray) : wr (s :: r) = s.size + 1 + wr r := by simp [wr]
theorem wl_cons (r : List ByteArray) (l : List (List ByteArray)) : wl (r :: l) = wr r + wl l := by simp [wl]
theorem few_l1 {l : List (List ByteArray)} {a1 : Int} {a2 : Nat} (ha : a2 ≤ 1000000) {i : Nat} (hi : i < l.length) (hl : l.length ≤ 140737488351232) (hr : l[i].length ≤ 140737488351232) (hs : ∀ s ∈ l[i], s.size ≤ 140737488351232) {R : Bool} :
    ∀ (m j n : Nat), l[i].length - j ≤ m → j ≤ l[i].length → n ≤ a2 → (n + wr (l[i].drop j) ≤ a2 → Ev (fun k => threshingref01_Few.l0 k l a1 a2 ((n + wr (l[i].drop j) : Nat) : Int) ((i + 1 : Nat) : Int)) R) → (¬ n + wr (l[i].drop j) ≤ a2 → R = false) →
      Ev (fun k => threshingref01_Few.l1 k l a1 a2 (n : Int) (i : Int) (j : Int)) R := by
  have fin : ∀ (j n : Nat), l[i].length ≤ j → n ≤ a2 → (n + wr (l[i].drop j) ≤ a2 → Ev (fun k => threshingref01_Few.l0 k l a1 a2 ((n + wr (l[i].drop j) : Nat) : Int) ((i + 1 : Nat) : Int)) R) →
      Ev (fun k => threshingref01_Few.l1 k l a1 a2 (n : Int) (i : Int) (j : Int)) R := by
    intro j n h h3 h4
    refine Ev.succ ?_
    simp only [threshingref01_Few.l1, if_pos (show (0 : Int) ≤ (i : Int) by omega), if_pos (show ((i : Int) < (l.length : Int)) by omega), rd_L1_nat l i hi, if_neg (show ¬ ((j : Int) < (l[i].length : Int)) by omega), wrap_succ (i := i) (by omega)]
    have e : wr (l[i].drop j) = 0 := by rw [List.drop_eq_nil_of_le h]; rfl
    rw [e, Nat.add_zero] at h4
    exact h4 h3
  intro m
  induction m with
  | zero => intro j n h1 h2 h3 h4 _; exact fin j n (by omega) h3 h4
  | succ m ih =>
    intro j n h1 h2 h3 h4 h5
    rcases Nat.lt_or_ge j l[i].length with hj | hj
    · have hz := hs _ (List.getElem_mem hj)
      have hd : l[i].drop j = l[i][j] :: l[i].drop (j + 1) := List.drop_eq_getElem_cons hj
      have e : wr (l[i].drop j) = l[i][j].size + 1 + wr (l[i].drop (j + 1)) := by rw [hd, wr_cons]
      rw [e] at h4 h5
      obtain ⟨s, hs'⟩ : ∃ s, s = l[i][j] := ⟨_, rfl⟩
      rw [← hs'] at h4 h5 hz
      have hw : wrap64 ((wrap64 ((n : Int) + 1)) + (s.size : Int)) = ((n + 1 + s.size : Nat) : Int) := by
        rw [wrap_succ (by omega)]
        exact wrap_nat (by omega) (by omega)
      refine Ev.succ ?_
      simp only [threshingref01_Few.l1, if_pos (show (0 : Int) ≤ (i : Int) by omega), if_pos (show ((i : Int) < (l.length : Int)) by omega), rd_L1_nat l i hi, if_pos (show ((j : Int) < (l[i].length : Int)) by omega), if_pos (show (0 : Int) ≤ (j : Int) by omega), rdOf_get _ _ _ hj, ← hs', hw, wrap_succ (i := j) (by omega)]
      clear hw
      by_cases hc : n + 1 + s.size ≤ a2
      · simp only [if_neg (show ¬ (((n + 1 + s.size : Nat) : Int) > (a2 : Int)) by omega)]
        refine ih (j + 1) (n + 1 + s.size) (by omega) (by omega) hc (fun h => ?_) (fun h => h5 (by omega))
        have := h4 (by omega)
        rw [show n + 1 + s.size + wr (l[i].drop (j + 1)) = n + (s.size + 1 + wr (l[i].drop (j + 1))) by omega]
        exact this
      · simp only [if_pos (show (((n + 1 + s.size : Nat) : Int) > (a2 : Int)) by omega)]
        exact Ev.ret (h5 (by omega)).symm
    · exact fin j n hj h3 h4
theorem few_l0 {l : List (List ByteArray)} {a1 : Int} {a2 : Nat} (ha : a2 ≤ 1000000) (hl : l.length ≤ 140737488351232) (hr : ∀ r ∈ l, r.length ≤ 140737488351232 ∧ ∀ s ∈ r, s.size ≤ 140737488351232) :
    ∀ (m i n : Nat), l.length - i ≤ m → i ≤ l.length → n ≤ a2 → Ev (fun k => threshingref01_Few.l0 k l a1 a2 (n : Int) (i : Int)) (decide (n + wl (l.drop i) ≤ a2 ∧ (l.length : Int) ≤ a1)) := by
  have fin : ∀ (i n : Nat), l.length ≤ i → n ≤ a2 → Ev (fun k => threshingref01_Few.l0 k l a1 a2 (n : Int) (i : Int)) (decide (n + wl (l.drop i) ≤ a2 ∧ (l.length : Int) ≤ a1)) := by
    intro i n h h3
    refine Ev.succ ?_
    simp only [threshingref01_Few.l0, if_neg (show ¬ ((i : Int) < (l.length : Int)) by omega)]
    refine Ev.ret ?_
    rw [List.drop_eq_nil_of_le h]
    simp [wl, h3]
  intro m
  induction m with
  | zero => intro i n h1 h2 h3; exact fin i n (by omega) h3
  | succ m ih =>
    intro i n h1 h2 h3
    rcases Nat.lt_or_ge i l.length with hi | hi
    · have hd : l.drop i = l[i] :: l.drop (i + 1) := List.drop_eq_getElem_cons hi
      obtain ⟨hr1, hr2⟩ := hr _ (List.getElem_mem hi)
      refine Ev.succ ?_
      simp only [threshingref01_Few.l0, if_pos (show ((i : Int) < (l.length : Int)) by omega)]
      refine few_l1 ha hi hl hr1 hr2 l[i].length 0 n (by omega) (by omega) h3 (fun h => ?_) (fun h => ?_)
      · refine (ih (i + 1) _ (by omega) (by omega) h).to ?_
        rw [hd, wl_cons, List.drop_zero, Nat.add_assoc]
      · rw [List.drop_zero] at h
        rw [hd, wl_cons]
        simp
        omega
    · exact fin i n hi h3
theorem few_ev {l : List (List ByteArray)} {a1 : Int} {a2 : Nat} (ha : a2 ≤ 1000000) (hl : l.length ≤ 140737488351232) (hr : ∀ r ∈ l, r.length ≤ 140737488351232 ∧ ∀ s ∈ r, s.size ≤ 140737488351232) :
    Ev (fun k => threshingref01_Few.f k l a1 a2) (decide (wl l ≤ a2 ∧ (l.length : Int) ≤ a1)) := by
  have := few_l0 (a1 := a1) ha hl hr l.length 0 0 (by omega) (by omega) (by omega)
  simpa [threshingref01_Few.f] using this
theorem few_at {l : List (List ByteArray)} {a1 a2 : Int} (n2 : Nat) (e : a2 = n2) (ha : n2 ≤ 1000000) (hl : l.length ≤ 140737488351232) (hr : ∀ r ∈ l, r.length ≤ 140737488351232 ∧ ∀ s ∈ r, s.size ≤ 140737488351232) :
    Ev (fun k => threshingref01_Few.f k l a1 a2) (decide (wl l ≤ n2 ∧ (l.length : Int) ≤ a1)) := by
  subst e
  exact few_ev ha hl hr
theorem wr_ge {r : List ByteArray} {s : ByteArray} (h : s ∈ r) : s.size + 1 ≤ wr r := by
  induction r with
  | nil => cases h
  | cons a r ih =>
    rw [wr_cons]
    rcases List.mem_cons.1 h with rfl | h
    · omega
    · have := ih h; omega
theorem wr_len (r : List ByteArray) : r.length ≤ wr r := by
  induction r with
  | nil => simp [wr]
  | cons a r ih => rw [wr_cons, List.length_cons]; omega
theorem wl_ge {l : List (List ByteArray)} {r : List ByteArray} (h : r ∈ l) : wr r ≤ wl l := by
  induction l with
  | nil => cases h
  | cons a l ih =>
    rw [wl_cons]
    rcases List.mem_cons.1 h with rfl | h
    · omega
    · have := ih h; omega

/-! ### alike -/
theorem drop_eq_iff {α : Type} {a b : List α} {i : Nat} (ha : i < a.length) (hb : i < b.length) : a.drop i = b.drop i ↔ a[i] = b[i] ∧ a.drop (i + 1) = b.drop (i + 1) := by
  rw [List.drop_eq_getElem_cons ha, List.drop_eq_getElem_cons hb, List.cons.injEq]
theorem strings_l0 {a b : List ByteArray} (ha : a.length ≤ 4000000000000) (hab : a.length = b.length) : ∀ (m i : Nat), a.length - i ≤ m → i ≤ a.length → Ev (fun k => threshingref01_Strings.l0 k a b (i : Int)) (decide (a.drop i = b.drop i)) := by
  have fin : ∀ i : Nat, a.length ≤ i → Ev (fun k => threshingref01_Strings.l0 k a b (i : Int)) (decide (a.drop i = b.drop i)) := by
    intro i h
    refine Ev.succ ?_
    simp only [threshingref01_Strings.l0, if_neg (show ¬ ((i : Int) < (a.length : Int)) by omega)]
    refine Ev.ret ?_
    rw [List.drop_eq_nil_of_le h, List.drop_eq_nil_of_le (by omega)]
    simp
  intro m
  induction m with
  | zero => intro i h1 h2; exact fin i (by omega)
  | succ m ih =>
    intro i h1 h2
    rcases Nat.lt_or_ge i a.length with hi | hi
    · have hb : i < b.length := by omega
      refine Ev.succ ?_
      simp only [threshingref01_Strings.l0, if_pos (show ((i : Int) < (a.length : Int)) by omega), if_pos (show (0 : Int) ≤ (i : Int) by omega), if_pos (show ((i : Int) < (b.length : Int)) by omega), rdOf_get _ _ _ hi, rdOf_get _ _ _ hb, toList_inj, wrap_succ (i := i) (by omega)]
      by_cases hc : a[i] = b[i]
      · simp only [if_pos hc]
        refine (ih (i + 1) (by omega) (by omega)).to ?_
        simp only [drop_eq_iff hi hb, hc, true_and]
      · simp only [if_neg hc]
        refine Ev.ret ?_
        simp only [drop_eq_iff hi hb, hc, false_and, decide_false]
    · exact fin i hi
theorem strings_ev {a b : List ByteArray} (ha : a.length ≤ 4000000000000) : Ev (fun k => threshingref01_Strings.f k a b) (decide (a = b)) := by
  by_cases h : a.length = b.length
  · simp only [threshingref01_Strings.f, if_pos (show (a.length : Int) = (b.length : Int) by omega)]
    have := strings_l0 ha h a.length 0 (by omega) (by omega)
    simpa using this
  · simp only [threshingref01_Strings.f, if_neg (show ¬ (a.length : Int) = (b.length : Int) by omega)]
    refine Ev.ret ?_
    have : a ≠ b := fun e => h (by rw [e])
    simp [this]
theorem recs_l0 {a b : List (List ByteArray)} (ha : a.length ≤ 4000000000000) (hr : ∀ r ∈ a, r.length ≤ 4000000000000) (hab : a.length = b.length) : ∀ (m i : Nat), a.length - i ≤ m → i ≤ a.length → Ev (fun k => threshingref01_Recs.l0 k a b (i : Int)) (decide (a.drop i = b.drop i)) := by
  have fin : ∀ i : Nat, a.length ≤ i → Ev (fun k => threshingref01_Recs.l0 k a b (i : Int)) (decide (a.drop i = b.drop i)) := by
    intro i h
    refine Ev.succ ?_
    simp only [threshingref01_Recs.l0, if_neg (show ¬ ((i : Int) < (a.length : Int)) by omega)]
    refine Ev.ret ?_
    rw [List.drop_eq_nil_of_le h, List.drop_eq_nil_of_le (by omega)]
    simp
  intro m
  induction m with
  | zero => intro i h1 h2; exact fin i (by omega)
  | succ m ih =>
    intro i h1 h2
    rcases Nat.lt_or_ge i a.length with hi | hi
    · have hb : i < b.length := by omega
      refine Ev.succ ?_
      simp only [threshingref01_Recs.l0, if_pos (show ((i : Int) < (a.length : Int)) by omega), if_pos (show (0 : Int) ≤ (i : Int) by omega), if_pos (show ((i : Int) < (b.length : Int)) by omega), rd_L1_nat _ _ hi, rd_L1_nat _ _ hb, wrap_succ (i := i) (by omega)]
      refine Ev.bind (strings_ev (hr _ (List.getElem_mem hi))) ?_
      by_cases hc : a[i] = b[i]
      · simp only [hc, decide_true, if_true]
        refine (ih (i + 1) (by omega) (by omega)).to ?_
        simp only [drop_eq_iff hi hb, hc, true_and]
      · simp only [hc, decide_false, Bool.false_eq_true, if_false]
        refine Ev.ret ?_
        simp only [drop_eq_iff hi hb, hc, false_and, decide_false]
    · exact fin i hi
theorem recs_ev {a b : List (List ByteArray)} (ha : a.length ≤ 4000000000000) (hr : ∀ r ∈ a, r.length ≤ 4000000000000) : Ev (fun k => threshingref01_Recs.f k a b) (decide (a = b)) := by
  by_cases h : a.length = b.length
  · simp only [threshingref01_Recs.f, if_pos (show (a.length : Int) = (b.length : Int) by omega)]
    have := recs_l0 ha hr h a.length 0 (by omega) (by omega)
    simpa using this
  · simp only [threshingref01_Recs.f, if_neg (show ¬ (a.length : Int) = (b.length : Int) by omega)]
    refine Ev.ret ?_
    have : a ≠ b := fun e => h (by rw [e])
    simp [this]
end Go.Proofs.YtbfjhgpeidibhaaL
