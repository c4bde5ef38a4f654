/- Reading splits of text files, and there and back: what the printed functions come tz, and why. -/
import Derived.Test.YtbfjhgpeidibhaaPXx11
import Derived.Test.YtbfjhgpeidibhaaPXx4
import Derived.Test.YtbfjhgpeidibhaaPXx9
import Derived.Test.YtbfjhgpeidibhaaPXx12
import Derived.Test.YtbfjhgpeidibhaaPXx5
import Derived.Test.YtbfjhgpeidibhaaPXx13
import Derived.Test.YtbfjhgpeidibhaaPXx8
import Derived.Test.YtbfjhgpeidibhaaLText
namespace Go.Proofs.YtbfjhgpeidibhaaL
open Go.RowKit Go.Proofs.Ytbfjhgpeidibhaa.PX Go.Proofs.YtbfjhgpeidibhaaW.PrintWords

/-! ### the places of lines -/
theorem lines_place : ∀ (s : List Int) (a : Int) (acc : List Int) (p : Piece), p ∈ lines a acc s → (p.f0 = a ∨ a + acc.length + 1 ≤ p.f0) ∧ p.f0 < a + acc.length + s.length ∧ p.f1.length = 1 := by
  intro s
  induction s with
  | nil =>
    intro a acc p hp
    rw [lines] at hp
    by_cases h : acc = []
    · rw [if_pos h] at hp; cases hp
    · rw [if_neg h, List.mem_singleton] at hp
      subst hp
      have : 0 < acc.length := List.length_pos_iff.2 h
      refine ⟨.inl rfl, ?_, rfl⟩
      show a < a + acc.length + ((0 : Nat) : Int)
      omega
  | cons c s ih =>
    intro a acc p hp
    rw [lines] at hp
    by_cases h : c = 10
    · rw [if_pos h] at hp
      rcases List.mem_cons.1 hp with rfl | hp
      · refine ⟨.inl rfl, ?_, rfl⟩
        show a < a + acc.length + ((s.length + 1 : Nat) : Int)
        omega
      · obtain ⟨h1, h2, h3⟩ := ih _ _ _ hp
        simp only [List.length_nil, List.length_cons] at h1 h2 ⊢
        exact ⟨.inr (by omega), by omega, h3⟩
    · rw [if_neg h] at hp
      obtain ⟨h1, h2, h3⟩ := ih _ _ _ hp
      simp only [List.length_append, List.length_cons, List.length_nil] at h1 h2 ⊢
      refine ⟨?_, by omega, h3⟩
      rcases h1 with h1 | h1
      · exact .inl h1
      · exact .inr (by omega)
theorem lines_ge (s : List Int) (a : Int) (p : Piece) (hp : p ∈ lines a [] s) : a ≤ p.f0 ∧ p.f0 < a + s.length := by
  obtain ⟨h1, h2, _⟩ := lines_place s a [] p hp
  simp only [List.length_nil] at h1 h2
  omega
/-- Behind a byte 10 the lines begin anew; those ahead begin ahead. -/
theorem lines_cut : ∀ (s t : List Int) (a : Int) (acc : List Int), ∃ pre : List Piece, lines a acc (s ++ 10 :: t) = pre ++ lines (a + acc.length + s.length + 1) [] t ∧ ∀ p ∈ pre, p.f0 < a + acc.length + s.length + 1 := by
  intro s
  induction s with
  | nil =>
    intro t a acc
    refine ⟨[pc a acc], ?_, ?_⟩
    · rw [List.nil_append, lines, if_pos rfl]
      simp
    · intro p hp
      rw [List.mem_singleton.1 hp, List.length_nil]
      show a < _
      omega
  | cons c s ih =>
    intro t a acc
    rw [List.cons_append, lines]
    by_cases h : c = 10
    · obtain ⟨pre, h1, h2⟩ := ih t (a + acc.length + 1) []
      rw [if_pos h, h1]
      refine ⟨pc a acc :: pre, ?_, ?_⟩
      · simp only [List.cons_append, List.length_nil, List.length_cons]
        rw [show (a + (acc.length : Int) + 1 + ((0 : Nat) : Int) + (s.length : Int) + 1) = a + (acc.length : Int) + ((s.length + 1 : Nat) : Int) + 1 by omega]
      · intro p hp
        simp only [List.length_nil, List.length_cons] at h2 ⊢
        rcases List.mem_cons.1 hp with rfl | hp
        · show a < _
          omega
        · have := h2 p hp; omega
    · obtain ⟨pre, h1, h2⟩ := ih t a (acc ++ [c])
      rw [if_neg h, h1]
      simp only [List.length_append, List.length_cons, List.length_nil] at h2 ⊢
      refine ⟨pre, ?_, fun p hp => by have := h2 p hp; omega⟩
      congr 2
      omega
/-- A line begins at place i. -/
def startsB (l : List Int) (i : Nat) : Bool := decide (i < l.length) && (decide (i = 0) || decide (l.getD (i - 1) 0 = 10))
theorem lines_at {l : List Int} {i : Nat} (hi : i ≤ l.length) (h : i = 0 ∨ l.getD (i - 1) 0 = 10) : ∃ pre : List Piece, lines 0 [] l = pre ++ lines i [] (l.drop i) ∧ ∀ p ∈ pre, p.f0 < i := by
  rcases Nat.eq_zero_or_pos i with rfl | h0
  · exact ⟨[], by simp, fun p hp => by cases hp⟩
  · have h1 : l.getD (i - 1) 0 = 10 := h.resolve_left (by omega)
    have hlt : i - 1 < l.length := by omega
    rw [List.getD_eq_getElem?_getD, List.getElem?_eq_getElem hlt, Option.getD_some] at h1
    have e : l = l.take (i - 1) ++ 10 :: l.drop i := by
      have h2 := List.drop_eq_getElem_cons hlt
      rw [h1, show i - 1 + 1 = i by omega] at h2
      rw [← h2, List.take_append_drop]
    obtain ⟨pre, h2, h3⟩ := lines_cut (l.take (i - 1)) (l.drop i) 0 []
    have hl : (l.take (i - 1)).length = i - 1 := by rw [List.length_take]; omega
    rw [hl] at h2 h3
    simp only [List.length_nil] at h2 h3
    refine ⟨pre, ?_, fun p hp => by have := h3 p hp; omega⟩
    have e2 : ((0 : Int) + ((0 : Nat) : Int) + ((i - 1 : Nat) : Int) + 1) = (i : Int) := by omega
    rw [e2, ← e] at h2
    exact h2
theorem lines_starts {l : List Int} {p : Piece} (hp : p ∈ lines 0 [] l) : ∃ i : Nat, p.f0 = i ∧ startsB l i = true := by
  have key : ∀ (s : List Int) (a : Int) (acc : List Int) (p : Piece), p ∈ lines a acc s → p.f0 = a ∨ ∃ s1 s2, s = s1 ++ 10 :: s2 ∧ p.f0 = a + acc.length + s1.length + 1 := by
    intro s
    induction s with
    | nil =>
      intro a acc p hp
      rw [lines] at hp
      by_cases h : acc = []
      · rw [if_pos h] at hp; cases hp
      · rw [if_neg h, List.mem_singleton] at hp
        exact .inl (hp ▸ rfl)
    | cons c s ih =>
      intro a acc p hp
      rw [lines] at hp
      by_cases h : c = 10
      · rw [if_pos h] at hp
        rcases List.mem_cons.1 hp with rfl | hp
        · exact .inl rfl
        · rcases ih _ _ _ hp with h1 | ⟨s1, s2, rfl, h1⟩
          · exact .inr ⟨[], s, by rw [h]; rfl, by simp only [List.length_nil]; omega⟩
          · exact .inr ⟨c :: s1, s2, rfl, by simp only [List.length_nil, List.length_cons] at h1 ⊢; omega⟩
      · rw [if_neg h] at hp
        rcases ih _ _ _ hp with h1 | ⟨s1, s2, rfl, h1⟩
        · exact .inl h1
        · exact .inr ⟨c :: s1, s2, rfl, by simp only [List.length_append, List.length_cons, List.length_nil] at h1 ⊢; omega⟩
  obtain ⟨_, h2⟩ := lines_ge l 0 p hp
  rcases key l 0 [] p hp with h | ⟨s1, s2, e, h⟩
  · refine ⟨0, h, ?_⟩
    unfold startsB
    simp only [decide_true, Bool.true_or, Bool.and_true, decide_eq_true_eq]
    omega
  · simp only [List.length_nil] at h
    refine ⟨s1.length + 1, by omega, ?_⟩
    unfold startsB
    have h3 : l.getD (s1.length + 1 - 1) 0 = 10 := by rw [e]; simp
    rw [h3]
    simp only [decide_true, Bool.or_true, Bool.and_true, decide_eq_true_eq]
    omega
theorem lines_head {s : List Int} (h : s ≠ []) (a : Int) : ∃ p ∈ lines a [] s, p.f0 = a := by
  rcases split_at 10 (l := s) with h1 | ⟨p, t, rfl, h1⟩
  · rw [lines_last h1, List.nil_append, if_neg h]
    exact ⟨_, List.mem_singleton.2 rfl, rfl⟩
  · rw [lines_more h1]
    exact ⟨_, List.mem_cons_self, rfl⟩
theorem starts_lines {l : List Int} {i : Nat} (h : startsB l i = true) : ∃ p ∈ lines 0 [] l, p.f0 = i := by
  unfold startsB at h
  simp only [Bool.and_eq_true, Bool.or_eq_true, decide_eq_true_eq] at h
  obtain ⟨pre, h1, _⟩ := lines_at (Nat.le_of_lt h.1) h.2
  obtain ⟨p, hp, hf⟩ := lines_head (s := l.drop i) (by rw [Ne, List.drop_eq_nil_iff]; omega) i
  exact ⟨p, by rw [h1]; exact List.mem_append.2 (.inr hp), hf⟩

theorem starts_eq (l : List Int) (hl : l.length ≤ 1000000) (i : Nat) : text_Starts.f l (i : Int) = some (startsB l i) := by
  unfold text_Starts.f startsB
  rw [if_pos (by omega)]
  by_cases h1 : i < l.length
  · rw [if_pos (by omega)]
    by_cases h2 : i = 0
    · rw [if_pos (by omega)]
      simp [h1, h2] <;> omega
    · rw [if_neg (by omega), wrap_nat (n := i - 1) (by omega) (by omega), if_pos (by omega), if_pos (by omega), rd_nat]
      simp only [h1, h2, decide_true, decide_false, Bool.true_and, Bool.false_or]
      congr 1
  · rw [if_neg (by omega)]
    simp [h1]
theorem starts_neg (l : List Int) {a : Int} (h : a < 0) : text_Starts.f l a = some false := by
  unfold text_Starts.f
  rw [if_neg (by omega)]
theorem first_l0 {l : List Int} (hl : l.length ≤ 1000000) : ∀ (n i : Nat), l.length - i ≤ n → i ≤ l.length → ∃ j : Nat, i ≤ j ∧ j ≤ l.length ∧ (j = l.length ∨ startsB l j = true) ∧ (∀ m, i ≤ m → m < j → startsB l m = false) ∧ Ev (fun k => text_first.l0 k l (i : Int)) (j : Int) := by
  intro n
  induction n with
  | zero =>
    intro i h1 h2
    refine ⟨i, Nat.le_refl _, h2, .inl (by omega), fun m h3 h4 => by omega, Ev.succ ?_⟩
    simp only [text_first.l0, if_neg (show ¬ ((i : Int) < (l.length : Int)) by omega)]
    exact Ev.ret rfl
  | succ n ih =>
    intro i h1 h2
    rcases Nat.lt_or_ge i l.length with hi | hi
    · cases hs : startsB l i with
      | true =>
        refine ⟨i, Nat.le_refl _, h2, .inr hs, fun m h3 h4 => by omega, Ev.succ ?_⟩
        simp only [text_first.l0, if_pos (show ((i : Int) < (l.length : Int)) by omega), starts_eq l hl, hs, Option.bind_some, if_true]
        exact Ev.ret rfl
      | false =>
        obtain ⟨j, a1, a2, a3, a4, a5⟩ := ih (i + 1) (by omega) (by omega)
        refine ⟨j, by omega, a2, a3, fun m h3 h4 => ?_, Ev.succ ?_⟩
        · rcases Nat.lt_or_ge i m with h5 | h5
          · exact a4 m h5 h4
          · obtain rfl : m = i := by omega
            exact hs
        · simp only [text_first.l0, if_pos (show ((i : Int) < (l.length : Int)) by omega), starts_eq l hl, hs, Option.bind_some, Bool.false_eq_true, if_false, wrap_succ (i := i) (by omega)]
          exact a5
    · refine ⟨i, Nat.le_refl _, h2, .inl (by omega), fun m h3 h4 => by omega, Ev.succ ?_⟩
      simp only [text_first.l0, if_neg (show ¬ ((i : Int) < (l.length : Int)) by omega)]
      exact Ev.ret rfl

/-! ### reading -/
def recs (l : List Piece) : List (List ByteArray) := l.flatMap (·.f1)
theorem recs_append (a b : List Piece) : recs (a ++ b) = recs a ++ recs b := by simp [recs]
theorem recs_cons (a : Piece) (b : List Piece) : recs (a :: b) = a.f1 ++ recs b := by simp [recs]
def inside (from_ tz : Int) (p : Piece) : Bool := decide (p.f0 ≥ from_) && decide (p.f0 < tz)
def reads (l : List Int) (from_ tz : Int) : List (List ByteArray) × Int :=
  if from_ < 0 ∨ from_ > tz ∨ tz > l.length then ([], 1) else (recs ((lines 0 [] l).filter (inside from_ tz)), 0)

theorem read_l0 {l : List Int} (hb : Bytes l) (hl : l.length ≤ 1000000) {tz : Nat} (ht : tz ≤ l.length) : ∀ (n i : Nat) (out : List (List ByteArray)), l.length - i ≤ n → i ≤ l.length → out.length ≤ i →
    Ev (fun k => text_Read.l0 k l (tz : Int) out (i : Int)) (out ++ recs ((lines i [] (l.drop i)).filter fun p => decide (p.f0 < tz)), 0) := by
  have fin : ∀ (i : Nat) (out : List (List ByteArray)), tz ≤ i → i ≤ l.length → Ev (fun k => text_Read.l0 k l (tz : Int) out (i : Int)) (out ++ recs ((lines i [] (l.drop i)).filter fun p => decide (p.f0 < tz)), 0) := by
    intro i out h h2
    refine Ev.succ ?_
    simp only [text_Read.l0, if_neg (show ¬ ((i : Int) < (tz : Int)) by omega)]
    refine Ev.ret ?_
    have : (lines i [] (l.drop i)).filter (fun p : Piece => decide (p.f0 < (tz : Int))) = [] := by
      rw [List.filter_eq_nil_iff]
      intro p hp
      have := lines_ge _ _ p hp
      simp only [decide_eq_true_eq]
      omega
    rw [this]
    simp [recs]
  intro n
  induction n with
  | zero => intro i out h1 h2 h3; exact fin i out (by omega) h2
  | succ n ih =>
    intro i out h1 h2 h3
    rcases Nat.lt_or_ge i tz with hi | hi
    · rcases split_at 10 (l := l.drop i) with h | ⟨p, s, e, h⟩
      · refine Ev.succ ?_
        simp only [text_Read.l0, if_pos (show ((i : Int) < (tz : Int)) by omega), next_last hb h2 h, Option.bind_some, List.length_singleton, if_pos (show out.length + 1 < 5864062014805 by omega)]
        refine (fin l.length (out ++ [[strOfNums (l.drop i)]]) ht (Nat.le_refl _)).to ?_
        have hne : l.drop i ≠ [] := by
          intro h0
          have := congrArg List.length h0
          simp at this
          omega
        rw [lines_last h, List.nil_append, if_neg hne, List.drop_length, List.filter_cons, if_pos (show decide ((pc (i : Int) (l.drop i)).f0 < (tz : Int)) = true from decide_eq_true (show (i : Int) < tz by omega))]
        simp [lines, recs, pc]
      · have hlen : l.length - i = p.length + (s.length + 1) := by
          have := congrArg List.length e
          simpa using this
        have hs : l.drop (i + p.length + 1) = s := by
          rw [show i + p.length + 1 = i + (p.length + 1) by omega, ← List.drop_drop, e]
          simp
        refine Ev.succ ?_
        simp only [text_Read.l0, if_pos (show ((i : Int) < (tz : Int)) by omega), next_more hb hl e h, Option.bind_some, List.length_singleton, if_pos (show out.length + 1 < 5864062014805 by omega)]
        refine (ih (i + p.length + 1) (out ++ [[strOfNums p]]) (by omega) (by omega) (by simp; omega)).to ?_
        rw [e, lines_more h, hs, List.filter_cons, if_pos (show decide ((pc (i : Int) ([] ++ p)).f0 < (tz : Int)) = true from decide_eq_true (show (i : Int) < tz by omega))]
        simp only [List.nil_append, recs_cons, List.append_assoc]
        rfl
    · exact fin i out hi h2
theorem read_ev {l : List Int} (hb : Bytes l) (hl : l.length ≤ 1000000) (from_ tz : Int) : Ev (fun k => text_Read.f k l from_ tz) (reads l from_ tz) := by
  have bad : ∀ b : Bool, b = true → (from_ < 0 ∨ from_ > tz ∨ tz > l.length) → Ev (fun k => text_Read.j0 k l from_ tz b) (reads l from_ tz) := by
    intro b hb' h
    refine Ev.succ ?_
    simp only [text_Read.j0, hb', if_true]
    exact Ev.ret (by rw [reads, if_pos h])
  by_cases h1 : from_ < 0
  · simp only [text_Read.f, if_pos h1]
    exact bad _ rfl (.inl h1)
  · by_cases h2 : from_ > tz
    · simp only [text_Read.f, if_neg h1, if_pos h2]
      exact bad _ rfl (.inr (.inl h2))
    · by_cases h3 : tz > l.length
      · simp only [text_Read.f, if_neg h1, if_neg h2, decide_eq_true h3]
        exact bad _ rfl (.inr (.inr h3))
      · simp only [text_Read.f, if_neg h1, if_neg h2, decide_eq_false h3]
        obtain ⟨f, rfl⟩ := Int.eq_ofNat_of_zero_le (show 0 ≤ from_ by omega)
        obtain ⟨t, rfl⟩ := Int.eq_ofNat_of_zero_le (show 0 ≤ tz by omega)
        obtain ⟨j, a1, a2, a3, a4, a5⟩ := first_l0 hl l.length f (by omega) (by omega)
        refine Ev.succ ?_
        simp only [text_Read.j0, Bool.false_eq_true, if_false, text_first.f]
        refine Ev.bind a5 ?_
        refine (read_l0 hb hl (show t ≤ l.length by omega) l.length j [] (by omega) a2 (by simp)).to ?_
        rw [reads, if_neg (by omega), List.nil_append]
        congr 1
        have hst : j = 0 ∨ l.getD (j - 1) 0 = 10 ∨ j = l.length := by
          rcases a3 with a3 | a3
          · exact .inr (.inr a3)
          · unfold startsB at a3
            simp only [Bool.and_eq_true, Bool.or_eq_true, decide_eq_true_eq] at a3
            exact a3.2.elim .inl (fun h => .inr (.inl h))
        have none_ : ∀ p ∈ lines 0 [] l, p.f0 < j → ¬ p.f0 ≥ f := by
          intro p hp hj hf
          obtain ⟨m, hm, hs⟩ := lines_starts hp
          have := a4 m (by omega) (by omega)
          rw [hs] at this
          cases this
        have split_ : ∃ pre : List Piece, lines 0 [] l = pre ++ lines j [] (l.drop j) ∧ ∀ p ∈ pre, p.f0 < j := by
          rcases Nat.lt_or_ge j l.length with hj | hj
          · exact lines_at a2 (hst.elim .inl (fun h => h.elim .inr (fun h => by omega)))
          · refine ⟨lines 0 [] l, ?_, fun p hp => ?_⟩
            · rw [List.drop_eq_nil_of_le hj]
              simp [lines]
            · have := (lines_ge l 0 p hp).2; omega
        obtain ⟨pre, e1, e2⟩ := split_
        rw [e1, List.filter_append]
        have n1 : pre.filter (inside f t) = [] := by
          rw [List.filter_eq_nil_iff]
          intro p hp
          have := none_ p (by rw [e1]; exact List.mem_append.2 (.inl hp)) (e2 p hp)
          simp [inside, this]
        rw [n1, List.nil_append]
        congr 1
        refine List.filter_congr fun p hp => ?_
        have := (lines_ge _ _ p hp).1
        have h5 : decide (p.f0 ≥ (f : Int)) = true := decide_eq_true (by omega)
        simp only [inside, h5, Bool.true_and]

theorem rd_T_nat (l : List Piece) (i : Nat) (h : i < l.length) : rd_T38 l (i : Int) = l[i] := by
  unfold rd_T38
  rw [Int.toNat_natCast, List.getD_eq_getElem?_getD, List.getElem?_eq_getElem h]
  rfl
theorem of_l0 {l : List Piece} (hl : l.length ≤ 1000000) (h1 : ∀ p ∈ l, p.f1.length = 1) (from_ tz : Int) : ∀ (n i : Nat) (out : List (List ByteArray)), l.length - i ≤ n → i ≤ l.length → out.length ≤ i →
    Ev (fun k => threshingref05_Of.l0 k l from_ tz out (i : Int)) (out ++ recs ((l.drop i).filter (inside from_ tz))) := by
  have fin : ∀ (i : Nat) (out : List (List ByteArray)), l.length ≤ i → Ev (fun k => threshingref05_Of.l0 k l from_ tz out (i : Int)) (out ++ recs ((l.drop i).filter (inside from_ tz))) := by
    intro i out h
    refine Ev.succ ?_
    simp only [threshingref05_Of.l0, if_neg (show ¬ ((i : Int) < (l.length : Int)) by omega)]
    refine Ev.ret ?_
    rw [List.drop_eq_nil_of_le h]
    simp [recs]
  intro n
  induction n with
  | zero => intro i out a b c; exact fin i out (by omega)
  | succ n ih =>
    intro i out a b c
    rcases Nat.lt_or_ge i l.length with hi | hi
    · have hone := h1 _ (List.getElem_mem hi)
      refine Ev.succ ?_
      simp only [threshingref05_Of.l0, if_pos (show ((i : Int) < (l.length : Int)) by omega), if_pos (show (0 : Int) ≤ (i : Int) by omega), rd_T_nat l i hi, hone, if_pos (show out.length + 1 < 5864062014805 by omega), wrap_succ (i := i) (by omega)]
      have hd : (l.drop i).filter (inside from_ tz) = (if inside from_ tz l[i] = true then [l[i]] else []) ++ (l.drop (i + 1)).filter (inside from_ tz) := by
        rw [List.drop_eq_getElem_cons hi, List.filter_cons]
        split <;> simp
      by_cases h2 : l[i].f0 ≥ from_
      · by_cases h3 : l[i].f0 < tz
        · simp only [if_pos h2, if_pos h3]
          refine (ih (i + 1) (out ++ l[i].f1) (by omega) (by omega) (by rw [List.length_append, hone]; omega)).to ?_
          rw [hd, if_pos (by simp [inside, h2, h3])]
          simp [recs]
        · simp only [if_pos h2, if_neg h3]
          refine (ih (i + 1) out (by omega) (by omega) (by omega)).to ?_
          rw [hd, if_neg (by simp [inside, h3])]
          simp
      · simp only [if_neg h2]
        refine (ih (i + 1) out (by omega) (by omega) (by omega)).to ?_
        rw [hd, if_neg (by simp [inside, h2])]
        simp
    · exact fin i out hi
theorem lines_len (l : List Int) (a : Int) (acc : List Int) : (lines a acc l).length ≤ acc.length + l.length := by
  induction l generalizing a acc with
  | nil =>
    rw [lines]
    split
    · simp
    · have : 0 < acc.length := List.length_pos_iff.2 (by assumption)
      simp; omega
  | cons c s ih =>
    rw [lines]
    split
    · have := ih (a + acc.length + 1) []
      simp only [List.length_cons, List.length_nil] at this ⊢
      omega
    · have := ih a (acc ++ [c])
      simp only [List.length_append, List.length_cons, List.length_nil] at this ⊢
      omega
theorem ref_read_ev {l : List Int} (hl : l.length ≤ 1000000) (from_ tz : Int) : Ev (fun k => threshingref05_Read.f k l from_ tz) (reads l from_ tz) := by
  have bad : ∀ b : Bool, b = true → (from_ < 0 ∨ from_ > tz ∨ tz > l.length) → Ev (fun k => threshingref05_Read.j0 k l from_ tz b) (reads l from_ tz) := by
    intro b hb' h
    refine Ev.succ ?_
    simp only [threshingref05_Read.j0, hb', if_true]
    exact Ev.ret (by rw [reads, if_pos h])
  by_cases h1 : from_ < 0
  · simp only [threshingref05_Read.f, if_pos h1]
    exact bad _ rfl (.inl h1)
  · by_cases h2 : from_ > tz
    · simp only [threshingref05_Read.f, if_neg h1, if_pos h2]
      exact bad _ rfl (.inr (.inl h2))
    · by_cases h3 : tz > l.length
      · simp only [threshingref05_Read.f, if_neg h1, if_neg h2, decide_eq_true h3]
        exact bad _ rfl (.inr (.inr h3))
      · simp only [threshingref05_Read.f, if_neg h1, if_neg h2, decide_eq_false h3]
        have hn := lines_len l 0 []
        simp only [List.length_nil] at hn
        refine Ev.succ ?_
        simp only [threshingref05_Read.j0, Bool.false_eq_true, if_false]
        refine Ev.bind (ref_scan_ev hl) ?_
        refine Ev.bind (a := recs ((lines 0 [] l).filter (inside from_ tz))) ?_ ?_
        · have := of_l0 (l := lines 0 [] l) (by omega) (fun p hp => (lines_place l 0 [] p hp).2.2) from_ tz (lines 0 [] l).length 0 [] (by omega) (by omega) (by simp)
          simpa [threshingref05_Of.f] using this
        · refine Ev.ret ?_
          rw [reads, if_neg (by omega)]
theorem all_l0 {l : List Piece} (hl : l.length ≤ 1000000) (h1 : ∀ p ∈ l, p.f1.length = 1) : ∀ (n i : Nat) (out : List (List ByteArray)), l.length - i ≤ n → i ≤ l.length → out.length ≤ i →
    Ev (fun k => threshingref05_All.l0 k l out (i : Int)) (out ++ recs (l.drop i)) := by
  have fin : ∀ (i : Nat) (out : List (List ByteArray)), l.length ≤ i → Ev (fun k => threshingref05_All.l0 k l out (i : Int)) (out ++ recs (l.drop i)) := by
    intro i out h
    refine Ev.succ ?_
    simp only [threshingref05_All.l0, if_neg (show ¬ ((i : Int) < (l.length : Int)) by omega)]
    refine Ev.ret ?_
    rw [List.drop_eq_nil_of_le h]
    simp [recs]
  intro n
  induction n with
  | zero => intro i out a b c; exact fin i out (by omega)
  | succ n ih =>
    intro i out a b c
    rcases Nat.lt_or_ge i l.length with hi | hi
    · have hone := h1 _ (List.getElem_mem hi)
      refine Ev.succ ?_
      simp only [threshingref05_All.l0, if_pos (show ((i : Int) < (l.length : Int)) by omega), if_pos (show (0 : Int) ≤ (i : Int) by omega), rd_T_nat l i hi, hone, if_pos (show out.length + 1 < 5864062014805 by omega), wrap_succ (i := i) (by omega)]
      refine (ih (i + 1) (out ++ l[i].f1) (by omega) (by omega) (by rw [List.length_append, hone]; omega)).to ?_
      rw [List.drop_eq_getElem_cons hi, recs_cons, List.append_assoc]
    · exact fin i out hi
theorem all_ev {l : List Piece} (hl : l.length ≤ 1000000) (h1 : ∀ p ∈ l, p.f1.length = 1) : Ev (fun k => threshingref05_All.f k l) (recs l) := by
  have := all_l0 hl h1 l.length 0 [] (by omega) (by omega) (by simp)
  simpa [threshingref05_All.f] using this
theorem canon_eq (l : List Int) (hl : l.length ≤ 1000000) : text_Canon.f l = some (decide (l.length = 0) || decide (l.getD (l.length - 1) 0 = 10)) := by
  unfold text_Canon.f
  by_cases h : l.length = 0
  · rw [if_pos (by omega)]
    simp [h]
  · rw [if_neg (by omega), wrap_nat (n := l.length - 1) (by omega) (by omega), if_pos (by omega), if_pos (by omega), rd_nat]
    simp only [h, decide_false, Bool.false_or]
    congr 1
theorem pieces_l0 {a : List Piece} (ha : a.length ≤ 1000000) (h1 : ∀ p ∈ a, p.f1.length ≤ 1000000 ∧ ∀ r ∈ p.f1, r.length ≤ 1000000) : ∀ (m i : Nat), a.length - i ≤ m → i ≤ a.length → Ev (fun k => threshingref01_Pieces.l0 k a a (i : Int)) true := by
  have fin : ∀ i : Nat, a.length ≤ i → Ev (fun k => threshingref01_Pieces.l0 k a a (i : Int)) true := by
    intro i h
    refine Ev.succ ?_
    simp only [threshingref01_Pieces.l0, if_neg (show ¬ ((i : Int) < (a.length : Int)) by omega)]
    exact Ev.ret rfl
  intro m
  induction m with
  | zero => intro i h2 h3; exact fin i (by omega)
  | succ m ih =>
    intro i h2 h3
    rcases Nat.lt_or_ge i a.length with hi | hi
    · obtain ⟨b1, b2⟩ := h1 _ (List.getElem_mem hi)
      refine Ev.succ ?_
      simp only [threshingref01_Pieces.l0, if_pos (show ((i : Int) < (a.length : Int)) by omega), if_pos (show (0 : Int) ≤ (i : Int) by omega), rd_T_nat a i hi, wrap_succ (i := i) (by omega)]
      simp only [if_true]
      refine Ev.bind (recs_ev (by omega) (fun r hr => by have := b2 r hr; omega)) ?_
      simp only [decide_true, if_true]
      exact ih (i + 1) (by omega) (by omega)
    · exact fin i hi
theorem pieces_ev {a : List Piece} (ha : a.length ≤ 1000000) (h1 : ∀ p ∈ a, p.f1.length ≤ 1000000 ∧ ∀ r ∈ p.f1, r.length ≤ 1000000) : Ev (fun k => threshingref01_Pieces.f k a a) true := by
  simp only [threshingref01_Pieces.f, if_true]
  exact pieces_l0 ha h1 a.length 0 (by omega) (by omega)
theorem lines_one {l : List Int} {a : Int} {acc : List Int} {p : Piece} (hp : p ∈ lines a acc l) : ∃ (i : Int) (q : List Int), p = pc i q := by
  induction l generalizing a acc with
  | nil =>
    rw [lines] at hp
    split at hp
    · cases hp
    · exact ⟨a, acc, List.mem_singleton.1 hp⟩
  | cons c s ih =>
    rw [lines] at hp
    split at hp
    · rcases List.mem_cons.1 hp with rfl | hp
      · exact ⟨a, acc, rfl⟩
      · exact ih hp
    · exact ih hp

theorem recs_small {l : List Int} (a : Int) : (recs (lines a [] l)).length ≤ l.length ∧ ∀ r ∈ recs (lines a [] l), r.length ≤ 1 := by
  have key : ∀ x : List Piece, (∀ p ∈ x, ∃ i q, p = pc i q) → (recs x).length = x.length ∧ ∀ r ∈ recs x, r.length ≤ 1 := by
    intro x
    induction x with
    | nil => intro _; exact ⟨rfl, fun r hr => by cases hr⟩
    | cons p x ih =>
      intro h
      obtain ⟨h1, h2⟩ := ih (fun q hq => h q (List.mem_cons_of_mem _ hq))
      obtain ⟨i, q, rfl⟩ := h p List.mem_cons_self
      refine ⟨by rw [recs_cons, List.length_append, h1]; simp [pc]; omega, fun r hr => ?_⟩
      rw [recs_cons] at hr
      rcases List.mem_append.1 hr with hr | hr
      · simp only [pc, List.mem_singleton] at hr
        subst hr
        simp
      · exact h2 r hr
  obtain ⟨h1, h2⟩ := key (lines a [] l) (fun p hp => lines_one hp)
  have := lines_len l a []
  simp only [List.length_nil] at this
  exact ⟨by omega, h2⟩
theorem reads_small {l : List Int} (hl : l.length ≤ 1000000) (from_ tz : Int) : (reads l from_ tz).1.length ≤ 1000000 ∧ ∀ r ∈ (reads l from_ tz).1, r.length ≤ 1 := by
  unfold reads
  split
  · exact ⟨by simp, fun r hr => by cases hr⟩
  · have hsub : (recs ((lines 0 [] l).filter (inside from_ tz))).Sublist (recs (lines 0 [] l)) := by
      unfold recs
      induction (lines 0 [] l) with
      | nil => simp
      | cons p x ih =>
        rw [List.filter_cons, List.flatMap_cons]
        split
        · rw [List.flatMap_cons]
          exact List.Sublist.append (List.Sublist.refl _) ih
        · exact List.Sublist.trans ih (List.sublist_append_right _ _)
    obtain ⟨h1, h2⟩ := recs_small (l := l) 0
    exact ⟨by have := hsub.length_le; show (recs _).length ≤ _; omega, fun r hr => h2 r (hsub.subset hr)⟩

/-! ### there and back -/
/-- A file's lines, each with a byte 10 behind. -/
theorem joined_lines {l : List Int} (hb : Bytes l) : ∀ (a : Int) (acc : List Int), Bytes acc → joined (recs (lines a acc l)) = if acc ++ l = [] ∨ (acc ++ l).getD ((acc ++ l).length - 1) 0 = 10 ∧ l ≠ [] then acc ++ l else acc ++ l ++ [10] := by
  induction l with
  | nil =>
    intro a acc hacc
    rw [lines]
    by_cases h : acc = []
    · rw [if_pos h, if_pos (.inl (by simp [h]))]
      simp [recs, joined, h]
    · rw [if_neg h, if_neg (by simp [h])]
      simp [recs, joined, pc, bytes_str hacc]
  | cons c s ih =>
    intro a acc hacc
    have hc := hb c List.mem_cons_self
    have hs : Bytes s := fun x hx => hb x (List.mem_cons_of_mem _ hx)
    rw [lines]
    by_cases h : c = 10
    · subst h
      rw [if_pos rfl, recs_cons, joined_append, ih hs _ [] Bytes.nil]
      have e1 : joined (pc a acc).f1 = acc ++ [10] := by simp [joined, pc, bytes_str hacc]
      rw [e1]
      rcases List.eq_nil_or_concat s with rfl | ⟨t, x, rfl⟩
      · rw [if_pos (.inl rfl), if_pos (.inr ⟨by simp, by simp⟩)]
        simp
      · have e2 : ([] ++ t.concat x).getD (([] ++ t.concat x).length - 1) 0 = x := by simp
        have e3 : (acc ++ 10 :: t.concat x).getD ((acc ++ 10 :: t.concat x).length - 1) 0 = x := by
          rw [List.getD_eq_getElem?_getD]
          have : (acc ++ 10 :: t.concat x) = (acc ++ 10 :: t) ++ [x] := by simp
          rw [this]
          simp
        rw [e2, e3]
        by_cases hx : x = 10
        · rw [if_pos (.inr ⟨hx, by simp⟩), if_pos (.inr ⟨hx, by simp⟩)]
          simp
        · rw [if_neg (by simp [hx]), if_neg (by simp [hx])]
          simp
    · rw [if_neg h, ih hs _ _ (hacc.append (Bytes.cons hc Bytes.nil))]
      rcases List.eq_nil_or_concat s with rfl | ⟨t, x, rfl⟩
      · have e3 : (acc ++ [c]).getD ((acc ++ [c]).length - 1) 0 = c := by simp
        rw [if_neg (by simp), if_neg (by rw [e3]; simp [h])]
        simp
      · have e0 : acc ++ [c] ++ t.concat x = acc ++ c :: t.concat x := by simp
        rw [e0]
        simp
theorem recs_joined : ∀ (l : List (List ByteArray)) (a : Int), l.all lineB = true → recs (lines a [] (joined l)) = l := by
  intro l
  induction l with
  | nil => intro a _; simp [joined, lines, recs]
  | cons r l ih =>
    intro a h
    rw [List.all_cons, Bool.and_eq_true] at h
    obtain ⟨s, rfl, _, hs⟩ := head_of_line h.1
    rw [joined_cons]
    have : bytesOf (([s] : List ByteArray).headD ByteArray.empty) ++ [10] ++ joined l = bytesOf s ++ 10 :: joined l := by simp
    rw [this, lines_more hs, recs_cons, ih _ h.2]
    simp [pc, str_bytes]
theorem joined_last (l : List (List ByteArray)) : (joined l).length = 0 ∨ (joined l).getD ((joined l).length - 1) 0 = 10 := by
  rcases List.eq_nil_or_concat l with rfl | ⟨t, x, rfl⟩
  · exact .inl (by simp [joined])
  · right
    have : joined (t.concat x) = (joined t ++ bytesOf (x.headD ByteArray.empty)) ++ [10] := by simp [joined]
    rw [this]
    simp
theorem Bytes.joined (l : List (List ByteArray)) : Bytes (joined l) := by
  intro x hx
  simp only [Go.Proofs.YtbfjhgpeidibhaaL.joined, List.mem_flatMap, List.mem_append, List.mem_singleton] at hx
  obtain ⟨r, _, hx | rfl⟩ := hx
  · exact Bytes.of_str _ x hx
  · omega
end Go.Proofs.YtbfjhgpeidibhaaL
