/- What the printed functions of text files (and of their reference) come to. -/
import Derived.Test.YtbfjhgpeidibhaaPXx1
import Derived.Test.YtbfjhgpeidibhaaPXx2
import Derived.Test.YtbfjhgpeidibhaaPXx3
import Derived.Test.YtbfjhgpeidibhaaPXx8
import Derived.Test.YtbfjhgpeidibhaaPXx4
import Derived.Test.YtbfjhgpeidibhaaLBase
import Derived.Test.YtbfjhgpeidibhaaLRef01
import Derived.KernelRfl
namespace Go.Proofs.YtbfjhgpeidibhaaL
open Go.RowKit Go.Proofs.Ytbfjhgpeidibhaa.PX Go.Proofs.YtbfjhgpeidibhaaW.PrintWords

abbrev Piece := S38
def pc (at_ : Int) (p : List Int) : Piece := ⟨at_, [[strOfNums p]]⟩

/-- The lines of a file, each with its place: at_: where the line at hand begins, acc: what of it has been seen. -/
def lines : Int → List Int → List Int → List Piece
  | at_, acc, [] => if acc = [] then [] else [pc at_ acc]
  | at_, acc, c :: s => if c = 10 then pc at_ acc :: lines (at_ + acc.length + 1) [] s else lines at_ (acc ++ [c]) s

theorem lines_last {p : List Int} (h : 10 ∉ p) : ∀ {at_ : Int} {acc : List Int}, lines at_ acc p = if acc ++ p = [] then [] else [pc at_ (acc ++ p)] := by
  induction p with
  | nil => intro at_ acc; simp [lines]
  | cons c p ih =>
    intro at_ acc
    have h1 : ¬ c = 10 := fun e => h (e ▸ List.mem_cons_self)
    rw [lines, if_neg h1, ih (fun k => h (List.mem_cons_of_mem _ k))]
    simp
theorem lines_more {p s : List Int} (h : 10 ∉ p) : ∀ {at_ : Int} {acc : List Int}, lines at_ acc (p ++ 10 :: s) = pc at_ (acc ++ p) :: lines (at_ + (acc ++ p).length + 1) [] s := by
  induction p with
  | nil => intro at_ acc; simp [lines]
  | cons c p ih =>
    intro at_ acc
    have h1 : ¬ c = 10 := fun e => h (e ▸ List.mem_cons_self)
    rw [List.cons_append, lines, if_neg h1, ih (fun k => h (List.mem_cons_of_mem _ k))]
    simp

theorem IB {l : List Int} (h : Bytes l) : bytes_IndexByte.f l 10 = some (idx l 10) := congrArg some (indexByte_idx h (by decide) (by decide))
theorem SIB (s : ByteArray) : strings_IndexByte.f s 10 = some (idx (bytesOf s) 10) := congrArg some (indexByte_str s (by decide) (by decide))

theorem next_last {l : List Int} (hb : Bytes l) {i : Nat} (hi : i ≤ l.length) (h : 10 ∉ l.drop i) : text_next.f l (i : Int) = some ((i : Int), [[strOfNums (l.drop i)]], (l.length : Int)) := by
  unfold text_next.f
  rw [if_pos (by omega), if_pos (by omega), IB (hb.drop _)]
  simp only [Option.bind_some, Int.toNat_natCast]
  rw [idx_none h, if_neg (by decide), if_pos (Int.le_refl _)]
  simp
theorem next_more {l : List Int} (hb : Bytes l) (hl : l.length ≤ 1000000) {i : Nat} {p s : List Int} (e : l.drop i = p ++ 10 :: s) (h : 10 ∉ p) : text_next.f l (i : Int) = some ((i : Int), [[strOfNums p]], ((i + p.length + 1 : Nat) : Int)) := by
  have hlen : l.length - i = p.length + (s.length + 1) := by
    have := congrArg List.length e
    simpa using this
  unfold text_next.f
  rw [if_pos (by omega), if_pos (by omega), IB (hb.drop _)]
  simp only [Option.bind_some, Int.toNat_natCast]
  rw [e, idx_some h, if_pos (by omega)]
  rw [wrap_nat (n := i + p.length) (by omega) (by omega), if_pos (by omega), if_pos (by omega), wrap_succ (by omega)]
  simp only [Int.toNat_natCast]
  have : (l.take (i + p.length)).drop i = p := by
    rw [List.drop_take, e]
    simp
  rw [this]

theorem scan_l0 {l : List Int} (hb : Bytes l) (hl : l.length ≤ 1000000) : ∀ (n i : Nat) (out : List Piece), l.length - i ≤ n → i ≤ l.length → out.length ≤ i →
    Ev (fun k => text_Scan.l0 k l out (i : Int)) (out ++ lines i [] (l.drop i), (l.length : Int), 0) := by
  intro n
  induction n with
  | zero =>
    intro i out h1 h2 h3
    refine Ev.succ ?_
    simp only [text_Scan.l0, if_neg (show ¬ ((i : Int) < (l.length : Int)) by omega)]
    refine Ev.ret ?_
    rw [show l.drop i = [] from List.drop_eq_nil_of_le (by omega)]
    simp [lines]
  | succ n ih =>
    intro i out h1 h2 h3
    rcases Nat.lt_or_ge i l.length with hi | hi
    · rcases split_at 10 (l := l.drop i) with h | ⟨p, s, e, h⟩
      · refine Ev.succ ?_
        simp only [text_Scan.l0, if_pos (show ((i : Int) < (l.length : Int)) by omega), next_last hb h2 h, Option.bind_some, if_pos (show out.length < 4398046511104 by omega)]
        refine (ih l.length (out ++ [⟨(i : Int), [[strOfNums (l.drop i)]]⟩]) (by omega) (Nat.le_refl _) (by simp; omega)).to ?_
        have hne : l.drop i ≠ [] := by
          intro h0
          have := congrArg List.length h0
          simp at this
          omega
        rw [lines_last h]
        simp [lines, hne, pc]
      · have hlen : l.length - i = p.length + (s.length + 1) := by
          have := congrArg List.length e
          simpa using this
        have hs : l.drop (i + p.length + 1) = s := by
          rw [show i + p.length + 1 = i + (p.length + 1) by omega, ← List.drop_drop, e]
          simp
        refine Ev.succ ?_
        simp only [text_Scan.l0, if_pos (show ((i : Int) < (l.length : Int)) by omega), next_more hb hl e h, Option.bind_some, if_pos (show out.length < 4398046511104 by omega)]
        refine (ih (i + p.length + 1) (out ++ [⟨(i : Int), [[strOfNums p]]⟩]) (by omega) (by omega) (by simp; omega)).to ?_
        rw [e, lines_more h, hs]
        simp [pc]
    · refine Ev.succ ?_
      simp only [text_Scan.l0, if_neg (show ¬ ((i : Int) < (l.length : Int)) by omega)]
      refine Ev.ret ?_
      rw [show l.drop i = [] from List.drop_eq_nil_of_le (by omega)]
      simp [lines]
theorem scan_ev {l : List Int} (hb : Bytes l) (hl : l.length ≤ 1000000) : Ev (fun k => text_Scan.f k l) (lines 0 [] l, (l.length : Int), 0) := by
  have := scan_l0 hb hl l.length 0 [] (by omega) (by omega) (by simp)
  simpa [text_Scan.f] using this

theorem ref_scan_l0 {l : List Int} (hl : l.length ≤ 1000000) : ∀ (n f i : Nat) (out : List Piece), l.length - i ≤ n → f ≤ i → i ≤ l.length → out.length ≤ f →
    Ev (fun k => threshingref05_Scan.l0 k l out (f : Int) (i : Int)) (out ++ lines f ((l.take i).drop f) (l.drop i), (l.length : Int), 0) := by
  intro n
  induction n with
  | zero =>
    intro f i out h1 h2 h3 h4
    obtain rfl : i = l.length := by omega
    refine Ev.succ ?_
    simp only [threshingref05_Scan.l0, if_neg (show ¬ (((l.length : Nat) : Int) < (l.length : Int)) by omega)]
    rcases Nat.lt_or_ge f l.length with hf | hf
    · simp only [if_pos (show ((f : Int) < (l.length : Int)) by omega), if_pos (show (0 : Int) ≤ (f : Int) by omega), if_pos (show ((f : Int) ≤ (l.length : Int)) by omega), if_pos (show out.length < 4398046511104 by omega)]
      refine Ev.ret ?_
      have hne : l.drop f ≠ [] := by
        intro h0
        have := congrArg List.length h0
        simp at this
        omega
      simp [lines, hne, pc]
    · simp only [if_neg (show ¬ ((f : Int) < (l.length : Int)) by omega)]
      refine Ev.ret ?_
      obtain rfl : f = l.length := by omega
      simp [lines]
  | succ n ih =>
    intro f i out h1 h2 h3 h4
    rcases Nat.lt_or_ge i l.length with hi | hi
    · have hd : l.drop i = l[i] :: l.drop (i + 1) := List.drop_eq_getElem_cons hi
      have hr : rd l (i : Int) = l[i] := by rw [rd_nat, List.getD_eq_getElem?_getD, List.getElem?_eq_getElem hi]; rfl
      have ht : (l.take (i + 1)).drop f = (l.take i).drop f ++ [l[i]] := by
        rw [List.take_succ_eq_append_getElem hi, List.drop_append_of_le_length (by rw [List.length_take]; omega)]
      refine Ev.succ ?_
      simp only [threshingref05_Scan.l0, if_pos (show ((i : Int) < (l.length : Int)) by omega), if_pos (show (0 : Int) ≤ (i : Int) by omega), hr]
      by_cases hc : l[i] = 10
      · simp only [if_pos hc, if_pos (show (0 : Int) ≤ (f : Int) by omega), if_pos (show ((f : Int) ≤ (i : Int)) by omega), if_pos (show ((i : Int) ≤ (l.length : Int)) by omega), if_pos (show out.length < 4398046511104 by omega), wrap_succ (i := i) (by omega)]
        refine (ih (i + 1) (i + 1) (out ++ [pc (f : Int) ((l.take i).drop f)]) (by omega) (by omega) (by omega) (by simp; omega)).to ?_
        rw [hd, lines, if_pos hc]
        have : ((f : Int) + ((l.take i).drop f).length + 1) = ((i + 1 : Nat) : Int) := by
          rw [List.length_drop, List.length_take]
          omega
        rw [this]
        have h0 : (l.take (i + 1)).drop (i + 1) = [] := List.drop_eq_nil_of_le (by rw [List.length_take]; omega)
        rw [h0]
        simp [pc]
      · simp only [if_neg hc, wrap_succ (i := i) (by omega)]
        refine (ih f (i + 1) out (by omega) (by omega) (by omega) (by omega)).to ?_
        rw [hd, lines, if_neg hc, ht]
    · obtain rfl : i = l.length := by omega
      exact Ev.to (ih_end hl f out h4 h2) rfl
where
  ih_end {l : List Int} (hl : l.length ≤ 1000000) (f : Nat) (out : List Piece) (h4 : out.length ≤ f) (h2 : f ≤ l.length) :
      Ev (fun k => threshingref05_Scan.l0 k l out (f : Int) ((l.length : Nat) : Int)) (out ++ lines f ((l.take l.length).drop f) (l.drop l.length), (l.length : Int), 0) := by
    refine Ev.succ ?_
    simp only [threshingref05_Scan.l0, if_neg (show ¬ (((l.length : Nat) : Int) < (l.length : Int)) by omega)]
    rcases Nat.lt_or_ge f l.length with hf | hf
    · simp only [if_pos (show ((f : Int) < (l.length : Int)) by omega), if_pos (show (0 : Int) ≤ (f : Int) by omega), if_pos (show ((f : Int) ≤ (l.length : Int)) by omega), if_pos (show out.length < 4398046511104 by omega)]
      refine Ev.ret ?_
      have hne : l.drop f ≠ [] := by
        intro h0
        have := congrArg List.length h0
        simp at this
        omega
      simp [lines, hne, pc]
    · simp only [if_neg (show ¬ ((f : Int) < (l.length : Int)) by omega)]
      refine Ev.ret ?_
      obtain rfl : f = l.length := by omega
      simp [lines]
theorem ref_scan_ev {l : List Int} (hl : l.length ≤ 1000000) : Ev (fun k => threshingref05_Scan.f k l) (lines 0 [] l, (l.length : Int), 0) := by
  have := ref_scan_l0 hl l.length 0 0 [] (by omega) (by omega) (by omega) (by simp)
  simpa [threshingref05_Scan.f] using this

/-! ### writing -/
def lineB (r : List ByteArray) : Bool := match r with
  | [s] => decide (s.size ≤ 1000) && decide (10 ∉ bytesOf s)
  | _ => false
def joined (l : List (List ByteArray)) : List Int := l.flatMap fun r => bytesOf (r.headD ByteArray.empty) ++ [10]
theorem joined_cons (r : List ByteArray) (l : List (List ByteArray)) : joined (r :: l) = bytesOf (r.headD ByteArray.empty) ++ [10] ++ joined l := by simp [joined]
theorem joined_append (a b : List (List ByteArray)) : joined (a ++ b) = joined a ++ joined b := by simp [joined]
theorem isLine_eq (r : List ByteArray) (h : r.length ≤ 140737488351232) : text_isLine.f r = some (lineB r) := by
  unfold text_isLine.f
  match r with
  | [] => simp [lineB]
  | [s] =>
    simp only [List.length_singleton, show ((1 : Nat) : Int) = 1 from rfl, if_true, rdOf, Int.toNat_zero, List.getD_cons_zero, if_pos (show (0 : Int) < 1 by decide), SIB, Option.bind_some, idx_neg, lineB]
    by_cases h1 : s.size ≤ 1000
    · rw [if_pos (by omega)]; simp [h1]
    · rw [if_neg (by omega)]; simp [h1]
  | a :: b :: r =>
    rw [if_neg (by simp only [List.length_cons]; omega)]
    rfl
theorem head_of_line {r : List ByteArray} (h : lineB r = true) : ∃ s, r = [s] ∧ s.size ≤ 1000 ∧ 10 ∉ bytesOf s := by
  match r, h with
  | [s], h =>
    simp only [lineB, Bool.and_eq_true, decide_eq_true_eq] at h
    exact ⟨s, rfl, h⟩

theorem write_l0 (l : List (List ByteArray)) (hr : ∀ r ∈ l, r.length ≤ 140737488351232) (hl : l.length ≤ 1000000) : ∀ (n i : Nat) (acc : List Int), l.length - i ≤ n → i ≤ l.length → acc.length + (joined (l.drop i)).length ≤ 1000000 →
    Ev (fun k => text_Write.l0 k acc l (l.length : Int) (i : Int)) (if (l.drop i).all lineB = true then (acc ++ joined (l.drop i), 0) else ([], 10)) := by
  intro n
  induction n with
  | zero =>
    intro i acc h1 h2 h3
    refine Ev.succ ?_
    simp only [text_Write.l0, if_neg (show ¬ ((i : Int) < (l.length : Int)) by omega)]
    refine Ev.ret ?_
    rw [show l.drop i = [] from List.drop_eq_nil_of_le (by omega)]
    simp [joined]
  | succ n ih =>
    intro i acc h1 h2 h3
    rcases Nat.lt_or_ge i l.length with hi | hi
    · have hd : l.drop i = l[i] :: l.drop (i + 1) := List.drop_eq_getElem_cons hi
      refine Ev.succ ?_
      simp only [text_Write.l0, if_pos (show ((i : Int) < (l.length : Int)) by omega), if_pos (show (0 : Int) ≤ (i : Int) by omega), rd_L1_nat l i hi, isLine_eq l[i] (hr _ (List.getElem_mem hi)), Option.bind_some]
      by_cases hb : lineB l[i] = true
      · obtain ⟨s, es, hs, _⟩ := head_of_line hb
        have hj : (joined (l.drop i)).length = s.size + 1 + (joined (l.drop (i + 1))).length := by
          rw [hd, joined_cons, es]
          simp [len_bytes]
          omega
        have hb' : lineB [s] = true := es ▸ hb
        simp only [es, hb', if_true, List.length_singleton, if_pos (show (0 : Int) < ((1 : Nat) : Int) by decide), rdOf, Int.toNat_zero, List.getD_cons_zero,
          if_pos (show acc.length + s.size < 140737488355328 by omega), if_pos (show (acc ++ bytesOf s).length < 140737488355328 by rw [List.length_append, len_bytes]; omega), wrap_succ (i := i) (by omega)]
        refine (ih (i + 1) (acc ++ bytesOf s ++ [10]) (by omega) (by omega) (by simp only [List.length_append, List.length_singleton, len_bytes]; omega)).to ?_
        rw [hd, List.all_cons, hb, Bool.true_and, joined_cons, es]
        simp
      · simp only [if_neg hb]
        refine Ev.ret ?_
        rw [hd, List.all_cons]
        simp [hb]
    · refine Ev.succ ?_
      simp only [text_Write.l0, if_neg (show ¬ ((i : Int) < (l.length : Int)) by omega)]
      refine Ev.ret ?_
      rw [show l.drop i = [] from List.drop_eq_nil_of_le (by omega)]
      simp [joined]
def written (l : List (List ByteArray)) : List Int × Int := if l.all lineB = true then (joined l, 0) else ([], 10)
theorem joined_len (l : List (List ByteArray)) : l.length ≤ (joined l).length := by
  induction l with
  | nil => simp
  | cons r l ih =>
    rw [joined_cons]
    simp only [List.length_append, List.length_cons, List.length_nil]
    omega
theorem joined_le (l : List (List ByteArray)) : (joined l).length ≤ wl l + l.length := by
  induction l with
  | nil => simp [joined]
  | cons r l ih =>
    rw [joined_cons, wl_cons]
    simp only [List.length_append, List.length_cons, List.length_nil, len_bytes]
    have : (r.headD ByteArray.empty).size ≤ wr r := by
      match r with
      | [] => exact Nat.le_of_eq rfl
      | s :: r =>
        have := wr_cons s r
        show s.size ≤ _
        omega
    omega
theorem write_ev (l : List (List ByteArray)) (hr : ∀ r ∈ l, r.length ≤ 140737488351232) (hj : (joined l).length ≤ 1000000) : Ev (fun k => text_Write.f k l) (written l) := by
  have := write_l0 l hr (Nat.le_trans (joined_len l) hj) l.length 0 [] (by omega) (by omega) (by simpa using hj)
  simpa [text_Write.f, written] using this

theorem bt_get (s : ByteArray) (j : Nat) (h : j < (bytesOf s).length) : bt s (j : Int) = (bytesOf s)[j] := by
  rw [← rd_bytesOf, rd_nat, List.getD_eq_getElem?_getD, List.getElem?_eq_getElem h, Option.getD_some]
theorem ref_write_l1 (l : List (List ByteArray)) (acc : List Int) (i : Nat) (s : ByteArray) (R : List Int × Int) (hi : i < 1000000) (hs : acc.length + s.size ≤ 1000000)
    (h : 10 ∉ bytesOf s → Ev (fun k => threshingref05_Write.l0 k l (acc ++ bytesOf s ++ [10]) ((i + 1 : Nat) : Int)) R) (h' : 10 ∈ bytesOf s → R = ([], 10)) :
    ∀ (n j : Nat), s.size - j ≤ n → j ≤ s.size → 10 ∉ (bytesOf s).take j → Ev (fun k => threshingref05_Write.l1 k l acc (i : Int) s (j : Int)) R := by
  have fin : 10 ∉ bytesOf s → Ev (fun k => threshingref05_Write.l1 k l acc (i : Int) s (s.size : Int)) R := by
    intro hn
    refine Ev.succ ?_
    simp only [threshingref05_Write.l1, if_neg (show ¬ ((s.size : Int) < (s.size : Int)) by omega), if_pos (show acc.length + s.size < 140737488355328 by omega), Option.bind_some,
      if_pos (show (acc ++ bytesOf s).length < 140737488355328 by rw [List.length_append, len_bytes]; omega), wrap_succ (i := i) (by omega)]
    exact h hn
  have tk : (bytesOf s).take s.size = bytesOf s := List.take_of_length_le (by rw [len_bytes]; omega)
  intro n
  induction n with
  | zero =>
    intro j h1 h2 h3
    obtain rfl : j = s.size := by omega
    rw [tk] at h3
    exact fin h3
  | succ n ih =>
    intro j h1 h2 h3
    rcases Nat.lt_or_ge j s.size with hj | hj
    · have hjl : j < (bytesOf s).length := by rw [len_bytes]; exact hj
      obtain ⟨x, hb, hx, hmem, htk⟩ : ∃ x, bt s (j : Int) = x ∧ True ∧ x ∈ bytesOf s ∧ (bytesOf s).take (j + 1) = (bytesOf s).take j ++ [x] := ⟨_, bt_get s j hjl, trivial, List.getElem_mem hjl, List.take_succ_eq_append_getElem hjl⟩
      refine Ev.succ ?_
      simp only [threshingref05_Write.l1, if_pos (show ((j : Int) < (s.size : Int)) by omega), if_pos (show (0 : Int) ≤ (j : Int) by omega), hb]
      by_cases hc : x = 10
      · simp only [if_pos hc]
        exact Ev.ret (h' (hc ▸ hmem)).symm
      · simp only [if_neg hc, wrap_succ (i := j) (by omega)]
        refine ih (j + 1) (by omega) (by omega) ?_
        rw [htk]
        intro hm
        rcases List.mem_append.1 hm with hm | hm
        · exact h3 hm
        · exact hc (List.mem_singleton.1 hm).symm
    · obtain rfl : j = s.size := by omega
      rw [tk] at h3
      exact fin h3
theorem ref_write_l0 (l : List (List ByteArray)) (hr : ∀ r ∈ l, r.length ≤ 140737488351232) (hl : l.length ≤ 1000000) : ∀ (n i : Nat) (acc : List Int), l.length - i ≤ n → i ≤ l.length → acc.length + (joined (l.drop i)).length ≤ 1000000 →
    Ev (fun k => threshingref05_Write.l0 k l acc (i : Int)) (if (l.drop i).all lineB = true then (acc ++ joined (l.drop i), 0) else ([], 10)) := by
  have fin : ∀ (i : Nat) (acc : List Int), l.length ≤ i → Ev (fun k => threshingref05_Write.l0 k l acc (i : Int)) (if (l.drop i).all lineB = true then (acc ++ joined (l.drop i), 0) else ([], 10)) := by
    intro i acc h
    refine Ev.succ ?_
    simp only [threshingref05_Write.l0, if_neg (show ¬ ((i : Int) < (l.length : Int)) by omega)]
    refine Ev.ret ?_
    rw [show l.drop i = [] from List.drop_eq_nil_of_le (by omega)]
    simp [joined]
  intro n
  induction n with
  | zero =>
    intro i acc h1 h2 h3
    exact fin i acc (by omega)
  | succ n ih =>
    intro i acc h1 h2 h3
    rcases Nat.lt_or_ge i l.length with hi | hi
    · have hd : l.drop i = l[i] :: l.drop (i + 1) := List.drop_eq_getElem_cons hi
      refine Ev.succ ?_
      simp only [threshingref05_Write.l0, if_pos (show ((i : Int) < (l.length : Int)) by omega), if_pos (show (0 : Int) ≤ (i : Int) by omega), rd_L1_nat l i hi]
      have bad : ∀ b : Bool, b = true → lineB l[i] = false → Ev (fun k => threshingref05_Write.j1 k l acc (i : Int) b) (if (l.drop i).all lineB = true then (acc ++ joined (l.drop i), 0) else ([], 10)) := by
        intro b hb hf
        refine Ev.succ ?_
        simp only [threshingref05_Write.j1, if_pos hb]
        refine Ev.ret ?_
        rw [hd, List.all_cons, hf]
        simp
      by_cases h1' : l[i].length = 1
      · obtain ⟨s, es⟩ : ∃ s, l[i] = [s] := by
          match hq : l[i], h1' with
          | [s], _ => exact ⟨s, rfl⟩
        simp only [es, List.length_singleton, if_pos (show ((1 : Nat) : Int) = 1 from rfl), if_pos (show (0 : Int) < ((1 : Nat) : Int) by decide), rdOf, Int.toNat_zero, List.getD_cons_zero]
        by_cases hbig : s.size ≤ 1000
        · have hj : (joined (l.drop i)).length = s.size + 1 + (joined (l.drop (i + 1))).length := by
            rw [hd, joined_cons, es]
            simp [len_bytes]
            omega
          simp only [decide_eq_false (show ¬ ((s.size : Int) > 1000) by omega)]
          refine Ev.succ ?_
          simp only [threshingref05_Write.j1, Bool.false_eq_true, if_false, if_pos (show ((i : Int) < (l.length : Int)) by omega), if_pos (show (0 : Int) ≤ (i : Int) by omega), rd_L1_nat l i hi, es, List.length_singleton, if_pos (show (0 : Int) < ((1 : Nat) : Int) by decide), rdOf, Int.toNat_zero, List.getD_cons_zero]
          refine ref_write_l1 l acc i s _ (by omega) (by omega) (fun hn => ?_) (fun hm => ?_) s.size 0 (by omega) (by omega) (by simp)
          · refine (ih (i + 1) (acc ++ bytesOf s ++ [10]) (by omega) (by omega) (by simp only [List.length_append, List.length_singleton, len_bytes]; omega)).to ?_
            have hb : lineB l[i] = true := by rw [es]; simp [lineB, hbig, hn]
            rw [hd, List.all_cons, hb, Bool.true_and, joined_cons, es]
            simp
          · have hb : lineB l[i] = false := by rw [es]; simp [lineB, hm]
            rw [hd, List.all_cons, hb]
            simp
        · simp only [decide_eq_true (show ((s.size : Int) > 1000) by omega)]
          exact bad true rfl (by rw [es]; simp [lineB, hbig])
      · simp only [if_neg (show ¬ ((l[i].length : Int) = 1) by omega)]
        refine bad true rfl ?_
        cases hb : lineB l[i] with
        | false => rfl
        | true =>
          obtain ⟨s, es, _⟩ := head_of_line hb
          rw [es] at h1'
          exact absurd rfl h1'
    · exact fin i acc hi
theorem ref_write_ev (l : List (List ByteArray)) (hr : ∀ r ∈ l, r.length ≤ 140737488351232) (hj : (joined l).length ≤ 1000000) : Ev (fun k => threshingref05_Write.f k l) (written l) := by
  have := ref_write_l0 l hr (Nat.le_trans (joined_len l) hj) l.length 0 [] (by omega) (by omega) (by simpa using hj)
  simpa [threshingref05_Write.f, written] using this

theorem alive_ev : Ev (fun k => threshinglaw05_alive.f k) true := by
  refine Ev.at_k 20 (threshinglaw05_alive.mono) ?_
  kernel_rfl
end Go.Proofs.YtbfjhgpeidibhaaL
