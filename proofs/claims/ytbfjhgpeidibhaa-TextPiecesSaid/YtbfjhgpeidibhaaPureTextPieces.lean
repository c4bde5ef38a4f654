/- The pure statement of TextPieces: a file's lines, each with a byte 10 behind, are the file, or the file and a byte 10; each begins where the one ahead ends. -/
import Derived.Test.YtbfjhgpeidibhaaPXx7
import Derived.Test.YtbfjhgpeidibhaaLText2
namespace Go.Proofs.Ytbfjhgpeidibhaa.Pure
open Go.RowKit Go.Proofs.Ytbfjhgpeidibhaa.PX Go.Proofs.YtbfjhgpeidibhaaW.PrintWords Go.Proofs.YtbfjhgpeidibhaaL
/-- Lines in a row: each begins where those ahead end. -/
def chain : Int → List Piece → Prop
  | _, [] => True
  | n, p :: l => (∃ q, p = pc n q) ∧ chain (n + (joined p.f1).length) l
theorem chain_lines : ∀ (s : List Int) (a : Int) (acc : List Int), Bytes s → Bytes acc → chain a (lines a acc s) := by
  intro s
  induction s with
  | nil =>
    intro a acc _ _
    rw [lines]
    split
    · trivial
    · exact ⟨⟨acc, rfl⟩, trivial⟩
  | cons c s ih =>
    intro a acc hs hacc
    have hs' : Bytes s := fun x hx => hs x (List.mem_cons_of_mem _ hx)
    rw [lines]
    split
    · refine ⟨⟨acc, rfl⟩, ?_⟩
      have e : a + ((joined (pc a acc).f1).length : Int) = a + acc.length + 1 := by
        simp [joined, pc, bytes_str hacc]
        omega
      rw [e]
      exact ih _ _ hs' Bytes.nil
    · exact ih _ _ hs' (hacc.append (Bytes.cons (hs c List.mem_cons_self) Bytes.nil))
theorem pieces_law_l0 (l : List Int) (X : List Piece) (hX : X.length ≤ 1000000) (R : Bool) (h : Ev (fun k => threshinglaw05_TextPieces.l0 k l X 0 (joined (recs X)) (X.length : Int)) R) :
    ∀ (j i : Nat) (again : List Int), X.length - i ≤ j → i ≤ X.length → chain again.length (X.drop i) → again ++ joined (recs (X.drop i)) = joined (recs X) → (joined (recs X)).length ≤ 1000000 → Ev (fun k => threshinglaw05_TextPieces.l0 k l X 0 again (i : Int)) R := by
  have fin : ∀ (i : Nat) (again : List Int), X.length = i → again ++ joined (recs (X.drop i)) = joined (recs X) → Ev (fun k => threshinglaw05_TextPieces.l0 k l X 0 again (i : Int)) R := by
    intro i again h1 h4
    subst h1
    rw [List.drop_length] at h4
    have : again = joined (recs X) := by rw [← h4]; simp [recs, joined]
    rw [this]
    exact h
  intro j
  induction j with
  | zero => intro i again h1 h2 _ h4 _; exact fin i again (by omega) h4
  | succ j ih =>
    intro i again h1 h2 h3 h4 h5
    rcases Nat.lt_or_ge i X.length with hi | hi
    · have hd : X.drop i = X[i] :: X.drop (i + 1) := List.drop_eq_getElem_cons hi
      rw [hd] at h3 h4
      obtain ⟨⟨q, hq⟩, h3⟩ := h3
      rw [recs_cons, joined_append] at h4
      have hlen := congrArg List.length h4
      simp only [List.length_append] at hlen
      have e1 : joined X[i].f1 = bytesOf (strOfNums q) ++ [10] := by rw [hq]; simp [joined, pc]
      rw [e1] at h3 h4 hlen
      simp only [List.length_append, List.length_cons, List.length_nil, len_bytes] at h3 hlen
      refine Ev.succ ?_
      have g0 : (pc (again.length : Int) q).f0 = (again.length : Int) := rfl
      have g1 : (pc (again.length : Int) q).f1 = [[strOfNums q]] := rfl
      have g2 : rd_L1 [[strOfNums q]] 0 = [strOfNums q] := rfl
      have g3 : rdOf ByteArray.empty [strOfNums q] 0 = strOfNums q := rfl
      simp only [threshinglaw05_TextPieces.l0, if_pos (show ((i : Int) < (X.length : Int)) by omega), if_pos (show (0 : Int) ≤ (i : Int) by omega), rd_T_nat X i hi, hq, g0, g1, g2, g3, if_true, List.length_singleton,
        if_pos (show ((1 : Nat) : Int) = 1 from rfl), if_pos (show (0 : Int) < ((1 : Nat) : Int) by decide), if_pos (show again.length + (strOfNums q).size < 140737488355328 by omega), Option.bind_some,
        if_pos (show (again ++ bytesOf (strOfNums q)).length < 140737488355328 by rw [List.length_append, len_bytes]; omega), wrap_succ (i := i) (by omega)]
      refine ih (i + 1) (again ++ bytesOf (strOfNums q) ++ [10]) (by omega) (by omega) ?_ ?_ h5
      · simp only [List.length_append, List.length_cons, List.length_nil, len_bytes]
        have e2 : ((again.length + (strOfNums q).size + (0 + 1) : Nat) : Int) = (again.length : Int) + (((strOfNums q).size + (0 + 1) : Nat) : Int) := by omega
        rw [e2]
        exact h3
      · rw [← h4]
        simp
    · exact fin i again (by omega) h4
theorem TextPieces : threshinglaw05_TextPieces.Pure := by
  intro l h
  have hb : Bytes l := Bytes.of_wf h.2
  refine Ev.rounds ?_
  by_cases hc : (l.length : Int) > 2000
  · simp only [threshinglaw05_TextPieces.f, if_pos hc]
    refine Ev.bind alive_ev ?_
    exact Ev.ret rfl
  · have hl : l.length ≤ 1000000 := by omega
    have hn := lines_len l 0 []
    simp only [List.length_nil] at hn
    have hj := joined_lines hb 0 [] Bytes.nil
    rw [List.nil_append] at hj
    simp only [threshinglaw05_TextPieces.f, if_neg hc]
    refine Ev.bind (scan_ev hb hl) ?_
    dsimp only
    refine pieces_law_l0 l _ (by omega) true ?_ (lines 0 [] l).length 0 [] (by omega) (by omega) (chain_lines l 0 [] hb Bytes.nil) (by simp) (by rw [hj]; split <;> (try simp only [List.length_append, List.length_singleton]) <;> omega)
    refine Ev.succ ?_
    simp only [threshinglaw05_TextPieces.l0, if_neg (show ¬ (((lines 0 [] l).length : Int) < ((lines 0 [] l).length : Int)) by omega), canon_eq l hl, Option.bind_some]
    by_cases hcn : (decide (l.length = 0) || decide (l.getD (l.length - 1) 0 = 10)) = true
    · simp only [if_pos hcn]
      refine Ev.bind alive_ev ?_
      simp only [if_true]
      refine Ev.ret ?_
      have : joined (recs (lines 0 [] l)) = l := by
        rw [hj]
        simp only [Bool.or_eq_true, decide_eq_true_eq] at hcn
        by_cases hne : l = []
        · rw [if_pos (.inl hne)]
        · rw [if_pos (.inr ⟨hcn.resolve_left (fun h0 => hne (List.eq_nil_of_length_eq_zero h0)), hne⟩)]
      rw [this]
      simp
    · simp only [if_neg hcn]
      refine Ev.bind alive_ev ?_
      simp only [if_true, if_pos (show (strOfNums l).size + 1 ≤ 9223372036854775807 by rw [size_str]; omega)]
      refine Ev.ret ?_
      have : joined (recs (lines 0 [] l)) = l ++ [10] := by
        rw [hj]
        simp only [Bool.or_eq_true, decide_eq_true_eq] at hcn
        rw [if_neg]
        rintro (h0 | h0)
        · exact hcn (.inl (by rw [h0]; rfl))
        · exact hcn (.inr h0.1)
      rw [this]
      have e : strOfNums (l ++ [10]) = strOfNums l ++ (⟨#[10]⟩ : ByteArray) := by
        refine bytes_inj ?_
        rw [bytes_str (hb.append (Bytes.cons (by omega) Bytes.nil))]
        have : bytesOf (strOfNums l ++ (⟨#[10]⟩ : ByteArray)) = bytesOf (strOfNums l) ++ [10] := by
          simp [bytesOf, ByteArray.data_append]
        rw [this, bytes_str hb]
      rw [e]
      simp
end Go.Proofs.Ytbfjhgpeidibhaa.Pure
