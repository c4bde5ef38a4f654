/- The pure statement of TextScan: the pieces of any file, whether it is canonical, and whether a line begins at any place, are as the document says. -/
import Derived.Test.YtbfjhgpeidibhaaPXx10
import Derived.Test.YtbfjhgpeidibhaaLText2
namespace Go.Proofs.Ytbfjhgpeidibhaa.Pure
open Go.RowKit Go.Proofs.Ytbfjhgpeidibhaa.PX Go.Proofs.YtbfjhgpeidibhaaW.PrintWords Go.Proofs.YtbfjhgpeidibhaaL
theorem scan_law_l0 (l : List Int) (a : Int) (own : List Int) (X : List Piece) (n e : Int) (Y : List Piece) (m f : Int) (hY : Y.length ≤ 1000000) (R : Bool)
    (h : ∀ b : Bool, b = Y.any (fun p => p.f0 == a) → Ev (fun k => threshinglaw05_TextScan.l0 k l a own X n e Y m f b (Y.length : Int)) R) :
    ∀ (j i : Nat) (b : Bool), Y.length - i ≤ j → i ≤ Y.length → b = (Y.take i).any (fun p => p.f0 == a) → Ev (fun k => threshinglaw05_TextScan.l0 k l a own X n e Y m f b (i : Int)) R := by
  intro j
  induction j with
  | zero =>
    intro i b h1 h2 h3
    obtain rfl : i = Y.length := by omega
    rw [List.take_length] at h3
    exact h b h3
  | succ j ih =>
    intro i b h1 h2 h3
    rcases Nat.lt_or_ge i Y.length with hi | hi
    · have ht : (Y.take (i + 1)).any (fun p => p.f0 == a) = (b || (Y[i].f0 == a)) := by
        rw [List.take_succ_eq_append_getElem hi, List.any_append, ← h3]
        simp
      refine Ev.succ ?_
      simp only [threshinglaw05_TextScan.l0, if_pos (show ((i : Int) < (Y.length : Int)) by omega), if_pos (show (0 : Int) ≤ (i : Int) by omega), rd_T_nat Y i hi, wrap_succ (i := i) (by omega)]
      cases b with
      | true => simp only [if_true]; exact ih (i + 1) true (by omega) (by omega) (by rw [ht]; rfl)
      | false => simp only [Bool.false_eq_true, if_false]; exact ih (i + 1) _ (by omega) (by omega) (by rw [ht]; rfl)
    · obtain rfl : i = Y.length := by omega
      rw [List.take_length] at h3
      exact h b h3
theorem TextScan : threshinglaw05_TextScan.Pure := by
  intro l a h ha
  have hb : Bytes l := Bytes.of_wf h.2
  refine Ev.rounds ?_
  by_cases hc : (l.length : Int) > 2000
  · simp only [threshinglaw05_TextScan.f, if_pos hc]
    refine Ev.bind alive_ev ?_
    exact Ev.ret rfl
  · have hl : l.length ≤ 1000000 := by omega
    have hn := lines_len l 0 []
    simp only [List.length_nil] at hn
    simp only [threshinglaw05_TextScan.f, if_neg hc, Option.bind_some, List.length_nil, if_pos (show 0 + l.length < 140737488355328 by omega), List.nil_append]
    refine Ev.bind (scan_ev hb hl) ?_
    refine Ev.bind (ref_scan_ev hl) ?_
    dsimp only
    refine scan_law_l0 l a l _ _ _ _ _ _ (by omega) true (fun b hb' => ?_) (lines 0 [] l).length 0 false (by omega) (by omega) (by simp)
    refine Ev.succ ?_
    simp only [threshinglaw05_TextScan.l0, if_neg (show ¬ (((lines 0 [] l).length : Int) < ((lines 0 [] l).length : Int)) by omega)]
    have hst : text_Starts.f l a = some b := by
      by_cases h0 : a < 0
      · rw [starts_neg l h0, hb']
        congr 1
        symm
        rw [List.any_eq_false]
        intro p hp
        have := (lines_ge l 0 p hp).1
        simp
        omega
      · obtain ⟨i, rfl⟩ := Int.eq_ofNat_of_zero_le (show 0 ≤ a by omega)
        rw [starts_eq l hl, hb']
        congr 1
        rw [Bool.eq_iff_iff, List.any_eq_true]
        constructor
        · intro hs
          obtain ⟨p, hp, hf⟩ := starts_lines hs
          exact ⟨p, hp, by simp [hf]⟩
        · rintro ⟨p, hp, hf⟩
          obtain ⟨m, hm, hs⟩ := lines_starts hp
          simp only [beq_iff_eq] at hf
          obtain rfl : m = i := by omega
          exact hs
    have fin : ∀ c : Bool, c = (decide (l.length = 0) || decide (l.getD (l.length - 1) 0 = 10)) → Ev (fun k => threshinglaw05_TextScan.j1 k l a l (lines 0 [] l) (l.length : Int) 0 (lines 0 [] l) (l.length : Int) 0 b c) true := by
      intro c hc'
      refine Ev.succ ?_
      simp only [threshinglaw05_TextScan.j1]
      refine Ev.bind alive_ev ?_
      simp only [if_true]
      refine Ev.bind (pieces_ev (by omega) (fun p hp => ?_)) ?_
      · obtain ⟨i, q, rfl⟩ := lines_one hp
        exact ⟨by simp [pc], fun r hr => by simp only [pc, List.mem_singleton] at hr; subst hr; simp⟩
      · simp only [if_true, canon_eq l hl, Option.bind_some, hst, ← hc', beq_self_eq_true]
        exact Ev.ret rfl
    by_cases h0 : l.length = 0
    · simp only [if_pos (show (l.length : Int) = 0 by omega)]
      exact fin true (by simp [h0])
    · simp only [if_neg (show ¬ (l.length : Int) = 0 by omega), wrap_nat (n := l.length - 1) (show (l.length : Int) - 1 = ((l.length - 1 : Nat) : Int) by omega) (by omega), if_pos (show (0 : Int) ≤ ((l.length - 1 : Nat) : Int) by omega), if_pos (show ((l.length - 1 : Nat) : Int) < (l.length : Int) by omega), rd_nat]
      refine fin _ ?_
      simp only [h0, decide_false, Bool.false_or]
      rw [Bool.eq_iff_iff]
      simp
end Go.Proofs.Ytbfjhgpeidibhaa.Pure
