/- Figures of a number, read again; value.Do over one and two numbers. -/
import Derived.Test.YtejmgcfjpofniaaDoorLOps
set_option linter.unusedVariables false
set_option linter.unusedSimpArgs false
namespace Go.Proofs.YtejmgcfjpofniaaDoorL
open Go.RowKit Go.Proofs Go.Proofs.YtejmgcfjpofniaaDoor Go.Proofs.YtejmgcfjpofniaaDoor.PX Go.Proofs.YtejmgcfjpofniaaDoorW.PrintWords
theorem decFrom_app : ∀ (l r : List UInt8) (a : Nat), Lib.decFrom a (l ++ r) = (Lib.decFrom a l).bind fun m => Lib.decFrom m r
  | [], r, a => rfl
  | b :: l, r, a => by
    rw [List.cons_append, Lib.decFrom, Lib.decFrom]
    rcases Lib.digitVal b with _ | d
    · rfl
    · exact decFrom_app l r _
theorem dig_fin : ∀ n : Fin 10, Lib.digitVal (UInt8.ofNat (48 + n.val)) = some n.val ∧ dig (UInt8.ofNat (48 + n.val)) = true := by decide +kernel
theorem dig_of {n : Nat} (h : n < 10) : Lib.digitVal (UInt8.ofNat (48 + n)) = some n ∧ dig (UInt8.ofNat (48 + n)) = true := dig_fin ⟨n, h⟩
theorem dd (u : Nat) : Lib.decFrom 0 (Lib.decDigits u) = some u ∧ (Lib.decDigits u).all dig = true ∧ Lib.decDigits u ≠ [] ∧ ∀ m, 1 ≤ m → u < 10 ^ m → (Lib.decDigits u).length ≤ m := by
  induction u using Nat.strongRecOn with
  | ind u ih =>
    rw [Lib.decDigits]
    by_cases h : u < 10
    · rw [dif_pos h]
      obtain ⟨h1, h2⟩ := dig_of h
      refine ⟨?_, ?_, by simp, fun m hm _ => by simpa using hm⟩
      · rw [Lib.decFrom, h1]
        simp [Lib.decFrom]
      · simp only [List.all_cons, h2, List.all_nil, Bool.and_self]
    · rw [dif_neg h]
      obtain ⟨e1, e2, e3, e4⟩ := ih (u / 10) (by omega)
      obtain ⟨h1, h2⟩ := dig_of (show u % 10 < 10 by omega)
      refine ⟨?_, ?_, by simp, fun m hm hu => ?_⟩
      · rw [decFrom_app, e1, Option.bind_some, Lib.decFrom, h1]
        simp only [Lib.decFrom, Option.some.injEq]
        omega
      · simp only [List.all_append, e2, List.all_cons, h2, List.all_nil, Bool.and_self]
      · obtain ⟨m, rfl⟩ : ∃ q, m = q + 1 := ⟨m - 1, by omega⟩
        have hm1 : 1 ≤ m := by
          rcases m with _ | m
          · simp at hu
            omega
          · omega
        have := e4 m hm1 (by rw [Nat.pow_succ] at hu; omega)
        simp
        omega
theorem dd_ok {u : Nat} (h : u < 1000000000000000000) : okL (Lib.decDigits u) = true ∧ magL (Lib.decDigits u) = (u : Int) ∧ (Lib.decDigits u).head? ≠ some 45 := by
  obtain ⟨h1, h2, h3, h4⟩ := dd u
  refine ⟨?_, ?_, ?_⟩
  · have := h4 18 (by omega) (by omega)
    simp [okL, h2, h3, this]
  · unfold magL
    rw [h1]
    rfl
  · rcases hl : Lib.decDigits u with _ | ⟨b, l⟩
    · exact absurd hl h3
    · rw [hl] at h2
      simp only [List.all_cons, Bool.and_eq_true] at h2
      intro e
      injection e with e
      subst e
      exact absurd h2.1 (by decide)
theorem number_itoa {n : Int} (h0 : -1000000000000000000 < n) (h1 : n < 1000000000000000000) : numberL (Lib.itoa n) = n := by
  unfold numberL Lib.itoa
  by_cases c : n < 0
  · rw [if_pos c]
    obtain ⟨e1, e2, e3⟩ := dd_ok (u := n.natAbs) (by omega)
    simp only [List.head?_cons, if_true, List.tail_cons, e1, e2]
    omega
  · rw [if_neg c]
    obtain ⟨e1, e2, e3⟩ := dd_ok (u := n.toNat) (by omega)
    rw [if_neg e3, if_pos e1, e2]
    omega
theorem clip_small {s : ByteArray} (h : s.size ≤ 1000) : clip s = s := by
  unfold clip
  have e : (mn (s.size : Int) 1000).toNat = s.size := by
    unfold mn
    split <;> omega
  rw [e]
  exact ByteArray.extract_zero_size
theorem itoa_small (n : Int) (h0 : -9223372036854775808 ≤ n) (h1 : n ≤ 9223372036854775807) : (itoaS n).size ≤ 21 := by
  have := Lib.itoa_length_le n h0 h1
  show (Lib.itoa n).toArray.size ≤ 21
  simpa using this
theorem any_num (a b : Int) : ¬ ([numV a, numV b] : List XOps.Sv).any (fun x => !XOps.isValB x) = true := by simp [num_val]
theorem any_num1 (a : Int) : ¬ ([numV a] : List XOps.Sv).any (fun x => !XOps.isValB x) = true := by simp [num_val]
theorem any_text1 (s : ByteArray) : ¬ ([textV s] : List XOps.Sv).any (fun x => !XOps.isValB x) = true := by simp [text_val]
theorem doV_of {o : Int} {l : List XOps.Sv} {b : Bool} (h1 : ¬ l.any (fun x => !XOps.isValB x) = true) (h2 : XOps.resultF o (l.map (·.f0)) = (b, 0)) {r : XOps.Sv} (h3 : opV o (l.getD 0 XOps.zv) (l.getD 1 XOps.zv) (l.getD 2 XOps.zv) = r) : doV o l = (r.f0, r.f1, r.f2, 0) := by
  subst h3
  unfold doV
  rw [if_neg h1, h2, if_neg (by simp)]
end Go.Proofs.YtejmgcfjpofniaaDoorL
