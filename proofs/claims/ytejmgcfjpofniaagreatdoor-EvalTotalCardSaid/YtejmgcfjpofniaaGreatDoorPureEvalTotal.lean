/- The pure statement of EvalTotal. -/
import Derived.Test.YtejmgcfjpofniaaGreatDoorPXx
import Derived.Test.YtejmgcfjpofniaaGreatDoorLAll
set_option linter.unusedVariables false
set_option linter.unusedSimpArgs false
namespace Go.Proofs.YtejmgcfjpofniaaGreatDoor.Pure
open Go.RowKit Go.Proofs Go.Proofs.YtejmgcfjpofniaaGreatDoor Go.Proofs.YtejmgcfjpofniaaGreatDoor.PX Go.Proofs.YtejmgcfjpofniaaGreatDoorW.PrintWords Go.Proofs.YtejmgcfjpofniaaGreatDoorL Go.Proofs.YtejmgcfjpofniaaGreatDoor.XCheck
/-! ### the fuel that a run takes -/
def takesV (r : List ByteArray) (fold : List Sv) : List Ins → List Sv → Int
  | [], s => 0
  | x :: p, s => XEval.costP s x.f0 + takesV r fold p (s.take (s.length - (XOps.arityF x.f0).toNat) ++ [picV r fold s x])
def endV (r : List ByteArray) (fold : List Sv) : List Ins → List Sv → List Sv
  | [], s => s
  | x :: p, s => endV r fold p (s.take (s.length - (XOps.arityF x.f0).toNat) ++ [picV r fold s x])
theorem cost_pos (s : List Sv) (o : Int) : 1 ≤ XEval.costP s o := by
  unfold XEval.costP
  have := XEval.tot_nonneg (s.drop (s.length - (XOps.arityF o).toNat))
  omega
theorem takes_ge (r : List ByteArray) (fold : List Sv) : ∀ (p : List Ins) (s : List Sv), (p.length : Int) ≤ takesV r fold p s
  | [], s => by simp [takesV]
  | x :: p, s => by
    have := takes_ge r fold p (s.take (s.length - (XOps.arityF x.f0).toNat) ++ [picV r fold s x])
    have := cost_pos s x.f0
    simp only [takesV, List.length_cons]
    omega
theorem run_takes (r : List ByteArray) (fold : List Sv) : ∀ (p : List Ins) (s : List Sv) (u : Int), (takesV r fold p s ≤ u → runV r fold p s u = (endV r fold p s, u - takesV r fold p s, 0)) ∧ (u < takesV r fold p s → (runV r fold p s u).2.2 = 12 ∨ p = [])
  | [], s, u => ⟨fun h => by simp [runV, endV, takesV], fun h => .inr rfl⟩
  | x :: p, s, u => by
    have hc := cost_pos s x.f0
    have hg := takes_ge r fold p (s.take (s.length - (XOps.arityF x.f0).toNat) ++ [picV r fold s x])
    obtain ⟨h1, h2⟩ := run_takes r fold p (s.take (s.length - (XOps.arityF x.f0).toNat) ++ [picV r fold s x]) (u - XEval.costP s x.f0)
    simp only [takesV, endV]
    refine ⟨fun h => ?_, fun h => .inl ?_⟩
    · unfold runV
      rw [if_neg (by omega), h1 (by omega)]
      congr 2
      omega
    · unfold runV
      by_cases c : XEval.costP s x.f0 > u
      · rw [if_pos c]
      · rw [if_neg c]
        rcases h2 (by omega) with h | h
        · exact h
        · subst h
          simp only [takesV] at h
          omega
theorem cost_le {s : List Sv} {o : Int} (hs : ∀ v ∈ s, Val1 v) (ha : XOps.arityF o ≤ (s.length : Int)) : XEval.costP s o ≤ 65 := by
  unfold XEval.costP
  have h3 := arity_le o
  have hlen : (s.drop (s.length - (XOps.arityF o).toNat)).length ≤ 3 := by rw [List.length_drop]; omega
  have key : ∀ l : List Sv, (∀ v ∈ l, Val1 v) → XEval.tot l ≤ 1000 * (l.length : Int) := fun l => by
    induction l with
    | nil => intro _; simp [XEval.tot]
    | cons v l ih =>
      intro h
      have h1 := ih fun w hw => h w (List.mem_cons_of_mem _ hw)
      have h2 := isVal_size (h v List.mem_cons_self).1
      simp only [XEval.tot, List.length_cons]
      omega
  have := key (s.drop (s.length - (XOps.arityF o).toNat)) fun v hv => hs v (List.mem_of_mem_drop hv)
  omega
theorem takes_le (r : List ByteArray) (hr : r.length ≤ 140737488351232) : ∀ (p : List Ins) (i : Nat) (s : List Sv) (m : Int), (∀ x ∈ p, I64 x.f1) → (∀ v ∈ s, Val1 v) → s.length ≤ 30 → (runP May [] p i (s.map (·.f0), m)).2.2 = 0 → takesV r [] p s ≤ 65 * (p.length : Int)
  | [], i, s, m, hp, hs, hl, h => by simp [takesV]
  | x :: p, i, s, m, hp, hs, hl, h => by
    rcases hm : May x with _ | _
    · rw [run_no hm] at h; cases h
    by_cases h2 : (stepP [] (s.map (·.f0), m) x.f0).2 = 0
    · rw [run_go hm h2] at h
      obtain ⟨ha, hv, hk, _⟩ := one_step TX_ DO_ r hr [] (.inl rfl) (by simp) s hs hl x hm (hp x List.mem_cons_self) m h2
      have hlen := stepP_len (fold := []) (x := (s.map (·.f0), m)) (o := x.f0) (by simpa using hl)
      have hk' : (s.take (s.length - (XOps.arityF x.f0).toNat) ++ [picV r [] s x]).map (·.f0) = (stepP [] (s.map (·.f0), m) x.f0).1.1 := hk
      rw [← hk', List.length_map] at hlen
      have hvs : ∀ v ∈ s.take (s.length - (XOps.arityF x.f0).toNat) ++ [picV r [] s x], Val1 v := fun v hv' => by
        rcases List.mem_append.1 hv' with h | h
        · exact hs v (List.mem_of_mem_take h)
        · rw [List.mem_singleton.1 h]; exact hv
      have e : (stepP [] (s.map (·.f0), m) x.f0).1 = ((s.take (s.length - (XOps.arityF x.f0).toNat) ++ [picV r [] s x]).map (·.f0), (stepP [] (s.map (·.f0), m) x.f0).1.2) := by rw [hk']
      rw [e] at h
      have ih := takes_le r hr p (i + 1) (s.take (s.length - (XOps.arityF x.f0).toNat) ++ [picV r [] s x]) _ (fun y hy => hp y (List.mem_cons_of_mem _ hy)) hvs hlen h
      have hc := cost_le hs ha
      simp only [takesV, List.length_cons]
      omega
    · rw [run_bad hm h2] at h; exact absurd h h2
theorem EvalTotal : threshinglaw16_EvalTotal.Pure := by
  intro p r more hp hr hmore
  have hm : 0 ≤ more ∧ more ≤ 65535 := by simpa [Lit.wf, IntKind.min, IntKind.max, IntKind.signed, IntKind.bits] using hmore
  have hpn : ∀ x ∈ p, I64 x.f1 := fun x hx => wf_i64 (hp.2 x hx).2.1
  have hrl : r.length ≤ 140737488351232 := by have := hr.1; omega
  obtain ⟨b, hb⟩ := small_ev p r hrl
  refine Ev.rounds ?_
  unfold threshinglaw16_EvalTotal.f
  refine Ev.bind hb ?_
  cases b
  · simp only [Bool.false_eq_true, if_false]
    exact Ev.bind alive16 (Ev.now _)
  simp only [if_true]
  refine Ev.bind (rstack p [] (by simp)) ?_
  by_cases c : (stackP May p []).2.2 = 0
  · obtain ⟨hl, _, hrun, hst⟩ := stack_go c
    simp only [if_pos c]
    have hT := takes_le r hrl p 0 [] 0 hpn (by simp) (by decide) hrun
    have hG := takes_ge r [] p []
    obtain ⟨N, hN⟩ : ∃ N : Int, takesV r [] p [] = N := ⟨_, rfl⟩
    rw [hN] at hT hG
    have hw1 : wrap64 (65 * (p.length : Int)) = 65 * (p.length : Int) := by unfold wrap64; omega
    have hw2 : wrap64 more = more := by unfold wrap64; omega
    have hw3 : wrap64 (65 * (p.length : Int) + more) = 65 * (p.length : Int) + more := by unfold wrap64; omega
    have out : ∀ u : Int, N ≤ u → outV r p u = (endV r [] p [], u - N, 0) := fun u hu => by
      unfold outV
      rw [if_pos c, (run_takes r [] p [] u).1 (by rw [hN]; exact hu), if_pos rfl, hN]
    have hend : (∀ v ∈ endV r [] p [], Val1 v) ∧ (endV r [] p []).map (·.f0) = (stackP May p []).1 := by
      have h1 := (run_takes r [] p [] N).1 (by rw [hN]; exact Int.le_refl _)
      have := out_len (u := N) hpn hrl c (by rw [h1])
      rw [h1] at this
      exact this
    have hlen : (endV r [] p []).length = (stackP May p []).1.length := by rw [← hend.2, List.length_map]
    have hsm : (endV r [] p []).length ≤ 30 := by rw [hlen]; exact stack_len p []
    simp only [hw1, hw2, hw3]
    refine Ev.bind (run_f p r _ hpn hrl (by unfold I64; omega)) ?_
    refine Ev.bind (run_f p r _ hpn hrl (by unfold I64; omega)) ?_
    rw [out (65 * (p.length : Int)) hT, out (65 * (p.length : Int) + more) (by omega)]
    simp only [if_true]
    refine Ev.bind (same_refl _ (by omega)) ?_
    have hw4 : wrap64 (65 * (p.length : Int) - N + more) = 65 * (p.length : Int) + more - N := by unfold wrap64; omega
    have hw5 : wrap64 (65 * (p.length : Int) - (65 * (p.length : Int) - N)) = N := by unfold wrap64; omega
    have hw6 : wrap64 (N - 1) = N - 1 := by unfold wrap64; omega
    have h7 : ((endV r [] p []).length : Int) = ((stackP May p []).1.length : Int) := by rw [hlen]
    have h8 : decide (65 * (p.length : Int) - N < 0) = false := decide_eq_false (by omega)
    simp only [if_true, hw4, if_pos h7, h8]
    -- the end of the law's loop
    have fin : Ev (fun k => threshinglaw16_EvalTotal.l0 k p r (stackP May p []).1 (65 * (p.length : Int)) (endV r [] p []) (65 * (p.length : Int) - N) (((endV r [] p []).length : Nat) : Int)) true := by
      refine Ev.succ ?_
      simp only [threshinglaw16_EvalTotal.l0, if_neg (show ¬ (((endV r [] p []).length : Nat) : Int) < (((endV r [] p []).length : Nat) : Int) by omega), hw5, hw6]
      refine Ev.bind (run_f p r N hpn hrl (by unfold I64; omega)) ?_
      refine Ev.bind (run_f p r (N - 1) hpn hrl (by unfold I64; omega)) ?_
      refine Ev.bind alive16 ?_
      rw [out N (Int.le_refl _)]
      simp only [if_true, if_pos (show N - N = 0 by omega)]
      refine Ev.bind (same_refl _ (by omega)) ?_
      simp only [if_true]
      by_cases hp0 : p.length = 0
      · simp only [if_pos (show (p.length : Int) = 0 by omega)]
        exact Ev.now _
      · simp only [if_neg (show ¬ (p.length : Int) = 0 by omega)]
        refine Ev.ret ?_
        have h12 : (runV r [] p [] (N - 1)).2.2 = 12 := by
          rcases (run_takes r [] p [] (N - 1)).2 (by rw [hN]; omega) with h | h
          · exact h
          · rw [h] at hp0; exact absurd rfl hp0
        unfold outV
        rw [if_pos c, if_neg (by rw [h12]; decide)]
        rfl
    have go : ∀ d i : Nat, i + d = (endV r [] p []).length → Ev (fun k => threshinglaw16_EvalTotal.l0 k p r (stackP May p []).1 (65 * (p.length : Int)) (endV r [] p []) (65 * (p.length : Int) - N) (i : Int)) true := fun d => by
      induction d with
      | zero =>
        intro i hi
        rw [show i = (endV r [] p []).length by omega]
        exact fin
      | succ d ih =>
        intro i hi
        have hi1 : i < (endV r [] p []).length := by omega
        have hi2 : i < (stackP May p []).1.length := by omega
        have e1 : rd_T44 (endV r [] p []) (i : Int) = (endV r [] p [])[i] := by
          unfold rd_T44
          rw [Int.toNat_natCast, List.getD_eq_getElem?_getD, List.getElem?_eq_getElem hi1]
          rfl
        have e2 : rdOf false (stackP May p []).1 (i : Int) = (endV r [] p [])[i].f0 := by
          rw [rdOf_nat, List.getD_eq_getElem?_getD, ← hend.2, List.getElem?_map, List.getElem?_eq_getElem hi1]
          rfl
        refine Ev.succ ?_
        simp only [threshinglaw16_EvalTotal.l0, if_pos (show (i : Int) < ((endV r [] p []).length : Int) by omega), if_pos (show (0 : Int) ≤ (i : Int) by omega), if_pos (show (i : Int) < ((stackP May p []).1.length : Int) by omega), e1, e2, bne_self_eq_false, Bool.false_eq_true, if_false, is_, (hend.1 _ (List.getElem_mem hi1)).1, Option.bind_some, if_true, wrap_succ (i := i) (by omega)]
        exact ih (i + 1) (by omega)
    refine Ev.succ ?_
    simp only [threshinglaw16_EvalTotal.j0, Bool.false_eq_true, if_false]
    exact go (endV r [] p []).length 0 (by omega)
  · simp only [if_neg c]
    exact Ev.bind alive16 (Ev.now _)
end Go.Proofs.YtejmgcfjpofniaaGreatDoor.Pure
