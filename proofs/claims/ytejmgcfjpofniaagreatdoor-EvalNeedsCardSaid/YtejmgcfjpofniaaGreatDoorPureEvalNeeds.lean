/- The pure statement of EvalNeeds. -/
import Derived.Test.YtejmgcfjpofniaaGreatDoorPXx
import Derived.Test.YtejmgcfjpofniaaGreatDoorLAll
set_option linter.unusedVariables false
set_option linter.unusedSimpArgs false
namespace Go.Proofs.YtejmgcfjpofniaaGreatDoor.Pure
open Go.RowKit Go.Proofs Go.Proofs.YtejmgcfjpofniaaGreatDoor Go.Proofs.YtejmgcfjpofniaaGreatDoor.PX Go.Proofs.YtejmgcfjpofniaaGreatDoorW.PrintWords Go.Proofs.YtejmgcfjpofniaaGreatDoorL Go.Proofs.YtejmgcfjpofniaaGreatDoor.XCheck
def cutS (s : ByteArray) : ByteArray := if (s.size : Int) > 1000 then s.extract 0 1000 else s
theorem clip_cut (s : ByteArray) : textV (cutS s) = textV s := by
  unfold cutS
  by_cases c : (s.size : Int) > 1000
  · rw [if_pos c]
    have e : clip s = s.extract 0 1000 := by
      unfold clip
      congr 1
      unfold mn
      split <;> omega
    have hs : (s.extract 0 1000).size ≤ 1000 := by rw [← e]; exact (clip_size s).1
    unfold textV
    rw [clip_small hs, e]
  · rw [if_neg c]
def shortR (r : List ByteArray) (n : Nat) : List ByteArray := (r.take n).map cutS
theorem short_len (r : List ByteArray) (n : Nat) : (shortR r n).length = min n r.length := by simp [shortR]
theorem needs_mono : ∀ (p : List Ins) (n : Int), (∀ x ∈ p, I64 x.f1) → n ≤ needsP p n ∧ ∀ x ∈ p, x.f0 = 2 → May x = true → x.f1 < needsP p n
  | [], n, hp => ⟨Int.le_refl _, fun x hx => by cases hx⟩
  | a :: p, n, hp => by
    obtain ⟨h1, h2⟩ := needs_mono p (if a.f0 = 2 ∧ May a = true then mx n (wrap64 (a.f1 + 1)) else n) fun x hx => hp x (List.mem_cons_of_mem _ hx)
    unfold needsP
    have hmx : n ≤ (if a.f0 = 2 ∧ May a = true then mx n (wrap64 (a.f1 + 1)) else n) := by
      split
      · exact (mx_ge' _ _).1
      · exact Int.le_refl _
    refine ⟨by omega, fun x hx hx2 hxm => ?_⟩
    rcases List.mem_cons.1 hx with rfl | hx
    · rw [if_pos ⟨hx2, hxm⟩] at h1 ⊢
      have hb := may_bound hxm hx2
      have hw : wrap64 (x.f1 + 1) = x.f1 + 1 := by unfold wrap64; omega
      rw [hw] at h1 ⊢
      have := (mx_ge' n (x.f1 + 1)).2
      omega
    · exact h2 x hx hx2 hxm
theorem needs_range : ∀ (p : List Ins) (n : Int), 0 ≤ n → n ≤ 50 → 0 ≤ needsP p n ∧ needsP p n ≤ 50
  | [], n, h0, h1 => ⟨h0, h1⟩
  | a :: p, n, h0, h1 => by
    unfold needsP
    by_cases c : a.f0 = 2 ∧ May a = true
    · rw [if_pos c]
      have hb := may_bound c.2 c.1
      have hw : wrap64 (a.f1 + 1) = a.f1 + 1 := by unfold wrap64; omega
      rw [hw]
      refine needs_range p _ ?_ ?_
      · unfold mx; split <;> omega
      · unfold mx; split <;> omega
    · rw [if_neg c]
      exact needs_range p n h0 h1
theorem pic_short {r : List ByteArray} {n : Nat} {s : List Sv} {x : Ins} (hm : May x = true) (h3 : x.f0 ≠ 3) (hn : x.f0 = 2 → x.f1 < (n : Int)) : picV (shortR r n) [] s x = picV r [] s x := by
  unfold picV
  by_cases c0 : x.f0 = 0
  · rw [if_pos c0, if_pos c0]
  rw [if_neg c0, if_neg c0]
  by_cases c1 : x.f0 = 1
  · rw [if_pos c1, if_pos c1]
  rw [if_neg c1, if_neg c1]
  by_cases c2 : x.f0 = 2
  · rw [if_pos c2, if_pos c2]
    have hx0 := may_field hm c2
    have hxn := hn c2
    by_cases c : (r.length : Int) ≤ x.f1
    · rw [if_pos c, if_pos (by rw [short_len]; omega)]
    · rw [if_neg c, if_neg (by rw [short_len]; omega)]
      have hlt : x.f1.toNat < r.length := by omega
      have e : (shortR r n).getD x.f1.toNat ByteArray.empty = cutS (r.getD x.f1.toNat ByteArray.empty) := by
        unfold shortR
        rw [List.getD_eq_getElem?_getD, List.getD_eq_getElem?_getD, List.getElem?_map, List.getElem?_take, if_pos (by omega), List.getElem?_eq_getElem hlt]
        rfl
      rw [e, clip_cut]
  rw [if_neg c2, if_neg c2, if_neg h3, if_neg h3]
theorem run_short {r : List ByteArray} {n : Nat} : ∀ (p : List Ins) (s : List Sv) (u : Int), (∀ x ∈ p, May x = true ∧ x.f0 ≠ 3 ∧ (x.f0 = 2 → x.f1 < (n : Int))) → runV (shortR r n) [] p s u = runV r [] p s u
  | [], s, u, h => rfl
  | x :: p, s, u, h => by
    obtain ⟨h1, h2, h3⟩ := h x List.mem_cons_self
    unfold runV
    by_cases c : XEval.costP s x.f0 > u
    · rw [if_pos c, if_pos c]
    · rw [if_neg c, if_neg c, pic_short h1 h2 h3]
      exact run_short p _ _ fun y hy => h y (List.mem_cons_of_mem _ hy)
theorem out_short {r : List ByteArray} {p : List Ins} {u : Int} (hp : ∀ x ∈ p, I64 x.f1) (h3 : ∀ x ∈ p, x.f0 ≠ 3) {n : Nat} (hn : needsP p 0 = (n : Int)) : outV (shortR r n) p u = outV r p u := by
  unfold outV
  by_cases c : (stackP May p []).2.2 = 0
  · obtain ⟨_, _, hrun, _⟩ := stack_go c
    have hm := run_may p _ _ hrun
    have := run_short (r := r) (n := n) p [] u fun x hx => ⟨hm x hx, h3 x hx, fun h2 => by rw [← hn]; exact (needs_mono p 0 hp).2 x hx h2 (hm x hx)⟩
    rw [if_pos c, if_pos c, this]
  · rw [if_neg c, if_neg c]
theorem EvalNeeds : threshinglaw16_EvalNeeds.Pure := by
  intro p r u hp hr hu
  have hu : I64 u := wf_i64 hu
  have hpn : ∀ x ∈ p, I64 x.f1 := fun x hx => wf_i64 (hp.2 x hx).2.1
  have hrl : r.length ≤ 140737488351232 := by have := hr.1; omega
  have hpl : p.length < 4611686018427387904 := by have := hp.1; omega
  obtain ⟨b, hb⟩ := small_ev p r hrl
  refine Ev.rounds ?_
  unfold threshinglaw16_EvalNeeds.f
  refine Ev.bind hb ?_
  cases b
  · simp only [Bool.false_eq_true, if_false]
    exact Ev.bind alive16 (Ev.now _)
  simp only [if_true]
  -- the law's first loop: is there a 3?
  obtain ⟨n, hn⟩ : ∃ n : Nat, needsP p 0 = (n : Int) := ⟨(needsP p 0).toNat, by have := needs_range p 0 (by decide) (by decide); omega⟩
  have hn50 : n ≤ 50 := by have := needs_range p 0 (by decide) (by decide); omega
  have last : ∀ i : Nat, (i = n ∨ i = r.length ∧ i ≤ n) → (∀ x ∈ p, x.f0 ≠ 3) → Ev (fun k => threshinglaw16_EvalNeeds.j3 k p r u (n : Int) (shortR r i) (i : Int) false) true := fun i hi h3 => by
    have e : shortR r i = shortR r n := by
      rcases hi with rfl | ⟨rfl, hle⟩
      · rfl
      · unfold shortR
        rw [List.take_of_length_le (Nat.le_refl _), List.take_of_length_le hle]
    refine Ev.succ ?_
    simp only [threshinglaw16_EvalNeeds.j3, Bool.false_eq_true, if_false, e]
    refine Ev.bind (run_f p r u hpn hrl hu) ?_
    refine Ev.bind (run_f p (shortR r n) u hpn (by rw [short_len]; omega) hu) ?_
    refine Ev.bind alive16 ?_
    rw [out_short hpn h3 hn]
    simp only [if_true]
    refine Ev.bind (same_refl _ (by have := out_small (p := p) (r := r) (u := u) hpn hrl; omega)) ?_
    simp only [if_true]
    exact Ev.ret (by simp)
  have second : (∀ x ∈ p, x.f0 ≠ 3) → ∀ d i : Nat, i + d = n → i ≤ r.length → Ev (fun k => threshinglaw16_EvalNeeds.l1 k p r u (n : Int) (shortR r i) (i : Int)) true := fun h3 d => by
    induction d with
    | zero =>
      intro i hi hil
      refine Ev.succ ?_
      simp only [threshinglaw16_EvalNeeds.l1, if_neg (show ¬ (i : Int) < (n : Int) by omega)]
      exact last i (.inl (by omega)) h3
    | succ d ih =>
      intro i hi hil
      refine Ev.succ ?_
      simp only [threshinglaw16_EvalNeeds.l1, if_pos (show (i : Int) < (n : Int) by omega)]
      by_cases c : i < r.length
      · rw [decide_eq_true (show (i : Int) < (r.length : Int) by omega)]
        refine Ev.succ ?_
        have hrd : rdOf ByteArray.empty r (i : Int) = r[i] := by
          rw [rdOf_nat, List.getD_eq_getElem?_getD, List.getElem?_eq_getElem c]
          rfl
        have hs : shortR r i ++ [cutS r[i]] = shortR r (i + 1) := by
          unfold shortR
          rw [List.take_succ_eq_append_getElem c, List.map_append]
          rfl
        have hlen : (shortR r i).length < 8796093022208 := by rw [short_len]; omega
        simp only [threshinglaw16_EvalNeeds.j3, if_true, if_pos (show (0 : Int) ≤ (i : Int) by omega), if_pos (show (i : Int) < (r.length : Int) by omega), hrd, if_pos (show (0 : Int) ≤ 1000 by decide), if_pos hlen, wrap_succ (i := i) (by omega)]
        have next := ih (i + 1) (by omega) (by omega)
        rw [← hs] at next
        unfold cutS at next
        by_cases e : (r[i].size : Int) > 1000
        · simp only [if_pos e, if_pos (show (1000 : Int) ≤ (r[i].size : Int) by omega)] at next ⊢
          exact next
        · simp only [if_neg e] at next ⊢
          exact next
      · rw [decide_eq_false (show ¬ (i : Int) < (r.length : Int) by omega)]
        exact last i (.inr ⟨by omega, by omega⟩) h3
  have first : ∀ d i : Nat, i + d = p.length → (∀ j (hj : j < p.length), j < i → (p[j]).f0 ≠ 3) → Ev (fun k => threshinglaw16_EvalNeeds.l0 k p r u (i : Int)) true := fun d => by
    induction d with
    | zero =>
      intro i hi hno
      refine Ev.succ ?_
      have h3 : ∀ x ∈ p, x.f0 ≠ 3 := fun x hx => by
        obtain ⟨j, hj, rfl⟩ := List.mem_iff_getElem.1 hx
        exact hno j hj (by omega)
      simp only [threshinglaw16_EvalNeeds.l0, if_neg (show ¬ (i : Int) < (p.length : Int) by omega)]
      refine Ev.bind (needs_go p hpl p.length 0 (by omega) 0) ?_
      rw [List.drop_zero, hn]
      simp only [if_neg (show ¬ (n : Int) < 0 by omega), decide_eq_false (show ¬ (n : Int) > 50 by omega)]
      refine Ev.succ ?_
      simp only [threshinglaw16_EvalNeeds.j1, Bool.false_eq_true, if_false]
      exact second h3 n 0 (by omega) (Nat.zero_le _)
    | succ d ih =>
      intro i hi hno
      have h : i < p.length := by omega
      refine Ev.succ ?_
      simp only [threshinglaw16_EvalNeeds.l0, if_pos (show (i : Int) < (p.length : Int) by omega), if_pos (show (0 : Int) ≤ (i : Int) by omega), rd_ins p i h, wrap_succ (i := i) (by omega)]
      by_cases c : (p[i]).f0 = 3
      · simp only [if_pos c]
        exact Ev.bind alive16 (Ev.now _)
      · simp only [if_neg c]
        refine ih (i + 1) (by omega) fun j hj hji => ?_
        by_cases e : j = i
        · subst e; exact c
        · exact hno j hj (by omega)
  exact first p.length 0 (by omega) (fun j hj h => absurd h (Nat.not_lt_zero _))
end Go.Proofs.YtejmgcfjpofniaaGreatDoor.Pure
