/- The pure statement of ValueSums. -/
import Derived.Test.YtpgddpkljbgjpaaDoorPXx
import Derived.Test.YtpgddpkljbgjpaaDoorLNum
import Derived.Test.YtpgddpkljbgjpaaDoorLVal
set_option linter.unusedVariables false
set_option linter.unusedSimpArgs false
namespace Go.Proofs.YtpgddpkljbgjpaaDoor.Pure
open Go.RowKit Go.Proofs Go.Proofs.YtpgddpkljbgjpaaDoor Go.Proofs.YtpgddpkljbgjpaaDoor.PX Go.Proofs.YtpgddpkljbgjpaaDoorW.PrintWords Go.Proofs.YtpgddpkljbgjpaaDoorL
def I64 (x : Int) : Prop := -9223372036854775808 ≤ x ∧ x ≤ 9223372036854775807
theorem i64_wrap (x : Int) : I64 (wrap64 x) := by unfold I64 wrap64; omega
theorem wrap_mul (a b c : Int) : wrap64 (wrap64 (wrap64 a * b) + c) = wrap64 (a * b + c) := by
  have h1 : ∃ k, wrap64 a = a + 18446744073709551616 * k := ⟨-((a + 9223372036854775808) / 18446744073709551616), by unfold wrap64; omega⟩
  obtain ⟨k, hk⟩ := h1
  have h2 : wrap64 a * b = a * b + 18446744073709551616 * (k * b) := by rw [hk, Int.add_mul, Int.mul_assoc]
  rw [h2]
  generalize a * b = p
  generalize k * b = q
  unfold wrap64
  omega
theorem go_two {o a b r : Int} (ha : I64 a) (hb : I64 b) (h2 : XOps.resultF o [false, false] = (false, 0)) (h3 : opV o (numV a) (numV b) XOps.zv = numV r) :
    Ev (fun k => threshinglaw13_ValueSums.go k o [numV a, numV b]) (numV r, 0) := by
  have := do_ o [numV a, numV b] (by simp) (by
    intro v hv
    simp only [List.mem_cons, List.not_mem_nil, or_false] at hv
    rcases hv with rfl | rfl
    · exact ha
    · exact hb)
  rw [doV_of (any_num a b) h2 h3] at this
  exact Ev.map _ this rfl
theorem go_text {a : Int} (ha : I64 a) : Ev (fun k => threshinglaw13_ValueSums.go k 19 [numV a]) (textV (itoaS a), 0) := by
  have := do_ 19 [numV a] (by simp) (by
    intro v hv
    simp only [List.mem_cons, List.not_mem_nil, or_false] at hv
    subst hv
    exact ha)
  rw [doV_of (any_num1 a) (b := true) (show XOps.resultF 19 [false] = (true, 0) by decide) (r := textV (itoaS a)) rfl] at this
  exact Ev.map _ this rfl
theorem go_number (s : ByteArray) : Ev (fun k => threshinglaw13_ValueSums.go k 18 [textV s]) (numV (numberL (clip s).data.toList), 0) := by
  have := do_ 18 [textV s] (by simp) (by
    intro v hv
    simp only [List.mem_cons, List.not_mem_nil, or_false] at hv
    subst hv
    exact (by decide : -9223372036854775808 ≤ (0 : Int) ∧ (0 : Int) ≤ 9223372036854775807))
  rw [doV_of (any_text1 s) (b := false) (show XOps.resultF 18 [true] = (false, 0) by decide) (r := numV (numberL (clip s).data.toList)) rfl] at this
  exact Ev.map _ this rfl
theorem ValueSums : threshinglaw13_ValueSums.Pure := by
  intro x y hx hy
  have hx : I64 x := wf_i64 hx
  have hy : I64 y := wf_i64 hy
  refine Ev.rounds (?_ : Ev (fun k => threshinglaw13_ValueSums.f k x y) true)
  unfold threshinglaw13_ValueSums.f threshinglaw13_ValueSums.g
  have hq : I64 (if y = 0 then 0 else wrap64 (Int.tdiv x y)) := by
    split
    · exact ⟨by omega, by omega⟩
    · exact i64_wrap _
  have hr : I64 (if y = 0 then 0 else Int.tmod x y) := by
    split
    · exact ⟨by omega, by omega⟩
    · have h1 := Int.natAbs_tmod x y
      have h2 := Nat.mod_lt x.natAbs (show y.natAbs > 0 by omega)
      rw [← h1] at h2
      clear h1
      generalize x.tmod y = z at h2 ⊢
      clear hq
      unfold I64 at hx hy ⊢
      omega
  refine Ev.bind (go_two (r := wrap64 (x + y)) hx hy (by decide) rfl) ?_
  refine Ev.bind (go_two (r := wrap64 (wrap64 (x + y) - y)) (i64_wrap _) hy (by decide) rfl) ?_
  refine Ev.bind (go_two (r := if y = 0 then 0 else wrap64 (Int.tdiv x y)) hx hy (by decide) rfl) ?_
  refine Ev.bind (go_two (r := if y = 0 then 0 else Int.tmod x y) hx hy (by decide) rfl) ?_
  refine Ev.bind (go_two (r := wrap64 ((if y = 0 then 0 else wrap64 (Int.tdiv x y)) * y)) hq hy (by decide) rfl) ?_
  refine Ev.bind (go_two (r := wrap64 (wrap64 ((if y = 0 then 0 else wrap64 (Int.tdiv x y)) * y) + (if y = 0 then 0 else Int.tmod x y))) (i64_wrap _) hr (by decide) rfl) ?_
  refine Ev.bind (go_text hx) ?_
  refine Ev.bind (go_number _) ?_
  have hd : wrap64 (wrap64 (x + y) - y) = x := by unfold I64 at hx hy; unfold wrap64; omega
  have hn : y = 0 ∨ wrap64 (wrap64 ((if y = 0 then 0 else wrap64 (Int.tdiv x y)) * y) + (if y = 0 then 0 else Int.tmod x y)) = x := by
    by_cases c : y = 0
    · exact .inl c
    · right
      rw [if_neg c, if_neg c, wrap_mul, Int.mul_comm, Int.mul_tdiv_add_tmod]
      exact wrap_id hx.1 hx.2
  have hb : ¬ (x > -1000000000000000000 ∧ x < 1000000000000000000) ∨ numberL (clip (itoaS x)).data.toList = x := by
    by_cases c : x > -1000000000000000000 ∧ x < 1000000000000000000
    · right
      rw [clip_small (by have := itoa_small x hx.1 hx.2; omega)]
      exact number_itoa c.1 c.2
    · exact .inl c
  rw [hd]
  obtain ⟨K, hK⟩ := alive_
  refine ⟨K, fun k hk => if_pos ⟨hK k hk, rfl, ⟨rfl, rfl, rfl⟩, hn.imp id fun h => ⟨rfl, h, rfl⟩, hb.imp id fun h => ⟨rfl, h, rfl⟩⟩⟩
end Go.Proofs.YtpgddpkljbgjpaaDoor.Pure
