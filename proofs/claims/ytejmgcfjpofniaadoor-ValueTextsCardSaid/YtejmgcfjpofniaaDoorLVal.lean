/- Layer 13: plain words for value.Compare, value.Hash, value.Do. -/
import Derived.Test.YtejmgcfjpofniaaDoorPXx
import Derived.Test.YtejmgcfjpofniaaDoorLBase
import Derived.Sort.Walk0
set_option linter.unusedVariables false
set_option linter.unusedSimpArgs false
namespace Go.Proofs.YtejmgcfjpofniaaDoorL
open Go.RowKit Go.Proofs Go.Proofs.YtejmgcfjpofniaaDoor Go.Proofs.YtejmgcfjpofniaaDoor.PX Go.Proofs.YtejmgcfjpofniaaDoorW.PrintWords Go.Proofs.YtejmgcfjpofniaaDoorW.PrintMore
/-! ### the order -/
def cI (a b : Int) : Int := if a < b then -1 else if a > b then 1 else 0
def cS (a b : ByteArray) : Int := if Op.bytesLess a.toList b.toList = true then -1 else if Op.bytesLess b.toList a.toList = true then 1 else 0
def orI (x y z : Int) : Int := if x = 0 then (if y = 0 then z else y) else x
def kd (a b : Bool) : Int := if a = true then (if b = true then 0 else 1) else (if b = true then -1 else 0)
def cmpV (x y : XOps.Sv) : Int := orI (kd x.f0 y.f0) (cI x.f1 y.f1) (cS x.f2 y.f2)
theorem cmpInt (a b : Int) : cmp_Compare_int.f a b = some (cI a b) := by
  have h1 : (a != a) = false := by simp
  have h2 : (b != b) = false := by simp
  simp only [cmp_Compare_int.f, cmp_isNaN_int.f, Option.bind_some, h1, h2, cI, Bool.false_eq_true, if_false]
  split
  · rfl
  · split <;> rfl
theorem cmpStr (a b : ByteArray) : cmp_Compare_string.f a b = some (cS a b) := by
  have h1 : (a.toList != a.toList) = false := by simp
  have h2 : (b.toList != b.toList) = false := by simp
  simp only [cmp_Compare_string.f, cmp_isNaN_string.f, Option.bind_some, h1, h2, cS, Bool.false_eq_true, if_false]
  split
  · rfl
  · split <;> rfl
theorem or3 (x y z : Int) : Ev (fun k => cmp_Or_int.f k [x, y, z]) (orI x y z) := by
  refine Ev.at_k 5 (fun k => cmp_Or_int.mono _ k) ?_
  have w1 : wrap64 (0 + 1) = 1 := wrap_id (by decide) (by decide)
  have w2 : wrap64 (1 + 1) = 2 := wrap_id (by decide) (by decide)
  have w3 : wrap64 (2 + 1) = 3 := wrap_id (by decide) (by decide)
  have r0 : rd [x, y, z] 0 = x := rfl
  have r1 : rd [x, y, z] 1 = y := rfl
  have r2 : rd [x, y, z] 2 = z := rfl
  have hl : (([x, y, z] : List Int).length : Int) = 3 := rfl
  simp only [cmp_Or_int.f, cmp_Or_int.l0, hl, r0, r1, r2, w1, w2, w3, orI]
  by_cases hx : x = 0
  · by_cases hy : y = 0
    · by_cases hz : z = 0
      · simp [hx, hy, hz, r0, r1, r2]
      · simp [hx, hy, hz]
    · simp [hx, hy]
  · simp [hx]
theorem compare (x y : XOps.Sv) : Ev (fun k => value_Compare.f k x.f0 x.f1 x.f2 y.f0 y.f1 y.f2) (cmpV x y) := by
  obtain ⟨a0, a1, a2⟩ := x
  obtain ⟨b0, b1, b2⟩ := y
  have h : ∀ q : Int, Ev (fun k => (cmp_Compare_int.f a1 b1).bind fun t => (cmp_Compare_string.f a2 b2).bind fun u => (cmp_Or_int.f k [q, t, u]).bind fun r => some r) (orI q (cI a1 b1) (cS a2 b2)) := fun q => by
    simp only [cmpInt, cmpStr, Option.bind_some, Option.bind_fun_some]
    exact or3 _ _ _
  cases a0 <;> cases b0
  · refine Ev.succ ?_
    simp only [value_Compare.f, value_Compare.j0, Bool.false_eq_true, if_false]
    refine Ev.succ ?_
    simp only [value_Compare.j1, Bool.false_eq_true, if_false]
    exact h 0
  · refine Ev.succ ?_
    simp only [value_Compare.f, value_Compare.j0, Bool.false_eq_true, if_false]
    refine Ev.succ ?_
    simp only [value_Compare.j1, if_true]
    exact h (-1)
  · refine Ev.succ ?_
    simp only [value_Compare.f, value_Compare.j0, if_true, Bool.not_false]
    exact h 1
  · refine Ev.succ ?_
    simp only [value_Compare.f, value_Compare.j0, if_true, Bool.not_true, Bool.false_eq_true, if_false]
    refine Ev.succ ?_
    simp only [value_Compare.j1, Bool.false_eq_true, if_false]
    exact h 0
/-! ### its laws -/
theorem less_irrefl (x : List UInt8) : Op.bytesLess x x = false := by rw [bytesLess_eq]; simp
theorem less_trans {x y z : List UInt8} (h : Op.bytesLess x y = true) (k : Op.bytesLess y z = true) : Op.bytesLess x z = true := by
  rw [bytesLess_eq, decide_eq_true_eq] at *
  exact List.lt_trans h k
theorem less_eq {x y : List UInt8} (h : ¬ Op.bytesLess x y = true) (k : ¬ Op.bytesLess y x = true) : x = y := by
  have := xm_less_gtr x y
  simp only [Bool.not_eq_true] at h k
  rw [h, k] at this
  simpa using this
theorem less_asymm {x y : List UInt8} (h : Op.bytesLess x y = true) : ¬ Op.bytesLess y x = true := fun k => by
  have := less_trans h k
  rw [less_irrefl] at this
  cases this
theorem cI_neg (a b : Int) : cI b a = -cI a b := by unfold cI; split <;> split <;> (try split) <;> omega
theorem cI_zero (a b : Int) : cI a b = 0 ↔ a = b := by unfold cI; split <;> (try split) <;> omega
theorem cI_lt (a b : Int) : cI a b < 0 ↔ a < b := by unfold cI; split <;> (try split) <;> omega
theorem cS_neg (a b : ByteArray) : cS b a = -cS a b := by
  unfold cS
  by_cases h : Op.bytesLess a.toList b.toList = true
  · have k := less_asymm h
    simp [h, k]
  · by_cases k : Op.bytesLess b.toList a.toList = true <;> simp [h, k]
theorem cS_zero (a b : ByteArray) : cS a b = 0 ↔ a = b := by
  unfold cS
  constructor
  · intro e
    split at e
    · cases e
    · split at e
      · cases e
      · rename_i h k
        exact toList_inj.1 (less_eq h k)
  · rintro rfl
    rw [less_irrefl]
    rfl
theorem cS_lt (a b : ByteArray) : cS a b < 0 ↔ Op.bytesLess a.toList b.toList = true := by
  unfold cS
  constructor
  · intro e
    split at e
    · assumption
    · split at e <;> omega
  · intro e
    rw [if_pos e]; decide
theorem kd_neg (a b : Bool) : kd b a = -kd a b := by cases a <;> cases b <;> decide
theorem kd_zero (a b : Bool) : kd a b = 0 ↔ a = b := by cases a <;> cases b <;> decide
theorem cmpV_neg (x y : XOps.Sv) : cmpV y x = -cmpV x y := by
  unfold cmpV orI
  rw [kd_neg x.f0 y.f0, cI_neg x.f1 y.f1, cS_neg x.f2 y.f2]
  split <;> split <;> (try split) <;> (try split) <;> omega
theorem cmpV_zero (x y : XOps.Sv) : cmpV x y = 0 ↔ (x.f0 = y.f0 ∧ x.f1 = y.f1 ∧ x.f2 = y.f2) := by
  rw [← kd_zero x.f0 y.f0, ← cI_zero x.f1 y.f1, ← cS_zero x.f2 y.f2]
  unfold cmpV orI
  split
  · split <;> omega
  · omega
theorem cmpV_bound (x y : XOps.Sv) : -1 ≤ cmpV x y ∧ cmpV x y ≤ 1 := by
  have h1 : -1 ≤ kd x.f0 y.f0 ∧ kd x.f0 y.f0 ≤ 1 := by cases x.f0 <;> cases y.f0 <;> decide
  have h2 : -1 ≤ cI x.f1 y.f1 ∧ cI x.f1 y.f1 ≤ 1 := by unfold cI; split <;> (try split) <;> omega
  have h3 : -1 ≤ cS x.f2 y.f2 ∧ cS x.f2 y.f2 ≤ 1 := by unfold cS; split <;> (try split) <;> omega
  unfold cmpV orI
  split
  · split <;> omega
  · omega
theorem cmpV_trans {x y z : XOps.Sv} (h : cmpV x y < 0) (k : cmpV y z < 0) : cmpV x z < 0 := by
  have a1 := kd_zero x.f0 y.f0
  have a2 := kd_zero y.f0 z.f0
  have a3 := kd_zero x.f0 z.f0
  have at' : kd x.f0 y.f0 ≤ 0 → kd y.f0 z.f0 ≤ 0 → kd x.f0 z.f0 ≤ 0 ∧ (kd x.f0 z.f0 = 0 → kd x.f0 y.f0 = 0 ∧ kd y.f0 z.f0 = 0) := by cases x.f0 <;> cases y.f0 <;> cases z.f0 <;> decide
  have b1 := cI_zero x.f1 y.f1
  have b2 := cI_zero y.f1 z.f1
  have b3 := cI_zero x.f1 z.f1
  have bl1 := cI_lt x.f1 y.f1
  have bl2 := cI_lt y.f1 z.f1
  have bl3 := cI_lt x.f1 z.f1
  have cl1 := cS_lt x.f2 y.f2
  have cl2 := cS_lt y.f2 z.f2
  have cl3 := cS_lt x.f2 z.f2
  have ct : cS x.f2 y.f2 < 0 → cS y.f2 z.f2 < 0 → cS x.f2 z.f2 < 0 := fun p q => cl3.2 (less_trans (cl1.1 p) (cl2.1 q))
  unfold cmpV orI at *
  by_cases e1 : kd x.f0 y.f0 = 0
  · by_cases e2 : kd y.f0 z.f0 = 0
    · have e3 : kd x.f0 z.f0 = 0 := a3.2 ((a1.1 e1).trans (a2.1 e2))
      rw [if_pos e1] at h
      rw [if_pos e2] at k
      rw [if_pos e3]
      by_cases f1 : cI x.f1 y.f1 = 0
      · by_cases f2 : cI y.f1 z.f1 = 0
        · have f3 : cI x.f1 z.f1 = 0 := b3.2 ((b1.1 f1).trans (b2.1 f2))
          rw [if_pos f1] at h
          rw [if_pos f2] at k
          rw [if_pos f3]
          exact ct h k
        · rw [if_neg f2] at k
          have : cI x.f1 z.f1 < 0 := by have := b1.1 f1; rw [this]; exact k
          rw [if_neg (by omega)]
          exact this
      · rw [if_neg f1] at h
        have : cI x.f1 z.f1 < 0 := by
          by_cases f2 : cI y.f1 z.f1 = 0
          · have := b2.1 f2; rw [← this]; exact h
          · rw [if_neg f2] at k
            exact bl3.2 (by have := bl1.1 h; have := bl2.1 k; omega)
        rw [if_neg (by omega)]
        exact this
    · rw [if_neg e2] at k
      have := a1.1 e1
      rw [this, if_neg e2]
      exact k
  · rw [if_neg e1] at h
    by_cases e2 : kd y.f0 z.f0 = 0
    · have := a2.1 e2
      rw [← this, if_neg e1]
      exact h
    · rw [if_neg e2] at k
      obtain ⟨p, q⟩ := at' (by omega) (by omega)
      have e3 : ¬ kd x.f0 z.f0 = 0 := fun e => e1 (q e).1
      rw [if_neg e3]
      omega
/-! ### Do, Hash, alive -/
theorem alive_ : Ev (fun k => threshinglaw13_alive.f k) true := Ev.at_k 20 (fun k => threshinglaw13_alive.mono k) (by kernel_rfl)
theorem do_less (x y : XOps.Sv) (hx : XOps.isValB x = true) (hy : XOps.isValB y = true) : Ev (fun k => value_Do.f k 15 [x, y]) (if x.f0 = y.f0 then (false, (if cmpV x y < 0 then 1 else 0), (⟨#[]⟩ : ByteArray), 0) else (false, 0, (⟨#[]⟩ : ByteArray), 11)) := by
  have hany : ¬ ([x, y] : List XOps.Sv).any (fun x => !XOps.isValB x) = true := by simp [hx, hy]
  have hl : ([x, y] : List XOps.Sv).length ≤ 1000000 := by simp
  have hop : XOps.opFn 15 = some ([2, 2], 0, 22) := rfl
  have hm : ([x, y] : List XOps.Sv).map (·.f0) = [x.f0, y.f0] := rfl
  by_cases e : x.f0 = y.f0
  · rw [if_pos e]
    have hres : XOps.resultF 15 [x.f0, y.f0] = (false, 0) := by rw [e]; cases y.f0 <;> decide
    obtain ⟨K, hK⟩ := compare x y
    refine ⟨K, fun k hk => ?_⟩
    have hc : value_Compare.f k x.f0 x.f1 x.f2 y.f0 y.f1 y.f2 = some (cmpV x y) := hK k hk
    have hd : value_Do.D k 22 x y XOps.zv = some ⟨false, if cmpV x y < 0 then 1 else 0, ⟨#[]⟩⟩ := by
      have h1 : value_Do.D k 22 x y XOps.zv = (value_val_less.f k x.f0 x.f1 x.f2 y.f0 y.f1 y.f2 XOps.zv.f0 XOps.zv.f1 XOps.zv.f2).map fun p => ⟨p.1, p.2.1, p.2.2⟩ := rfl
      rw [h1]
      simp only [value_val_less.f, hc, Option.bind_some, value_yes.f, value_Num.f]
      by_cases c : cmpV x y < 0 <;> simp [c]
    have hf : XOps.doF (value_Do.D k) 15 [x, y] = some (⟨false, if cmpV x y < 0 then 1 else 0, ⟨#[]⟩⟩, 0) := by
      unfold XOps.doF
      rw [if_neg hany, hm, hres, if_neg (by simp), hop]
      show (value_Do.D k 22 x y XOps.zv).map _ = _
      rw [hd]
      rfl
    unfold value_Do.f
    dsimp only
    rw [if_pos hl, hf]
    rfl
  · rw [if_neg e]
    have hres : (XOps.resultF 15 [x.f0, y.f0]).2 = 11 := by
      revert e
      cases x.f0 <;> cases y.f0 <;> simp <;> decide
    refine ⟨0, fun k _ => ?_⟩
    have hf : XOps.doF (value_Do.D k) 15 [x, y] = some (XOps.zv, 11) := by
      unfold XOps.doF
      rw [if_neg hany, hm, if_pos (by rw [hres]; decide), hres]
    unfold value_Do.f
    dsimp only
    rw [if_pos hl, hf]
    rfl
theorem wraps_u32 (n : Int) (h₀ : 0 ≤ n) (h₁ : n < 2 ^ 32) : IntKind.u32.wrap n = n := by rw [IntKind.wrap_u32]; omega
theorem hash_go (s : ByteArray) (hs : s.size ≤ 140737488351232) : ∀ (m i : Nat) (x : Int), i + m = s.size → 0 ≤ x → x < 4294967296 → ∃ r, Ev (fun k => value_Hash.l0 k s x (s.size : Int) (i : Int)) r ∧ 0 ≤ r ∧ r < 2147483648
  | 0, i, x, hi, h0, h1 => by
    have hb : Go.bits .and .u32 x 2147483647 = x % 2147483648 := bits_mask .u32 32 (by decide) wraps_u32 31 (by decide) x h0 h1
    refine ⟨x % 2147483648, Ev.succ ?_, by omega, by omega⟩
    simp only [value_Hash.l0, if_neg (show ¬ (i : Int) < (s.size : Int) by omega), hb]
    exact Ev.ret (wrap_id (by omega) (by omega))
  | m + 1, i, x, hi, h0, h1 => by
    obtain ⟨r, hr, h2, h3⟩ := hash_go s hs m (i + 1) (((Go.bits .xor .u32 x ((bt s (i : Int)) % 4294967296)) * 16777619) % 4294967296) (by omega) (by omega) (by omega)
    refine ⟨r, Ev.succ ?_, h2, h3⟩
    simp only [value_Hash.l0, if_pos (show (i : Int) < (s.size : Int) by omega), if_pos (show (0 : Int) ≤ (i : Int) by omega), wrap_succ (i := i) (by omega)]
    exact hr
theorem hash_ (s : ByteArray) (hs : s.size ≤ 140737488351232) : ∃ r, Ev (fun k => value_Hash.f k s) r ∧ 0 ≤ r ∧ r < 2147483648 :=
  hash_go s hs s.size 0 2166136261 (by omega) (by decide) (by decide)
end Go.Proofs.YtejmgcfjpofniaaDoorL
