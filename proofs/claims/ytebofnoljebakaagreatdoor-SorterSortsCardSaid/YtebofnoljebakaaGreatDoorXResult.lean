/- value.Arity, value.Result: what they tell. -/
import Derived.Test.YtebofnoljebakaaGreatDoorProg
import Derived.Test.YtebofnoljebakaaGreatDoorXOps
import Derived.Lib.Hide
set_option linter.unusedVariables false
set_option linter.unusedSimpArgs false
namespace Go.Proofs.YtebofnoljebakaaGreatDoor.XOps
open Go.RowKit Go.Proofs Go.Proofs.YtebofnoljebakaaGreatDoorW.PrintWords Go.Proofs.YtebofnoljebakaaGreatDoorW.PrintLast Go.Proofs.YtebofnoljebakaaGreatDoorW.PrintMore
theorem zero_op (w : World) : (zeroValue 109).run Tryz.prog w = .ok (.agg #[.slice none 0 0, .int .i64 0, .nilFunc]) w := by kernel_rfl
theorem run_store_func {P : Program} {w : World} {a : Addr} {m : Mode} (fn : Fn) (x y : Array Value) : (store a (.func fn x y) m).run P w = stored P w a (.func fn x y) m := run_store P w a _ m rfl
theorem field0 (x y z : Value) (w : World) : (Instr.field 109 (.agg #[x, y, z]) 0).run Tryz.prog w = .ok x w := by kernel_rfl
theorem field2 (x y z : Value) (w : World) : (Instr.field 109 (.agg #[x, y, z]) 2).run Tryz.prog w = .ok z w := by kernel_rfl
theorem run_store_nilFunc {P : Program} {w : World} {a : Addr} {m : Mode} : (store a .nilFunc m).run P w = stored P w a .nilFunc m := run_store P w a _ m rfl
attribute [local go_sem] run_store_func run_store_nilFunc field0 field2
def bad (k : Int) (a last : Bool) : Bool := (decide (k = 0) && a) || (decide (k = 1) && !a) || (decide (k = 2) && (a != last))
def resultF (o : Int) (l : List Bool) : Bool × Int := match opFn o with
  | none => (false, 1)
  | some (ks, t, _) => if l.length ≠ ks.length then (false, 11) else
    if (List.range ks.length).any (fun i => bad (ks.getD i 0) (l.getD i false) (l.getD (l.length - 1) false)) then (false, 11) else
    (decide (t = 1) || (decide (t = 2) && l.getD (l.length - 1) false), 0)
def zop : Value := .agg #[.slice none 0 0, .int .i64 0, .nilFunc]
theorem op_any (o : Int) : match opFn o with | none => True | some (ks, _, _) => 0 < ks.length ∧ ks.length ≤ 3 := by
  by_cases h4 : o = 4
  · subst h4; exact ⟨by decide, by decide⟩
  by_cases h5 : o = 5
  · subst h5; exact ⟨by decide, by decide⟩
  by_cases h6 : o = 6
  · subst h6; exact ⟨by decide, by decide⟩
  by_cases h7 : o = 7
  · subst h7; exact ⟨by decide, by decide⟩
  by_cases h8 : o = 8
  · subst h8; exact ⟨by decide, by decide⟩
  by_cases h9 : o = 9
  · subst h9; exact ⟨by decide, by decide⟩
  by_cases h10 : o = 10
  · subst h10; exact ⟨by decide, by decide⟩
  by_cases h11 : o = 11
  · subst h11; exact ⟨by decide, by decide⟩
  by_cases h12 : o = 12
  · subst h12; exact ⟨by decide, by decide⟩
  by_cases h13 : o = 13
  · subst h13; exact ⟨by decide, by decide⟩
  by_cases h14 : o = 14
  · subst h14; exact ⟨by decide, by decide⟩
  by_cases h15 : o = 15
  · subst h15; exact ⟨by decide, by decide⟩
  by_cases h16 : o = 16
  · subst h16; exact ⟨by decide, by decide⟩
  by_cases h17 : o = 17
  · subst h17; exact ⟨by decide, by decide⟩
  by_cases h18 : o = 18
  · subst h18; exact ⟨by decide, by decide⟩
  by_cases h19 : o = 19
  · subst h19; exact ⟨by decide, by decide⟩
  by_cases h20 : o = 20
  · subst h20; exact ⟨by decide, by decide⟩
  by_cases h21 : o = 21
  · subst h21; exact ⟨by decide, by decide⟩
  have e : opFn o = none := by simp only [opFn, h4, h5, h6, h7, h8, h9, h10, h11, h12, h13, h14, h15, h16, h17, h18, h19, h20, h21, if_false]
  rw [e]; trivial
theorem op_len {o : Int} {ks : List Int} {t : Int} {f : Nat} (h : opFn o = some (ks, t, f)) : 0 < ks.length ∧ ks.length ≤ 3 := by
  have := op_any o
  rw [h] at this
  exact this
theorem look {w w1 : World} {b : Nat} (h : OpsAt w w1 b) (o : Int) :
    (opFn o = none ∧ (Instr.lookup 110 (.map (some b)) (.int .i64 o) true).run Tryz.prog w1 = .ok (.tuple #[zop, .bool false]) w1 ∧ (Instr.lookup 110 (.map (some b)) (.int .i64 o) false).run Tryz.prog w1 = .ok zop w1) ∨
    ∃ ks t f blk, opFn o = some (ks, t, f) ∧ (Instr.lookup 110 (.map (some b)) (.int .i64 o) true).run Tryz.prog w1 = .ok (.tuple #[.agg #[.slice (some ⟨blk, 0, none⟩) ks.length ks.length, .int .i64 t, .func (.func f) #[] #[]], .bool true]) w1 ∧
      (Instr.lookup 110 (.map (some b)) (.int .i64 o) false).run Tryz.prog w1 = .ok (.agg #[.slice (some ⟨blk, 0, none⟩) ks.length ks.length, .int .i64 t, .func (.func f) #[] #[]]) w1 ∧
      w.heap.size ≤ blk ∧ blk < w1.heap.size ∧ (∀ i, i < ks.length → w1.cell? ⟨blk, i, none⟩ = some (.int .i64 (ks.getD i 0))) ∧ 0 < ks.length ∧ ks.length ≤ 3 := by
  obtain ⟨l, hm, hops⟩ := h
  have hu := Tryz.underlying110
  have h3 := Tryz.underlying3
  have ho := hops o
  rcases hq : opFn o with _ | ⟨ks, t, f⟩
  · rw [hq] at ho
    exact .inl ⟨rfl, lookup_none hu h3 (zero_op w1) hm ho true, lookup_none hu h3 (zero_op w1) hm ho false⟩
  · rw [hq] at ho
    obtain ⟨blk, hf, h1, h2, h4⟩ := ho
    exact .inr ⟨ks, t, f, blk, rfl, lookup_some hu h3 hm hf true, lookup_some hu h3 hm hf false, h1, h2, h4, op_len hq⟩
theorem res_bad {o : Int} {l : List Bool} {ks : List Int} {t : Int} {f m k : Nat} {last : Bool} (hq : opFn o = some (ks, t, f)) (hn : l.length = m + 1) (hl : m + 1 = ks.length) (hv : rdOf false l (m : Int) = last) (hb : bad (ks.getD k 0) (l.getD k false) last = true) (hk : k < m + 1) : resultF o l = (false, 11) := by
  have hlast : l.getD (l.length - 1) false = last := by rw [hn, ← hv]; rfl
  have : (List.range ks.length).any (fun i => bad (ks.getD i 0) (l.getD i false) (l.getD (l.length - 1) false)) = true := by
    rw [List.any_eq_true]
    exact ⟨k, List.mem_range.2 (by omega), by rw [hlast]; exact hb⟩
  simp only [resultF, hq]
  rw [if_neg (by omega), if_pos this]
theorem res_good {o : Int} {l : List Bool} {ks : List Int} {t : Int} {f m : Nat} {last : Bool} (hq : opFn o = some (ks, t, f)) (hn : l.length = m + 1) (hl : m + 1 = ks.length) (hv : rdOf false l (m : Int) = last) (hb : ∀ j, j < m + 1 → bad (ks.getD j 0) (l.getD j false) last = false) : resultF o l = (decide (t = 1) || (decide (t = 2) && last), 0) := by
  have hlast : l.getD (l.length - 1) false = last := by rw [hn, ← hv]; rfl
  have : ¬ (List.range ks.length).any (fun i => bad (ks.getD i 0) (l.getD i false) (l.getD (l.length - 1) false)) = true := by
    rw [List.any_eq_true]
    rintro ⟨k, h1, h2⟩
    rw [hlast, hb k (by have := List.mem_range.1 h1; omega)] at h2
    cases h2
  simp only [resultF, hq]
  rw [if_neg (by omega), if_neg this, hlast]
theorem res_short {o : Int} {l : List Bool} {ks : List Int} {t : Int} {f n : Nat} (hq : opFn o = some (ks, t, f)) (hn : l.length = n) (hl : ¬ n = ks.length) : resultF o l = (false, 11) := by
  simp only [resultF, hq]
  rw [if_pos (by omega)]
set_option maxHeartbeats 4000000 in
set_option maxRecDepth 100000 in
theorem result_calls (o : Int) (A : Option Addr) (c : Nat) (l : List Bool) (w : World) (hr : Kd.bool.C w A l.length l) : Calls Tryz.prog 61 #[.int .i64 o, .slice A l.length c] w fun e w' => e = .returned (.tuple #[.bool (resultF o l).1, .int .i64 (resultF o l).2]) ∧ Below w.heap.size w w' := by
  have hu1 := Tryz.underlying109
  have hu2 := Tryz.underlying105
  have hu3 := Tryz.underlying106
  obtain ⟨n, hn⟩ : ∃ n, l.length = n := ⟨_, rfl⟩
  rw [hn] at hr ⊢
  have Hn := Lib.hid hn
  clear hn
  go_enter Tryz.func61, Tryz.ntmps61
  go_wp2_with (go_at_call 62; refine (calls _).mono ?_; rintro e w1 ⟨b, rfl, hops, hb⟩)
  rcases look hops o with ⟨hq, h0, _⟩ | ⟨ks, t, f, blk, hq, h0, _, hbl, hbs, hcells, hk0, hk3⟩
  · rw [h0]
    unfold zop
    go_wp2
    go_ret2
    exact ⟨by simp only [resultF, hq]; rfl, below_alloc hb _⟩
  by_cases hlen : n = ks.length
  · obtain ⟨m, rfl⟩ : ∃ m, n = m + 1 := ⟨n - 1, by omega⟩
    rw [← hlen] at h0 hcells hk3
    have Hlen := Lib.hid hlen
    clear hlen hk0
    have Hq := Lib.hid hq
    clear hq
    have hbW : Below w.heap.size w (w1.alloc (.cells #[.slice (some ⟨blk, 0, none⟩) (m + 1) (m + 1), .int .i64 t, .func (.func f) #[] #[]] 109)) := below_alloc hb _
    have hrW := Kd.C_below hr hbW
    obtain ⟨ad, rfl, hlast⟩ := Kd.at_bool hrW (m : Int) (by omega) (by omega)
    have hwm : wrap64 (m : Int) = (m : Int) := (by unfold wrap64; omega)
    rw [Int.toNat_natCast] at hlast
    generalize hlv : rdOf false l (m : Int) = last at hlast
    have Hlv := Lib.hid hlv
    clear hlv
    have Hcells := Lib.hid hcells
    clear hcells
    have HrW := Lib.hid hrW
    clear hrW
    rw [h0]
    clear h0
    go_wp2
    go_loop [36] (fun i => ∃ k : Nat, k ≤ m + 1 ∧ i = .int .i64 k ∧ ∀ j, j < k → bad (ks.getD j 0) (l.getD j false) last = false) (fun i => m + 1 - (intOf i).toNat)
    case atStart => exact ⟨0, Nat.zero_le _, rfl, fun j hj => absurd hj (Nat.not_lt_zero _)⟩
    case round =>
      obtain ⟨k, hk, rfl, hno⟩ := hrel
      have Hno := Lib.hid hno
      clear hno
      obtain ⟨kk, hkk⟩ : ∃ x, x = ks.getD k 0 := ⟨_, rfl⟩
      obtain ⟨aa, haa⟩ : ∃ x, x = l.getD k false := ⟨_, rfl⟩
      have hc1 : k < m + 1 → (w1.alloc (.cells #[.slice (some ⟨blk, 0, none⟩) (m + 1) (m + 1), .int .i64 t, .func (.func f) #[] #[]] 109)).cell? ⟨blk, k, none⟩ = some (.int .i64 kk) := fun h => by
        rw [hkk]; exact (cell_alloc_old hbs).trans (Hcells.out k h)
      have hc2 : k < m + 1 → (w1.alloc (.cells #[.slice (some ⟨blk, 0, none⟩) (m + 1) (m + 1), .int .i64 t, .func (.func f) #[] #[]] 109)).cell? (ad.add k) = some (.bool aa) := fun h => by
        obtain ⟨ad', e, hx⟩ := Kd.at_bool HrW.out (k : Int) (by omega) (by omega)
        injection e with e
        subst e
        rw [haa]
        exact hx
      have Hkk := Lib.hid hkk
      have Haa := Lib.hid haa
      clear hkk haa
      by_cases hlt : k < m + 1
      · have hc1' := hc1 hlt
        have hc2' := hc2 hlt
        clear hc1 hc2
        have hi1 : (k : Int) < (m : Int) + 1 := by omega
        have hwk : wrap64 ((k : Int) + 1) = (k : Int) + 1 := by unfold wrap64; omega
        go_wp2
        all_goals first
          | (have hb1 : bad kk aa last = true := by
               unfold bad
               first | (simp [*]; done) | (have h := ‹(!aa == last) = true›; simp only [*]; revert h; cases aa <;> cases last <;> decide)
             go_ret2
             have e := res_bad (k := k) Hq.out Hn.out Hlen.out Hlv.out (by rw [← Hkk.out, ← Haa.out]; exact hb1) hlt
             rw [e]
             exact ⟨rfl, hbW⟩)
          | (have hb1 : bad kk aa last = false := by
               unfold bad
               first | (simp [*]; done) | (have h := ‹(!aa == last) = false›; simp only [*]; revert h; cases aa <;> cases last <;> decide)
             refine ⟨⟨k + 1, by omega, by go_num, fun j hj => ?_⟩, by simp [intOf]; omega⟩
             rcases Nat.lt_or_ge j k with h | h
             · exact Hno.out j h
             · obtain rfl : j = k := by omega
               rw [← Hkk.out, ← Haa.out]
               exact hb1)
      · have hi1 : ¬ ((k : Int) < (m : Int) + 1) := by omega
        clear hc1 hc2
        go_wp2
        all_goals
          obtain rfl : k = m + 1 := by omega
          go_ret2
          rw [res_good Hq.out Hn.out Hlen.out Hlv.out Hno.out]
          refine ⟨?_, below_alloc hb _⟩
          simp [*]
  · have hne : ((n : Int) != (ks.length : Int)) = true := by simp; omega
    have Hlen := Lib.hid hlen
    clear hlen
    have Hq := Lib.hid hq
    clear hq
    rw [h0]
    go_wp2
    go_ret2
    rw [res_short Hq.out Hn.out Hlen.out]
    exact ⟨rfl, below_alloc hb _⟩
end Go.Proofs.YtebofnoljebakaaGreatDoor.XOps
