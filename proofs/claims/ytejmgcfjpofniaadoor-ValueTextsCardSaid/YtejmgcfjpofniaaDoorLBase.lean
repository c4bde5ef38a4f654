/- Plain words for the pure statements: rounds, bytes, first places. -/
import Derived.Test.YtejmgcfjpofniaaDoorWWords
import Derived.Test.YtejmgcfjpofniaaDoorWNEv
import Derived.Lib.Bytealg
import Derived.Lib.Bytes
import Derived.Laws.Strings
namespace Go.Proofs.YtejmgcfjpofniaaDoorW.PrintWords
/-! ### rounds -/
theorem Ev.succ {α : Type} {g : Nat → Option α} {r : α} (h : Ev (fun k => g (k + 1)) r) : Ev g r := Ev.step (fun _ => rfl) h
theorem Ev.const {α : Type} {x : Option α} {r : α} (h : x = some r) : Ev (fun _ => x) r := ⟨0, fun _ _ => h⟩
theorem Ev.ret {α : Type} {x r : α} (h : x = r) : Ev (fun _ => some x) r := ⟨0, fun _ _ => by rw [h]⟩
theorem Ev.at_k {α : Type} {g : Nat → Option α} {r : α} (K : Nat) (hm : ∀ k, LeO (g k) (g (k + 1))) (h : g K = some r) : Ev g r := Ev.of hm h
theorem Ev.to {α : Type} {g : Nat → Option α} {r r' : α} (h : Ev g r) (e : r = r') : Ev g r' := e ▸ h
end Go.Proofs.YtejmgcfjpofniaaDoorW.PrintWords
namespace Go.Proofs.YtejmgcfjpofniaaDoorL
open Go.RowKit Go.Proofs.YtejmgcfjpofniaaDoorW.PrintWords

theorem wrap_id {x : Int} (h0 : -9223372036854775808 ≤ x) (h1 : x ≤ 9223372036854775807) : wrap64 x = x := by
  unfold wrap64
  omega
theorem wrap_succ {i : Nat} (h : i < 4611686018427387904) : wrap64 ((i : Int) + 1) = ((i + 1 : Nat) : Int) := by
  rw [wrap_id (by omega) (by omega)]
  omega
theorem wrap_nat {x : Int} {n : Nat} (e : x = (n : Int)) (h : n < 4611686018427387904) : wrap64 x = (n : Int) := by
  subst e
  exact wrap_id (by omega) (by omega)
theorem wf_i64 {x : Int} (h : (Lit.int .i64 x).wf = true) : -9223372036854775808 ≤ x ∧ x ≤ 9223372036854775807 := by
  simpa [Lit.wf, IntKind.min, IntKind.max, IntKind.signed, IntKind.bits] using h
theorem wf_u8 {x : Int} (h : (Lit.int .u8 x).wf = true) : 0 ≤ x ∧ x ≤ 255 := by
  simpa [Lit.wf, IntKind.min, IntKind.max, IntKind.signed, IntKind.bits] using h

/-! ### bytes -/
def Bytes (l : List Int) : Prop := ∀ x ∈ l, 0 ≤ x ∧ x ≤ 255
theorem Bytes.of_wf {l : List Int} (h : ∀ x ∈ l, (Lit.int .u8 x).wf = true) : Bytes l := fun x hx => wf_u8 (h x hx)
theorem Bytes.nil : Bytes [] := fun _ h => by cases h
theorem Bytes.append {a b : List Int} (h : Bytes a) (k : Bytes b) : Bytes (a ++ b) := fun x hx => (List.mem_append.1 hx).elim (h x) (k x)
theorem Bytes.left {a b : List Int} (h : Bytes (a ++ b)) : Bytes a := fun x hx => h x (List.mem_append.2 (.inl hx))
theorem Bytes.right {a b : List Int} (h : Bytes (a ++ b)) : Bytes b := fun x hx => h x (List.mem_append.2 (.inr hx))
theorem Bytes.take {a : List Int} (h : Bytes a) (n : Nat) : Bytes (a.take n) := fun x hx => h x (List.mem_of_mem_take hx)
theorem Bytes.drop {a : List Int} (h : Bytes a) (n : Nat) : Bytes (a.drop n) := fun x hx => h x (List.mem_of_mem_drop hx)
theorem Bytes.cons {a : Int} {b : List Int} (h : 0 ≤ a ∧ a ≤ 255) (k : Bytes b) : Bytes (a :: b) := fun x hx => (List.mem_cons.1 hx).elim (fun e => e ▸ h) (k x)
theorem Bytes.of_str (s : ByteArray) : Bytes (bytesOf s) := by
  intro x hx
  simp only [bytesOf, List.mem_map] at hx
  obtain ⟨b, _, rfl⟩ := hx
  have := b.toNat_lt
  omega
theorem size_str (l : List Int) : (strOfNums l).size = l.length := by
  show (l.map _).toArray.size = _
  simp
theorem str_bytes (s : ByteArray) : strOfNums (bytesOf s) = s := by
  apply ByteArray.ext
  show ((s.data.toList.map fun b => (b.toNat : Int)).map fun n => UInt8.ofNat n.toNat).toArray = s.data
  rw [List.map_map]
  have : ((fun n : Int => UInt8.ofNat n.toNat) ∘ fun b : UInt8 => (b.toNat : Int)) = id := by
    funext b
    simp
  rw [this, List.map_id]
theorem bytes_str {l : List Int} (h : Bytes l) : bytesOf (strOfNums l) = l := by
  show ((l.map fun n => UInt8.ofNat n.toNat).toArray.toList.map fun b => (b.toNat : Int)) = l
  rw [List.toList_toArray, List.map_map]
  refine (List.map_congr_left fun x hx => ?_).trans (List.map_id l)
  obtain ⟨h0, h1⟩ := h x hx
  simp only [Function.comp, id]
  rw [UInt8.toNat_ofNat']
  omega
theorem str_inj {a b : List Int} (ha : Bytes a) (hb : Bytes b) (h : strOfNums a = strOfNums b) : a = b := by
  rw [← bytes_str ha, h, bytes_str hb]
theorem toList_data (s : ByteArray) : s.toList = s.data.toList := ByteArray.toList_eq s
theorem toList_inj {a b : ByteArray} : a.toList = b.toList ↔ a = b := by
  rw [toList_data, toList_data]
  constructor
  · intro h
    exact ByteArray.ext (Array.toList_inj.1 h)
  · rintro rfl
    rfl
theorem len_bytes (s : ByteArray) : (bytesOf s).length = s.size := bytesOf_length s
theorem bytes_inj {a b : ByteArray} (h : bytesOf a = bytesOf b) : a = b := by rw [← str_bytes a, h, str_bytes]

/-! ### the first place -/
def idx : List Int → Int → Int
  | [], _ => -1
  | b :: l, c => if b = c then 0 else if idx l c = -1 then -1 else idx l c + 1
theorem indexByte_idx {l : List Int} (h : Bytes l) {c : Int} (h0 : 0 ≤ c) (h1 : c ≤ 255) : Lib.indexByte (Lib.bytesOf l) c.toNat.toUInt8 = idx l c := by
  induction l with
  | nil => rfl
  | cons x l ih =>
    have hx := h x List.mem_cons_self
    have ih := ih (fun y hy => h y (List.mem_cons_of_mem _ hy))
    show (if (UInt8.ofNat x.toNat == c.toNat.toUInt8) = true then _ else _) = _
    have e : (UInt8.ofNat x.toNat == c.toNat.toUInt8) = decide (x = c) := by
      rw [Bool.eq_iff_iff, beq_iff_eq, decide_eq_true_eq]
      constructor
      · intro he
        have := congrArg UInt8.toNat he
        rw [UInt8.toNat_ofNat', Nat.toUInt8_eq, UInt8.toNat_ofNat'] at this
        omega
      · rintro rfl
        rfl
    rw [e]
    unfold idx
    by_cases hc : x = c
    · simp [hc]
    · simp only [hc, decide_false, Bool.false_eq_true, if_false]
      change (if (Lib.indexByte (Lib.bytesOf l) c.toNat.toUInt8 == -1) = true then _ else Lib.indexByte (Lib.bytesOf l) c.toNat.toUInt8 + 1) = _
      rw [ih]
      by_cases h2 : idx l c = -1 <;> simp [h2]
theorem indexByte_str (s : ByteArray) {c : Int} (h0 : 0 ≤ c) (h1 : c ≤ 255) : Lib.indexByte s.data.toList c.toNat.toUInt8 = idx (bytesOf s) c := by
  rw [← indexByte_idx (Bytes.of_str s) h0 h1]
  congr 1
  have := congrArg ByteArray.data (str_bytes s)
  have := congrArg Array.toList this
  rw [← this]
  simp [strOfNums, Lib.bytesOf]
theorem idx_none {l : List Int} {c : Int} (h : c ∉ l) : idx l c = -1 := by
  induction l with
  | nil => rfl
  | cons x l ih =>
    unfold idx
    rw [if_neg (fun e => h (by rw [← e]; exact List.mem_cons_self)), if_pos (ih fun k => h (List.mem_cons_of_mem _ k))]
theorem idx_some {p s : List Int} {c : Int} (h : c ∉ p) : idx (p ++ c :: s) c = p.length := by
  induction p with
  | nil => simp [idx]
  | cons x p ih =>
    have := ih fun k => h (List.mem_cons_of_mem _ k)
    rw [List.cons_append]
    unfold idx
    rw [if_neg (fun e => h (by rw [← e]; exact List.mem_cons_self)), this, if_neg (by omega)]
    simp
theorem split_at {l : List Int} (c : Int) : c ∉ l ∨ ∃ p s, l = p ++ c :: s ∧ c ∉ p := by
  induction l with
  | nil => exact .inl (fun h => by cases h)
  | cons x l ih =>
    by_cases hx : x = c
    · exact .inr ⟨[], l, by rw [hx]; rfl, fun h => by cases h⟩
    · rcases ih with h | ⟨p, s, rfl, h⟩
      · exact .inl (fun k => (List.mem_cons.1 k).elim (fun e => hx e.symm) h)
      · exact .inr ⟨x :: p, s, rfl, fun k => (List.mem_cons.1 k).elim (fun e => hx e.symm) h⟩
theorem idx_neg {l : List Int} {c : Int} : idx l c < 0 ↔ c ∉ l := by
  rcases split_at c (l := l) with h | ⟨p, s, rfl, h⟩
  · rw [idx_none h]; simp [h]
  · rw [idx_some h]
    constructor
    · intro; omega
    · intro k; exact absurd (by simp) k
theorem rd_nat (l : List Int) (i : Nat) : rd l (i : Int) = l.getD i 0 := by unfold rd; simp
theorem rd_mid {p s : List Int} {x : Int} : rd (p ++ x :: s) (p.length : Int) = x := by rw [rd_nat]; simp
theorem rdOf_nat {α : Type} (d : α) (l : List α) (i : Nat) : rdOf d l (i : Int) = l.getD i d := by unfold rdOf; simp
end Go.Proofs.YtejmgcfjpofniaaDoorL
