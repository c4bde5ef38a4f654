/- Plain words for the pure statements: rounds, bytes, first places. -/
import Derived.Test.YtialoecplmnjfaaGreatDoorWALL
import Derived.Lib.Bytealg
import Derived.Lib.Bytes
import Derived.Laws.Strings
import Derived.Test.YtialoecplmnjfaaGreatDoorPXx
set_option linter.unusedVariables false
set_option linter.unusedSimpArgs false
namespace Go.Proofs.YtialoecplmnjfaaGreatDoorW.PrintWords
theorem Ev.succ {α : Type} {g : Nat → Option α} {r : α} (h : Ev (fun k => g (k + 1)) r) : Ev g r := Ev.step (fun _ => rfl) h
theorem Ev.const {α : Type} {x : Option α} {r : α} (h : x = some r) : Ev (fun _ => x) r := ⟨0, fun _ _ => h⟩
theorem Ev.ret {α : Type} {x r : α} (h : x = r) : Ev (fun _ => some x) r := ⟨0, fun _ _ => by rw [h]⟩
theorem Ev.at_k {α : Type} {g : Nat → Option α} {r : α} (K : Nat) (hm : ∀ k, LeO (g k) (g (k + 1))) (h : g K = some r) : Ev g r := Ev.of hm h
theorem Ev.to {α : Type} {g : Nat → Option α} {r r' : α} (h : Ev g r) (e : r = r') : Ev g r' := e ▸ h
end Go.Proofs.YtialoecplmnjfaaGreatDoorW.PrintWords
namespace Go.Proofs.YtialoecplmnjfaaGreatDoorL
open Go.RowKit Go.Proofs.YtialoecplmnjfaaGreatDoorW.PrintWords
theorem wrap_id {x : Int} (h0 : -9223372036854775808 ≤ x) (h1 : x ≤ 9223372036854775807) : wrap64 x = x := by
 unfold wrap64
 omega
theorem wrap_succ {i : Nat} (h : i < 4611686018427387904) : wrap64 ((i : Int) + 1) = ((i + 1 : Nat) : Int) := by
 rw [wrap_id (by omega) (by omega)]
 omega
def Bytes (l : List Int) : Prop := ∀ x ∈ l, 0 ≤ x ∧ x ≤ 255
theorem Bytes.nil : Bytes [] := fun _ h => by cases h
theorem Bytes.append {a b : List Int} (h : Bytes a) (k : Bytes b) : Bytes (a ++ b) := fun x hx => (List.mem_append.1 hx).elim (h x) (k x)
theorem Bytes.take {a : List Int} (h : Bytes a) (n : Nat) : Bytes (a.take n) := fun x hx => h x (List.mem_of_mem_take hx)
theorem Bytes.drop {a : List Int} (h : Bytes a) (n : Nat) : Bytes (a.drop n) := fun x hx => h x (List.mem_of_mem_drop hx)
theorem Bytes.cons {a : Int} {b : List Int} (h : 0 ≤ a ∧ a ≤ 255) (k : Bytes b) : Bytes (a :: b) := fun x hx => (List.mem_cons.1 hx).elim (fun e => e ▸ h) (k x)
theorem toList_data (s : ByteArray) : s.toList = s.data.toList := ByteArray.toList_eq s
theorem toList_inj {a b : ByteArray} : a.toList = b.toList ↔ a = b := by
 rw [toList_data, toList_data]
 constructor
 ·intro h
  exact ByteArray.ext (Array.toList_inj.1 h)
 ·rintro rfl
  rfl
theorem rd_nat (l : List Int) (i : Nat) : rd l (i : Int) = l.getD i 0 := by unfold rd; simp
end Go.Proofs.YtialoecplmnjfaaGreatDoorL
namespace Go.Proofs.YtialoecplmnjfaaGreatDoorL
open Go.RowKit Go.Proofs Go.Proofs.YtialoecplmnjfaaGreatDoor Go.Proofs.YtialoecplmnjfaaGreatDoor.PX Go.Proofs.YtialoecplmnjfaaGreatDoorW.PrintWords Go.Proofs.YtialoecplmnjfaaGreatDoorW.PrintMore
abbrev It := S55
abbrev It8 := S58
abbrev Jb := S26
def hashN (x : Int) : List Int → Int
 | [] => x % 2147483648
 | c :: l => hashN (((Go.bits .xor .u32 x (c % 4294967296)) * 16777619) % 4294967296) l
def hashS (s : ByteArray) : Int := hashN 2166136261 (bytesOf s)
theorem wraps_u32 (n : Int) (h₀ : 0 ≤ n) (h₁ : n < 2 ^ 32) : IntKind.u32.wrap n = n := by rw [IntKind.wrap_u32]; omega
theorem hash_go2 (s : ByteArray) (hs : s.size ≤ 140737488351232) : ∀ (m i : Nat) (x : Int), i + m = s.size → 0 ≤ x → x < 4294967296 → Ev (fun k => value_Hash.l0 k s x (s.size : Int) (i : Int)) (hashN x ((bytesOf s).drop i)) ∧ 0 ≤ hashN x ((bytesOf s).drop i) ∧ hashN x ((bytesOf s).drop i) < 2147483648
 | 0, i, x, hi, h0, h1 => by
  have hb : Go.bits .and .u32 x 2147483647 = x % 2147483648 := bits_mask .u32 32 (by decide) wraps_u32 31 (by decide) x h0 h1
  have hd : (bytesOf s).drop i = [] := List.drop_eq_nil_iff.2 (by rw [bytesOf_length]; omega)
  rw [hd]
  simp only [hashN]
  refine ⟨Ev.succ ?_, by omega, by omega⟩
  simp only [value_Hash.l0, if_neg (show ¬ (i : Int) < (s.size : Int) by omega), hb]
  exact Ev.ret (wrap_id (by omega) (by omega))
 | m + 1, i, x, hi, h0, h1 => by
  have hlt : i < (bytesOf s).length := by rw [bytesOf_length]; omega
  have hd : (bytesOf s).drop i = bt s (i : Int) :: (bytesOf s).drop (i + 1) := by
   rw [List.drop_eq_getElem_cons hlt]
   congr 1
   rw [← rd_bytesOf, rd_nat, List.getD_eq_getElem?_getD, List.getElem?_eq_getElem hlt]
   rfl
  obtain ⟨hr, h2, h3⟩ := hash_go2 s hs m (i + 1) (((Go.bits .xor .u32 x ((bt s (i : Int)) % 4294967296)) * 16777619) % 4294967296) (by omega) (by omega) (by omega)
  rw [hd]
  simp only [hashN]
  refine ⟨Ev.succ ?_, h2, h3⟩
  simp only [value_Hash.l0, if_pos (show (i : Int) < (s.size : Int) by omega), if_pos (show (0 : Int) ≤ (i : Int) by omega), wrap_succ (i := i) (by omega)]
  exact hr
theorem hash_f (s : ByteArray) (hs : s.size ≤ 140737488351232) : Ev (fun k => value_Hash.f k s) (hashS s) ∧ 0 ≤ hashS s ∧ hashS s < 2147483648 :=
 hash_go2 s hs s.size 0 2166136261 (by omega) (by decide) (by decide)
theorem rhash_go (s : ByteArray) (hs : s.size ≤ 140737488351232) : ∀ (m i : Nat) (x : Int), i + m = s.size → 0 ≤ x → x < 4294967296 → Ev (fun k => r13_Hash.l0 k s x (i : Int)) (hashN x ((bytesOf s).drop i))
 | 0, i, x, hi, h0, h1 => by
  have hd : (bytesOf s).drop i = [] := List.drop_eq_nil_iff.2 (by rw [bytesOf_length]; omega)
  rw [hd]
  simp only [hashN]
  refine Ev.succ ?_
  simp only [r13_Hash.l0, if_neg (show ¬ (i : Int) < (s.size : Int) by omega)]
  refine Ev.ret ?_
  rw [Int.tmod_eq_emod_of_nonneg h0]
  exact wrap_id (by omega) (by omega)
 | m + 1, i, x, hi, h0, h1 => by
  have hlt : i < (bytesOf s).length := by rw [bytesOf_length]; omega
  have hd : (bytesOf s).drop i = bt s (i : Int) :: (bytesOf s).drop (i + 1) := by
   rw [List.drop_eq_getElem_cons hlt]
   congr 1
   rw [← rd_bytesOf, rd_nat, List.getD_eq_getElem?_getD, List.getElem?_eq_getElem hlt]
   rfl
  have hr := rhash_go s hs m (i + 1) (((Go.bits .xor .u32 x ((bt s (i : Int)) % 4294967296)) * 16777619) % 4294967296) (by omega) (by omega) (by omega)
  rw [hd]
  simp only [hashN]
  refine Ev.succ ?_
  simp only [r13_Hash.l0, if_pos (show (i : Int) < (s.size : Int) by omega), if_pos (show (0 : Int) ≤ (i : Int) by omega), wrap_succ (i := i) (by omega)]
  exact hr
theorem rhash (s : ByteArray) (hs : s.size ≤ 140737488351232) : Ev (fun k => r13_Hash.f k s) (hashS s) := rhash_go s hs s.size 0 2166136261 (by omega) (by decide) (by decide)
def partV (P : Int) (s : ByteArray) : Int := if P < 1 then 0 else hashS s % P
theorem part_range {P : Nat} (hP : 1 ≤ P) (s : ByteArray) : 0 ≤ partV (P : Int) s ∧ partV (P : Int) s < (P : Int) := by
 unfold partV
 rw [if_neg (by omega)]
 exact ⟨Int.emod_nonneg _ (by omega), Int.emod_lt_of_pos _ (by omega)⟩
theorem part_f (j : Jb) (s : ByteArray) (hs : s.size ≤ 140737488351232) : Ev (fun k => job_Part.f k j.f0 j.f1 j.f2 j.f3 j.f4 j.f5 j.f6.f0 j.f6.f1 j.f6.f2 j.f7 j.f8 j.f9 j.f10 j.f11 s) (partV j.f8 s) := by
 unfold job_Part.f partV
 by_cases c : j.f8 < 1
 ·simp only [if_pos c]; exact Ev.now _
 ·simp only [if_neg c]
  obtain ⟨h, h0, _⟩ := hash_f s hs
  refine Ev.bind h ?_
  simp only [if_neg (show ¬ j.f8 = 0 by omega)]
  exact Ev.ret (Int.tmod_eq_emod_of_nonneg h0)
theorem rpart_f (j : Jb) (s : ByteArray) (hs : s.size ≤ 140737488351232) : Ev (fun k => r17_Part.f k j.f0 j.f1 j.f2 j.f3 j.f4 j.f5 j.f6.f0 j.f6.f1 j.f6.f2 j.f7 j.f8 j.f9 j.f10 j.f11 s) (partV j.f8 s) := by
 unfold r17_Part.f partV
 by_cases c : j.f8 < 1
 ·simp only [if_pos c]; exact Ev.now _
 ·simp only [if_neg c]
  obtain ⟨_, h0, _⟩ := hash_f s hs
  refine Ev.bind (rhash s hs) ?_
  simp only [if_neg (show ¬ j.f8 = 0 by omega)]
  exact Ev.ret (Int.tmod_eq_emod_of_nonneg h0)
theorem rdI (l : List It) (i : Nat) : rd_T55 l (i : Int) = l.getD i z55 := by unfold rd_T55; rw [Int.toNat_natCast]
theorem rdI_mem (l : List It) {i : Nat} (h : i < l.length) : rd_T55 l (i : Int) = l[i] ∧ l[i] ∈ l := by
 rw [rdI, List.getD_eq_getElem?_getD, List.getElem?_eq_getElem h]
 exact ⟨rfl, List.getElem_mem h⟩
theorem rdR_mem (l : List It8) {i : Nat} (h : i < l.length) : rd_T58 l (i : Int) = l[i] ∧ l[i] ∈ l := by
 unfold rd_T58
 rw [Int.toNat_natCast, List.getD_eq_getElem?_getD, List.getElem?_eq_getElem h]
 exact ⟨rfl, List.getElem_mem h⟩
def Sized (l : List It) : Prop := ∀ q ∈ l, q.f0.size ≤ 140737488351232 ∧ q.f1.f2.size ≤ 140737488351232
theorem few_go (l : List It) (hs : Sized l) (hl : l.length < 100000000000000) : ∀ (m i : Nat) (n : Int), i + m = l.length → 0 ≤ n → n ≤ 4000 → 3 * (i : Int) ≤ n → ∃ b, Ev (fun k => w18_few.l0 k l n (i : Int)) b ∧ (b = true → l.length ≤ 1400)
 | 0, i, n, hi, _, _, h3 => by
  refine ⟨true, Ev.succ ?_, fun h => by omega⟩
  simp only [w18_few.l0, if_neg (show ¬ (i : Int) < (l.length : Int) by omega)]
  exact Ev.now _
 | m + 1, i, n, hi, h0, h1, h3 => by
  have hlt : i < l.length := by omega
  obtain ⟨hr, hm⟩ := rdI_mem l hlt
  obtain ⟨s0, s2⟩ := hs _ hm
  have e : wrap64 ((wrap64 ((wrap64 (n + 3)) + (((rd_T55 l (i : Int)).f0).size : Int))) + (((rd_T55 l (i : Int)).f1.f2).size : Int)) = n + 3 + (l[i].f0.size : Int) + (l[i].f1.f2.size : Int) := by
   rw [hr, wrap_id (x := n + 3) (by omega) (by omega), wrap_id (x := n + 3 + (l[i].f0.size : Int)) (by omega) (by omega), wrap_id (by omega) (by omega)]
  by_cases c : n + 3 + (l[i].f0.size : Int) + (l[i].f1.f2.size : Int) > 4000
  ·refine ⟨false, Ev.succ ?_, fun h => by cases h⟩
   simp only [w18_few.l0, if_pos (show (i : Int) < (l.length : Int) by omega), if_pos (show (0 : Int) ≤ (i : Int) by omega), e, if_pos c]
   exact Ev.now _
  ·obtain ⟨b, hb, hbl⟩ := few_go l hs hl m (i + 1) (n + 3 + (l[i].f0.size : Int) + (l[i].f1.f2.size : Int)) (by omega) (by omega) (by omega) (by omega)
   refine ⟨b, Ev.succ ?_, hbl⟩
   simp only [w18_few.l0, if_pos (show (i : Int) < (l.length : Int) by omega), if_pos (show (0 : Int) ≤ (i : Int) by omega), e, if_neg c, wrap_succ (i := i) (by omega)]
   exact hb
theorem few_f (l : List It) (hs : Sized l) (hl : l.length < 100000000000000) : ∃ b, Ev (fun k => w18_few.f k l) b ∧ (b = true → l.length ≤ 1400) := few_go l hs hl l.length 0 0 (by omega) (by omega) (by omega) (by omega)
theorem small_go (l : List S50) : ∀ m i : Nat, i + m = 40 → i ≤ l.length → ∃ b, Ev (fun k => w18_small.l0 k l (i : Int)) b
 | 0, i, hi, hl => by
  by_cases h : i < l.length
  ·refine ⟨false, Ev.succ ?_⟩
   simp only [w18_small.l0, if_pos (show (i : Int) < (l.length : Int) by omega), if_pos (show (i : Int) = 40 by omega)]
   exact Ev.now _
  ·refine ⟨true, Ev.succ ?_⟩
   simp only [w18_small.l0, if_neg (show ¬ (i : Int) < (l.length : Int) by omega)]
   exact Ev.now _
 | m + 1, i, hi, hl => by
  by_cases h : i < l.length
  ·by_cases h2 : (((rd_T50 l (i : Int)).f2).size : Int) > 1100
   ·refine ⟨false, Ev.succ ?_⟩
    simp only [w18_small.l0, if_pos (show (i : Int) < (l.length : Int) by omega), if_neg (show ¬ (i : Int) = 40 by omega), if_pos (show (0 : Int) ≤ (i : Int) by omega), if_pos h2]
    exact Ev.now _
   ·obtain ⟨b, hb⟩ := small_go l m (i + 1) (by omega) (by omega)
    refine ⟨b, Ev.succ ?_⟩
    simp only [w18_small.l0, if_pos (show (i : Int) < (l.length : Int) by omega), if_neg (show ¬ (i : Int) = 40 by omega), if_pos (show (0 : Int) ≤ (i : Int) by omega), if_neg h2, wrap_succ (i := i) (by omega)]
    exact hb
  ·refine ⟨true, Ev.succ ?_⟩
   simp only [w18_small.l0, if_neg (show ¬ (i : Int) < (l.length : Int) by omega)]
   exact Ev.now _
theorem small_f (l : List S50) : ∃ b, Ev (fun k => w18_small.f k l) b := small_go l 40 0 rfl (Nat.zero_le _)
theorem little_f (j : Jb) : ∃ b, Ev (fun k => w18_little.f k j.f0 j.f1 j.f2 j.f3 j.f4 j.f5 j.f6.f0 j.f6.f1 j.f6.f2 j.f7 j.f8 j.f9 j.f10 j.f11) b := by
 obtain ⟨b1, h1⟩ := small_f j.f1
 obtain ⟨b2, h2⟩ := small_f j.f2
 obtain ⟨b3, h3⟩ := small_f j.f3
 obtain ⟨b5, h5⟩ := small_f j.f5
 refine ⟨if b1 = true then (if b2 = true then (if b3 = true then (if b5 = true then decide ((j.f6.f2.size : Int) ≤ 1100) else false) else false) else false) else false, ?_⟩
 unfold w18_little.f
 refine Ev.bind h1 ?_
 cases b1
 ·exact Ev.now _
 refine Ev.bind h2 ?_
 cases b2
 ·exact Ev.now _
 refine Ev.bind h3 ?_
 cases b3
 ·exact Ev.now _
 refine Ev.bind h5 ?_
 cases b5
 ·exact Ev.now _
 ·exact Ev.now _
def toR (x : It) : It8 := ⟨x.f0, ⟨x.f1.f0, x.f1.f1, x.f1.f2⟩⟩
theorem items_go (l : List It) (hl : l.length < 1000000000000) : ∀ (m i : Nat) (out : List It8), i + m = l.length → out = (l.take i).map toR → Ev (fun k => w18_items.l0 k l out (i : Int)) (l.map toR)
 | 0, i, out, hi, ho => by
  refine Ev.succ ?_
  simp only [w18_items.l0, if_neg (show ¬ (i : Int) < (l.length : Int) by omega)]
  refine Ev.ret ?_
  rw [ho, List.take_of_length_le (by omega)]
 | m + 1, i, out, hi, ho => by
  have hlt : i < l.length := by omega
  obtain ⟨hr, _⟩ := rdI_mem l hlt
  have hol : out.length < 2932031007402 := by rw [ho, List.length_map, List.length_take]; omega
  refine Ev.succ ?_
  simp only [w18_items.l0, if_pos (show (i : Int) < (l.length : Int) by omega), if_pos (show (0 : Int) ≤ (i : Int) by omega), if_pos hol, wrap_succ (i := i) (by omega), hr]
  refine items_go l hl m (i + 1) _ (by omega) ?_
  rw [ho, List.take_add_one, List.getElem?_eq_getElem hlt, List.map_append]
  rfl
theorem items_f (l : List It) (hl : l.length < 1000000000000) : Ev (fun k => w18_items.f k l) (l.map toR) := items_go l hl l.length 0 [] (by omega) rfl
theorem same_go (l : List It8) (hl : l.length < 1000000000000) : ∀ m i : Nat, i + m = l.length → Ev (fun k => r18_Same.l0 k l l (i : Int)) true
 | 0, i, hi => by
  refine Ev.succ ?_
  simp only [r18_Same.l0, if_neg (show ¬ (i : Int) < (l.length : Int) by omega)]
  exact Ev.now _
 | m + 1, i, hi => by
  refine Ev.succ ?_
  simp only [r18_Same.l0, if_pos (show (i : Int) < (l.length : Int) by omega), if_pos (show (0 : Int) ≤ (i : Int) by omega), beq_self_eq_true, Bool.not_true, Bool.or_false, Bool.false_eq_true, if_false, wrap_succ (i := i) (by omega)]
  exact same_go l hl m (i + 1) (by omega)
theorem rsame18 (l : List It8) (hl : l.length < 1000000000000) : Ev (fun k => r18_Same.f k l l) true := by
 unfold r18_Same.f
 simp only [if_true]
 exact same_go l hl l.length 0 (by omega)
end Go.Proofs.YtialoecplmnjfaaGreatDoorL
namespace Go.Proofs.YtialoecplmnjfaaGreatDoorL
open Go.RowKit Go.Proofs Go.Proofs.YtialoecplmnjfaaGreatDoor Go.Proofs.YtialoecplmnjfaaGreatDoor.PX Go.Proofs.YtialoecplmnjfaaGreatDoorW.PrintWords Go.Proofs.YtialoecplmnjfaaGreatDoorW.PrintMore
def inP (P : Int) (p : Nat) (l : List It) : List It := l.filter fun x => decide (partV P x.f0 = (p : Int))
def partsL (P : Nat) (l : List It) : List (List It) := (List.range P).map fun p => inP (P : Int) p l
theorem partsL_len (P : Nat) (l : List It) : (partsL P l).length = P := by simp [partsL]
theorem partsL_get (P : Nat) (l : List It) {p : Nat} (h : p < P) : (partsL P l).getD p [] = inP (P : Int) p l := by
 rw [List.getD_eq_getElem?_getD]
 simp [partsL, h]
theorem inP_len (P : Int) (p : Nat) (l : List It) : (inP P p l).length ≤ l.length := List.length_filter_le _ _
theorem inP_snoc (P : Int) (p : Nat) (l : List It) (x : It) : inP P p (l ++ [x]) = if partV P x.f0 = (p : Int) then inP P p l ++ [x] else inP P p l := by
 unfold inP
 rw [List.filter_append]
 by_cases c : partV P x.f0 = (p : Int)
 ·simp [c]
 ·simp [c]
theorem partsL_snoc (P : Nat) (l : List It) (x : It) (q : Nat) (hq : partV (P : Int) x.f0 = (q : Int)) (hP : q < P) : partsL P (l ++ [x]) = (partsL P l).set q (inP (P : Int) q l ++ [x]) := by
 apply List.ext_getElem
 ·simp [partsL_len]
 ·intro p h1 h2
  rw [partsL_len] at h1
  rw [List.getElem_set]
  have e : ∀ l' : List It, (partsL P l')[p]'(by rw [partsL_len]; exact h1) = inP (P : Int) p l' := fun l' => by simp [partsL]
  rw [e, inP_snoc]
  by_cases c : q = p
  ·subst c
   rw [if_pos hq, if_pos rfl]
  ·rw [if_neg (by omega), if_neg c, e]
theorem wrapI {i : Nat} (h : i < 4611686018427387904) : wrap64 ((i : Int) + 1) = ((i + 1 : Nat) : Int) := wrap_succ h
theorem parts_go (j : Jb) (P : Nat) (hP : j.f8 = (P : Int)) (h1 : 1 ≤ P) (l : List It) (hs : Sized l) (hl : l.length < 100000000) : ∀ (m i : Nat), i + m = l.length →
  Ev (fun k => mapper_Parts.l0 k (partsL P (l.take i)) l (l.length : Int) (i : Int) j.f0 j.f1 j.f2 j.f3 j.f4 j.f5 j.f6.f0 j.f6.f1 j.f6.f2 j.f7 j.f8 j.f9 j.f10 j.f11) (partsL P l)
 | 0, i, hi => by
  refine Ev.succ ?_
  simp only [mapper_Parts.l0, if_neg (show ¬ (i : Int) < (l.length : Int) by omega)]
  exact Ev.ret (by rw [List.take_of_length_le (by omega)])
 | m + 1, i, hi => by
  have hlt : i < l.length := by omega
  obtain ⟨hr, hm⟩ := rdI_mem l hlt
  obtain ⟨s0, _⟩ := hs _ hm
  obtain ⟨r0, r1⟩ := part_range h1 (l[i].f0)
  obtain ⟨q, hq⟩ : ∃ q : Nat, partV (P : Int) l[i].f0 = (q : Int) := ⟨(partV (P : Int) l[i].f0).toNat, by omega⟩
  have hqP : q < P := by omega
  refine Ev.succ ?_
  simp only [mapper_Parts.l0, if_pos (show (i : Int) < (l.length : Int) by omega), if_pos (show (0 : Int) ≤ (i : Int) by omega), hr]
  refine Ev.bind (part_f j l[i].f0 s0) ?_
  rw [hP, hq]
  have hrd : rd_L6 (partsL P (l.take i)) (q : Int) = inP (P : Int) q (l.take i) := by
   unfold rd_L6
   rw [Int.toNat_natCast, partsL_get P _ hqP]
  have hlen : (inP (P : Int) q (l.take i)).length < 2932031007402 := by
   have := inP_len (P : Int) q (l.take i)
   rw [List.length_take] at this
   omega
  simp only [if_pos (show (0 : Int) ≤ (q : Int) by omega), if_pos (show (q : Int) < ((partsL P (l.take i)).length : Int) by rw [partsL_len]; omega), hrd, if_pos hlen, wrapI (i := i) (by omega), Int.toNat_natCast]
  have hset : (partsL P (l.take i)).set q (inP (P : Int) q (l.take i) ++ [l[i]]) = partsL P (l.take (i + 1)) := by
   rw [List.take_add_one, List.getElem?_eq_getElem hlt]
   exact (partsL_snoc P (l.take i) l[i] q hq hqP).symm
  have := parts_go j P hP h1 l hs hl m (i + 1) (by omega)
  rw [← hset, hP] at this
  exact this
theorem parts_f (j : Jb) (l : List It) (hs : Sized l) (hl : l.length < 100000000) : Ev (fun k => mapper_Parts.f k j.f0 j.f1 j.f2 j.f3 j.f4 j.f5 j.f6.f0 j.f6.f1 j.f6.f2 j.f7 j.f8 j.f9 j.f10 j.f11 l) (if 1 ≤ j.f8 ∧ j.f8 ≤ 8 then partsL j.f8.toNat l else []) := by
 unfold mapper_Parts.f
 by_cases c : j.f8 < 1
 ·simp only [if_pos c]
  refine Ev.succ ?_
  simp only [mapper_Parts.j0, if_true]
  exact Ev.ret (by rw [if_neg (by omega)])
 ·simp only [if_neg c]
  refine Ev.succ ?_
  by_cases d : j.f8 > 8
  ·simp only [mapper_Parts.j0, d, decide_true, if_true]
   exact Ev.ret (by rw [if_neg (by omega)])
  ·obtain ⟨P, hP⟩ : ∃ P : Nat, j.f8 = (P : Int) := ⟨j.f8.toNat, by omega⟩
   rw [if_pos ⟨by omega, by omega⟩]
   simp only [mapper_Parts.j0, d, decide_false, Bool.false_eq_true, if_false, if_pos (show 0 ≤ j.f8 by omega), if_pos (show j.f8.toNat ≤ 11728124029610 by omega)]
   have := parts_go j P hP (by omega) l hs hl l.length 0 (by omega)
   have e : List.replicate j.f8.toNat ([] : List It) = partsL P (l.take 0) := by
    rw [hP, Int.toNat_natCast]
    apply List.ext_getElem
    ·simp [partsL_len]
    ·intro p h1 h2
     simp [partsL, inP]
   rw [e, hP, Int.toNat_natCast]
   rw [hP] at this
   exact this
theorem rpart_go1 (j : Jb) (P : Nat) (hP : j.f8 = (P : Int)) (l : List It) (hs : Sized l) (hl : l.length < 100000000) (p : Nat) (hp : p < P) (hP8 : P ≤ 8) (out : List (List It8)) (hout : out.length = p) {R : List (List It8)}
  (hk : Ev (fun k => r18_Parts.l0 k (l.map toR) (out ++ [(inP (P : Int) p l).map toR]) ((p + 1 : Nat) : Int) j.f0 j.f1 j.f2 j.f3 j.f4 j.f5 j.f6.f0 j.f6.f1 j.f6.f2 j.f7 j.f8 j.f9 j.f10 j.f11) R) : ∀ (m i : Nat), i + m = l.length →
  Ev (fun k => r18_Parts.l1 k (l.map toR) out (p : Int) ((inP (P : Int) p (l.take i)).map toR) (i : Int) j.f0 j.f1 j.f2 j.f3 j.f4 j.f5 j.f6.f0 j.f6.f1 j.f6.f2 j.f7 j.f8 j.f9 j.f10 j.f11) R
 | 0, i, hi => by
  refine Ev.succ ?_
  simp only [r18_Parts.l1, List.length_map, if_neg (show ¬ (i : Int) < (l.length : Int) by omega), if_pos (show out.length < 5864062014805 by omega), wrapI (i := p) (by omega)]
  rw [List.take_of_length_le (by omega)]
  exact hk
 | m + 1, i, hi => by
  have hlt : i < l.length := by omega
  have hlt' : i < (l.map toR).length := by rw [List.length_map]; exact hlt
  obtain ⟨hr, _⟩ := rdR_mem (l.map toR) hlt'
  have hm : l[i] ∈ l := List.getElem_mem hlt
  obtain ⟨s0, _⟩ := hs _ hm
  have ih := rpart_go1 j P hP l hs hl p hp hP8 out hout hk m (i + 1) (by omega)
  have hsn := inP_snoc (P : Int) p (l.take i) l[i]
  have htk : l.take (i + 1) = l.take i ++ [l[i]] := by rw [List.take_add_one, List.getElem?_eq_getElem hlt]; rfl
  rw [htk, hsn] at ih
  have hlen : ((inP (P : Int) p (l.take i)).map toR).length < 2932031007402 := by
   have := inP_len (P : Int) p (l.take i)
   rw [List.length_take] at this
   rw [List.length_map]
   omega
  have e0 : (l.map toR)[i] = toR l[i] := List.getElem_map _
  refine Ev.succ ?_
  simp only [r18_Parts.l1, if_pos (show (i : Int) < ((l.map toR).length : Int) by rw [List.length_map]; omega), if_pos (show (0 : Int) ≤ (i : Int) by omega), hr, e0]
  refine Ev.bind (rpart_f j l[i].f0 s0) ?_
  rw [hP]
  by_cases c : partV (P : Int) l[i].f0 = (p : Int)
  ·rw [if_pos c, List.map_append] at ih
   simp only [if_pos c, if_pos hlen, wrapI (i := i) (by omega)]
   rw [hP] at ih
   exact ih
  ·rw [if_neg c] at ih
   simp only [if_neg c, wrapI (i := i) (by omega)]
   rw [hP] at ih
   exact ih
theorem rpart_go0 (j : Jb) (P : Nat) (hP : j.f8 = (P : Int)) (hP8 : P ≤ 8) (l : List It) (hs : Sized l) (hl : l.length < 100000000) : ∀ (m p : Nat), p + m = P →
  Ev (fun k => r18_Parts.l0 k (l.map toR) ((List.range p).map fun q => (inP (P : Int) q l).map toR) (p : Int) j.f0 j.f1 j.f2 j.f3 j.f4 j.f5 j.f6.f0 j.f6.f1 j.f6.f2 j.f7 j.f8 j.f9 j.f10 j.f11) ((partsL P l).map fun x => x.map toR)
 | 0, p, hp => by
  refine Ev.succ ?_
  simp only [r18_Parts.l0, if_neg (show ¬ (p : Int) < j.f8 by omega)]
  refine Ev.ret ?_
  rw [show p = P by omega]
  simp [partsL]
 | m + 1, p, hp => by
  refine Ev.succ ?_
  simp only [r18_Parts.l0, if_pos (show (p : Int) < j.f8 by omega)]
  have ih := rpart_go0 j P hP hP8 l hs hl m (p + 1) (by omega)
  rw [List.range_succ, List.map_append, List.map_singleton] at ih
  exact rpart_go1 j P hP l hs hl p (by omega) hP8 _ (by simp) ih l.length 0 (by omega)
theorem rparts_f (j : Jb) (l : List It) (hs : Sized l) (hl : l.length < 100000000) : Ev (fun k => r18_Parts.f k j.f0 j.f1 j.f2 j.f3 j.f4 j.f5 j.f6.f0 j.f6.f1 j.f6.f2 j.f7 j.f8 j.f9 j.f10 j.f11 (l.map toR)) (if 1 ≤ j.f8 ∧ j.f8 ≤ 8 then (partsL j.f8.toNat l).map (fun x => x.map toR) else []) := by
 unfold r18_Parts.f
 simp only [Option.bind_some]
 by_cases c : j.f8 < 1
 ·simp only [if_pos c]
  refine Ev.succ ?_
  simp only [r18_Parts.j0, if_true]
  exact Ev.ret (by rw [if_neg (by omega)])
 ·simp only [if_neg c]
  refine Ev.succ ?_
  by_cases d : j.f8 > 8
  ·simp only [r18_Parts.j0, d, decide_true, if_true]
   exact Ev.ret (by rw [if_neg (by omega)])
  ·obtain ⟨P, hP⟩ : ∃ P : Nat, j.f8 = (P : Int) := ⟨j.f8.toNat, by omega⟩
   rw [if_pos ⟨by omega, by omega⟩]
   simp only [r18_Parts.j0, d, decide_false, Bool.false_eq_true, if_false]
   have := rpart_go0 j P hP (by omega) l hs hl P 0 (by omega)
   have e : j.f8.toNat = P := by omega
   rw [e]
   exact this
theorem sum_add {α : Type} (a b : α → Nat) : ∀ L : List α, (L.map fun p => a p + b p).sum = (L.map a).sum + (L.map b).sum
 | [] => rfl
 | x :: L => by simp only [List.map_cons, List.sum_cons, sum_add a b L]; omega
theorem sum_ind (v : Int) (h0 : 0 ≤ v) : ∀ P : Nat, ((List.range P).map fun p : Nat => if v = (p : Int) then 1 else 0).sum = if v < (P : Int) then 1 else 0
 | 0 => by simp; omega
 | P + 1 => by
  rw [List.range_succ, List.map_append, List.sum_append, sum_ind v h0 P]
  simp only [List.map_singleton, List.sum_singleton]
  by_cases c : v = (P : Int)
  ·rw [if_neg (by omega), if_pos c, if_pos (by omega)]
  ·rw [if_neg c]
   by_cases d : v < (P : Int)
   ·rw [if_pos d, if_pos (by omega)]
   ·rw [if_neg d, if_neg (by omega)]
theorem parts_sum (P : Nat) (h1 : 1 ≤ P) : ∀ l : List It, ((partsL P l).map List.length).sum = l.length
 | [] => by
  unfold partsL
  rw [List.map_map]
  have e : (List.range P).map (List.length ∘ fun p => inP (P : Int) p []) = (List.range P).map fun _ => 0 := List.map_congr_left fun p _ => rfl
  rw [e, List.map_const', List.sum_replicate_nat]
  simp
 | x :: l => by
  have ih := parts_sum P h1 l
  obtain ⟨r0, r1⟩ := part_range h1 x.f0
  have hi := sum_ind (partV (P : Int) x.f0) r0 P
  rw [if_pos r1] at hi
  have e : (partsL P (x :: l)).map List.length = (List.range P).map fun p : Nat => (if partV (P : Int) x.f0 = (p : Int) then 1 else 0) + (inP (P : Int) p l).length := by
   unfold partsL
   rw [List.map_map]
   apply List.map_congr_left
   intro p _
   simp only [Function.comp]
   unfold inP
   rw [List.filter_cons]
   by_cases c : partV (P : Int) x.f0 = (p : Int)
   ·simp only [c, decide_true, if_true, List.length_cons]; omega
   ·simp only [c, decide_false, Bool.false_eq_true, if_false]; omega
  rw [e, sum_add, hi, List.length_cons]
  unfold partsL at ih
  rw [List.map_map] at ih
  have e2 : (List.map (fun p => (inP (P : Int) p l).length) (List.range P)).sum = l.length := ih
  omega
theorem alive18 : Ev (fun k => w18_alive.f k) true := Ev.at_k 40 (fun k => w18_alive.mono k) (by kernel_rfl)
theorem law_go (l : List It) (X : List (List It)) (hX : ∀ x ∈ X, x.length < 100000000) (hsum : (X.map List.length).sum = l.length ∨ X = []) (hXs : (X.map List.length).sum < 100000000) (hXl : X.length ≤ 8) : ∀ (m i : Nat), i + m = X.length →
  Ev (fun k => w18_MapperParts.l0 k l X (X.map fun x => x.map toR) (((X.take i).map List.length).sum : Int) (i : Int)) true
 | 0, i, hi => by
  refine Ev.succ ?_
  simp only [w18_MapperParts.l0, if_neg (show ¬ (i : Int) < (X.length : Int) by omega)]
  refine Ev.bind alive18 ?_
  simp only [if_true]
  rw [List.take_of_length_le (by omega)]
  rcases hsum with h | h
  ·by_cases c : (X.length : Int) = 0
   ·simp only [if_pos c]; exact Ev.now _
   ·simp only [if_neg c, h, beq_self_eq_true]; exact Ev.now _
  ·subst h
   simp only [List.length_nil, Int.natCast_zero, if_true]
   exact Ev.now _
 | m + 1, i, hi => by
  have hlt : i < X.length := by omega
  have ih := law_go l X hX hsum hXs hXl m (i + 1) (by omega)
  have hx : rd_L6 X (i : Int) = X[i] := by
   unfold rd_L6
   rw [Int.toNat_natCast, List.getD_eq_getElem?_getD, List.getElem?_eq_getElem hlt]; rfl
  have hy : rd_L12 (X.map fun x => x.map toR) (i : Int) = X[i].map toR := by
   unfold rd_L12
   rw [Int.toNat_natCast, List.getD_eq_getElem?_getD, List.getElem?_map, List.getElem?_eq_getElem hlt]; rfl
  have hl := hX X[i] (List.getElem_mem hlt)
  have htk : ((X.take (i + 1)).map List.length).sum = ((X.take i).map List.length).sum + X[i].length := by
   rw [List.take_add_one, List.getElem?_eq_getElem hlt, List.map_append, List.sum_append]; rfl
  have hle : ((X.take (i + 1)).map List.length).sum ≤ (X.map List.length).sum := by
   conv => rhs; rw [← List.take_append_drop (i + 1) X]
   rw [List.map_append, List.sum_append]
   omega
  have hw : wrap64 ((((X.take i).map List.length).sum : Int) + (X[i].length : Int)) = (((X.take (i + 1)).map List.length).sum : Int) := by
   rw [wrap_id (by omega) (by omega), htk]; push_cast; rfl
  refine Ev.succ ?_
  simp only [w18_MapperParts.l0, if_pos (show (i : Int) < (X.length : Int) by omega), if_pos (show (0 : Int) ≤ (i : Int) by omega), List.length_map, hx, hy]
  refine Ev.bind (items_f X[i] (by omega)) ?_
  refine Ev.bind (rsame18 (X[i].map toR) (by rw [List.length_map]; omega)) ?_
  simp only [if_true, hw, wrapI (i := i) (by omega)]
  exact ih
end Go.Proofs.YtialoecplmnjfaaGreatDoorL
namespace Go.Proofs.YtialoecplmnjfaaGreatDoor.Pure
open Go.RowKit Go.Proofs Go.Proofs.YtialoecplmnjfaaGreatDoor Go.Proofs.YtialoecplmnjfaaGreatDoor.PX Go.Proofs.YtialoecplmnjfaaGreatDoorW.PrintWords Go.Proofs.YtialoecplmnjfaaGreatDoorL
theorem MapperParts : w18_MapperParts.Pure := by
 intro j l _ hl
 have hs : Sized l := fun q hq => ⟨(hl.2 q hq).1, (hl.2 q hq).2.2.2⟩
 have hll : l.length < 100000000000000 := by have := hl.1; omega
 obtain ⟨b, hb⟩ := little_f j
 obtain ⟨c, hc, hcl⟩ := few_f l hs hll
 refine Ev.rounds ?_
 unfold w18_MapperParts.f
 refine Ev.bind hb ?_
 cases b
 ·simp only [Bool.false_eq_true, if_false]
  refine Ev.succ ?_
  simp only [w18_MapperParts.j0, if_true]
  exact Ev.bind alive18 (Ev.now _)
 simp only [if_true]
 refine Ev.bind hc ?_
 refine Ev.succ ?_
 cases c
 ·simp only [w18_MapperParts.j0, Bool.not_false, if_true]
  exact Ev.bind alive18 (Ev.now _)
 have hl4 := hcl rfl
 simp only [w18_MapperParts.j0, Bool.not_true, Bool.false_eq_true, if_false]
 refine Ev.bind (parts_f j l hs (by omega)) ?_
 refine Ev.bind (Ev.const rfl) ?_
 dsimp only
 refine Ev.bind (items_f l (by omega)) ?_
 refine Ev.bind (rparts_f j l hs (by omega)) ?_
 by_cases d : 1 ≤ j.f8 ∧ j.f8 ≤ 8
 ·simp only [if_pos d, List.length_map, if_true]
  obtain ⟨P, hP⟩ : ∃ P : Nat, j.f8.toNat = P := ⟨_, rfl⟩
  rw [hP]
  have hsum := parts_sum P (by omega) l
  refine law_go l (partsL P l) (fun x hx => ?_) (Or.inl hsum) (by omega) (by rw [partsL_len]; omega) P 0 (by rw [partsL_len]; omega)
  obtain ⟨p, _, rfl⟩ := List.mem_map.1 hx
  have := inP_len (P : Int) p l
  omega
 ·simp only [if_neg d, List.length_nil, if_true]
  exact law_go l [] (fun x hx => by cases hx) (Or.inr rfl) (by simp) (by simp) 0 0 rfl
end Go.Proofs.YtialoecplmnjfaaGreatDoor.Pure
