/- Layer 13: plain words for value.Compare, value.Hash, value.Do. -/
import Derived.Test.YtebofnoljebakaaGreatDoorPXx
import Derived.Test.YtebofnoljebakaaGreatDoorLA
import Derived.Sort.Walk0
import Derived.Lib.AtoiAllCases
import Derived.Lib.AtoiTie
import Derived.Lib.ItoaLen
import Derived.Lib.IndexLaws
import Derived.Lib.IndexMore
import Derived.Test.YtebofnoljebakaaGreatDoorXSD
import Derived.Test.YtebofnoljebakaaGreatDoorXBA
set_option linter.unusedVariables false
set_option linter.unusedSimpArgs false
namespace Go.Proofs.YtebofnoljebakaaGreatDoorL
open Go.RowKit Go.Proofs Go.Proofs.YtebofnoljebakaaGreatDoor Go.Proofs.YtebofnoljebakaaGreatDoor.PX Go.Proofs.YtebofnoljebakaaGreatDoorW.PrintWords Go.Proofs.YtebofnoljebakaaGreatDoorW.PrintMore
def cI (a b : Int) : Int := if a < b then -1 else if a > b then 1 else 0
def cS (a b : ByteArray) : Int := if Op.bytesLess a.toList b.toList = true then -1 else if Op.bytesLess b.toList a.toList = true then 1 else 0
def orI (x y z : Int) : Int := if x = 0 then (if y = 0 then z else y) else x
def kd (a b : Bool) : Int := if a = true then (if b = true then 0 else 1) else (if b = true then -1 else 0)
def cmpV (x y : XOps.Sv) : Int := orI (kd x.f0 y.f0) (cI x.f1 y.f1) (cS x.f2 y.f2)
theorem cmpInt (a b : Int) : cmp_Compare_int.f a b = some (cI a b) := by
 have h1 : (a != a) = false := by simp
 have h2 : (b != b) = false := by simp
 simp only [cmp_Compare_int.f, cmp_isNaN_int.f, Option.bind_some, h1, h2, cI, Bool.false_eq_true, if_false]
 split
 ·rfl
 ·split <;> rfl
theorem cmpStr (a b : ByteArray) : cmp_Compare_string.f a b = some (cS a b) := by
 have h1 : (a.toList != a.toList) = false := by simp
 have h2 : (b.toList != b.toList) = false := by simp
 simp only [cmp_Compare_string.f, cmp_isNaN_string.f, Option.bind_some, h1, h2, cS, Bool.false_eq_true, if_false]
 split
 ·rfl
 ·split <;> rfl
theorem or3 (x y z : Int) : Ev (fun k => cmp_Or_int.f k [x, y, z]) (orI x y z) := by
 refine Ev.at_k 5 (fun k => cmp_Or_int.mono _ k) ?_
 have w1 : wrap64 (0 + 1) = 1 := wrap_id (by decide) (by decide)
 have w2 : wrap64 (1 + 1) = 2 := wrap_id (by decide) (by decide)
 have w3 : wrap64 (2 + 1) = 3 := wrap_id (by decide) (by decide)
 have r0 : rd [x, y, z] 0 = x := rfl
 have r1 : rd [x, y, z] 1 = y := rfl
 have r2 : rd [x, y, z] 2 = z := rfl
 have hl : (([x, y, z] : List Int).length : Int) = 3 := rfl
 simp only [cmp_Or_int.f, cmp_Or_int.l0, hl, r0, r1, r2, w1, w2, w3, orI]
 by_cases hx : x = 0
 ·by_cases hy : y = 0
  ·by_cases hz : z = 0
   ·simp [hx, hy, hz, r0, r1, r2]
   ·simp [hx, hy, hz]
  ·simp [hx, hy]
 ·simp [hx]
theorem compare (x y : XOps.Sv) : Ev (fun k => value_Compare.f k x.f0 x.f1 x.f2 y.f0 y.f1 y.f2) (cmpV x y) := by
 obtain ⟨a0, a1, a2⟩ := x
 obtain ⟨b0, b1, b2⟩ := y
 have h : ∀ q : Int, Ev (fun k => (cmp_Compare_int.f a1 b1).bind fun t => (cmp_Compare_string.f a2 b2).bind fun u => (cmp_Or_int.f k [q, t, u]).bind fun r => some r) (orI q (cI a1 b1) (cS a2 b2)) := fun q => by
  simp only [cmpInt, cmpStr, Option.bind_some, Option.bind_fun_some]
  exact or3 _ _ _
 cases a0 <;> cases b0
 ·refine Ev.succ ?_
  simp only [value_Compare.f, value_Compare.j0, Bool.false_eq_true, if_false]
  refine Ev.succ ?_
  simp only [value_Compare.j1, Bool.false_eq_true, if_false]
  exact h 0
 ·refine Ev.succ ?_
  simp only [value_Compare.f, value_Compare.j0, Bool.false_eq_true, if_false]
  refine Ev.succ ?_
  simp only [value_Compare.j1, if_true]
  exact h (-1)
 ·refine Ev.succ ?_
  simp only [value_Compare.f, value_Compare.j0, if_true, Bool.not_false]
  exact h 1
 ·refine Ev.succ ?_
  simp only [value_Compare.f, value_Compare.j0, if_true, Bool.not_true, Bool.false_eq_true, if_false]
  refine Ev.succ ?_
  simp only [value_Compare.j1, Bool.false_eq_true, if_false]
  exact h 0
theorem less_irrefl (x : List UInt8) : Op.bytesLess x x = false := by rw [bytesLess_eq]; simp
theorem less_eq {x y : List UInt8} (h : ¬ Op.bytesLess x y = true) (k : ¬ Op.bytesLess y x = true) : x = y := by
 have := xm_less_gtr x y
 simp only [Bool.not_eq_true] at h k
 rw [h, k] at this
 simpa using this
theorem cI_zero (a b : Int) : cI a b = 0 ↔ a = b := by unfold cI; split <;> (try split) <;> omega
theorem kd_zero (a b : Bool) : kd a b = 0 ↔ a = b := by cases a <;> cases b <;> decide
theorem wraps_u32 (n : Int) (h₀ : 0 ≤ n) (h₁ : n < 2 ^ 32) : IntKind.u32.wrap n = n := by rw [IntKind.wrap_u32]; omega
end Go.Proofs.YtebofnoljebakaaGreatDoorL
namespace Go.Proofs.YtebofnoljebakaaGreatDoorL
open Go.RowKit Go.Proofs Go.Proofs.YtebofnoljebakaaGreatDoor Go.Proofs.YtebofnoljebakaaGreatDoor.PX Go.Proofs.YtebofnoljebakaaGreatDoorW.PrintWords Go.Proofs.YtebofnoljebakaaGreatDoorW.PrintMore
def numV (n : Int) : XOps.Sv := ⟨false, n, ⟨#[]⟩⟩
def clip (s : ByteArray) : ByteArray := s.extract 0 (mn (s.size : Int) 1000).toNat
def textV (s : ByteArray) : XOps.Sv := ⟨true, 0, clip s⟩
def yesV (b : Bool) : XOps.Sv := numV (if b = true then 1 else 0)
def fromS (s : ByteArray) (a : Int) : ByteArray := s.extract (mn (mx a 0) (s.size : Int)).toNat s.size
def sliceS (s : ByteArray) (a b : Int) : ByteArray := (fromS s a).extract 0 (mn (mx b 0) ((fromS s a).size : Int)).toNat
def turnS (f : Int) (s : ByteArray) : ByteArray := strOfNums (XTurn.turnL f (bytesOf s))
def itoaS (n : Int) : ByteArray := ⟨(Lib.itoa n).toArray⟩
def dig (b : UInt8) : Bool := decide (48 ≤ b.toNat ∧ b.toNat ≤ 57)
def magL (l : List UInt8) : Int := (((Lib.decFrom 0 l).getD 0 : Nat) : Int)
def okL (l : List UInt8) : Bool := decide (l ≠ []) && decide (l.length ≤ 18) && l.all dig
def numberL (l : List UInt8) : Int :=
 if l.head? = some 45 then (if okL l.tail = true then -magL l.tail else 0) else (if okL l = true then magL l else 0)
def hashN (x : Int) : List Int → Int
 | [] => x % 2147483648
 | c :: l => hashN (((Go.bits .xor .u32 x (c % 4294967296)) * 16777619) % 4294967296) l
def hashS (s : ByteArray) : Int := hashN 2166136261 (bytesOf s)
def opV (o : Int) (x y z : XOps.Sv) : XOps.Sv :=
 if o = 4 then numV (wrap64 (x.f1 + y.f1)) else if o = 5 then numV (wrap64 (x.f1 - y.f1)) else if o = 6 then numV (wrap64 (x.f1 * y.f1))
 else if o = 7 then numV (if y.f1 = 0 then 0 else wrap64 (Int.tdiv x.f1 y.f1)) else if o = 8 then numV (if y.f1 = 0 then 0 else Int.tmod x.f1 y.f1)
 else if o = 9 then textV (x.f2 ++ y.f2) else if o = 10 then numV (x.f2.size : Int) else if o = 11 then textV (sliceS x.f2 y.f1 z.f1)
 else if o = 12 then textV (turnS 97 x.f2) else if o = 13 then textV (turnS 65 x.f2) else if o = 14 then yesV (cmpV x y == 0) else if o = 15 then yesV (decide (cmpV x y < 0))
 else if o = 16 then yesV (x.f1 == 0) else if o = 17 then (if x.f1 = 0 then z else y) else if o = 18 then numV (numberL x.f2.data.toList) else if o = 19 then textV (itoaS x.f1)
 else if o = 20 then numV (hashS x.f2) else numV (Lib.index x.f2.data.toList y.f2.data.toList)
theorem mn_le (a b : Int) : mn a b ≤ a ∧ mn a b ≤ b := by unfold mn; split <;> omega
theorem mn_ge {a b c : Int} (h : c ≤ a) (k : c ≤ b) : c ≤ mn a b := by unfold mn; split <;> omega
theorem mx_ge (a b : Int) : a ≤ mx a b ∧ b ≤ mx a b := by unfold mx; split <;> omega
theorem num_f (n : Int) : value_Num.f n = some (false, n, (⟨#[]⟩ : ByteArray)) := rfl
theorem text_f (s : ByteArray) : value_Text.f s = some (true, 0, clip s) := by
 unfold value_Text.f
 rw [if_pos (mn_ge (by omega) (by omega)), if_pos (mn_le _ _).1]
 rfl
theorem yes_f (b : Bool) : value_yes.f b = some (false, (if b = true then 1 else 0), (⟨#[]⟩ : ByteArray)) := by cases b <;> rfl
theorem hash_go2 (s : ByteArray) (hs : s.size ≤ 140737488351232) : ∀ (m i : Nat) (x : Int), i + m = s.size → 0 ≤ x → x < 4294967296 → Ev (fun k => value_Hash.l0 k s x (s.size : Int) (i : Int)) (hashN x ((bytesOf s).drop i)) ∧ 0 ≤ hashN x ((bytesOf s).drop i) ∧ hashN x ((bytesOf s).drop i) < 2147483648
 | 0, i, x, hi, h0, h1 => by
  have hb : Go.bits .and .u32 x 2147483647 = x % 2147483648 := bits_mask .u32 32 (by decide) wraps_u32 31 (by decide) x h0 h1
  have hd : (bytesOf s).drop i = [] := List.drop_eq_nil_iff.2 (by rw [bytesOf_length]; omega)
  rw [hd]
  simp only [hashN]
  refine ⟨Ev.succ ?_, by omega, by omega⟩
  simp only [value_Hash.l0, if_neg (show ¬ (i : Int) < (s.size : Int) by omega), hb]
  exact Ev.ret (wrap_id (by omega) (by omega))
 | m + 1, i, x, hi, h0, h1 => by
  have hlt : i < (bytesOf s).length := by rw [bytesOf_length]; omega
  have hd : (bytesOf s).drop i = bt s (i : Int) :: (bytesOf s).drop (i + 1) := by
   rw [List.drop_eq_getElem_cons hlt]
   congr 1
   rw [← rd_bytesOf, rd_nat, List.getD_eq_getElem?_getD, List.getElem?_eq_getElem hlt]
   rfl
  obtain ⟨hr, h2, h3⟩ := hash_go2 s hs m (i + 1) (((Go.bits .xor .u32 x ((bt s (i : Int)) % 4294967296)) * 16777619) % 4294967296) (by omega) (by omega) (by omega)
  rw [hd]
  simp only [hashN]
  refine ⟨Ev.succ ?_, h2, h3⟩
  simp only [value_Hash.l0, if_pos (show (i : Int) < (s.size : Int) by omega), if_pos (show (0 : Int) ≤ (i : Int) by omega), wrap_succ (i := i) (by omega)]
  exact hr
theorem hash_f (s : ByteArray) (hs : s.size ≤ 140737488351232) : Ev (fun k => value_Hash.f k s) (hashS s) ∧ 0 ≤ hashS s ∧ hashS s < 2147483648 :=
 hash_go2 s hs s.size 0 2166136261 (by omega) (by decide) (by decide)
theorem contains_fin : ∀ n : Fin 256, ([48, 49, 50, 51, 52, 53, 54, 55, 56, 57] : List UInt8).contains (UInt8.ofNat n.val) = decide (48 ≤ n.val ∧ n.val ≤ 57) := by decide +kernel
theorem contains_dig (b : UInt8) : ([48, 49, 50, 51, 52, 53, 54, 55, 56, 57] : List UInt8).contains b = dig b := by
 have := contains_fin ⟨b.toNat, b.toNat_lt⟩
 rw [UInt8.ofNat_toNat] at this
 exact this
theorem dropWhile_all {α : Type} {p : α → Bool} {l : List α} (h : l.dropWhile p = []) : ∀ x ∈ l, p x = true := by
 induction l with
 | nil => intro x hx; cases hx
 | cons a l ih =>
  rw [List.dropWhile_cons] at h
  split at h
  ·intro x hx
   rcases List.mem_cons.1 hx with rfl | hx
   ·assumption
   ·exact ih h x hx
  ·cases h
theorem all_dropWhile {α : Type} {p : α → Bool} {l : List α} (h : ∀ x ∈ l, p x = true) : l.dropWhile p = [] := by
 induction l with
 | nil => rfl
 | cons a l ih =>
  rw [List.dropWhile_cons, if_pos (h a List.mem_cons_self)]
  exact ih fun x hx => h x (List.mem_cons_of_mem _ hx)
theorem dropWhile_head {α : Type} {p : α → Bool} {l : List α} {a : α} {r : List α} (h : l.dropWhile p = a :: r) : p a = false := by
 induction l with
 | nil => cases h
 | cons b l ih =>
  rw [List.dropWhile_cons] at h
  split at h
  ·exact ih h
  ·injection h with h1 h2
   subst h1
   simpa using ‹¬ p b = true›
theorem trim_nil (l cs : List UInt8) : Lib.trimS l cs = [] ↔ ∀ x ∈ l, cs.contains x = true := by
 unfold Lib.trimS Lib.trimLeftS Lib.trimRightS
 constructor
 ·intro h
  have h1 := dropWhile_all h
  have h2 : l.reverse.dropWhile (cs.contains ·) = [] := by
   rcases hq : l.reverse.dropWhile (cs.contains ·) with _ | ⟨a, r⟩
   ·rfl
   ·have h3 := dropWhile_head hq
    have h4 := h1 a (by rw [hq]; simp)
    rw [h4] at h3
    cases h3
  intro x hx
  exact dropWhile_all h2 x (by simpa using hx)
 ·intro h
  have h2 : l.reverse.dropWhile (cs.contains ·) = [] := all_dropWhile fun x hx => h x (by simpa using hx)
  rw [h2]
  rfl
theorem dec_all {l : List UInt8} (h : l.all dig = true) : ∀ a, ∃ m, Lib.decFrom a l = some m := by
 induction l with
 | nil => intro a; exact ⟨a, rfl⟩
 | cons b r ih =>
  intro a
  simp only [List.all_cons, Bool.and_eq_true] at h
  have hb : Lib.digitVal b = some (b.toNat - 48) := by
   have := h.1
   unfold dig at this
   unfold Lib.digitVal
   rw [if_pos (of_decide_eq_true this)]
  obtain ⟨m, hm⟩ := ih h.2 (a * 10 + (b.toNat - 48))
  exact ⟨m, by simp only [Lib.decFrom, hb]; exact hm⟩
theorem ok_mag {l : List UInt8} (h : okL l = true) : Lib.parseMag l = .ok (magL l).toNat ∧ 0 ≤ magL l ∧ magL l < 1000000000000000000 := by
 unfold okL at h
 simp only [Bool.and_eq_true, decide_eq_true_eq] at h
 obtain ⟨⟨h1, h2⟩, h3⟩ := h
 obtain ⟨m, hm⟩ := dec_all h3 0
 have h4 : magL l = (m : Int) := by unfold magL; rw [hm]; rfl
 have h5 := Lib.decFrom_lt18 hm h2
 refine ⟨?_, by omega, by omega⟩
 rw [Lib.parseMag_short l h2, h4]
 unfold Lib.decNat
 rw [if_neg (by simpa using h1), hm]
 rfl
theorem atoi_minus {r : List UInt8} (h : okL r = true) : Lib.atoiAll (45 :: r) = .ok (-magL r) := by
 obtain ⟨h1, h2, h3⟩ := ok_mag h
 rw [Lib.atoiAll_minus, h1]
 simp only [Lib.signed]
 rw [if_neg (by omega)]
 congr 1 <;> omega
theorem atoi_plain {l : List UInt8} (h : okL l = true) : Lib.atoiAll l = .ok (magL l) := by
 obtain ⟨h1, h2, h3⟩ := ok_mag h
 unfold okL at h
 simp only [Bool.and_eq_true, decide_eq_true_eq] at h
 obtain ⟨⟨k1, k2⟩, k3⟩ := h
 rcases l with _ | ⟨c, r⟩
 ·exact absurd rfl k1
 simp only [List.all_cons, Bool.and_eq_true] at k3
 have hc := k3.1
 unfold dig at hc
 have hc := of_decide_eq_true hc
 rw [Lib.atoiAll_plain c r (by omega) (by omega), h1]
 simp only [Lib.signless]
 rw [if_neg (by omega)]
 congr 1 <;> omega
theorem data_extract (s : ByteArray) (a : Nat) : (s.extract a s.size).data.toList = s.data.toList.drop a := by
 rw [Lib.extract_data]
 rw [List.take_of_length_le]
 rw [List.length_drop, data_length]
 exact Nat.le_refl _
theorem prefix_f (s : ByteArray) : strings_TrimPrefix.f s (⟨#[45]⟩ : ByteArray) = some (if s.data.toList.head? = some 45 then s.extract 1 s.size else s) := by
 have h1 : (⟨#[45]⟩ : ByteArray).size = 1 := rfl
 have hl := data_length s
 unfold strings_TrimPrefix.f stringslite_TrimPrefix.f stringslite_HasPrefix.f
 rcases hq : s.data.toList with _ | ⟨c, r⟩
 ·rw [hq] at hl
  have hz : s.size = 0 := hl.symm
  rw [h1, hz]
  rfl
 ·rw [hq] at hl
  have hz : 1 ≤ s.size := by rw [← hl]; simp
  have he : (s.extract 0 1).toList = [c] := by
   rw [toList_data, Lib.extract_data, hq]
   rfl
  rw [h1, if_pos (show (s.size : Int) ≥ ((1 : Nat) : Int) by omega), if_pos (show (0 : Int) ≤ ((1 : Nat) : Int) by decide), if_pos (show ((1 : Nat) : Int) ≤ (s.size : Int) by omega)]
  simp only [Int.toNat_natCast, he, Option.bind_some]
  have h2 : (⟨#[45]⟩ : ByteArray).toList = [45] := by rw [toList_data]
  rw [h2]
  by_cases hc : c = 45
  ·subst hc
   simp only [List.head?_cons, if_true, BEq.rfl]
   rw [if_pos (show (0 : Int) ≤ ((1 : Nat) : Int) by decide), if_pos (show ((1 : Nat) : Int) ≤ (s.size : Int) by omega)]
   rfl
  ·have h3 : ([c] == ([45] : List UInt8)) = false := by simp [hc]
   rw [h3]
   simp [hc]
theorem number_f (s : ByteArray) (hs : s.size ≤ 140737488351232) (b0 : Bool) (b1 : Int) (y z : XOps.Sv) : Ev (fun k => value_val_number.f k b0 b1 s y.f0 y.f1 y.f2 z.f0 z.f1 z.f2) (false, numberL s.data.toList, (⟨#[]⟩ : ByteArray)) := by
 have key : ∀ t : ByteArray, t.size ≤ 140737488351232 → (∀ h : okL t.data.toList = true, Lib.atoiAll s.data.toList = .ok (numberL s.data.toList)) → (okL t.data.toList = false → numberL s.data.toList = 0) →
   Ev (fun k => if t.toList = ([] : List UInt8) then (value_val_number.j0 k true b0 b1 s) else (if (t.size : Int) > 18 then (value_val_number.j0 k true b0 b1 s) else ((strings_Trim.f t (⟨#[48, 49, 50, 51, 52, 53, 54, 55, 56, 57]⟩ : ByteArray)).bind fun t246 => (value_val_number.j0 k (t246.toList != ([] : List UInt8)) b0 b1 s)))) (false, numberL s.data.toList, (⟨#[]⟩ : ByteArray)) := by
  intro t ht hok hno
  have bad : okL t.data.toList = false → Ev (fun k => value_val_number.j0 k true b0 b1 s) (false, numberL s.data.toList, (⟨#[]⟩ : ByteArray)) := fun h => by
   rw [hno h]
   refine Ev.succ ?_
   simp only [value_val_number.j0, if_true, num_f, Option.bind_some]
   exact Ev.now _
  have hlen := data_length t
  by_cases h1 : t.toList = ([] : List UInt8)
  ·simp only [if_pos h1]
   rw [toList_data] at h1
   refine bad ?_
   rw [h1]; rfl
  ·simp only [if_neg h1]
   rw [toList_data] at h1
   by_cases h2 : (t.size : Int) > 18
   ·simp only [if_pos h2]
    refine bad ?_
    unfold okL
    have : ¬ t.data.toList.length ≤ 18 := by rw [hlen]; omega
    rw [decide_eq_false this, Bool.and_false, Bool.false_and]
   ·simp only [if_neg h2]
    have h3 : strings_Trim.f t (⟨#[48, 49, 50, 51, 52, 53, 54, 55, 56, 57]⟩ : ByteArray) = some ⟨(Lib.trimS t.data.toList [48, 49, 50, 51, 52, 53, 54, 55, 56, 57]).toArray⟩ := by
     unfold strings_Trim.f
     rw [if_pos ⟨by omega, by decide, by decide⟩]
    simp only [h3, Option.bind_some]
    have h4 : (⟨(Lib.trimS t.data.toList [48, 49, 50, 51, 52, 53, 54, 55, 56, 57]).toArray⟩ : ByteArray).toList = Lib.trimS t.data.toList [48, 49, 50, 51, 52, 53, 54, 55, 56, 57] := by rw [toList_data]
    rw [h4]
    by_cases h5 : t.data.toList.all dig = true
    ·have h6 : Lib.trimS t.data.toList [48, 49, 50, 51, 52, 53, 54, 55, 56, 57] = [] := (trim_nil _ _).2 fun x hx => by rw [contains_dig]; exact List.all_eq_true.1 h5 x hx
     have h7 : okL t.data.toList = true := by
      unfold okL
      have : t.data.toList.length ≤ 18 := by rw [hlen]; omega
      rw [h5, decide_eq_true h1, decide_eq_true this]
      rfl
     rw [h6]
     refine Ev.succ ?_
     have h8 : strconv_Atoi.f s = some (numberL s.data.toList, none) := by
      unfold strconv_Atoi.f
      rw [if_pos (by omega), hok h7]
     simp only [value_val_number.j0, h8, num_f, Option.bind_some, bne_self_eq_false, Bool.false_eq_true, if_false]
     exact Ev.now _
    ·have h6 : (Lib.trimS t.data.toList [48, 49, 50, 51, 52, 53, 54, 55, 56, 57] != []) = true := by
      rw [bne_iff_ne]
      intro h
      refine h5 (List.all_eq_true.2 fun x hx => ?_)
      rw [← contains_dig]
      exact (trim_nil _ _).1 h x hx
     rw [h6]
     refine bad ?_
     unfold okL
     simp only [Bool.not_eq_true] at h5
     rw [h5, Bool.and_false]
 unfold value_val_number.f
 simp only [prefix_f, Option.bind_some]
 rcases hq : s.data.toList with _ | ⟨c, r⟩
 ·have : ¬ s.data.toList.head? = some 45 := by rw [hq]; simp
  rw [hq] at this
  simp only [List.head?_nil, if_neg this]
  have hk := key s hs
  rw [hq] at hk
  exact hk (fun h => by cases h) (fun _ => rfl)
 ·by_cases hc : c = 45
  ·subst hc
   simp only [List.head?_cons, if_true]
   have hx : (s.extract 1 s.size).data.toList = r := by rw [data_extract, hq]; rfl
   have hz : (s.extract 1 s.size).size ≤ 140737488351232 := by rw [← data_length, hx]; have := data_length s; rw [hq] at this; simp at this; omega
   have hk := key (s.extract 1 s.size) hz
   rw [hx, hq] at hk
   refine hk (fun h => ?_) (fun h => ?_)
   ·unfold numberL
    rw [if_pos (show (45 :: r : List UInt8).head? = some 45 from rfl)]
    rw [if_pos (show okL (45 :: r : List UInt8).tail = true from h)]
    exact atoi_minus h
   ·unfold numberL
    rw [if_pos (show (45 :: r : List UInt8).head? = some 45 from rfl)]
    rw [if_neg (show ¬ okL (45 :: r : List UInt8).tail = true by rw [show okL (45 :: r : List UInt8).tail = false from h]; simp)]
  ·have hh : ¬ (c :: r).head? = some 45 := by simp [hc]
   simp only [if_neg hh]
   have hk := key s hs
   rw [hq] at hk
   refine hk (fun h => ?_) (fun h => ?_)
   ·unfold numberL
    rw [if_neg hh, if_pos h]
    exact atoi_plain h
   ·unfold numberL
    rw [if_neg hh, h]
    rfl
structure Fit (x : XOps.Sv) : Prop where
 size : x.f2.size ≤ 140737488351232
 num : -9223372036854775808 ≤ x.f1 ∧ x.f1 ≤ 9223372036854775807
theorem Ev.map {α β : Type} {g : Nat → Option α} {a : α} (f : α → β) {b : β} (h : Ev g a) (e : f a = b) : Ev (fun k => (g k).map f) b := by
 obtain ⟨K, h⟩ := h
 exact ⟨K, fun k hk => by show (g k).map f = some b; rw [h k hk, ← e]; rfl⟩
def toSv (p : Bool × Int × ByteArray) : XOps.Sv := ⟨p.1, p.2.1, p.2.2⟩
theorem D_add (k : Nat) (x y z : XOps.Sv) : value_Do.D k 74 x y z = (value_val_add.f x.f0 x.f1 x.f2 y.f0 y.f1 y.f2 z.f0 z.f1 z.f2).map toSv := rfl
theorem D_sub (k : Nat) (x y z : XOps.Sv) : value_Do.D k 75 x y z = (value_val_sub.f x.f0 x.f1 x.f2 y.f0 y.f1 y.f2 z.f0 z.f1 z.f2).map toSv := rfl
theorem D_mul (k : Nat) (x y z : XOps.Sv) : value_Do.D k 76 x y z = (value_val_mul.f x.f0 x.f1 x.f2 y.f0 y.f1 y.f2 z.f0 z.f1 z.f2).map toSv := rfl
theorem D_div (k : Nat) (x y z : XOps.Sv) : value_Do.D k 77 x y z = (value_val_div.f x.f0 x.f1 x.f2 y.f0 y.f1 y.f2 z.f0 z.f1 z.f2).map toSv := rfl
theorem D_mod (k : Nat) (x y z : XOps.Sv) : value_Do.D k 78 x y z = (value_val_mod.f x.f0 x.f1 x.f2 y.f0 y.f1 y.f2 z.f0 z.f1 z.f2).map toSv := rfl
theorem D_join (k : Nat) (x y z : XOps.Sv) : value_Do.D k 79 x y z = (value_val_join.f x.f0 x.f1 x.f2 y.f0 y.f1 y.f2 z.f0 z.f1 z.f2).map toSv := rfl
theorem D_long (k : Nat) (x y z : XOps.Sv) : value_Do.D k 80 x y z = (value_val_long.f x.f0 x.f1 x.f2 y.f0 y.f1 y.f2 z.f0 z.f1 z.f2).map toSv := rfl
theorem D_slice (k : Nat) (x y z : XOps.Sv) : value_Do.D k 81 x y z = (value_val_slice.f x.f0 x.f1 x.f2 y.f0 y.f1 y.f2 z.f0 z.f1 z.f2).map toSv := rfl
theorem D_upper (k : Nat) (x y z : XOps.Sv) : value_Do.D k 82 x y z = (value_val_upper.f x.f0 x.f1 x.f2 y.f0 y.f1 y.f2 z.f0 z.f1 z.f2).map toSv := rfl
theorem D_lower (k : Nat) (x y z : XOps.Sv) : value_Do.D k 83 x y z = (value_val_lower.f x.f0 x.f1 x.f2 y.f0 y.f1 y.f2 z.f0 z.f1 z.f2).map toSv := rfl
theorem D_eq (k : Nat) (x y z : XOps.Sv) : value_Do.D k 84 x y z = (value_val_eq.f k x.f0 x.f1 x.f2 y.f0 y.f1 y.f2 z.f0 z.f1 z.f2).map toSv := rfl
theorem D_less (k : Nat) (x y z : XOps.Sv) : value_Do.D k 85 x y z = (value_val_less.f k x.f0 x.f1 x.f2 y.f0 y.f1 y.f2 z.f0 z.f1 z.f2).map toSv := rfl
theorem D_not (k : Nat) (x y z : XOps.Sv) : value_Do.D k 86 x y z = (value_val_not.f x.f0 x.f1 x.f2 y.f0 y.f1 y.f2 z.f0 z.f1 z.f2).map toSv := rfl
theorem D_choose (k : Nat) (x y z : XOps.Sv) : value_Do.D k 87 x y z = (value_val_choose.f x.f0 x.f1 x.f2 y.f0 y.f1 y.f2 z.f0 z.f1 z.f2).map toSv := rfl
theorem D_number (k : Nat) (x y z : XOps.Sv) : value_Do.D k 88 x y z = (value_val_number.f k x.f0 x.f1 x.f2 y.f0 y.f1 y.f2 z.f0 z.f1 z.f2).map toSv := rfl
theorem D_text (k : Nat) (x y z : XOps.Sv) : value_Do.D k 89 x y z = (value_val_text.f x.f0 x.f1 x.f2 y.f0 y.f1 y.f2 z.f0 z.f1 z.f2).map toSv := rfl
theorem D_hash (k : Nat) (x y z : XOps.Sv) : value_Do.D k 90 x y z = (value_val_hash.f k x.f0 x.f1 x.f2 y.f0 y.f1 y.f2 z.f0 z.f1 z.f2).map toSv := rfl
theorem D_find (k : Nat) (x y z : XOps.Sv) : value_Do.D k 91 x y z = (value_val_find.f x.f0 x.f1 x.f2 y.f0 y.f1 y.f2 z.f0 z.f1 z.f2).map toSv := rfl
theorem slice_f (s : ByteArray) (a b : Int) (b0 : Bool) (b1 : Int) (y0 : Bool) (y2 : ByteArray) (z0 : Bool) (z2 : ByteArray) : value_val_slice.f b0 b1 s y0 a y2 z0 b z2 = some (true, 0, clip (sliceS s a b)) := by
 unfold value_val_slice.f
 rw [if_pos (mn_ge (by have := (mx_ge a 0).2; omega) (by omega)), if_pos (mn_le _ _).2]
 rw [if_pos (mn_ge (by have := (mx_ge b 0).2; omega) (by omega)), if_pos (mn_le _ _).2]
 rw [text_f]
 rfl
theorem turn_f (s : ByteArray) (f : Int) (h0 : 0 ≤ f) (h1 : f ≤ 200) (hs : s.size ≤ 140737488351232) : value_turn.f s f = some (true, 0, clip (turnS f s)) := by
 unfold value_turn.f
 rw [if_pos ⟨h0, h1, by omega⟩, text_f]
 rfl
theorem op_does {o : Int} {ks : List Int} {t : Int} {f : Nat} (h : XOps.opFn o = some (ks, t, f)) (x y z : XOps.Sv) (hx : Fit x) (hy : Fit y) (hs : x.f2.size ≤ 4000 ∧ y.f2.size ≤ 4000) : Ev (fun k => value_Do.D k f x y z) (opV o x y z) := by
 by_cases h4 : o = 4
 ·subst h4
  obtain rfl : f = 74 := by
   injection h with h
   injection h with _ h
   injection h with _ h
   exact h.symm
  simp only [D_add]
  exact Ev.const rfl
 by_cases h5 : o = 5
 ·subst h5
  obtain rfl : f = 75 := by
   injection h with h
   injection h with _ h
   injection h with _ h
   exact h.symm
  simp only [D_sub]
  exact Ev.const rfl
 by_cases h6 : o = 6
 ·subst h6
  obtain rfl : f = 76 := by
   injection h with h
   injection h with _ h
   injection h with _ h
   exact h.symm
  simp only [D_mul]
  exact Ev.const rfl
 by_cases h7 : o = 7
 ·subst h7
  obtain rfl : f = 77 := by
   injection h with h
   injection h with _ h
   injection h with _ h
   exact h.symm
  simp only [D_div]
  refine Ev.const ?_
  unfold value_val_div.f opV
  by_cases c : y.f1 = 0
  ·simp [c, num_f, toSv, numV]
  ·simp [c, num_f, toSv, numV]
 by_cases h8 : o = 8
 ·subst h8
  obtain rfl : f = 78 := by
   injection h with h
   injection h with _ h
   injection h with _ h
   exact h.symm
  simp only [D_mod]
  refine Ev.const ?_
  unfold value_val_mod.f opV
  by_cases c : y.f1 = 0
  ·simp [c, num_f, toSv, numV]
  ·simp [c, num_f, toSv, numV]
 by_cases h9 : o = 9
 ·subst h9
  obtain rfl : f = 79 := by
   injection h with h
   injection h with _ h
   injection h with _ h
   exact h.symm
  simp only [D_join]
  refine Ev.const ?_
  unfold value_val_join.f opV
  rw [if_pos (by omega), text_f]
  rfl
 by_cases h10 : o = 10
 ·subst h10
  obtain rfl : f = 80 := by
   injection h with h
   injection h with _ h
   injection h with _ h
   exact h.symm
  simp only [D_long]
  exact Ev.const rfl
 by_cases h11 : o = 11
 ·subst h11
  obtain rfl : f = 81 := by
   injection h with h
   injection h with _ h
   injection h with _ h
   exact h.symm
  simp only [D_slice]
  refine Ev.const ?_
  rw [slice_f]
  rfl
 by_cases h12 : o = 12
 ·subst h12
  obtain rfl : f = 82 := by
   injection h with h
   injection h with _ h
   injection h with _ h
   exact h.symm
  simp only [D_upper]
  refine Ev.const ?_
  unfold value_val_upper.f
  rw [turn_f _ _ (by decide) (by decide) hx.size]
  rfl
 by_cases h13 : o = 13
 ·subst h13
  obtain rfl : f = 83 := by
   injection h with h
   injection h with _ h
   injection h with _ h
   exact h.symm
  simp only [D_lower]
  refine Ev.const ?_
  unfold value_val_lower.f
  rw [turn_f _ _ (by decide) (by decide) hx.size]
  rfl
 by_cases h14 : o = 14
 ·subst h14
  obtain rfl : f = 84 := by
   injection h with h
   injection h with _ h
   injection h with _ h
   exact h.symm
  simp only [D_eq]
  refine Ev.map toSv (a := (false, (if (cmpV x y == 0) = true then 1 else 0), (⟨#[]⟩ : ByteArray))) ?_ rfl
  unfold value_val_eq.f
  refine Ev.bind (compare x y) ?_
  rw [yes_f]
  exact Ev.now _
 by_cases h15 : o = 15
 ·subst h15
  obtain rfl : f = 85 := by
   injection h with h
   injection h with _ h
   injection h with _ h
   exact h.symm
  simp only [D_less]
  refine Ev.map toSv (a := (false, (if (decide (cmpV x y < 0)) = true then 1 else 0), (⟨#[]⟩ : ByteArray))) ?_ rfl
  unfold value_val_less.f
  refine Ev.bind (compare x y) ?_
  rw [yes_f]
  exact Ev.now _
 by_cases h16 : o = 16
 ·subst h16
  obtain rfl : f = 86 := by
   injection h with h
   injection h with _ h
   injection h with _ h
   exact h.symm
  simp only [D_not]
  refine Ev.const ?_
  unfold value_val_not.f
  rw [yes_f]
  rfl
 by_cases h17 : o = 17
 ·subst h17
  obtain rfl : f = 87 := by
   injection h with h
   injection h with _ h
   injection h with _ h
   exact h.symm
  simp only [D_choose]
  refine Ev.const ?_
  unfold value_val_choose.f opV
  by_cases c : x.f1 = 0
  ·simp [c, toSv]
  ·simp [c, toSv]
 by_cases h18 : o = 18
 ·subst h18
  obtain rfl : f = 88 := by
   injection h with h
   injection h with _ h
   injection h with _ h
   exact h.symm
  simp only [D_number]
  exact Ev.map toSv (number_f x.f2 hx.size x.f0 x.f1 y z) rfl
 by_cases h19 : o = 19
 ·subst h19
  obtain rfl : f = 89 := by
   injection h with h
   injection h with _ h
   injection h with _ h
   exact h.symm
  simp only [D_text]
  refine Ev.const ?_
  unfold value_val_text.f strconv_Itoa.f
  rw [if_pos hx.num, Option.bind_some, text_f]
  rfl
 by_cases h20 : o = 20
 ·subst h20
  obtain rfl : f = 90 := by
   injection h with h
   injection h with _ h
   injection h with _ h
   exact h.symm
  simp only [D_hash]
  refine Ev.map toSv (a := (false, hashS x.f2, (⟨#[]⟩ : ByteArray))) ?_ rfl
  unfold value_val_hash.f
  exact Ev.bind (hash_f x.f2 hx.size).1 (Ev.now _)
 by_cases h21 : o = 21
 ·subst h21
  obtain rfl : f = 91 := by
   injection h with h
   injection h with _ h
   injection h with _ h
   exact h.symm
  simp only [D_find]
  refine Ev.const ?_
  unfold value_val_find.f strings_Index.f
  rw [if_pos (by omega)]
  rfl
 have e : XOps.opFn o = none := by simp only [XOps.opFn, h4, h5, h6, h7, h8, h9, h10, h11, h12, h13, h14, h15, h16, h17, h18, h19, h20, h21, if_false]
 rw [e] at h
 cases h
def doV (o : Int) (l : List XOps.Sv) : Bool × Int × ByteArray × Int :=
 if l.any (fun x => !XOps.isValB x) = true then (false, 0, (⟨#[]⟩ : ByteArray), 1) else
 if (XOps.resultF o (l.map (·.f0))).2 ≠ 0 then (false, 0, (⟨#[]⟩ : ByteArray), (XOps.resultF o (l.map (·.f0))).2) else
 ((opV o (l.getD 0 XOps.zv) (l.getD 1 XOps.zv) (l.getD 2 XOps.zv)).f0, (opV o (l.getD 0 XOps.zv) (l.getD 1 XOps.zv) (l.getD 2 XOps.zv)).f1, (opV o (l.getD 0 XOps.zv) (l.getD 1 XOps.zv) (l.getD 2 XOps.zv)).f2, 0)
theorem isVal_size {x : XOps.Sv} (h : XOps.isValB x = true) : x.f2.size ≤ 1000 := by
 unfold XOps.isValB at h
 split at h
 ·simp only [Bool.and_eq_true, decide_eq_true_eq] at h
  omega
 ·have h2 : x.f2.toList = [] := by simpa using h
  rw [toList_data] at h2
  have := data_length x.f2
  rw [h2] at this
  simp at this
  omega
theorem zv_val : XOps.isValB XOps.zv = true := by
 unfold XOps.isValB
 rw [if_neg (show ¬ XOps.zv.f0 = true from fun h => by cases h), toList_data]
 rfl
theorem getD_val {l : List XOps.Sv} (h : ¬ l.any (fun x => !XOps.isValB x) = true) (i : Nat) : XOps.isValB (l.getD i XOps.zv) = true := by
 by_cases hi : i < l.length
 ·rw [List.getD_eq_getElem?_getD, List.getElem?_eq_getElem hi]
  rcases hq : XOps.isValB l[i] with _ | _
  ·refine absurd (List.any_eq_true.2 ⟨l[i], List.getElem_mem hi, ?_⟩) h
   rw [hq]; rfl
  ·exact hq
 ·rw [List.getD_eq_getElem?_getD, List.getElem?_eq_none (by omega)]
  exact zv_val
theorem getD_num {l : List XOps.Sv} (h : ∀ v ∈ l, -9223372036854775808 ≤ v.f1 ∧ v.f1 ≤ 9223372036854775807) (i : Nat) : -9223372036854775808 ≤ (l.getD i XOps.zv).f1 ∧ (l.getD i XOps.zv).f1 ≤ 9223372036854775807 := by
 by_cases hi : i < l.length
 ·rw [List.getD_eq_getElem?_getD, List.getElem?_eq_getElem hi]
  exact h _ (List.getElem_mem hi)
 ·rw [List.getD_eq_getElem?_getD, List.getElem?_eq_none (by omega)]
  decide
theorem do_ (o : Int) (l : List XOps.Sv) (hl : l.length ≤ 1000000) (hn : ∀ v ∈ l, -9223372036854775808 ≤ v.f1 ∧ v.f1 ≤ 9223372036854775807) : Ev (fun k => value_Do.f k o l) (doV o l) := by
 unfold value_Do.f
 simp only [if_pos hl]
 by_cases c1 : l.any (fun x => !XOps.isValB x) = true
 ·simp only [XOps.doF, doV, if_pos c1]
  exact Ev.const rfl
 by_cases c2 : (XOps.resultF o (l.map (·.f0))).2 ≠ 0
 ·simp only [XOps.doF, doV, if_neg c1, if_pos c2]
  exact Ev.const rfl
 have c3 : XOps.resultF o (l.map (·.f0)) = ((XOps.resultF o (l.map (·.f0))).1, 0) := by
  have : (XOps.resultF o (l.map (·.f0))).2 = 0 := by simpa using c2
  rw [← this]
 obtain ⟨ks, t, f, hof, _, _, _⟩ := XOps.res_len c3
 have hv := getD_val c1
 have hN := getD_num hn
 have fit : ∀ i, Fit (l.getD i XOps.zv) := fun i => ⟨by have := isVal_size (hv i); omega, hN i⟩
 have hd := op_does hof (l.getD 0 XOps.zv) (l.getD 1 XOps.zv) (l.getD 2 XOps.zv) (fit 0) (fit 1) ⟨by have := isVal_size (hv 0); omega, by have := isVal_size (hv 1); omega⟩
 simp only [XOps.doF, doV, if_neg c1, if_neg c2, hof]
 exact Ev.map _ (Ev.map _ hd rfl) rfl
end Go.Proofs.YtebofnoljebakaaGreatDoorL
namespace Go.Proofs.YtebofnoljebakaaGreatDoorL
open Go.RowKit Go.Proofs Go.Proofs.YtebofnoljebakaaGreatDoor Go.Proofs.YtebofnoljebakaaGreatDoor.PX Go.Proofs.YtebofnoljebakaaGreatDoorW.PrintWords Go.Proofs.YtebofnoljebakaaGreatDoorW.PrintMore
theorem is_ (x : XOps.Sv) : r13_Is.f x.f0 x.f1 x.f2 = some (XOps.isValB x) := by
 unfold r13_Is.f XOps.isValB
 by_cases h1 : x.f0 = true
 ·rw [if_pos h1, if_pos h1]
  by_cases h2 : x.f1 = 0
  ·rw [if_pos h2, decide_eq_true h2, Bool.true_and]
  ·rw [if_neg h2, decide_eq_false h2, Bool.false_and]
 ·rw [if_neg h1, if_neg h1]
end Go.Proofs.YtebofnoljebakaaGreatDoorL
namespace Go.Proofs.YtebofnoljebakaaGreatDoorL
open Go.RowKit Go.Proofs Go.Proofs.YtebofnoljebakaaGreatDoor Go.Proofs.YtebofnoljebakaaGreatDoor.PX Go.Proofs.YtebofnoljebakaaGreatDoorW.PrintWords Go.Proofs.YtebofnoljebakaaGreatDoorW.PrintMore
def kk (o : Int) : ByteArray × ByteArray :=
 if o = 4 ∨ o = 5 ∨ o = 6 ∨ o = 7 ∨ o = 8 then (⟨#[110, 110]⟩, ⟨#[110]⟩) else if o = 9 then (⟨#[116, 116]⟩, ⟨#[116]⟩) else if o = 10 ∨ o = 18 ∨ o = 20 then (⟨#[116]⟩, ⟨#[110]⟩)
 else if o = 11 then (⟨#[116, 110, 110]⟩, ⟨#[116]⟩) else if o = 12 ∨ o = 13 then (⟨#[116]⟩, ⟨#[116]⟩) else if o = 14 ∨ o = 15 then (⟨#[97, 97]⟩, ⟨#[110]⟩)
 else if o = 16 then (⟨#[110]⟩, ⟨#[110]⟩) else if o = 17 then (⟨#[110, 97, 97]⟩, ⟨#[97]⟩) else if o = 19 then (⟨#[110]⟩, ⟨#[116]⟩) else if o = 21 then (⟨#[116, 116]⟩, ⟨#[110]⟩) else (⟨#[]⟩, ⟨#[]⟩)
theorem op_cases (o : Int) : o = 4 ∨ o = 5 ∨ o = 6 ∨ o = 7 ∨ o = 8 ∨ o = 9 ∨ o = 10 ∨ o = 11 ∨ o = 12 ∨ o = 13 ∨ o = 14 ∨ o = 15 ∨ o = 16 ∨ o = 17 ∨ o = 18 ∨ o = 19 ∨ o = 20 ∨ o = 21 ∨ (o ≠ 4 ∧ o ≠ 5 ∧ o ≠ 6 ∧ o ≠ 7 ∧ o ≠ 8 ∧ o ≠ 9 ∧ o ≠ 10 ∧ o ≠ 11 ∧ o ≠ 12 ∧ o ≠ 13 ∧ o ≠ 14 ∧ o ≠ 15 ∧ o ≠ 16 ∧ o ≠ 17 ∧ o ≠ 18 ∧ o ≠ 19 ∧ o ≠ 20 ∧ o ≠ 21) := by omega
theorem kinds_f (o : Int) : Ev (fun k => r13_kinds.f k o) (kk o) := by
 refine Ev.at_k 8 (fun k => r13_kinds.mono _ k) ?_
 rcases op_cases o with rfl | rfl | rfl | rfl | rfl | rfl | rfl | rfl | rfl | rfl | rfl | rfl | rfl | rfl | rfl | rfl | rfl | rfl | ⟨h4, h5, h6, h7, h8, h9, h10, h11, h12, h13, h14, h15, h16, h17, h18, h19, h20, h21⟩
 case inr.inr.inr.inr.inr.inr.inr.inr.inr.inr.inr.inr.inr.inr.inr.inr.inr.inr =>
  have b8 : (o == 8) = false := by simp [h8]
  have b10 : (o == 10) = false := by simp [h10]
  have b18 : (o == 18) = false := by simp [h18]
  have b20 : (o == 20) = false := by simp [h20]
  have b12 : (o == 12) = false := by simp [h12]
  have b13 : (o == 13) = false := by simp [h13]
  have b14 : (o == 14) = false := by simp [h14]
  have b15 : (o == 15) = false := by simp [h15]
  simp only [r13_kinds.f, r13_kinds.j0, r13_kinds.j1, r13_kinds.j2, r13_kinds.j3, kk, h4, h5, h6, h7, h8, h9, h10, h11, h12, h13, h14, h15, h16, h17, h18, h19, h20, h21, b8, b10, b18, b20, b12, b13, b14, b15, if_false, Bool.false_eq_true, or_self]
 all_goals kernel_rfl
theorem op_kk {o : Int} (h : XOps.opFn o = none) : kk o = (⟨#[]⟩, ⟨#[]⟩) := by
 rcases op_cases o with rfl | rfl | rfl | rfl | rfl | rfl | rfl | rfl | rfl | rfl | rfl | rfl | rfl | rfl | rfl | rfl | rfl | rfl | ⟨h4, h5, h6, h7, h8, h9, h10, h11, h12, h13, h14, h15, h16, h17, h18, h19, h20, h21⟩
 case inr.inr.inr.inr.inr.inr.inr.inr.inr.inr.inr.inr.inr.inr.inr.inr.inr.inr =>
  simp only [kk, h4, h5, h6, h7, h8, h9, h10, h11, h12, h13, h14, h15, h16, h17, h18, h19, h20, h21, if_false, or_self]
 all_goals cases h
theorem op_none {o : Int} (h : o ≠ 4 ∧ o ≠ 5 ∧ o ≠ 6 ∧ o ≠ 7 ∧ o ≠ 8 ∧ o ≠ 9 ∧ o ≠ 10 ∧ o ≠ 11 ∧ o ≠ 12 ∧ o ≠ 13 ∧ o ≠ 14 ∧ o ≠ 15 ∧ o ≠ 16 ∧ o ≠ 17 ∧ o ≠ 18 ∧ o ≠ 19 ∧ o ≠ 20 ∧ o ≠ 21) : XOps.opFn o = none := by
 obtain ⟨h4, h5, h6, h7, h8, h9, h10, h11, h12, h13, h14, h15, h16, h17, h18, h19, h20, h21⟩ := h
 simp only [XOps.opFn, h4, h5, h6, h7, h8, h9, h10, h11, h12, h13, h14, h15, h16, h17, h18, h19, h20, h21, if_false]
theorem res_two {o : Int} {x : Bool × Int} (h : ∀ a b, r13_Result.f 30 o [a, b] = some (XOps.resultF o [a, b])) (l : List Bool) (hl : l.length = 2) : Ev (fun k => r13_Result.f k o l) (XOps.resultF o l) := by
 rcases l with _ | ⟨a, _ | ⟨b, _ | ⟨c, r⟩⟩⟩ <;> simp at hl
 exact Ev.at_k 30 (fun k => r13_Result.mono _ _ k) (h a b)
theorem res_one {o : Int} (h : ∀ a, r13_Result.f 30 o [a] = some (XOps.resultF o [a])) (l : List Bool) (hl : l.length = 1) : Ev (fun k => r13_Result.f k o l) (XOps.resultF o l) := by
 rcases l with _ | ⟨a, _ | ⟨b, r⟩⟩ <;> simp at hl
 exact Ev.at_k 30 (fun k => r13_Result.mono _ _ k) (h a)
theorem res_three {o : Int} (h : ∀ a b c, r13_Result.f 30 o [a, b, c] = some (XOps.resultF o [a, b, c])) (l : List Bool) (hl : l.length = 3) : Ev (fun k => r13_Result.f k o l) (XOps.resultF o l) := by
 rcases l with _ | ⟨a, _ | ⟨b, _ | ⟨c, _ | ⟨d, r⟩⟩⟩⟩ <;> simp at hl
 exact Ev.at_k 30 (fun k => r13_Result.mono _ _ k) (h a b c)
theorem res_off {o : Int} {ks : List Int} {t : Int} {f : Nat} (hq : XOps.opFn o = some (ks, t, f)) (hk : (kk o).1.size = ks.length) (hn : ¬ (kk o).1.toList = []) (l : List Bool) (hl : l.length ≠ ks.length) : Ev (fun k => r13_Result.f k o l) (XOps.resultF o l) := by
 unfold r13_Result.f
 refine Ev.bind (kinds_f o) ?_
 simp only [if_neg hn, if_neg (show ¬ (l.length : Int) = ((kk o).1.size : Int) by rw [hk]; omega)]
 refine Ev.ret ?_
 rw [XOps.res_short hq rfl hl]
theorem result_f (o : Int) (l : List Bool) : Ev (fun k => r13_Result.f k o l) (XOps.resultF o l) := by
 rcases op_cases o with rfl | rfl | rfl | rfl | rfl | rfl | rfl | rfl | rfl | rfl | rfl | rfl | rfl | rfl | rfl | rfl | rfl | rfl | hn
 ·by_cases hl : l.length = 2
  ·exact res_two (x := (false, 0)) (fun a b => by cases a <;> cases b <;> kernel_rfl) l hl
  ·exact res_off (show XOps.opFn 4 = _ from rfl) rfl (by rw [toList_data]; decide) l hl
 ·by_cases hl : l.length = 2
  ·exact res_two (x := (false, 0)) (fun a b => by cases a <;> cases b <;> kernel_rfl) l hl
  ·exact res_off (show XOps.opFn 5 = _ from rfl) rfl (by rw [toList_data]; decide) l hl
 ·by_cases hl : l.length = 2
  ·exact res_two (x := (false, 0)) (fun a b => by cases a <;> cases b <;> kernel_rfl) l hl
  ·exact res_off (show XOps.opFn 6 = _ from rfl) rfl (by rw [toList_data]; decide) l hl
 ·by_cases hl : l.length = 2
  ·exact res_two (x := (false, 0)) (fun a b => by cases a <;> cases b <;> kernel_rfl) l hl
  ·exact res_off (show XOps.opFn 7 = _ from rfl) rfl (by rw [toList_data]; decide) l hl
 ·by_cases hl : l.length = 2
  ·exact res_two (x := (false, 0)) (fun a b => by cases a <;> cases b <;> kernel_rfl) l hl
  ·exact res_off (show XOps.opFn 8 = _ from rfl) rfl (by rw [toList_data]; decide) l hl
 ·by_cases hl : l.length = 2
  ·exact res_two (x := (false, 0)) (fun a b => by cases a <;> cases b <;> kernel_rfl) l hl
  ·exact res_off (show XOps.opFn 9 = _ from rfl) rfl (by rw [toList_data]; decide) l hl
 ·by_cases hl : l.length = 1
  ·exact res_one (fun a => by cases a <;> kernel_rfl) l hl
  ·exact res_off (show XOps.opFn 10 = _ from rfl) rfl (by rw [toList_data]; decide) l hl
 ·by_cases hl : l.length = 3
  ·exact res_three (fun a b c => by cases a <;> cases b <;> cases c <;> kernel_rfl) l hl
  ·exact res_off (show XOps.opFn 11 = _ from rfl) rfl (by rw [toList_data]; decide) l hl
 ·by_cases hl : l.length = 1
  ·exact res_one (fun a => by cases a <;> kernel_rfl) l hl
  ·exact res_off (show XOps.opFn 12 = _ from rfl) rfl (by rw [toList_data]; decide) l hl
 ·by_cases hl : l.length = 1
  ·exact res_one (fun a => by cases a <;> kernel_rfl) l hl
  ·exact res_off (show XOps.opFn 13 = _ from rfl) rfl (by rw [toList_data]; decide) l hl
 ·by_cases hl : l.length = 2
  ·exact res_two (x := (false, 0)) (fun a b => by cases a <;> cases b <;> kernel_rfl) l hl
  ·exact res_off (show XOps.opFn 14 = _ from rfl) rfl (by rw [toList_data]; decide) l hl
 ·by_cases hl : l.length = 2
  ·exact res_two (x := (false, 0)) (fun a b => by cases a <;> cases b <;> kernel_rfl) l hl
  ·exact res_off (show XOps.opFn 15 = _ from rfl) rfl (by rw [toList_data]; decide) l hl
 ·by_cases hl : l.length = 1
  ·exact res_one (fun a => by cases a <;> kernel_rfl) l hl
  ·exact res_off (show XOps.opFn 16 = _ from rfl) rfl (by rw [toList_data]; decide) l hl
 ·by_cases hl : l.length = 3
  ·exact res_three (fun a b c => by cases a <;> cases b <;> cases c <;> kernel_rfl) l hl
  ·exact res_off (show XOps.opFn 17 = _ from rfl) rfl (by rw [toList_data]; decide) l hl
 ·by_cases hl : l.length = 1
  ·exact res_one (fun a => by cases a <;> kernel_rfl) l hl
  ·exact res_off (show XOps.opFn 18 = _ from rfl) rfl (by rw [toList_data]; decide) l hl
 ·by_cases hl : l.length = 1
  ·exact res_one (fun a => by cases a <;> kernel_rfl) l hl
  ·exact res_off (show XOps.opFn 19 = _ from rfl) rfl (by rw [toList_data]; decide) l hl
 ·by_cases hl : l.length = 1
  ·exact res_one (fun a => by cases a <;> kernel_rfl) l hl
  ·exact res_off (show XOps.opFn 20 = _ from rfl) rfl (by rw [toList_data]; decide) l hl
 ·by_cases hl : l.length = 2
  ·exact res_two (x := (false, 0)) (fun a b => by cases a <;> cases b <;> kernel_rfl) l hl
  ·exact res_off (show XOps.opFn 21 = _ from rfl) rfl (by rw [toList_data]; decide) l hl
 ·unfold r13_Result.f
  refine Ev.bind (kinds_f o) ?_
  have h1 : (kk o).1.toList = [] := by rw [op_kk (op_none hn), toList_data]
  simp only [if_pos h1]
  refine Ev.ret ?_
  unfold XOps.resultF
  rw [op_none hn]
end Go.Proofs.YtebofnoljebakaaGreatDoorL
namespace Go.Proofs.YtebofnoljebakaaGreatDoorL
open Go.RowKit Go.Proofs Go.Proofs.YtebofnoljebakaaGreatDoor Go.Proofs.YtebofnoljebakaaGreatDoor.PX Go.Proofs.YtebofnoljebakaaGreatDoorW.PrintWords Go.Proofs.YtebofnoljebakaaGreatDoorW.PrintMore
theorem rcompare (x y : XOps.Sv) : Ev (fun k => r13_Compare.f k x.f0 x.f1 x.f2 y.f0 y.f1 y.f2) (cmpV x y) := by
 obtain ⟨a0, a1, a2⟩ := x
 obtain ⟨b0, b1, b2⟩ := y
 refine Ev.at_k 5 (fun k => r13_Compare.mono _ _ _ _ _ _ k) ?_
 simp only [r13_Compare.f, r13_Compare.j0]
 by_cases h0 : a0 = b0
 ·subst h0
  have hk : kd a0 a0 = 0 := (kd_zero a0 a0).2 rfl
  simp only [bne_self_eq_false, Bool.false_eq_true, if_false]
  unfold cmpV orI
  simp only [hk, if_true]
  by_cases h1 : a1 < b1
  ·have hc : cI a1 b1 = -1 := by unfold cI; rw [if_pos h1]
   simp only [if_pos h1, if_true, hc]
   rfl
  ·simp only [if_neg h1]
   by_cases h2 : a1 = b1
   ·subst h2
    have hc : cI a1 a1 = 0 := (cI_zero a1 a1).2 rfl
    simp only [if_true, hc]
    unfold cS
    by_cases h3 : Op.bytesLess a2.toList b2.toList = true
    ·simp only [if_pos h3]
    ·simp only [if_neg h3]
     by_cases h4 : a2.toList = b2.toList
     ·simp only [if_pos h4]
      rw [h4, less_irrefl]
      rfl
     ·simp only [if_neg h4]
      have h5 : Op.bytesLess b2.toList a2.toList = true := by
       rcases hq : Op.bytesLess b2.toList a2.toList with _ | _
       ·exact absurd (less_eq h3 (by rw [hq]; simp)) h4
       ·rfl
      rw [if_pos h5]
   ·have hc : cI a1 b1 = 1 := by unfold cI; rw [if_neg h1, if_pos (by omega)]
    simp only [if_neg h2, Bool.false_eq_true, if_false, hc]
    rfl
 ·have hb : (a0 != b0) = true := by simp [h0]
  simp only [hb, if_true]
  unfold cmpV orI
  cases a0 <;> cases b0
  ·exact absurd rfl h0
  ·rfl
  ·rfl
  ·exact absurd rfl h0
theorem rhash_go (s : ByteArray) (hs : s.size ≤ 140737488351232) : ∀ (m i : Nat) (x : Int), i + m = s.size → 0 ≤ x → x < 4294967296 → Ev (fun k => r13_Hash.l0 k s x (i : Int)) (hashN x ((bytesOf s).drop i))
 | 0, i, x, hi, h0, h1 => by
  have hd : (bytesOf s).drop i = [] := List.drop_eq_nil_iff.2 (by rw [bytesOf_length]; omega)
  rw [hd]
  simp only [hashN]
  refine Ev.succ ?_
  simp only [r13_Hash.l0, if_neg (show ¬ (i : Int) < (s.size : Int) by omega)]
  refine Ev.ret ?_
  rw [Int.tmod_eq_emod_of_nonneg h0]
  exact wrap_id (by omega) (by omega)
 | m + 1, i, x, hi, h0, h1 => by
  have hlt : i < (bytesOf s).length := by rw [bytesOf_length]; omega
  have hd : (bytesOf s).drop i = bt s (i : Int) :: (bytesOf s).drop (i + 1) := by
   rw [List.drop_eq_getElem_cons hlt]
   congr 1
   rw [← rd_bytesOf, rd_nat, List.getD_eq_getElem?_getD, List.getElem?_eq_getElem hlt]
   rfl
  have hr := rhash_go s hs m (i + 1) (((Go.bits .xor .u32 x ((bt s (i : Int)) % 4294967296)) * 16777619) % 4294967296) (by omega) (by omega) (by omega)
  rw [hd]
  simp only [hashN]
  refine Ev.succ ?_
  simp only [r13_Hash.l0, if_pos (show (i : Int) < (s.size : Int) by omega), if_pos (show (0 : Int) ≤ (i : Int) by omega), wrap_succ (i := i) (by omega)]
  exact hr
theorem rhash (s : ByteArray) (hs : s.size ≤ 140737488351232) : Ev (fun k => r13_Hash.f k s) (hashS s) := rhash_go s hs s.size 0 2166136261 (by omega) (by decide) (by decide)
theorem rturn_go (s : ByteArray) (f : Int) (hf : 0 ≤ f ∧ f ≤ 200) (hs : s.size ≤ 140737488351232) : ∀ (m i : Nat), i + m = s.size → Ev (fun k => r13_turned.l0 k s f (XTurn.turnL f ((bytesOf s).take i)) (i : Int)) (turnS f s)
 | 0, i, hi => by
  refine Ev.succ ?_
  simp only [r13_turned.l0, if_neg (show ¬ (i : Int) < (s.size : Int) by omega)]
  refine Ev.ret ?_
  rw [List.take_of_length_le (by rw [bytesOf_length]; omega)]
  rfl
 | m + 1, i, hi => by
  have hlt : i < (bytesOf s).length := by rw [bytesOf_length]; omega
  have hb : bt s (i : Int) = (bytesOf s)[i] := by
   rw [← rd_bytesOf, rd_nat, List.getD_eq_getElem?_getD, List.getElem?_eq_getElem hlt]
   rfl
  have ht : XTurn.turnL f ((bytesOf s).take (i + 1)) = XTurn.turnL f ((bytesOf s).take i) ++ [XTurn.turnB f (bt s (i : Int))] := by
   unfold XTurn.turnL
   rw [List.take_add_one, List.getElem?_eq_getElem hlt, List.map_append, hb]
   rfl
  have hr := rturn_go s f hf hs m (i + 1) (by omega)
  rw [ht] at hr
  have hlen : (XTurn.turnL f ((bytesOf s).take i)).length < 140737488355328 := by
   unfold XTurn.turnL
   rw [List.length_map, List.length_take, bytesOf_length]
   omega
  have hm : (f + 26) % 256 = f + 26 := by omega
  refine Ev.succ ?_
  simp only [r13_turned.l0, if_pos (show (i : Int) < (s.size : Int) by omega), if_pos (show (0 : Int) ≤ (i : Int) by omega), wrap_succ (i := i) (by omega), hm, if_pos hlen]
  by_cases c1 : bt s (i : Int) ≥ f
  ·simp only [if_pos c1]
   by_cases c2 : bt s (i : Int) < f + 26
   ·simp only [if_pos c2]
    have : XTurn.turnB f (bt s (i : Int)) = Go.bits .xor .u8 (bt s (i : Int)) 32 := by unfold XTurn.turnB; rw [if_pos ⟨c1, c2⟩]
    rw [this] at hr
    exact hr
   ·simp only [if_neg c2]
    have : XTurn.turnB f (bt s (i : Int)) = bt s (i : Int) := by unfold XTurn.turnB; rw [if_neg (by omega)]
    rw [this] at hr
    exact hr
  ·simp only [if_neg c1]
   have : XTurn.turnB f (bt s (i : Int)) = bt s (i : Int) := by unfold XTurn.turnB; rw [if_neg (by omega)]
   rw [this] at hr
   exact hr
theorem rturn (s : ByteArray) (f : Int) (hf : 0 ≤ f ∧ f ≤ 200) (hs : s.size ≤ 140737488351232) : Ev (fun k => r13_turned.f k s f) (turnS f s) := by
 have := rturn_go s f hf hs s.size 0 (by omega)
 rw [List.take_zero] at this
 exact this
theorem rtext (s : ByteArray) : r13_Text.f s = some (true, 0, clip s) := by
 unfold r13_Text.f r13_clip.f
 rw [if_pos (mn_ge (by omega) (by omega)), if_pos (mn_le _ _).1]
 rfl
theorem ext_data {a b : ByteArray} (h : a.data.toList = b.data.toList) : a = b := ByteArray.ext (Array.toList_inj.1 h)
theorem rslice (s : ByteArray) (a b : Int) (hs : s.size ≤ 140737488351232) : r13_slice.f s a b = some (sliceS s a b) := by
 have h1 := mn_le (mx a 0) (s.size : Int)
 have h2 : 0 ≤ mn (mx a 0) (s.size : Int) := mn_ge (mx_ge a 0).2 (by omega)
 generalize hp : mn (mx a 0) (s.size : Int) = p at h1 h2
 have w1 : wrap64 ((s.size : Int) - p) = (s.size : Int) - p := wrap_id (by omega) (by omega)
 have h3 := mn_le (mx b 0) ((s.size : Int) - p)
 have h4 : 0 ≤ mn (mx b 0) ((s.size : Int) - p) := mn_ge (mx_ge b 0).2 (by omega)
 generalize hq : mn (mx b 0) ((s.size : Int) - p) = q at h3 h4
 have w2 : wrap64 (p + q) = p + q := wrap_id (by omega) (by omega)
 unfold r13_slice.f
 simp only [hp, w1, hq, w2]
 rw [if_pos h2, if_pos (by omega), if_pos (by omega)]
 congr 1
 have hz : (fromS s a).size = s.size - p.toNat := by
  unfold fromS
  rw [hp, ByteArray.size_extract]
  omega
 unfold sliceS
 have e : (mn (mx b 0) ((fromS s a).size : Int)) = q := by
  rw [hz, ← hq]
  congr 1
  omega
 rw [e]
 apply ext_data
 rw [Lib.extract_data, Lib.extract_data]
 unfold fromS
 rw [hp, data_extract, List.drop_zero]
 congr 1
 omega
theorem rdiv (a b : Int) (ha : -9223372036854775808 ≤ a ∧ a ≤ 9223372036854775807) : r13_div.f a b = some (if b = 0 then 0 else wrap64 (Int.tdiv a b), if b = 0 then 0 else Int.tmod a b) := by
 unfold r13_div.f
 by_cases h : b = 0
 ·simp [h]
 ·by_cases h1 : b = -1
  ·subst h1
   simp [Int.tdiv_neg, Int.tmod_neg]
  ·simp [h, h1]
theorem dec_dig : ∀ (l : List UInt8) (a n : Nat), Lib.decFrom a l = some n → l.all dig = true
 | [], _, _, _ => rfl
 | b :: r, a, n, h => by
  simp only [Lib.decFrom] at h
  rcases hq : Lib.digitVal b with _ | d
  ·rw [hq] at h; cases h
  ·rw [hq] at h
   have h1 := Lib.digitVal_eq hq
   have h2 := dec_dig r _ _ h
   simp only [List.all_cons, h2, Bool.and_true]
   unfold dig
   exact decide_eq_true ⟨h1.1, h1.2.1⟩
theorem bt_data (s : ByteArray) (i : Nat) (h : i < s.size) : ∃ b, s.data.toList[i]? = some b ∧ bt s (i : Int) = (b.toNat : Int) := by
 have h' : i < s.data.toList.length := by rw [data_length]; exact h
 refine ⟨s.data.toList[i], List.getElem?_eq_getElem h', ?_⟩
 rw [← rd_bytesOf, rd_nat]
 unfold bytesOf
 rw [List.getD_eq_getElem?_getD, List.getElem?_map, List.getElem?_eq_getElem h']
 rfl
theorem rnum_go (t : ByteArray) (sg : Int) (hsg : sg = 1 ∨ sg = -1) (ht : t.size ≤ 18) : ∀ (m i acc : Nat), i + m = t.size → Lib.decFrom 0 (t.data.toList.take i) = some acc →
  Ev (fun k => r13_number.l0 k t sg (acc : Int) (i : Int)) (if t.data.toList.all dig = true then sg * magL t.data.toList else 0)
 | 0, i, acc, hi, hd => by
  rw [List.take_of_length_le (by rw [data_length]; omega)] at hd
  have hb := Lib.decFrom_lt18 hd (by rw [data_length]; exact ht)
  have hm : magL t.data.toList = (acc : Int) := by unfold magL; rw [hd]; rfl
  rw [if_pos (dec_dig _ _ _ hd), hm]
  refine Ev.succ ?_
  simp only [r13_number.l0, if_neg (show ¬ (i : Int) < (t.size : Int) by omega)]
  refine Ev.ret ?_
  rcases hsg with rfl | rfl
  ·exact wrap_id (by omega) (by omega)
  ·exact wrap_id (by omega) (by omega)
 | m + 1, i, acc, hi, hd => by
  obtain ⟨b, h1, h2⟩ := bt_data t i (by omega)
  by_cases hdg : 48 ≤ b.toNat ∧ b.toNat ≤ 57
  ·have hdv : Lib.digitVal b = some (b.toNat - 48) := by unfold Lib.digitVal; rw [if_pos hdg]
   have hd2 := Lib.decFrom_take t.data.toList i 0 acc b _ hd h1 hdv
   have hlt := Lib.decFrom_lt _ _ _ hd2
   have hlen : (t.data.toList.take (i + 1)).length = i + 1 := by rw [List.length_take, data_length]; omega
   rw [hlen] at hlt
   have hpow : 10 ^ (i + 1) ≤ 10 ^ 18 := Nat.pow_le_pow_right (by decide) (by omega)
   have hbnd : acc * 10 + (b.toNat - 48) < 1000000000000000000 := by
    have : (0 + 1) * 10 ^ (i + 1) ≤ 1000000000000000000 := by simpa using hpow
    omega
   have ih := rnum_go t sg hsg ht m (i + 1) _ (by omega) hd2
   have e1 : wrap64 (10 * (acc : Int)) = 10 * (acc : Int) := wrap_id (by omega) (by omega)
   have e2 : ((b.toNat : Int) - 48) % 256 = (b.toNat : Int) - 48 := by omega
   have e3 : wrap64 (10 * (acc : Int) + ((b.toNat : Int) - 48)) = ((acc * 10 + (b.toNat - 48) : Nat) : Int) := by
    rw [wrap_id (by omega) (by omega)]
    omega
   refine Ev.succ ?_
   simp only [r13_number.l0, if_pos (show (i : Int) < (t.size : Int) by omega), if_pos (show (0 : Int) ≤ (i : Int) by omega), h2, if_neg (show ¬ (b.toNat : Int) < 48 by omega), if_neg (show ¬ (b.toNat : Int) > 57 by omega), e1, e2, e3, wrap_succ (i := i) (by omega)]
   exact ih
  ·have hno : ¬ t.data.toList.all dig = true := by
    intro h
    have := List.all_eq_true.1 h b (List.mem_of_getElem? h1)
    unfold dig at this
    exact hdg (of_decide_eq_true this)
   rw [if_neg hno]
   refine Ev.succ ?_
   simp only [r13_number.l0, if_pos (show (i : Int) < (t.size : Int) by omega), if_pos (show (0 : Int) ≤ (i : Int) by omega), h2]
   by_cases c : (b.toNat : Int) < 48
   ·simp only [if_pos c]; exact Ev.now _
   ·simp only [if_neg c, if_pos (show (b.toNat : Int) > 57 by omega)]; exact Ev.now _
theorem rnum_j1 (t : ByteArray) (sg : Int) (hsg : sg = 1 ∨ sg = -1) : Ev (fun k => r13_number.j1 k t sg) (if okL t.data.toList = true then sg * magL t.data.toList else 0) := by
 have hlen := data_length t
 refine Ev.succ ?_
 by_cases h0 : (t.size : Int) < 1
 ·have : okL t.data.toList = false := by
   have h1 : t.data.toList = [] := List.eq_nil_of_length_eq_zero (by omega)
   rw [h1]; rfl
  simp only [r13_number.j1, if_pos h0, this, Bool.false_eq_true, if_false]
  refine Ev.succ ?_
  simp only [r13_number.j2, if_true]
  exact Ev.now _
 ·simp only [r13_number.j1, if_neg h0]
  by_cases h1 : (t.size : Int) > 18
  ·have : okL t.data.toList = false := by
    unfold okL
    have h2 : ¬ t.data.toList.length ≤ 18 := by omega
    rw [decide_eq_false h2, Bool.and_false, Bool.false_and]
   simp only [decide_eq_true h1, this, Bool.false_eq_true, if_false]
   refine Ev.succ ?_
   simp only [r13_number.j2, if_true]
   exact Ev.now _
  ·have hok : okL t.data.toList = t.data.toList.all dig := by
    unfold okL
    have h2 : t.data.toList.length ≤ 18 := by omega
    have h3 : t.data.toList ≠ [] := fun e => by rw [e] at hlen; simp at hlen; omega
    rw [decide_eq_true h2, decide_eq_true h3, Bool.true_and, Bool.true_and]
   simp only [decide_eq_false h1, hok]
   refine Ev.succ ?_
   simp only [r13_number.j2, Bool.false_eq_true, if_false]
   exact rnum_go t sg hsg (by omega) t.size 0 0 (by omega) rfl
theorem rnumber (s : ByteArray) : Ev (fun k => r13_number.f k s) (numberL s.data.toList) := by
 have hlen := data_length s
 unfold r13_number.f
 rcases hq : s.data.toList with _ | ⟨c, r⟩
 ·rw [hq] at hlen
  have hz : s.size = 0 := hlen.symm
  simp only [if_neg (show ¬ (s.size : Int) > 0 by omega)]
  refine Ev.succ ?_
  simp only [r13_number.j0, Bool.false_eq_true, if_false]
  have := rnum_j1 s 1 (.inl rfl)
  rw [hq] at this
  exact this
 ·rw [hq] at hlen
  have hz : 0 < s.size := by rw [← hlen]; simp
  obtain ⟨b, h1, h2⟩ := bt_data s 0 hz
  rw [hq] at h1
  obtain rfl : c = b := by simpa using h1
  have h2 : bt s 0 = (c.toNat : Int) := h2
  simp only [if_pos (show (s.size : Int) > 0 by omega), if_pos (show (0 : Int) < (s.size : Int) by omega), h2]
  refine Ev.succ ?_
  by_cases hc : c = 45
  ·subst hc
   simp only [r13_number.j0, show (((45 : UInt8).toNat : Int) == 45) = true from rfl, if_true, if_pos (show (1 : Int) ≤ (s.size : Int) by omega)]
   have := rnum_j1 (s.extract 1 s.size) (-1) (.inr rfl)
   rw [data_extract, hq] at this
   refine this.to ?_
   unfold numberL
   rw [if_pos (show (45 :: r : List UInt8).head? = some 45 from rfl)]
   show (if okL r = true then -1 * magL r else 0) = if okL r = true then -magL r else 0
   by_cases h : okL r = true
   ·rw [if_pos h, if_pos h]; omega
   ·rw [if_neg h, if_neg h]
  ·have hb : ((c.toNat : Int) == 45) = false := by
    have : ¬ c.toNat = 45 := fun h => hc (UInt8.toNat_inj.1 h)
    simp
    omega
   simp only [r13_number.j0, hb, Bool.false_eq_true, if_false]
   have := rnum_j1 s 1 (.inl rfl)
   rw [hq] at this
   refine this.to ?_
   unfold numberL
   rw [if_neg (show ¬ (c :: r : List UInt8).head? = some 45 by simp [hc])]
   by_cases h : okL (c :: r) = true
   ·rw [if_pos h, if_pos h]; omega
   ·rw [if_neg h, if_neg h]
theorem app_data (a b : List UInt8) : (⟨a.toArray⟩ ++ ⟨b.toArray⟩ : ByteArray) = ⟨(a ++ b).toArray⟩ := by
 apply ext_data
 rw [ByteArray.data_append]
 simp
theorem size_data (a : List UInt8) : (⟨a.toArray⟩ : ByteArray).size = a.length := by
 show a.toArray.size = a.length
 simp
theorem rfigs : ∀ (n : Nat), n < 18446744073709551616 → Ev (fun k => r13_figures.f k (n : Int)) (⟨(Lib.decDigits n).toArray⟩ : ByteArray) := by
 intro n
 induction n using Nat.strongRecOn with
 | _ n ih =>
  intro hn
  have h1 : Int.tmod (n : Int) 10 = ((n % 10 : Nat) : Int) := by rw [Int.tmod_eq_emod_of_nonneg (by omega)]; omega
  have h2 : IntKind.u64.wrap (48 + ((n % 10 : Nat) : Int)) % 256 = ((48 + n % 10 : Nat) : Int) := by rw [IntKind.wrap_u64]; omega
  have h3 : strOfNums [((48 + n % 10 : Nat) : Int)] = (⟨[UInt8.ofNat (48 + n % 10)].toArray⟩ : ByteArray) := by
   unfold strOfNums
   rw [List.map_cons, List.map_nil, Int.toNat_natCast]
  refine Ev.succ ?_
  simp only [r13_figures.f, h1, h2, Option.bind_some, h3]
  by_cases c : n < 10
  ·simp only [if_pos (show (n : Int) < 10 by omega)]
   refine Ev.ret ?_
   rw [Lib.decDigits, dif_pos c, Nat.mod_eq_of_lt c]
  ·simp only [if_neg (show ¬ (n : Int) < 10 by omega)]
   have h4 : IntKind.u64.wrap (Int.tdiv (n : Int) 10) = ((n / 10 : Nat) : Int) := by
    rw [Int.tdiv_eq_ediv_of_nonneg (by omega), IntKind.wrap_u64]; omega
   rw [h4]
   refine Ev.bind (ih (n / 10) (by omega) (by omega)) ?_
   have hl : (Lib.decDigits (n / 10)).length ≤ 20 := by rw [Lib.decDigits_length]; exact Lib.nDigits_le20 _ (by omega)
   rw [size_data, size_data]
   simp only [List.length_cons, List.length_nil]
   simp only [if_pos (show (Lib.decDigits (n / 10)).length + (0 + 1) ≤ 9223372036854775807 by omega)]
   refine Ev.ret ?_
   rw [app_data]
   conv => rhs; rw [Lib.decDigits, dif_neg c]
theorem rfigures (n : Int) (h : -9223372036854775808 ≤ n ∧ n ≤ 9223372036854775807) : Ev (fun k => r13_Figures.f k n) (itoaS n) := by
 unfold r13_Figures.f itoaS Lib.itoa
 by_cases c : n < 0
 ·have h1 : IntKind.u64.wrap (-(IntKind.u64.wrap n)) = ((n.natAbs : Nat) : Int) := by rw [IntKind.wrap_u64, IntKind.wrap_u64]; omega
  simp only [if_pos c, h1]
  refine Ev.bind (rfigs _ (by omega)) ?_
  have hl : (Lib.decDigits n.natAbs).length ≤ 20 := by rw [Lib.decDigits_length]; exact Lib.nDigits_le20 _ (by omega)
  rw [size_data]
  simp only [if_pos (show 1 + (Lib.decDigits n.natAbs).length ≤ 9223372036854775807 by omega)]
  refine Ev.ret ?_
  exact app_data [45] _
 ·have h1 : IntKind.u64.wrap n = ((n.toNat : Nat) : Int) := by rw [IntKind.wrap_u64]; omega
  simp only [if_neg c, h1]
  refine Ev.bind (rfigs _ (by omega)) ?_
  exact Ev.now _
theorem occ_take (l m : List UInt8) (i : Nat) : Lib.occAt l m i = true ↔ (l.drop i).take m.length = m := by
 unfold Lib.occAt
 rw [List.isPrefixOf_iff_prefix, List.prefix_iff_eq_take]
 exact eq_comm
theorem rfind_go (s t : ByteArray) (hs : s.size ≤ 140737488351232) (ht : t.size ≤ 140737488351232) : ∀ (n i : Nat), i + n = s.size + 1 → (∀ j, j < i → Lib.occAt s.data.toList t.data.toList j = false) →
  Ev (fun k => r13_find.l0 k s t (i : Int)) (Lib.index s.data.toList t.data.toList) := by
 have hls := data_length s
 have hlt := data_length t
 have far : ∀ i : Nat, s.size < i + t.size → (∀ j, j < i → Lib.occAt s.data.toList t.data.toList j = false) → Lib.index s.data.toList t.data.toList = -1 := fun i h hno => by
  refine Lib.index_none fun j hj => ?_
  by_cases c : j < i
  ·exact hno j c
  ·rcases hq : Lib.occAt s.data.toList t.data.toList j with _ | _
   ·rfl
   ·have h1 := congrArg List.length ((occ_take _ _ _).1 hq)
    rw [List.length_take, List.length_drop] at h1
    omega
 have last : ∀ i : Nat, i ≤ s.size + 1 → s.size < i + t.size → (∀ j, j < i → Lib.occAt s.data.toList t.data.toList j = false) → Ev (fun k => r13_find.l0 k s t (i : Int)) (Lib.index s.data.toList t.data.toList) := fun i hi h hno => by
  rw [far i h hno]
  refine Ev.succ ?_
  have hw : wrap64 ((i : Int) + (t.size : Int)) = (i : Int) + (t.size : Int) := wrap_id (by omega) (by omega)
  simp only [r13_find.l0, hw, if_neg (show ¬ (i : Int) + (t.size : Int) ≤ (s.size : Int) by omega)]
  exact Ev.now _
 intro n
 induction n with
 | zero => intro i hi hno; exact last i (by omega) (by omega) hno
 | succ n ih =>
  intro i hi hno
  by_cases c : i + t.size ≤ s.size
  ·have hw : wrap64 ((i : Int) + (t.size : Int)) = ((i + t.size : Nat) : Int) := by rw [wrap_id (by omega) (by omega)]; omega
   have he : (s.extract i (i + t.size)).toList = t.toList ↔ Lib.occAt s.data.toList t.data.toList i = true := by
    rw [toList_data, toList_data, Lib.extract_data, occ_take, hlt, Nat.add_sub_cancel_left]
   refine Ev.succ ?_
   simp only [r13_find.l0, hw, if_pos (show ((i + t.size : Nat) : Int) ≤ (s.size : Int) by omega), if_pos (show (0 : Int) ≤ (i : Int) by omega), if_pos (show (i : Int) ≤ ((i + t.size : Nat) : Int) by omega), Int.toNat_natCast]
   by_cases h : (s.extract i (i + t.size)).toList = t.toList
   ·simp only [if_pos h]
    refine Ev.ret ?_
    exact (Lib.index_first (by omega) (he.1 h) hno).symm
   ·simp only [if_neg h, wrap_succ (i := i) (by omega)]
    refine ih (i + 1) (by omega) fun j hj => ?_
    by_cases d : j < i
    ·exact hno j d
    ·obtain rfl : j = i := by omega
     rcases hq : Lib.occAt s.data.toList t.data.toList j with _ | _
     ·rfl
     ·exact absurd (he.2 hq) h
  ·exact last i (by omega) (by omega) hno
theorem rfind (s t : ByteArray) (hs : s.size ≤ 140737488351232) (ht : t.size ≤ 140737488351232) : Ev (fun k => r13_find.f k s t) (Lib.index s.data.toList t.data.toList) :=
 rfind_go s t hs ht (s.size + 1) 0 (by omega) (fun j hj => absurd hj (Nat.not_lt_zero _))
def unSv (x : XOps.Sv) : Bool × Int × ByteArray := (x.f0, x.f1, x.f2)
theorem ryes (b : Bool) : r13_yes.f b = some (false, (if b = true then 1 else 0), (⟨#[]⟩ : ByteArray)) := by cases b <;> rfl
theorem rreck (o : Int) (x y z : XOps.Sv) (hx : Fit x) (ho : o = 4 ∨ o = 5 ∨ o = 6 ∨ o = 7 ∨ o = 8 ∨ o = 14 ∨ o = 15 ∨ o = 16 ∨ o = 17) : Ev (fun k => r13_reckoned.f k o x.f0 x.f1 x.f2 y.f0 y.f1 y.f2 z.f0 z.f1 z.f2) (unSv (opV o x y z)) := by
 unfold r13_reckoned.f
 simp only [rdiv _ _ hx.num, Option.bind_some]
 rcases ho with rfl | rfl | rfl | rfl | rfl | rfl | rfl | rfl | rfl
 ·exact Ev.const rfl
 ·exact Ev.const rfl
 ·exact Ev.const rfl
 ·exact Ev.const rfl
 ·exact Ev.const rfl
 ·refine Ev.bind (rcompare x y) ?_
  rw [ryes]
  exact Ev.now _
 ·refine Ev.bind (rcompare x y) ?_
  rw [ryes]
  exact Ev.now _
 ·show Ev (fun k => r13_yes.f (x.f1 == 0)) _
  rw [ryes]
  exact Ev.now _
 ·refine Ev.const ?_
  show (if x.f1 = 0 then some (z.f0, z.f1, z.f2) else some (y.f0, y.f1, y.f2)) = some (unSv (if x.f1 = 0 then z else y))
  by_cases c : x.f1 = 0
  ·rw [if_pos c, if_pos c]; rfl
  ·rw [if_neg c, if_neg c]; rfl
theorem rtexted (o : Int) (x y z : XOps.Sv) (hx : Fit x) (hy : Fit y) (ho : o = 9 ∨ o = 10 ∨ o = 11 ∨ o = 12 ∨ o = 13 ∨ o = 18 ∨ o = 19 ∨ o = 20 ∨ o = 21) : Ev (fun k => r13_texted.f k o x.f0 x.f1 x.f2 y.f0 y.f1 y.f2 z.f0 z.f1 z.f2) (unSv (opV o x y z)) := by
 have h1 := hx.size
 have h2 := hy.size
 unfold r13_texted.f
 rcases ho with rfl | rfl | rfl | rfl | rfl | rfl | rfl | rfl | rfl
 ·refine Ev.const ?_
  show (if x.f2.size + y.f2.size ≤ 9223372036854775807 then _ else none) = _
  rw [if_pos (by omega), rtext]
  rfl
 ·exact Ev.const rfl
 ·refine Ev.const ?_
  show (r13_slice.f x.f2 y.f1 z.f1).bind _ = _
  rw [rslice _ _ _ h1, Option.bind_some, rtext]
  rfl
 ·refine Ev.bind (rturn x.f2 97 (by decide) h1) ?_
  rw [rtext]
  exact Ev.now _
 ·refine Ev.bind (rturn x.f2 65 (by decide) h1) ?_
  rw [rtext]
  exact Ev.now _
 ·refine Ev.bind (rnumber x.f2) ?_
  exact Ev.now _
 ·refine Ev.bind (rfigures x.f1 hx.num) ?_
  rw [rtext]
  exact Ev.now _
 ·refine Ev.bind (rhash x.f2 h1) ?_
  exact Ev.now _
 ·refine Ev.bind (rfind x.f2 y.f2 h1 h2) ?_
  exact Ev.now _
theorem op_list {o : Int} {ks : List Int} {t : Int} {f : Nat} (h : XOps.opFn o = some (ks, t, f)) : (o = 4 ∨ o = 5 ∨ o = 6 ∨ o = 7 ∨ o = 8 ∨ o = 14 ∨ o = 15 ∨ o = 16 ∨ o = 17) ∨ (o = 9 ∨ o = 10 ∨ o = 11 ∨ o = 12 ∨ o = 13 ∨ o = 18 ∨ o = 19 ∨ o = 20 ∨ o = 21) := by
 rcases op_cases o with rfl | rfl | rfl | rfl | rfl | rfl | rfl | rfl | rfl | rfl | rfl | rfl | rfl | rfl | rfl | rfl | rfl | rfl | hn
 case inr.inr.inr.inr.inr.inr.inr.inr.inr.inr.inr.inr.inr.inr.inr.inr.inr.inr => rw [op_none hn] at h; cases h
 all_goals omega
theorem rdo_j2 (o : Int) (x y z : XOps.Sv) (hx : Fit x) (hy : Fit y) {ks : List Int} {t : Int} {f : Nat} (h : XOps.opFn o = some (ks, t, f)) : Ev (fun k => r13_Do.j2 k o x.f0 x.f1 x.f2 y.f0 y.f1 y.f2 z.f0 z.f1 z.f2) ((opV o x y z).f0, (opV o x y z).f1, (opV o x y z).f2, 0) := by
 refine Ev.succ ?_
 rcases op_list h with ho | ho
 ·have key : Ev (fun k => r13_Do.j3 k o true x.f0 x.f1 x.f2 y.f0 y.f1 y.f2 z.f0 z.f1 z.f2) ((opV o x y z).f0, (opV o x y z).f1, (opV o x y z).f2, 0) := by
   refine Ev.succ ?_
   simp only [r13_Do.j3, if_true]
   exact Ev.bind (rreck o x y z hx ho) (Ev.now _)
  by_cases c : o ≤ 8
  ·simp only [r13_Do.j2, if_pos c]
   exact key
  ·simp only [r13_Do.j2, if_neg c, if_pos (show o ≥ 14 by omega), decide_eq_true (show o ≤ 17 by omega)]
   exact key
 ·have key : Ev (fun k => r13_Do.j3 k o false x.f0 x.f1 x.f2 y.f0 y.f1 y.f2 z.f0 z.f1 z.f2) ((opV o x y z).f0, (opV o x y z).f1, (opV o x y z).f2, 0) := by
   refine Ev.succ ?_
   simp only [r13_Do.j3, Bool.false_eq_true, if_false]
   exact Ev.bind (rtexted o x y z hx hy ho) (Ev.now _)
  have c : ¬ o ≤ 8 := by omega
  by_cases c2 : o ≥ 14
  ·simp only [r13_Do.j2, if_neg c, if_pos c2, decide_eq_false (show ¬ o ≤ 17 by omega)]
   exact key
  ·simp only [r13_Do.j2, if_neg c, if_neg c2]
   exact key
theorem rdo_end (o : Int) (l : List XOps.Sv) (hn : ∀ v ∈ l, -9223372036854775808 ≤ v.f1 ∧ v.f1 ≤ 9223372036854775807) (c1 : ¬ l.any (fun x => !XOps.isValB x) = true) :
  Ev (fun k => r13_Do.l0 k o l (l.map (·.f0)) (l.length : Int)) (doV o l) := by
 have hv := getD_val c1
 have hN := getD_num hn
 have fit : ∀ i, Fit (l.getD i XOps.zv) := fun i => ⟨by have := isVal_size (hv i); omega, hN i⟩
 refine Ev.succ ?_
 simp only [r13_Do.l0, if_neg (show ¬ (l.length : Int) < (l.length : Int) by omega)]
 refine Ev.bind (result_f o _) ?_
 by_cases c2 : (XOps.resultF o (l.map (·.f0))).2 ≠ 0
 ·have hd : doV o l = (false, 0, (⟨#[]⟩ : ByteArray), (XOps.resultF o (l.map (·.f0))).2) := by
   unfold doV
   rw [if_neg c1, if_pos c2]
  rw [hd]
  simp only [if_neg c2]
  exact Ev.now _
 ·have c4 : (XOps.resultF o (l.map (·.f0))).2 = 0 := by simpa using c2
  have c3 : XOps.resultF o (l.map (·.f0)) = ((XOps.resultF o (l.map (·.f0))).1, 0) := by rw [← c4]
  obtain ⟨ks, t, f, hof, hk, hk0, hk3⟩ := XOps.res_len c3
  rw [List.length_map] at hk
  have hd : doV o l = ((opV o (l.getD 0 XOps.zv) (l.getD 1 XOps.zv) (l.getD 2 XOps.zv)).f0, (opV o (l.getD 0 XOps.zv) (l.getD 1 XOps.zv) (l.getD 2 XOps.zv)).f1, (opV o (l.getD 0 XOps.zv) (l.getD 1 XOps.zv) (l.getD 2 XOps.zv)).f2, 0) := by
   unfold doV
   rw [if_neg c1, if_neg c2]
  rw [hd]
  simp only [c4, if_true]
  have hj2 := rdo_j2 o (l.getD 0 XOps.zv) (l.getD 1 XOps.zv) (l.getD 2 XOps.zv) (fit 0) (fit 1) hof
  have hl : l.length = 1 ∨ l.length = 2 ∨ l.length = 3 := by omega
  rcases hl with hl | hl | hl
  ·rcases l with _ | ⟨x, _ | ⟨y, r⟩⟩ <;> simp at hl
   simp only [List.length_cons, List.length_nil, if_pos (show (0 : Int) < ((0 + 1 : Nat) : Int) by decide), if_neg (show ¬ ((0 + 1 : Nat) : Int) > 1 by decide)]
   refine Ev.succ ?_
   simp only [r13_Do.j1, List.length_cons, List.length_nil, if_neg (show ¬ ((0 + 1 : Nat) : Int) > 2 by decide)]
   exact hj2
  ·rcases l with _ | ⟨x, _ | ⟨y, _ | ⟨z, r⟩⟩⟩ <;> simp at hl
   simp only [List.length_cons, List.length_nil, if_pos (show (0 : Int) < ((0 + 1 + 1 : Nat) : Int) by decide), if_pos (show ((0 + 1 + 1 : Nat) : Int) > 1 by decide), if_pos (show (1 : Int) < ((0 + 1 + 1 : Nat) : Int) by decide)]
   refine Ev.succ ?_
   simp only [r13_Do.j1, List.length_cons, List.length_nil, if_neg (show ¬ ((0 + 1 + 1 : Nat) : Int) > 2 by decide)]
   exact hj2
  ·rcases l with _ | ⟨x, _ | ⟨y, _ | ⟨z, _ | ⟨q, r⟩⟩⟩⟩ <;> simp at hl
   simp only [List.length_cons, List.length_nil, if_pos (show (0 : Int) < ((0 + 1 + 1 + 1 : Nat) : Int) by decide), if_pos (show ((0 + 1 + 1 + 1 : Nat) : Int) > 1 by decide), if_pos (show (1 : Int) < ((0 + 1 + 1 + 1 : Nat) : Int) by decide)]
   refine Ev.succ ?_
   simp only [r13_Do.j1, List.length_cons, List.length_nil, if_pos (show ((0 + 1 + 1 + 1 : Nat) : Int) > 2 by decide), if_pos (show (2 : Int) < ((0 + 1 + 1 + 1 : Nat) : Int) by decide)]
   exact hj2
theorem rdo_go (o : Int) (l : List XOps.Sv) (hl : l.length ≤ 1000000) (hn : ∀ v ∈ l, -9223372036854775808 ≤ v.f1 ∧ v.f1 ≤ 9223372036854775807) : ∀ m i : Nat, i + m = l.length → (∀ j, j < i → XOps.isValB (l.getD j XOps.zv) = true) →
  Ev (fun k => r13_Do.l0 k o l ((l.take i).map (·.f0)) (i : Int)) (doV o l)
 | 0, i, hi, hg => by
  obtain rfl : i = l.length := by omega
  rw [List.take_length]
  refine rdo_end o l hn ?_
  rw [List.any_eq_true]
  rintro ⟨x, hx, hx2⟩
  obtain ⟨j, hj, rfl⟩ := List.getElem_of_mem hx
  have := hg j hj
  rw [List.getD_eq_getElem?_getD, List.getElem?_eq_getElem hj, Option.getD_some] at this
  rw [this] at hx2
  cases hx2
 | m + 1, i, hi, hg => by
  have hlt : i < l.length := by omega
  have hx : rd_T24 l (i : Int) = l.getD i XOps.zv := rfl
  by_cases hv : XOps.isValB (l.getD i XOps.zv) = true
  ·have ih := rdo_go o l hl hn m (i + 1) (by omega) (fun j hj => by
    rcases Nat.lt_or_ge j i with h | h
    ·exact hg j h
    ·obtain rfl : j = i := by omega
     exact hv)
   have ht : (l.take (i + 1)).map (·.f0) = (l.take i).map (·.f0) ++ [(l.getD i XOps.zv).f0] := by
    rw [List.take_add_one, List.getElem?_eq_getElem hlt, List.map_append, List.getD_eq_getElem?_getD, List.getElem?_eq_getElem hlt]
    rfl
   rw [ht] at ih
   refine Ev.succ ?_
   simp only [r13_Do.l0, if_pos (show (i : Int) < (l.length : Int) by omega), if_pos (show (0 : Int) ≤ (i : Int) by omega), hx, is_, Option.bind_some, if_pos hv, if_pos (show ((l.take i).map (·.f0)).length < 140737488355328 by simp; omega), wrap_succ (i := i) (by omega)]
   exact ih
  ·refine Ev.succ ?_
   simp only [r13_Do.l0, if_pos (show (i : Int) < (l.length : Int) by omega), if_pos (show (0 : Int) ≤ (i : Int) by omega), hx, is_, Option.bind_some, if_neg hv]
   refine Ev.ret ?_
   have c1 : l.any (fun x => !XOps.isValB x) = true := by
    refine List.any_eq_true.2 ⟨l[i], List.getElem_mem hlt, ?_⟩
    rw [List.getD_eq_getElem?_getD, List.getElem?_eq_getElem hlt] at hv
    simp only [Option.getD_some] at hv
    simp [hv]
   unfold doV
   rw [if_pos c1]
theorem rdo (o : Int) (l : List XOps.Sv) (hl : l.length ≤ 1000000) (hn : ∀ v ∈ l, -9223372036854775808 ≤ v.f1 ∧ v.f1 ≤ 9223372036854775807) : Ev (fun k => r13_Do.f k o l) (doV o l) :=
 rdo_go o l hl hn l.length 0 (by omega) (fun j hj => absurd hj (Nat.not_lt_zero _))
end Go.Proofs.YtebofnoljebakaaGreatDoorL
namespace Go.Proofs.YtebofnoljebakaaGreatDoorL
open Go.RowKit Go.Sort Go.Proofs Go.Proofs.YtebofnoljebakaaGreatDoor Go.Proofs.YtebofnoljebakaaGreatDoor.PX Go.Proofs.YtebofnoljebakaaGreatDoor.Stb Go.Proofs.YtebofnoljebakaaGreatDoorW.PrintWords
abbrev It := XSort.It
abbrev Jb := S26
theorem Ev.all_ {α β : Type} {g : Nat → α → Option β} {r : α → β} : ∀ (l : List α), (∀ x ∈ l, Ev (fun k => g k x) (r x)) → ∃ K, ∀ k, K ≤ k → ∀ x ∈ l, g k x = some (r x)
 | [], _ => ⟨0, fun _ _ _ h => by cases h⟩
 | x :: l, h => by
  obtain ⟨K1, h1⟩ := h x List.mem_cons_self
  obtain ⟨K2, h2⟩ := Ev.all_ l fun y hy => h y (List.mem_cons_of_mem _ hy)
  refine ⟨max K1 K2, fun k hk y hy => ?_⟩
  rcases List.mem_cons.1 hy with e | hy
  ·rw [e]; exact h1 k (by omega)
  ·exact h2 k (by omega) y hy
theorem rdI (l : List It) (i : Nat) : rd_T38 l (i : Int) = l.getD i z38 := by unfold rd_T38; rw [Int.toNat_natCast]
theorem rdI_mem (l : List It) {i : Nat} (h : i < l.length) : rd_T38 l (i : Int) = l[i] ∧ l[i] ∈ l := by
 rw [rdI, List.getD_eq_getElem?_getD, List.getElem?_eq_getElem h]
 exact ⟨rfl, List.getElem_mem h⟩
def Sized (l : List It) : Prop := ∀ q ∈ l, q.f0.size ≤ 140737488351232 ∧ q.f1.f2.size ≤ 140737488351232
theorem few_go (l : List It) (hs : Sized l) (hl : l.length < 100000000000000) : ∀ (m i : Nat) (n : Int), i + m = l.length → 0 ≤ n → n ≤ 3000 → ∃ b, Ev (fun k => w19_few.l0 k l n (i : Int)) b ∧ (b = true → l.length ≤ 150)
 | 0, i, n, hi, _, _ => by
  refine ⟨decide ((l.length : Int) ≤ 150), Ev.succ ?_, fun h => by have := of_decide_eq_true h; omega⟩
  simp only [w19_few.l0, if_neg (show ¬ (i : Int) < (l.length : Int) by omega)]
  exact Ev.now _
 | m + 1, i, n, hi, h0, h1 => by
  have hlt : i < l.length := by omega
  obtain ⟨hr, hm⟩ := rdI_mem l hlt
  obtain ⟨s0, s2⟩ := hs _ hm
  have e : wrap64 ((wrap64 ((wrap64 (n + 3)) + (((rd_T38 l (i : Int)).f0).size : Int))) + (((rd_T38 l (i : Int)).f1.f2).size : Int)) = n + 3 + (l[i].f0.size : Int) + (l[i].f1.f2.size : Int) := by
   rw [hr, wrap_id (x := n + 3) (by omega) (by omega), wrap_id (x := n + 3 + (l[i].f0.size : Int)) (by omega) (by omega), wrap_id (by omega) (by omega)]
  by_cases c : n + 3 + (l[i].f0.size : Int) + (l[i].f1.f2.size : Int) > 3000
  ·refine ⟨false, Ev.succ ?_, fun h => by cases h⟩
   simp only [w19_few.l0, if_pos (show (i : Int) < (l.length : Int) by omega), if_pos (show (0 : Int) ≤ (i : Int) by omega), e, if_pos c]
   exact Ev.now _
  ·obtain ⟨b, hb, hbl⟩ := few_go l hs hl m (i + 1) (n + 3 + (l[i].f0.size : Int) + (l[i].f1.f2.size : Int)) (by omega) (by omega) (by omega)
   refine ⟨b, Ev.succ ?_, hbl⟩
   simp only [w19_few.l0, if_pos (show (i : Int) < (l.length : Int) by omega), if_pos (show (0 : Int) ≤ (i : Int) by omega), e, if_neg c, wrap_succ (i := i) (by omega)]
   exact hb
theorem few_f (l : List It) (hs : Sized l) (hl : l.length < 100000000000000) : ∃ b, Ev (fun k => w19_few.f k l) b ∧ (b = true → l.length ≤ 150) := few_go l hs hl l.length 0 0 (by omega) (by omega) (by omega)
theorem small_go (l : List S81) : ∀ m i : Nat, i + m = 40 → i ≤ l.length → ∃ b, Ev (fun k => w19_small.l0 k l (i : Int)) b
 | 0, i, hi, hl => by
  by_cases h : i < l.length
  ·refine ⟨false, Ev.succ ?_⟩
   simp only [w19_small.l0, if_pos (show (i : Int) < (l.length : Int) by omega), if_pos (show (i : Int) = 40 by omega)]
   exact Ev.now _
  ·refine ⟨true, Ev.succ ?_⟩
   simp only [w19_small.l0, if_neg (show ¬ (i : Int) < (l.length : Int) by omega)]
   exact Ev.now _
 | m + 1, i, hi, hl => by
  by_cases h : i < l.length
  ·by_cases h2 : (((rd_T81 l (i : Int)).f2).size : Int) > 1100
   ·refine ⟨false, Ev.succ ?_⟩
    simp only [w19_small.l0, if_pos (show (i : Int) < (l.length : Int) by omega), if_neg (show ¬ (i : Int) = 40 by omega), if_pos (show (0 : Int) ≤ (i : Int) by omega), if_pos h2]
    exact Ev.now _
   ·obtain ⟨b, hb⟩ := small_go l m (i + 1) (by omega) (by omega)
    refine ⟨b, Ev.succ ?_⟩
    simp only [w19_small.l0, if_pos (show (i : Int) < (l.length : Int) by omega), if_neg (show ¬ (i : Int) = 40 by omega), if_pos (show (0 : Int) ≤ (i : Int) by omega), if_neg h2, wrap_succ (i := i) (by omega)]
    exact hb
  ·refine ⟨true, Ev.succ ?_⟩
   simp only [w19_small.l0, if_neg (show ¬ (i : Int) < (l.length : Int) by omega)]
   exact Ev.now _
theorem small_f (l : List S81) : ∃ b, Ev (fun k => w19_small.f k l) b := small_go l 40 0 rfl (Nat.zero_le _)
theorem little_f (j : Jb) : ∃ b, Ev (fun k => w19_little.f k j.f0 j.f1 j.f2 j.f3 j.f4 j.f5 j.f6.f0 j.f6.f1 j.f6.f2 j.f7 j.f8 j.f9 j.f10 j.f11) b := by
 obtain ⟨b1, h1⟩ := small_f j.f1
 obtain ⟨b2, h2⟩ := small_f j.f2
 obtain ⟨b3, h3⟩ := small_f j.f3
 obtain ⟨b5, h5⟩ := small_f j.f5
 refine ⟨if b1 = true then (if b2 = true then (if b3 = true then (if b5 = true then decide ((j.f6.f2.size : Int) ≤ 1100) else false) else false) else false) else false, ?_⟩
 unfold w19_little.f
 refine Ev.bind h1 ?_
 cases b1
 ·exact Ev.now _
 refine Ev.bind h2 ?_
 cases b2
 ·exact Ev.now _
 refine Ev.bind h3 ?_
 cases b3
 ·exact Ev.now _
 refine Ev.bind h5 ?_
 cases b5
 ·exact Ev.now _
 ·exact Ev.now _
def wrP (s : ByteArray) : Int := (doV 18 [textV s]).2.1
theorem written_f (s : ByteArray) : Ev (fun k => job_written.f k s) (wrP s) := by
 have h : Ev (fun k => value_Do.f k 18 [textV s]) (doV 18 [textV s]) := do_ 18 [textV s] (by simp) (fun v hv => by obtain rfl := List.mem_singleton.1 hv; exact ⟨by show (-9223372036854775808 : Int) ≤ 0; omega, by show (0 : Int) ≤ 9223372036854775807; omega⟩)
 unfold job_written.f
 simp only [text_f, Option.bind_some]
 exact Ev.bind h (Ev.now _)
theorem or2 (x y : Int) : Ev (fun k => cmp_Or_int.f k [x, y]) (if x = 0 then y else x) := by
 refine Ev.at_k 5 (fun k => cmp_Or_int.mono _ k) ?_
 have w1 : wrap64 (0 + 1) = 1 := wrap_id (by decide) (by decide)
 have w2 : wrap64 (1 + 1) = 2 := wrap_id (by decide) (by decide)
 have r0 : rd [x, y] 0 = x := rfl
 have r1 : rd [x, y] 1 = y := rfl
 have hl : (([x, y] : List Int).length : Int) = 2 := rfl
 simp only [cmp_Or_int.f, cmp_Or_int.l0, hl, r0, r1, w1, w2]
 by_cases hx : x = 0
 ·by_cases hy : y = 0
  ·simp [hx, hy]
  ·simp [hx, hy]
 ·simp [hx]
theorem aheadC {wr wr' : ByteArray → Int} {num down : Bool} {x y : ByteArray} (hx : wr x = wr' x) (hy : wr y = wr' y) : aheadP wr num down x y = aheadP wr' num down x y := by
 unfold aheadP keyLt
 rw [hx, hy]
def ahP (j : Jb) (x y : ByteArray) : Bool := aheadP wrP j.f10 j.f9 x y
theorem ahead_f (j : Jb) (x y : ByteArray) : Ev (fun k => job_Ahead.f k j.f0 j.f1 j.f2 j.f3 j.f4 j.f5 j.f6.f0 j.f6.f1 j.f6.f2 j.f7 j.f8 j.f9 j.f10 j.f11 x y) (ahP j x y) := by
 have ex : ∀ x y, ∃ b, Ev (fun k => job_Ahead.j0 k x y j.f0 j.f1 j.f2 j.f3 j.f4 j.f5 j.f6.f0 j.f6.f1 j.f6.f2 j.f7 j.f8 j.f9 j.f10 j.f11) b := fun x y => by
  by_cases hn : j.f10 = true
  ·refine ⟨decide ((if cI (wrP x) (wrP y) = 0 then cS x y else cI (wrP x) (wrP y)) < 0), Ev.succ ?_⟩
   simp only [job_Ahead.j0, if_pos hn, cmpInt, cmpStr, Option.bind_some]
   exact Ev.bind (written_f x) (Ev.bind (written_f y) (Ev.bind (or2 _ _) (Ev.now _)))
  ·refine ⟨decide ((if (0 : Int) = 0 then cS x y else 0) < 0), Ev.succ ?_⟩
   simp only [job_Ahead.j0, if_neg hn, cmpStr, Option.bind_some]
   exact Ev.bind (or2 _ _) (Ev.now _)
 obtain ⟨b, K, hK⟩ : ∃ b, Ev (fun k => job_Ahead.f k j.f0 j.f1 j.f2 j.f3 j.f4 j.f5 j.f6.f0 j.f6.f1 j.f6.f2 j.f7 j.f8 j.f9 j.f10 j.f11 x y) b := by
  unfold job_Ahead.f
  by_cases hd : j.f9 = true
  ·simp only [if_pos hd]; exact ex y x
  ·simp only [if_neg hd]; exact ex x y
 obtain ⟨K1, h1⟩ := written_f x
 obtain ⟨K2, h2⟩ := written_f y
 refine ⟨max K (max K1 K2) + 1, fun k hk => ?_⟩
 have hb := hK k (by omega)
 rw [hb]
 have e := sorter_Sort.av hb
 rw [e]
 congr 1
 refine aheadC ?_ ?_
 ·show (job_written.f (k - 1) x).getD 0 = _; have q := h1 (k - 1) (by omega); dsimp only at q; rw [q]; rfl
 ·show (job_written.f (k - 1) y).getD 0 = _; have q := h2 (k - 1) (by omega); dsimp only at q; rw [q]; rfl
def ltP (j : Jb) (x y : It) : Bool := ahP j x.f0 y.f0
theorem ahead_all (j : Jb) (l : List It) : ∃ K, ∀ k, K ≤ k → ∀ x ∈ l, ∀ y ∈ l, job_Ahead.f k j.f0 j.f1 j.f2 j.f3 j.f4 j.f5 j.f6.f0 j.f6.f1 j.f6.f2 j.f7 j.f8 j.f9 j.f10 j.f11 x.f0 y.f0 = some (ltP j x y) := by
 obtain ⟨K, hK⟩ := Ev.all_ (g := fun k (p : It × It) => job_Ahead.f k j.f0 j.f1 j.f2 j.f3 j.f4 j.f5 j.f6.f0 j.f6.f1 j.f6.f2 j.f7 j.f8 j.f9 j.f10 j.f11 p.1.f0 p.2.f0) (r := fun p => ltP j p.1 p.2) (l.flatMap fun x => l.map fun y => (x, y)) fun p _ => ahead_f j _ _
 exact ⟨K, fun k hk x hx y hy => hK k hk (x, y) (List.mem_flatMap.2 ⟨x, hx, List.mem_map.2 ⟨y, hy, rfl⟩⟩)⟩
abbrev It8 := S74
def toR (x : It) : It8 := ⟨x.f0, ⟨x.f1.f0, x.f1.f1, x.f1.f2⟩⟩
theorem items_go (l : List It) (hl : l.length < 1000000000000) : ∀ (m i : Nat) (out : List It8), i + m = l.length → out = (l.take i).map toR → Ev (fun k => w19_items.l0 k l out (i : Int)) (l.map toR)
 | 0, i, out, hi, ho => by
  refine Ev.succ ?_
  simp only [w19_items.l0, if_neg (show ¬ (i : Int) < (l.length : Int) by omega)]
  refine Ev.ret ?_
  rw [ho, List.take_of_length_le (by omega)]
 | m + 1, i, out, hi, ho => by
  have hlt : i < l.length := by omega
  obtain ⟨hr, _⟩ := rdI_mem l hlt
  have hol : out.length < 2932031007402 := by rw [ho, List.length_map, List.length_take]; omega
  refine Ev.succ ?_
  simp only [w19_items.l0, if_pos (show (i : Int) < (l.length : Int) by omega), if_pos (show (0 : Int) ≤ (i : Int) by omega), if_pos hol, wrap_succ (i := i) (by omega), hr]
  refine items_go l hl m (i + 1) _ (by omega) ?_
  rw [ho, List.take_add_one, List.getElem?_eq_getElem hlt, List.map_append]
  rfl
theorem items_f (l : List It) (hl : l.length < 1000000000000) : Ev (fun k => w19_items.f k l) (l.map toR) := items_go l hl l.length 0 [] (by omega) rfl
theorem same_go (l : List It8) (hl : l.length < 1000000000000) : ∀ m i : Nat, i + m = l.length → Ev (fun k => r18_Same.l0 k l l (i : Int)) true
 | 0, i, hi => by
  refine Ev.succ ?_
  simp only [r18_Same.l0, if_neg (show ¬ (i : Int) < (l.length : Int) by omega)]
  exact Ev.now _
 | m + 1, i, hi => by
  refine Ev.succ ?_
  simp only [r18_Same.l0, if_pos (show (i : Int) < (l.length : Int) by omega), if_pos (show (0 : Int) ≤ (i : Int) by omega), beq_self_eq_true, Bool.not_true, Bool.or_false, Bool.false_eq_true, if_false, wrap_succ (i := i) (by omega)]
  exact same_go l hl m (i + 1) (by omega)
theorem same_f (l : List It8) (hl : l.length < 1000000000000) : Ev (fun k => r18_Same.f k l l) true := by
 unfold r18_Same.f
 simp only [if_true]
 exact same_go l hl l.length 0 (by omega)
end Go.Proofs.YtebofnoljebakaaGreatDoorL
namespace Go.Proofs.YtebofnoljebakaaGreatDoor.Stb
open Go.RowKit Go.Sort Go.Proofs Go.Proofs.YtebofnoljebakaaGreatDoor.PX Go.Proofs.YtebofnoljebakaaGreatDoorL
theorem insRef_map {α β : Type} {f : α → β} {lt : α → α → Bool} {lt' : β → β → Bool} (h : ∀ x y, lt' (f x) (f y) = lt x y) (x : α) : ∀ l : List α, insRef lt' (f x) (l.map f) = (insRef lt x l).map f
 | [] => rfl
 | y :: l => by
  rw [List.map_cons, insRef, insRef, h]
  split
  ·rfl
  ·rw [insRef_map h x l]; rfl
theorem foldIns_map {α β : Type} {f : α → β} {lt : α → α → Bool} {lt' : β → β → Bool} (h : ∀ x y, lt' (f x) (f y) = lt x y) : ∀ l out : List α, (l.map f).foldl (fun o x => insRef lt' x o) (out.map f) = (l.foldl (fun o x => insRef lt x o) out).map f
 | [], _ => rfl
 | x :: l, out => by
  rw [List.map_cons, List.foldl_cons, List.foldl_cons, insRef_map h]
  exact foldIns_map h l _
theorem sortRef_map {α β : Type} {f : α → β} {lt : α → α → Bool} {lt' : β → β → Bool} (h : ∀ x y, lt' (f x) (f y) = lt x y) (l : List α) : sortRef lt' (l.map f) = (sortRef lt l).map f := foldIns_map h l []
theorem key_flip (wr : ByteArray → Int) (num : Bool) {a b : ByteArray} (h : a ≠ b) : keyLt wr num b a = !keyLt wr num a b := by
 cases h1 : keyLt wr num a b with
 | true =>
  cases h2 : keyLt wr num b a with
  | false => rfl
  | true => have := key_trans wr num h1 h2; rw [key_irrefl] at this; cases this
 | false =>
  cases h2 : keyLt wr num b a with
  | true => rfl
  | false => exact absurd (key_total wr num h1 h2) h
theorem ahead_doc (wr : ByteArray → Int) (num down : Bool) {a b : ByteArray} (h : a ≠ b) : aheadP wr num down a b = (keyLt wr num a b != down) := by
 unfold aheadP
 cases down with
 | true => rw [if_pos rfl, key_flip wr num h]; cases keyLt wr num a b <;> rfl
 | false => rw [if_neg (by simp)]; cases keyLt wr num a b <;> rfl
end Go.Proofs.YtebofnoljebakaaGreatDoor.Stb
namespace Go.Proofs.YtebofnoljebakaaGreatDoorL
open Go.RowKit Go.Sort Go.Proofs Go.Proofs.YtebofnoljebakaaGreatDoor Go.Proofs.YtebofnoljebakaaGreatDoor.PX Go.Proofs.YtebofnoljebakaaGreatDoor.Stb Go.Proofs.YtebofnoljebakaaGreatDoorW.PrintWords
theorem rwritten_f (s : ByteArray) : Ev (fun k => r17_written.f k s) (wrP s) := by
 have h : Ev (fun k => r13_Do.f k 18 [textV s]) (doV 18 [textV s]) := rdo 18 [textV s] (by simp) (fun v hv => by obtain rfl := List.mem_singleton.1 hv; exact ⟨by show (-9223372036854775808 : Int) ≤ 0; omega, by show (0 : Int) ≤ 9223372036854775807; omega⟩)
 unfold r17_written.f
 simp only [rtext, Option.bind_some]
 exact Ev.bind h (Ev.now _)
theorem rahead_f (j : Jb) (x y : ByteArray) : Ev (fun k => r17_Ahead.f k j.f0 j.f1 j.f2 j.f3 j.f4 j.f5 j.f6.f0 j.f6.f1 j.f6.f2 j.f7 j.f8 j.f9 j.f10 j.f11 x y) (ahP j x y) := by
 unfold r17_Ahead.f
 by_cases e : x.toList = y.toList
 ·simp only [if_pos e]
  refine Ev.ret ?_
  rw [toList_inj.1 e]
  exact (ahead_irrefl _ _ _ _).symm
 ·simp only [if_neg e]
  have hne : x ≠ y := fun z => e (toList_inj.2 z)
  have hv : ahP j x y = (keyLt wrP j.f10 x y != j.f9) := ahead_doc _ _ _ hne
  rw [hv]
  by_cases hn : j.f10 = true
  ·simp only [if_pos hn]
   refine Ev.bind (rwritten_f x) (Ev.bind (rwritten_f y) ?_)
   by_cases hw : wrP x = wrP y
   ·have h1 : (wrP x != wrP y) = false := by simp [hw]
    refine Ev.succ ?_
    simp only [r17_Ahead.j0, h1, Bool.false_eq_true, if_false]
    refine Ev.ret ?_
    unfold keyLt
    rw [if_neg (fun z => z.2 hw)]
   ·have h1 : (wrP x != wrP y) = true := by simp [hw]
    refine Ev.succ ?_
    simp only [r17_Ahead.j0, h1, if_true]
    refine Ev.bind (rwritten_f x) (Ev.bind (rwritten_f y) ?_)
    refine Ev.ret ?_
    unfold keyLt
    rw [if_pos ⟨hn, hw⟩]
  ·simp only [if_neg hn]
   refine Ev.succ ?_
   simp only [r17_Ahead.j0, Bool.false_eq_true, if_false]
   refine Ev.ret ?_
   unfold keyLt
   rw [if_neg (fun z => hn z.1)]
def ltR (j : Jb) (x y : It8) : Bool := ahP j x.f0 y.f0
theorem rdR (l : List It8) {i : Nat} (h : i < l.length) : rd_T74 l (i : Int) = l[i] := by
 unfold rd_T74
 rw [Int.toNat_natCast, List.getD_eq_getElem?_getD, List.getElem?_eq_getElem h]
 rfl
theorem rput_go (j : Jb) (l : List It8) (out : List It8) (i : Nat) (hl : out.length < 1000000000) (r : List It8) : ∀ (m q : Nat) (nx : List It8), q + m = out.length → nx.length < 1000000000 + q →
  Ev (fun k => r19_Sort.l0 k l (nx ++ out.drop q) (wrap64 ((i : Int) + 1)) j.f0 j.f1 j.f2 j.f3 j.f4 j.f5 j.f6.f0 j.f6.f1 j.f6.f2 j.f7 j.f8 j.f9 j.f10 j.f11) r →
  Ev (fun k => r19_Sort.l1 k l out (i : Int) nx true (q : Int) j.f0 j.f1 j.f2 j.f3 j.f4 j.f5 j.f6.f0 j.f6.f1 j.f6.f2 j.f7 j.f8 j.f9 j.f10 j.f11) r
 | 0, q, nx, hq, hn, h => by
  refine Ev.succ ?_
  simp only [r19_Sort.l1, if_neg (show ¬ (q : Int) < (out.length : Int) by omega), if_true]
  rw [List.drop_of_length_le (by omega), List.append_nil] at h
  exact h
 | m + 1, q, nx, hq, hn, h => by
  have hlt : q < out.length := by omega
  refine Ev.succ ?_
  simp only [r19_Sort.l1, if_pos (show (q : Int) < (out.length : Int) by omega), if_true, if_pos (show (0 : Int) ≤ (q : Int) by omega), if_pos (show nx.length < 2932031007402 by omega), rdR out hlt, wrap_succ (i := q) (by omega)]
  refine rput_go j l out i hl r m (q + 1) _ (by omega) (by rw [List.length_append, List.length_singleton]; omega) ?_
  rw [List.drop_eq_getElem_cons hlt] at h
  rw [List.append_assoc]
  exact h
theorem rins_go (j : Jb) (l : List It8) (out : List It8) (i : Nat) (hi : i < l.length) (hl : out.length < 1000000000) (r : List It8) : ∀ (m q : Nat), q + m = out.length →
  Ev (fun k => r19_Sort.l0 k l (out.take q ++ insRef (ltR j) l[i] (out.drop q)) (wrap64 ((i : Int) + 1)) j.f0 j.f1 j.f2 j.f3 j.f4 j.f5 j.f6.f0 j.f6.f1 j.f6.f2 j.f7 j.f8 j.f9 j.f10 j.f11) r →
  Ev (fun k => r19_Sort.l1 k l out (i : Int) (out.take q) false (q : Int) j.f0 j.f1 j.f2 j.f3 j.f4 j.f5 j.f6.f0 j.f6.f1 j.f6.f2 j.f7 j.f8 j.f9 j.f10 j.f11) r
 | 0, q, hq, h => by
  refine Ev.succ ?_
  simp only [r19_Sort.l1, if_neg (show ¬ (q : Int) < (out.length : Int) by omega), Bool.false_eq_true, if_false, if_pos (show (0 : Int) ≤ (i : Int) by omega), if_pos (show (i : Int) < (l.length : Int) by omega), if_pos (show (out.take q).length < 2932031007402 by rw [List.length_take]; omega), rdR l hi]
  rw [List.drop_of_length_le (by omega)] at h
  exact h
 | m + 1, q, hq, h => by
  have hlt : q < out.length := by omega
  have htk : (out.take q).length = q := by rw [List.length_take]; omega
  have h7 : (out.take q).length < 2932031007402 := by omega
  refine Ev.succ ?_
  simp only [r19_Sort.l1, if_pos (show (q : Int) < (out.length : Int) by omega), Bool.false_eq_true, if_false, if_pos (show (0 : Int) ≤ (i : Int) by omega), if_pos (show (i : Int) < (l.length : Int) by omega), if_pos (show (0 : Int) ≤ (q : Int) by omega), if_pos h7, rdR l hi, rdR out hlt, wrap_succ (i := q) (by omega)]
  refine Ev.bind (rahead_f j l[i].f0 out[q].f0) ?_
  rw [List.drop_eq_getElem_cons hlt, insRef] at h
  cases hc : ahP j l[i].f0 out[q].f0 with
  | true =>
   rw [if_pos (show ltR j l[i] out[q] = true from hc)] at h
   have h8 : (out.take q ++ [l[i]]).length < 2932031007402 := by rw [List.length_append, List.length_singleton]; omega
   simp only [if_true, Option.bind_some, if_pos h8]
   refine rput_go j l out i hl r m (q + 1) _ (by omega) (by simp only [List.length_append, List.length_singleton]; omega) ?_
   rw [List.append_assoc, List.append_assoc]
   exact h
  | false =>
   rw [if_neg (show ¬ ltR j l[i] out[q] = true by rw [show ltR j l[i] out[q] = false from hc]; simp)] at h
   simp only [Bool.false_eq_true, if_false]
   have e : out.take (q + 1) = out.take q ++ [out[q]] := by rw [List.take_add_one, List.getElem?_eq_getElem hlt]; rfl
   have ih := rins_go j l out i hi hl r m (q + 1) (by omega) (by rw [e, List.append_assoc]; exact h)
   rw [e] at ih
   exact ih
theorem rsort_go (j : Jb) (l : List It8) (hl : l.length < 1000000000) : ∀ (m i : Nat) (out : List It8), i + m = l.length → out.length = i → Ev (fun k => r19_Sort.l0 k l out (i : Int) j.f0 j.f1 j.f2 j.f3 j.f4 j.f5 j.f6.f0 j.f6.f1 j.f6.f2 j.f7 j.f8 j.f9 j.f10 j.f11) ((l.drop i).foldl (fun o x => insRef (ltR j) x o) out)
 | 0, i, out, hi, ho => by
  refine Ev.succ ?_
  simp only [r19_Sort.l0, if_neg (show ¬ (i : Int) < (l.length : Int) by omega)]
  refine Ev.ret ?_
  rw [List.drop_of_length_le (by omega)]; rfl
 | m + 1, i, out, hi, ho => by
  have hlt : i < l.length := by omega
  refine Ev.succ ?_
  simp only [r19_Sort.l0, if_pos (show (i : Int) < (l.length : Int) by omega)]
  refine rins_go j l out i hlt (by omega) _ out.length 0 (by omega) ?_
  rw [wrap_succ (i := i) (by omega)]
  have := rsort_go j l hl m (i + 1) (insRef (ltR j) l[i] out) (by omega) (by rw [(insRef_perm l[i] out).length_eq, List.length_cons]; omega)
  rw [List.drop_eq_getElem_cons hlt, List.foldl_cons]
  exact this
theorem rsort_f (j : Jb) (l : List It8) (hl : l.length < 1000000000) : Ev (fun k => r19_Sort.f k j.f0 j.f1 j.f2 j.f3 j.f4 j.f5 j.f6.f0 j.f6.f1 j.f6.f2 j.f7 j.f8 j.f9 j.f10 j.f11 l) (sortRef (ltR j) l) := rsort_go j l hl l.length 0 [] (by omega) rfl
theorem rsort_toR (j : Jb) (l : List It) : sortRef (ltR j) (l.map toR) = (sortRef (ltP j) l).map toR := sortRef_map (fun _ _ => rfl) l
def wtP (x : It) : Int := (x.f0.size : Int) + (x.f1.f2.size : Int) + 16
def weightP (l : List It) : Int := (l.map wtP).sum
theorem weight_go (l : List It) (hs : Sized l) (hl : l.length < 1000) : ∀ (m i : Nat) (n : Int), i + m = l.length → 0 ≤ n → n ≤ (i : Int) * 281474976710656 → Ev (fun k => sorter_Weight.l0 k n l (l.length : Int) (i : Int)) (n + weightP (l.drop i)) := by
 intro m
 induction m with
 | zero =>
  intro i n hi h0 h1
  refine Ev.succ ?_
  simp only [sorter_Weight.l0, if_neg (show ¬ (i : Int) < (l.length : Int) by omega)]
  refine Ev.ret ?_
  rw [List.drop_of_length_le (by omega)]; unfold weightP; simp
 | succ m ih =>
  intro i n hi h0 h1
  have hlt : i < l.length := by omega
  obtain ⟨hr, hm⟩ := rdI_mem l hlt
  obtain ⟨s0, s2⟩ := hs _ hm
  have e : wrap64 ((wrap64 ((l[i].f0.size : Int) + (l[i].f1.f2.size : Int))) + 16) = wtP l[i] := by
   unfold wtP
   rw [wrap_id (x := (l[i].f0.size : Int) + (l[i].f1.f2.size : Int)) (by omega) (by omega), wrap_id (by omega) (by omega)]
  have hb : 0 ≤ wtP l[i] ∧ wtP l[i] ≤ 281474976710000 := by unfold wtP; omega
  have e2 : wrap64 (n + wtP l[i]) = n + wtP l[i] := wrap_id (by omega) (by omega)
  refine Ev.succ ?_
  simp only [sorter_Weight.l0, if_pos (show (i : Int) < (l.length : Int) by omega), if_pos (show (0 : Int) ≤ (i : Int) by omega), hr, sorter_weight.f, e, Option.bind_some, e2, wrap_succ (i := i) (by omega)]
  refine (ih (i + 1) (n + wtP l[i]) (by omega) (by omega) (by omega)).to ?_
  rw [List.drop_eq_getElem_cons hlt]
  unfold weightP
  rw [List.map_cons, List.sum_cons]
  omega
theorem weight_f (l : List It) (hs : Sized l) (hl : l.length < 1000) : Ev (fun k => sorter_Weight.f k l) (weightP l) := by
 refine (weight_go l hs hl l.length 0 0 (by omega) (by omega) (by omega)).to ?_
 simp
theorem rweight_go (l : List It) (hs : Sized l) (hl : l.length < 1000) : ∀ (m i : Nat) (n : Int), i + m = l.length → 0 ≤ n → n ≤ (i : Int) * 281474976710656 → Ev (fun k => r19_Weight.l0 k (l.map toR) n (i : Int)) (n + weightP (l.drop i)) := by
 intro m
 induction m with
 | zero =>
  intro i n hi h0 h1
  have hml : (l.map toR).length = l.length := List.length_map _
  refine Ev.succ ?_
  simp only [r19_Weight.l0, if_neg (show ¬ (i : Int) < ((l.map toR).length : Int) by omega)]
  refine Ev.ret ?_
  rw [List.drop_of_length_le (by omega)]; unfold weightP; simp
 | succ m ih =>
  intro i n hi h0 h1
  have hml : (l.map toR).length = l.length := List.length_map _
  have hlt : i < l.length := by omega
  have hr : rd_T74 (l.map toR) (i : Int) = toR l[i] := by rw [rdR _ (by omega), List.getElem_map]
  obtain ⟨s0, s2⟩ := hs _ (List.getElem_mem hlt)
  have hb : 0 ≤ wtP l[i] ∧ wtP l[i] ≤ 281474976710000 := by unfold wtP; omega
  have e : wrap64 ((wrap64 ((wrap64 (n + ((toR l[i]).f0.size : Int))) + ((toR l[i]).f1.f2.size : Int))) + 16) = n + wtP l[i] := by
   show wrap64 ((wrap64 ((wrap64 (n + (l[i].f0.size : Int))) + (l[i].f1.f2.size : Int))) + 16) = n + wtP l[i]
   rw [wrap_id (x := n + (l[i].f0.size : Int)) (by omega) (by omega), wrap_id (x := n + (l[i].f0.size : Int) + (l[i].f1.f2.size : Int)) (by omega) (by omega), wrap_id (by omega) (by omega)]
   unfold wtP; omega
  refine Ev.succ ?_
  simp only [r19_Weight.l0, if_pos (show (i : Int) < ((l.map toR).length : Int) by omega), if_pos (show (0 : Int) ≤ (i : Int) by omega), hr, e, wrap_succ (i := i) (by omega)]
  refine (ih (i + 1) (n + wtP l[i]) (by omega) (by omega) (by omega)).to ?_
  rw [List.drop_eq_getElem_cons hlt]
  unfold weightP
  rw [List.map_cons, List.sum_cons]
  omega
theorem rweight_f (l : List It) (hs : Sized l) (hl : l.length < 1000) : Ev (fun k => r19_Weight.f k (l.map toR)) (weightP l) := by
 refine (rweight_go l hs hl l.length 0 0 (by omega) (by omega) (by omega)).to ?_
 simp
end Go.Proofs.YtebofnoljebakaaGreatDoorL
namespace Go.Proofs.YtebofnoljebakaaGreatDoorL
open Go.RowKit Go.Sort Go.Proofs Go.Proofs.YtebofnoljebakaaGreatDoor Go.Proofs.YtebofnoljebakaaGreatDoor.PX Go.Proofs.YtebofnoljebakaaGreatDoor.Stb Go.Proofs.YtebofnoljebakaaGreatDoorW.PrintWords
theorem weight_wtS (l : List XSort.It) : weightP l = wtS l := rfl
theorem cut_toR (l : List XSort.It) (f i : Nat) : ((l.map toR).take i).drop f = ((l.take i).drop f).map toR := by rw [← List.map_take, ← List.map_drop]
theorem rruns_go (j : Jb) (most : Int) (l : List XSort.It) (hs : Sized l) (hl : l.length < 1000) : ∀ (m f i : Nat) (out : List (List XSort.It)), i + m = l.length → f < i → out.length ≤ i →
  Ev (fun k => r19_Runs.l0 k (l.map toR) most (out.map (List.map toR)) (f : Int) (i : Int) j.f0 j.f1 j.f2 j.f3 j.f4 j.f5 j.f6.f0 j.f6.f1 j.f6.f2 j.f7 j.f8 j.f9 j.f10 j.f11) ((runFlush (ltP j) ((l.drop i).foldl (runStep (ltP j) most) (out, (l.take i).drop f))).map (List.map toR), 0) := by
 intro m
 have hml : (l.map toR).length = l.length := List.length_map _
 induction m with
 | zero =>
  intro f i out hi hf ho
  have hol : (out.map (List.map toR)).length < 5864062014805 := by rw [List.length_map]; omega
  have hlen : ((l.take i).drop f).length < 1000000000 := by rw [List.length_drop, List.length_take]; omega
  have hne : (l.take i).drop f ≠ [] := fun e => by
   have := congrArg List.length e
   rw [List.length_drop, List.length_take, List.length_nil] at this
   omega
  refine Ev.succ ?_
  simp only [r19_Runs.l0, hml, if_pos (show (i : Int) ≤ (l.length : Int) by omega), if_pos (show (i : Int) = (l.length : Int) by omega), if_pos (show (0 : Int) ≤ (f : Int) by omega), if_pos (show (f : Int) ≤ (i : Int) by omega), Int.toNat_natCast, cut_toR, if_pos hol, wrap_succ (i := i) (by omega)]
  refine Ev.bind (rsort_f j _ (by rw [List.length_map]; exact hlen)) ?_
  refine Ev.succ ?_
  simp only [r19_Runs.l0, hml, if_neg (show ¬ ((i + 1 : Nat) : Int) ≤ (l.length : Int) by omega)]
  refine Ev.ret ?_
  rw [List.drop_of_length_le (show l.length ≤ i by omega), List.foldl_nil]
  unfold runFlush
  rw [if_neg hne, rsort_toR, List.map_append]
  rfl
 | succ m ih =>
  intro f i out hi hf ho
  have hil : i < l.length := by omega
  have hol : (out.map (List.map toR)).length < 5864062014805 := by rw [List.length_map]; omega
  have hlen : ((l.take i).drop f).length < 1000000000 := by rw [List.length_drop, List.length_take]; omega
  have hlen1 : ((l.take (i + 1)).drop f).length < 1000 := by rw [List.length_drop, List.length_take]; omega
  have hs1 : Sized ((l.take (i + 1)).drop f) := fun q hq => hs q (List.mem_of_mem_take (List.mem_of_mem_drop hq))
  have hstep : (l.drop i).foldl (runStep (ltP j) most) (out, (l.take i).drop f) = (l.drop (i + 1)).foldl (runStep (ltP j) most) (runStep (ltP j) most (out, (l.take i).drop f) l[i]) := by
   rw [List.drop_eq_getElem_cons hil, List.foldl_cons]
  rw [hstep, runs_cut _ _ _ _ _ _ hf hil]
  refine Ev.succ ?_
  simp only [r19_Runs.l0, hml, if_pos (show (i : Int) ≤ (l.length : Int) by omega), if_neg (show ¬ (i : Int) = (l.length : Int) by omega), if_pos (show (0 : Int) ≤ (f : Int) by omega), if_pos (show (f : Int) ≤ (i : Int) by omega), wrap_succ (i := i) (by omega), if_pos (show (f : Int) ≤ ((i + 1 : Nat) : Int) by omega), if_pos (show ((i + 1 : Nat) : Int) ≤ (l.length : Int) by omega), Int.toNat_natCast, cut_toR, if_pos hol]
  refine Ev.bind (rweight_f _ hs1 hlen1) ?_
  rw [weight_wtS]
  by_cases c : wtS ((l.take (i + 1)).drop f) > most
  ·simp only [if_pos c]
   refine Ev.bind (rsort_f j _ (by rw [List.length_map]; exact hlen)) ?_
   rw [rsort_toR]
   have := ih i (i + 1) (out ++ [sortRef (ltP j) ((l.take i).drop f)]) (by omega) (by omega) (by rw [List.length_append, List.length_singleton]; omega)
   rw [List.map_append] at this
   exact this
  ·simp only [if_neg c]
   exact ih f (i + 1) out (by omega) (by omega) (by omega)
theorem rruns_f (j : Jb) (most : Int) (l : List XSort.It) (hs : Sized l) (hl : l.length < 1000) (hm : ¬ most < 1) : Ev (fun k => r19_Runs.f k j.f0 j.f1 j.f2 j.f3 j.f4 j.f5 j.f6.f0 j.f6.f1 j.f6.f2 j.f7 j.f8 j.f9 j.f10 j.f11 (l.map toR) most) ((runsP (ltP j) most l).map (List.map toR), 0) := by
 unfold r19_Runs.f
 simp only [if_neg hm]
 cases l with
 | nil =>
  refine Ev.succ ?_
  simp only [r19_Runs.l0, List.map_nil, List.length_nil, if_neg (show ¬ (1 : Int) ≤ ((0 : Nat) : Int) by omega)]
  exact Ev.now _
 | cons x l =>
  have h := rruns_go j most (x :: l) hs hl l.length 0 1 [] (by rw [List.length_cons]; omega) (by omega) (by simp)
  refine h.to ?_
  unfold runsP runSt
  rw [List.foldl_cons]
  have e : runStep (ltP j) most ([], []) x = ([], [x]) := by unfold runStep; rw [if_neg (fun h => h.1 rfl)]; rfl
  rw [e]
  rfl
theorem rruns_none (j : Jb) (most : Int) (l : List It8) (hm : most < 1) : Ev (fun k => r19_Runs.f k j.f0 j.f1 j.f2 j.f3 j.f4 j.f5 j.f6.f0 j.f6.f1 j.f6.f2 j.f7 j.f8 j.f9 j.f10 j.f11 l most) ([], 1) := by
 unfold r19_Runs.f
 simp only [if_pos hm]
 exact Ev.now _
theorem rlI (rs : List (List XSort.It)) {i : Nat} (h : i < rs.length) : rd_L11 rs (i : Int) = rs[i] := by
 unfold rd_L11
 rw [Int.toNat_natCast, List.getD_eq_getElem?_getD, List.getElem?_eq_getElem h]
 rfl
theorem rlR (rs : List (List It8)) {i : Nat} (h : i < rs.length) : rd_L15 rs (i : Int) = rs[i] := by
 unfold rd_L15
 rw [Int.toNat_natCast, List.getD_eq_getElem?_getD, List.getElem?_eq_getElem h]
 rfl
theorem runs_go (rs : List (List XSort.It)) (hr : ∀ x ∈ rs, x.length < 1000000000000) (hl : rs.length < 1000000000) : ∀ (m i : Nat) (out : List (List It8)), i + m = rs.length → out = (rs.take i).map (List.map toR) → Ev (fun k => w19_runs.l0 k rs out (i : Int)) (rs.map (List.map toR)) := by
 intro m
 induction m with
 | zero =>
  intro i out hi ho
  refine Ev.succ ?_
  simp only [w19_runs.l0, if_neg (show ¬ (i : Int) < (rs.length : Int) by omega)]
  refine Ev.ret ?_
  rw [ho, List.take_of_length_le (by omega)]
 | succ m ih =>
  intro i out hi ho
  have hlt : i < rs.length := by omega
  have hol : out.length < 5864062014805 := by rw [ho, List.length_map, List.length_take]; omega
  refine Ev.succ ?_
  simp only [w19_runs.l0, if_pos (show (i : Int) < (rs.length : Int) by omega), if_pos (show (0 : Int) ≤ (i : Int) by omega), if_pos hol, wrap_succ (i := i) (by omega), rlI rs hlt]
  refine Ev.bind (items_f _ (hr _ (List.getElem_mem hlt))) ?_
  refine ih (i + 1) _ (by omega) ?_
  rw [ho, List.take_add_one, List.getElem?_eq_getElem hlt, List.map_append]
  rfl
theorem runs_f (rs : List (List XSort.It)) (hr : ∀ x ∈ rs, x.length < 1000000000000) (hl : rs.length < 1000000000) : Ev (fun k => w19_runs.f k rs) (rs.map (List.map toR)) := runs_go rs hr hl rs.length 0 [] (by omega) rfl
theorem sameRuns_go (rs : List (List It8)) (hr : ∀ x ∈ rs, x.length < 1000000000000) (hl : rs.length < 1000000000) : ∀ (m i : Nat), i + m = rs.length → Ev (fun k => r19_SameRuns.l0 k rs rs (i : Int)) true := by
 intro m
 induction m with
 | zero =>
  intro i hi
  refine Ev.succ ?_
  simp only [r19_SameRuns.l0, if_neg (show ¬ (i : Int) < (rs.length : Int) by omega)]
  exact Ev.now _
 | succ m ih =>
  intro i hi
  have hlt : i < rs.length := by omega
  refine Ev.succ ?_
  simp only [r19_SameRuns.l0, if_pos (show (i : Int) < (rs.length : Int) by omega), if_pos (show (0 : Int) ≤ (i : Int) by omega), wrap_succ (i := i) (by omega), rlR rs hlt]
  refine Ev.bind (same_f _ (hr _ (List.getElem_mem hlt))) ?_
  simp only [if_true]
  exact ih (i + 1) (by omega)
theorem sameRuns_f (rs : List (List It8)) (hr : ∀ x ∈ rs, x.length < 1000000000000) (hl : rs.length < 1000000000) : Ev (fun k => r19_SameRuns.f k rs rs) true := by
 unfold r19_SameRuns.f
 simp only [if_true]
 exact sameRuns_go rs hr hl rs.length 0 (by omega)
end Go.Proofs.YtebofnoljebakaaGreatDoorL
namespace Go.Proofs.YtebofnoljebakaaGreatDoor.Pure
open Go.RowKit Go.Sort Go.Proofs Go.Proofs.YtebofnoljebakaaGreatDoor Go.Proofs.YtebofnoljebakaaGreatDoor.PX Go.Proofs.YtebofnoljebakaaGreatDoor.Stb Go.Proofs.YtebofnoljebakaaGreatDoorW.PrintWords Go.Proofs.YtebofnoljebakaaGreatDoorL
theorem SorterRuns : w19_SorterRuns.Pure := by
 intro j l most hj hl hmost
 refine Ev.rounds ?_
 have hs : Sized l := fun q hq => ⟨(hl.2 q hq).1, (hl.2 q hq).2.2.2⟩
 have hlen : l.length < 100000000000000 := by have := hl.1; omega
 unfold w19_SorterRuns.f
 obtain ⟨b, hb⟩ := little_f j
 refine Ev.bind hb ?_
 cases b
 ·simp only [Bool.false_eq_true, if_false]
  exact Ev.now _
 simp only [if_true]
 obtain ⟨c, hc, hcl⟩ := few_f l hs hlen
 refine Ev.bind hc ?_
 cases c
 ·simp only [Bool.false_eq_true, if_false]
  exact Ev.now _
 simp only [if_true]
 have h150 := hcl rfl
 refine Ev.bind (items_f l (by omega)) ?_
 by_cases hm : most < 1
 ·refine Ev.bind (rruns_none j most _ hm) ?_
  simp only [if_pos hm]
  refine Ev.bind (runs_f [] (fun _ h => by cases h) (by simp)) ?_
  refine Ev.bind (sameRuns_f [] (fun _ h => by cases h) (by simp)) ?_
  exact Ev.now _
 ·obtain ⟨r1, r2⟩ := runsP_all (ltP j) most l
  refine Ev.bind (rruns_f j most l hs (by omega) hm) ?_
  simp only [if_neg hm]
  obtain ⟨K, hK⟩ := ahead_all j l
  have hw : ∃ K, ∀ k, K ≤ k → ∀ x ∈ l, sorter_Weight.f k [x] = some (wtI x) := Ev.all_ (g := fun k x => sorter_Weight.f k [x]) (r := wtI) l fun x hx => (weight_f [x] (fun q hq => by rw [List.mem_singleton.1 hq]; exact hs x hx) (by simp)).to (by rw [weight_wtS, wtS_one])
  obtain ⟨K2, hK2⟩ := hw
  have hrs := runs_f (runsP (ltP j) most l) (fun x hx => by have := r1 x hx; omega) (by omega)
  have hss := sameRuns_f ((runsP (ltP j) most l).map (List.map toR)) (fun x hx => by
   obtain ⟨y, hy, rfl⟩ := List.mem_map.1 hx
   have := r1 y hy
   rw [List.length_map]; omega) (by rw [List.length_map]; omega)
  obtain ⟨K3, hK3⟩ := hrs
  obtain ⟨K4, hK4⟩ := hss
  refine ⟨max (max K K2) (max K3 K4), fun k hk => ?_⟩
  have e : runsP (fun x y : XSort.It => (w19_SorterRuns.ah k j.f0 j.f1 j.f2 j.f3 j.f4 j.f5 j.f6.f0 j.f6.f1 j.f6.f2 j.f7 j.f8 j.f9 j.f10 j.f11 x y).getD false) most l = runsP (ltP j) most l := runsP_congr l fun x hx y hy => by
   show (job_Ahead.f k j.f0 j.f1 j.f2 j.f3 j.f4 j.f5 j.f6.f0 j.f6.f1 j.f6.f2 j.f7 j.f8 j.f9 j.f10 j.f11 x.f0 y.f0).getD false = _
   rw [hK k (by omega) x hx y hy]; rfl
  have h3 : w19_runs.f k (runsP (ltP j) most l) = some ((runsP (ltP j) most l).map (List.map toR)) := hK3 k (by omega)
  have h4 : r19_SameRuns.f k ((runsP (ltP j) most l).map (List.map toR)) ((runsP (ltP j) most l).map (List.map toR)) = some true := hK4 k (by omega)
  show ((w19_runs.f k (runsP _ most l)).bind _) = _
  rw [e, h3, Option.bind_some, h4, Option.bind_some]
  refine if_pos ⟨by first | rfl | trivial, by first | rfl | trivial, by omega, List.all_eq_true.2 fun x hx => decide_eq_true (hs x hx), List.all_eq_true.2 fun x hx => decide_eq_true (hK2 k (by omega) x hx), List.all_eq_true.2 fun x hx => List.all_eq_true.2 fun y hy => ?_⟩
  show (job_Ahead.f k j.f0 j.f1 j.f2 j.f3 j.f4 j.f5 j.f6.f0 j.f6.f1 j.f6.f2 j.f7 j.f8 j.f9 j.f10 j.f11 x.f0 y.f0).isSome = true
  rw [hK k (by omega) x hx y hy]; rfl
end Go.Proofs.YtebofnoljebakaaGreatDoor.Pure
