/- Layer 13: plain words for value.Compare, value.Hash, value.Do. -/
import Derived.Test.YtebofnoljebakaaGreatDoorPXx
import Derived.Test.YtebofnoljebakaaGreatDoorLA
import Derived.Sort.Walk0
import Derived.Lib.AtoiAllCases
import Derived.Lib.AtoiTie
import Derived.Lib.ItoaLen
import Derived.Test.YtebofnoljebakaaGreatDoorXSD
set_option linter.unusedVariables false
set_option linter.unusedSimpArgs false
namespace Go.Proofs.YtebofnoljebakaaGreatDoorL
open Go.RowKit Go.Proofs Go.Proofs.YtebofnoljebakaaGreatDoor Go.Proofs.YtebofnoljebakaaGreatDoor.PX Go.Proofs.YtebofnoljebakaaGreatDoorW.PrintWords Go.Proofs.YtebofnoljebakaaGreatDoorW.PrintMore
def cI (a b : Int) : Int := if a < b then -1 else if a > b then 1 else 0
def cS (a b : ByteArray) : Int := if Op.bytesLess a.toList b.toList = true then -1 else if Op.bytesLess b.toList a.toList = true then 1 else 0
def orI (x y z : Int) : Int := if x = 0 then (if y = 0 then z else y) else x
def kd (a b : Bool) : Int := if a = true then (if b = true then 0 else 1) else (if b = true then -1 else 0)
def cmpV (x y : XOps.Sv) : Int := orI (kd x.f0 y.f0) (cI x.f1 y.f1) (cS x.f2 y.f2)
theorem cmpInt (a b : Int) : cmp_Compare_int.f a b = some (cI a b) := by
 have h1 : (a != a) = false := by simp
 have h2 : (b != b) = false := by simp
 simp only [cmp_Compare_int.f, cmp_isNaN_int.f, Option.bind_some, h1, h2, cI, Bool.false_eq_true, if_false]
 split
 ·rfl
 ·split <;> rfl
theorem cmpStr (a b : ByteArray) : cmp_Compare_string.f a b = some (cS a b) := by
 have h1 : (a.toList != a.toList) = false := by simp
 have h2 : (b.toList != b.toList) = false := by simp
 simp only [cmp_Compare_string.f, cmp_isNaN_string.f, Option.bind_some, h1, h2, cS, Bool.false_eq_true, if_false]
 split
 ·rfl
 ·split <;> rfl
theorem or3 (x y z : Int) : Ev (fun k => cmp_Or_int.f k [x, y, z]) (orI x y z) := by
 refine Ev.at_k 5 (fun k => cmp_Or_int.mono _ k) ?_
 have w1 : wrap64 (0 + 1) = 1 := wrap_id (by decide) (by decide)
 have w2 : wrap64 (1 + 1) = 2 := wrap_id (by decide) (by decide)
 have w3 : wrap64 (2 + 1) = 3 := wrap_id (by decide) (by decide)
 have r0 : rd [x, y, z] 0 = x := rfl
 have r1 : rd [x, y, z] 1 = y := rfl
 have r2 : rd [x, y, z] 2 = z := rfl
 have hl : (([x, y, z] : List Int).length : Int) = 3 := rfl
 simp only [cmp_Or_int.f, cmp_Or_int.l0, hl, r0, r1, r2, w1, w2, w3, orI]
 by_cases hx : x = 0
 ·by_cases hy : y = 0
  ·by_cases hz : z = 0
   ·simp [hx, hy, hz, r0, r1, r2]
   ·simp [hx, hy, hz]
  ·simp [hx, hy]
 ·simp [hx]
theorem compare (x y : XOps.Sv) : Ev (fun k => value_Compare.f k x.f0 x.f1 x.f2 y.f0 y.f1 y.f2) (cmpV x y) := by
 obtain ⟨a0, a1, a2⟩ := x
 obtain ⟨b0, b1, b2⟩ := y
 have h : ∀ q : Int, Ev (fun k => (cmp_Compare_int.f a1 b1).bind fun t => (cmp_Compare_string.f a2 b2).bind fun u => (cmp_Or_int.f k [q, t, u]).bind fun r => some r) (orI q (cI a1 b1) (cS a2 b2)) := fun q => by
  simp only [cmpInt, cmpStr, Option.bind_some, Option.bind_fun_some]
  exact or3 _ _ _
 cases a0 <;> cases b0
 ·refine Ev.succ ?_
  simp only [value_Compare.f, value_Compare.j0, Bool.false_eq_true, if_false]
  refine Ev.succ ?_
  simp only [value_Compare.j1, Bool.false_eq_true, if_false]
  exact h 0
 ·refine Ev.succ ?_
  simp only [value_Compare.f, value_Compare.j0, Bool.false_eq_true, if_false]
  refine Ev.succ ?_
  simp only [value_Compare.j1, if_true]
  exact h (-1)
 ·refine Ev.succ ?_
  simp only [value_Compare.f, value_Compare.j0, if_true, Bool.not_false]
  exact h 1
 ·refine Ev.succ ?_
  simp only [value_Compare.f, value_Compare.j0, if_true, Bool.not_true, Bool.false_eq_true, if_false]
  refine Ev.succ ?_
  simp only [value_Compare.j1, Bool.false_eq_true, if_false]
  exact h 0
theorem wraps_u32 (n : Int) (h₀ : 0 ≤ n) (h₁ : n < 2 ^ 32) : IntKind.u32.wrap n = n := by rw [IntKind.wrap_u32]; omega
end Go.Proofs.YtebofnoljebakaaGreatDoorL
namespace Go.Proofs.YtebofnoljebakaaGreatDoorL
open Go.RowKit Go.Proofs Go.Proofs.YtebofnoljebakaaGreatDoor Go.Proofs.YtebofnoljebakaaGreatDoor.PX Go.Proofs.YtebofnoljebakaaGreatDoorW.PrintWords Go.Proofs.YtebofnoljebakaaGreatDoorW.PrintMore
def numV (n : Int) : XOps.Sv := ⟨false, n, ⟨#[]⟩⟩
def clip (s : ByteArray) : ByteArray := s.extract 0 (mn (s.size : Int) 1000).toNat
def textV (s : ByteArray) : XOps.Sv := ⟨true, 0, clip s⟩
def yesV (b : Bool) : XOps.Sv := numV (if b = true then 1 else 0)
def fromS (s : ByteArray) (a : Int) : ByteArray := s.extract (mn (mx a 0) (s.size : Int)).toNat s.size
def sliceS (s : ByteArray) (a b : Int) : ByteArray := (fromS s a).extract 0 (mn (mx b 0) ((fromS s a).size : Int)).toNat
def turnS (f : Int) (s : ByteArray) : ByteArray := strOfNums (XTurn.turnL f (bytesOf s))
def itoaS (n : Int) : ByteArray := ⟨(Lib.itoa n).toArray⟩
def dig (b : UInt8) : Bool := decide (48 ≤ b.toNat ∧ b.toNat ≤ 57)
def magL (l : List UInt8) : Int := (((Lib.decFrom 0 l).getD 0 : Nat) : Int)
def okL (l : List UInt8) : Bool := decide (l ≠ []) && decide (l.length ≤ 18) && l.all dig
def numberL (l : List UInt8) : Int :=
 if l.head? = some 45 then (if okL l.tail = true then -magL l.tail else 0) else (if okL l = true then magL l else 0)
def hashN (x : Int) : List Int → Int
 | [] => x % 2147483648
 | c :: l => hashN (((Go.bits .xor .u32 x (c % 4294967296)) * 16777619) % 4294967296) l
def hashS (s : ByteArray) : Int := hashN 2166136261 (bytesOf s)
def opV (o : Int) (x y z : XOps.Sv) : XOps.Sv :=
 if o = 4 then numV (wrap64 (x.f1 + y.f1)) else if o = 5 then numV (wrap64 (x.f1 - y.f1)) else if o = 6 then numV (wrap64 (x.f1 * y.f1))
 else if o = 7 then numV (if y.f1 = 0 then 0 else wrap64 (Int.tdiv x.f1 y.f1)) else if o = 8 then numV (if y.f1 = 0 then 0 else Int.tmod x.f1 y.f1)
 else if o = 9 then textV (x.f2 ++ y.f2) else if o = 10 then numV (x.f2.size : Int) else if o = 11 then textV (sliceS x.f2 y.f1 z.f1)
 else if o = 12 then textV (turnS 97 x.f2) else if o = 13 then textV (turnS 65 x.f2) else if o = 14 then yesV (cmpV x y == 0) else if o = 15 then yesV (decide (cmpV x y < 0))
 else if o = 16 then yesV (x.f1 == 0) else if o = 17 then (if x.f1 = 0 then z else y) else if o = 18 then numV (numberL x.f2.data.toList) else if o = 19 then textV (itoaS x.f1)
 else if o = 20 then numV (hashS x.f2) else numV (Lib.index x.f2.data.toList y.f2.data.toList)
theorem mn_le (a b : Int) : mn a b ≤ a ∧ mn a b ≤ b := by unfold mn; split <;> omega
theorem mn_ge {a b c : Int} (h : c ≤ a) (k : c ≤ b) : c ≤ mn a b := by unfold mn; split <;> omega
theorem mx_ge (a b : Int) : a ≤ mx a b ∧ b ≤ mx a b := by unfold mx; split <;> omega
theorem num_f (n : Int) : value_Num.f n = some (false, n, (⟨#[]⟩ : ByteArray)) := rfl
theorem text_f (s : ByteArray) : value_Text.f s = some (true, 0, clip s) := by
 unfold value_Text.f
 rw [if_pos (mn_ge (by omega) (by omega)), if_pos (mn_le _ _).1]
 rfl
theorem yes_f (b : Bool) : value_yes.f b = some (false, (if b = true then 1 else 0), (⟨#[]⟩ : ByteArray)) := by cases b <;> rfl
theorem hash_go2 (s : ByteArray) (hs : s.size ≤ 140737488351232) : ∀ (m i : Nat) (x : Int), i + m = s.size → 0 ≤ x → x < 4294967296 → Ev (fun k => value_Hash.l0 k s x (s.size : Int) (i : Int)) (hashN x ((bytesOf s).drop i)) ∧ 0 ≤ hashN x ((bytesOf s).drop i) ∧ hashN x ((bytesOf s).drop i) < 2147483648
 | 0, i, x, hi, h0, h1 => by
  have hb : Go.bits .and .u32 x 2147483647 = x % 2147483648 := bits_mask .u32 32 (by decide) wraps_u32 31 (by decide) x h0 h1
  have hd : (bytesOf s).drop i = [] := List.drop_eq_nil_iff.2 (by rw [bytesOf_length]; omega)
  rw [hd]
  simp only [hashN]
  refine ⟨Ev.succ ?_, by omega, by omega⟩
  simp only [value_Hash.l0, if_neg (show ¬ (i : Int) < (s.size : Int) by omega), hb]
  exact Ev.ret (wrap_id (by omega) (by omega))
 | m + 1, i, x, hi, h0, h1 => by
  have hlt : i < (bytesOf s).length := by rw [bytesOf_length]; omega
  have hd : (bytesOf s).drop i = bt s (i : Int) :: (bytesOf s).drop (i + 1) := by
   rw [List.drop_eq_getElem_cons hlt]
   congr 1
   rw [← rd_bytesOf, rd_nat, List.getD_eq_getElem?_getD, List.getElem?_eq_getElem hlt]
   rfl
  obtain ⟨hr, h2, h3⟩ := hash_go2 s hs m (i + 1) (((Go.bits .xor .u32 x ((bt s (i : Int)) % 4294967296)) * 16777619) % 4294967296) (by omega) (by omega) (by omega)
  rw [hd]
  simp only [hashN]
  refine ⟨Ev.succ ?_, h2, h3⟩
  simp only [value_Hash.l0, if_pos (show (i : Int) < (s.size : Int) by omega), if_pos (show (0 : Int) ≤ (i : Int) by omega), wrap_succ (i := i) (by omega)]
  exact hr
theorem hash_f (s : ByteArray) (hs : s.size ≤ 140737488351232) : Ev (fun k => value_Hash.f k s) (hashS s) ∧ 0 ≤ hashS s ∧ hashS s < 2147483648 :=
 hash_go2 s hs s.size 0 2166136261 (by omega) (by decide) (by decide)
theorem contains_fin : ∀ n : Fin 256, ([48, 49, 50, 51, 52, 53, 54, 55, 56, 57] : List UInt8).contains (UInt8.ofNat n.val) = decide (48 ≤ n.val ∧ n.val ≤ 57) := by decide +kernel
theorem contains_dig (b : UInt8) : ([48, 49, 50, 51, 52, 53, 54, 55, 56, 57] : List UInt8).contains b = dig b := by
 have := contains_fin ⟨b.toNat, b.toNat_lt⟩
 rw [UInt8.ofNat_toNat] at this
 exact this
theorem dropWhile_all {α : Type} {p : α → Bool} {l : List α} (h : l.dropWhile p = []) : ∀ x ∈ l, p x = true := by
 induction l with
 | nil => intro x hx; cases hx
 | cons a l ih =>
  rw [List.dropWhile_cons] at h
  split at h
  ·intro x hx
   rcases List.mem_cons.1 hx with rfl | hx
   ·assumption
   ·exact ih h x hx
  ·cases h
theorem all_dropWhile {α : Type} {p : α → Bool} {l : List α} (h : ∀ x ∈ l, p x = true) : l.dropWhile p = [] := by
 induction l with
 | nil => rfl
 | cons a l ih =>
  rw [List.dropWhile_cons, if_pos (h a List.mem_cons_self)]
  exact ih fun x hx => h x (List.mem_cons_of_mem _ hx)
theorem dropWhile_head {α : Type} {p : α → Bool} {l : List α} {a : α} {r : List α} (h : l.dropWhile p = a :: r) : p a = false := by
 induction l with
 | nil => cases h
 | cons b l ih =>
  rw [List.dropWhile_cons] at h
  split at h
  ·exact ih h
  ·injection h with h1 h2
   subst h1
   simpa using ‹¬ p b = true›
theorem trim_nil (l cs : List UInt8) : Lib.trimS l cs = [] ↔ ∀ x ∈ l, cs.contains x = true := by
 unfold Lib.trimS Lib.trimLeftS Lib.trimRightS
 constructor
 ·intro h
  have h1 := dropWhile_all h
  have h2 : l.reverse.dropWhile (cs.contains ·) = [] := by
   rcases hq : l.reverse.dropWhile (cs.contains ·) with _ | ⟨a, r⟩
   ·rfl
   ·have h3 := dropWhile_head hq
    have h4 := h1 a (by rw [hq]; simp)
    rw [h4] at h3
    cases h3
  intro x hx
  exact dropWhile_all h2 x (by simpa using hx)
 ·intro h
  have h2 : l.reverse.dropWhile (cs.contains ·) = [] := all_dropWhile fun x hx => h x (by simpa using hx)
  rw [h2]
  rfl
theorem dec_all {l : List UInt8} (h : l.all dig = true) : ∀ a, ∃ m, Lib.decFrom a l = some m := by
 induction l with
 | nil => intro a; exact ⟨a, rfl⟩
 | cons b r ih =>
  intro a
  simp only [List.all_cons, Bool.and_eq_true] at h
  have hb : Lib.digitVal b = some (b.toNat - 48) := by
   have := h.1
   unfold dig at this
   unfold Lib.digitVal
   rw [if_pos (of_decide_eq_true this)]
  obtain ⟨m, hm⟩ := ih h.2 (a * 10 + (b.toNat - 48))
  exact ⟨m, by simp only [Lib.decFrom, hb]; exact hm⟩
theorem ok_mag {l : List UInt8} (h : okL l = true) : Lib.parseMag l = .ok (magL l).toNat ∧ 0 ≤ magL l ∧ magL l < 1000000000000000000 := by
 unfold okL at h
 simp only [Bool.and_eq_true, decide_eq_true_eq] at h
 obtain ⟨⟨h1, h2⟩, h3⟩ := h
 obtain ⟨m, hm⟩ := dec_all h3 0
 have h4 : magL l = (m : Int) := by unfold magL; rw [hm]; rfl
 have h5 := Lib.decFrom_lt18 hm h2
 refine ⟨?_, by omega, by omega⟩
 rw [Lib.parseMag_short l h2, h4]
 unfold Lib.decNat
 rw [if_neg (by simpa using h1), hm]
 rfl
theorem atoi_minus {r : List UInt8} (h : okL r = true) : Lib.atoiAll (45 :: r) = .ok (-magL r) := by
 obtain ⟨h1, h2, h3⟩ := ok_mag h
 rw [Lib.atoiAll_minus, h1]
 simp only [Lib.signed]
 rw [if_neg (by omega)]
 congr 1 <;> omega
theorem atoi_plain {l : List UInt8} (h : okL l = true) : Lib.atoiAll l = .ok (magL l) := by
 obtain ⟨h1, h2, h3⟩ := ok_mag h
 unfold okL at h
 simp only [Bool.and_eq_true, decide_eq_true_eq] at h
 obtain ⟨⟨k1, k2⟩, k3⟩ := h
 rcases l with _ | ⟨c, r⟩
 ·exact absurd rfl k1
 simp only [List.all_cons, Bool.and_eq_true] at k3
 have hc := k3.1
 unfold dig at hc
 have hc := of_decide_eq_true hc
 rw [Lib.atoiAll_plain c r (by omega) (by omega), h1]
 simp only [Lib.signless]
 rw [if_neg (by omega)]
 congr 1 <;> omega
theorem data_extract (s : ByteArray) (a : Nat) : (s.extract a s.size).data.toList = s.data.toList.drop a := by
 rw [Lib.extract_data]
 rw [List.take_of_length_le]
 rw [List.length_drop, data_length]
 exact Nat.le_refl _
theorem prefix_f (s : ByteArray) : strings_TrimPrefix.f s (⟨#[45]⟩ : ByteArray) = some (if s.data.toList.head? = some 45 then s.extract 1 s.size else s) := by
 have h1 : (⟨#[45]⟩ : ByteArray).size = 1 := rfl
 have hl := data_length s
 unfold strings_TrimPrefix.f stringslite_TrimPrefix.f stringslite_HasPrefix.f
 rcases hq : s.data.toList with _ | ⟨c, r⟩
 ·rw [hq] at hl
  have hz : s.size = 0 := hl.symm
  rw [h1, hz]
  rfl
 ·rw [hq] at hl
  have hz : 1 ≤ s.size := by rw [← hl]; simp
  have he : (s.extract 0 1).toList = [c] := by
   rw [toList_data, Lib.extract_data, hq]
   rfl
  rw [h1, if_pos (show (s.size : Int) ≥ ((1 : Nat) : Int) by omega), if_pos (show (0 : Int) ≤ ((1 : Nat) : Int) by decide), if_pos (show ((1 : Nat) : Int) ≤ (s.size : Int) by omega)]
  simp only [Int.toNat_natCast, he, Option.bind_some]
  have h2 : (⟨#[45]⟩ : ByteArray).toList = [45] := by rw [toList_data]
  rw [h2]
  by_cases hc : c = 45
  ·subst hc
   simp only [List.head?_cons, if_true, BEq.rfl]
   rw [if_pos (show (0 : Int) ≤ ((1 : Nat) : Int) by decide), if_pos (show ((1 : Nat) : Int) ≤ (s.size : Int) by omega)]
   rfl
  ·have h3 : ([c] == ([45] : List UInt8)) = false := by simp [hc]
   rw [h3]
   simp [hc]
theorem number_f (s : ByteArray) (hs : s.size ≤ 140737488351232) (b0 : Bool) (b1 : Int) (y z : XOps.Sv) : Ev (fun k => value_val_number.f k b0 b1 s y.f0 y.f1 y.f2 z.f0 z.f1 z.f2) (false, numberL s.data.toList, (⟨#[]⟩ : ByteArray)) := by
 have key : ∀ t : ByteArray, t.size ≤ 140737488351232 → (∀ h : okL t.data.toList = true, Lib.atoiAll s.data.toList = .ok (numberL s.data.toList)) → (okL t.data.toList = false → numberL s.data.toList = 0) →
   Ev (fun k => if t.toList = ([] : List UInt8) then (value_val_number.j0 k true b0 b1 s) else (if (t.size : Int) > 18 then (value_val_number.j0 k true b0 b1 s) else ((strings_Trim.f t (⟨#[48, 49, 50, 51, 52, 53, 54, 55, 56, 57]⟩ : ByteArray)).bind fun t246 => (value_val_number.j0 k (t246.toList != ([] : List UInt8)) b0 b1 s)))) (false, numberL s.data.toList, (⟨#[]⟩ : ByteArray)) := by
  intro t ht hok hno
  have bad : okL t.data.toList = false → Ev (fun k => value_val_number.j0 k true b0 b1 s) (false, numberL s.data.toList, (⟨#[]⟩ : ByteArray)) := fun h => by
   rw [hno h]
   refine Ev.succ ?_
   simp only [value_val_number.j0, if_true, num_f, Option.bind_some]
   exact Ev.now _
  have hlen := data_length t
  by_cases h1 : t.toList = ([] : List UInt8)
  ·simp only [if_pos h1]
   rw [toList_data] at h1
   refine bad ?_
   rw [h1]; rfl
  ·simp only [if_neg h1]
   rw [toList_data] at h1
   by_cases h2 : (t.size : Int) > 18
   ·simp only [if_pos h2]
    refine bad ?_
    unfold okL
    have : ¬ t.data.toList.length ≤ 18 := by rw [hlen]; omega
    rw [decide_eq_false this, Bool.and_false, Bool.false_and]
   ·simp only [if_neg h2]
    have h3 : strings_Trim.f t (⟨#[48, 49, 50, 51, 52, 53, 54, 55, 56, 57]⟩ : ByteArray) = some ⟨(Lib.trimS t.data.toList [48, 49, 50, 51, 52, 53, 54, 55, 56, 57]).toArray⟩ := by
     unfold strings_Trim.f
     rw [if_pos ⟨by omega, by decide, by decide⟩]
    simp only [h3, Option.bind_some]
    have h4 : (⟨(Lib.trimS t.data.toList [48, 49, 50, 51, 52, 53, 54, 55, 56, 57]).toArray⟩ : ByteArray).toList = Lib.trimS t.data.toList [48, 49, 50, 51, 52, 53, 54, 55, 56, 57] := by rw [toList_data]
    rw [h4]
    by_cases h5 : t.data.toList.all dig = true
    ·have h6 : Lib.trimS t.data.toList [48, 49, 50, 51, 52, 53, 54, 55, 56, 57] = [] := (trim_nil _ _).2 fun x hx => by rw [contains_dig]; exact List.all_eq_true.1 h5 x hx
     have h7 : okL t.data.toList = true := by
      unfold okL
      have : t.data.toList.length ≤ 18 := by rw [hlen]; omega
      rw [h5, decide_eq_true h1, decide_eq_true this]
      rfl
     rw [h6]
     refine Ev.succ ?_
     have h8 : strconv_Atoi.f s = some (numberL s.data.toList, none) := by
      unfold strconv_Atoi.f
      rw [if_pos (by omega), hok h7]
     simp only [value_val_number.j0, h8, num_f, Option.bind_some, bne_self_eq_false, Bool.false_eq_true, if_false]
     exact Ev.now _
    ·have h6 : (Lib.trimS t.data.toList [48, 49, 50, 51, 52, 53, 54, 55, 56, 57] != []) = true := by
      rw [bne_iff_ne]
      intro h
      refine h5 (List.all_eq_true.2 fun x hx => ?_)
      rw [← contains_dig]
      exact (trim_nil _ _).1 h x hx
     rw [h6]
     refine bad ?_
     unfold okL
     simp only [Bool.not_eq_true] at h5
     rw [h5, Bool.and_false]
 unfold value_val_number.f
 simp only [prefix_f, Option.bind_some]
 rcases hq : s.data.toList with _ | ⟨c, r⟩
 ·have : ¬ s.data.toList.head? = some 45 := by rw [hq]; simp
  rw [hq] at this
  simp only [List.head?_nil, if_neg this]
  have hk := key s hs
  rw [hq] at hk
  exact hk (fun h => by cases h) (fun _ => rfl)
 ·by_cases hc : c = 45
  ·subst hc
   simp only [List.head?_cons, if_true]
   have hx : (s.extract 1 s.size).data.toList = r := by rw [data_extract, hq]; rfl
   have hz : (s.extract 1 s.size).size ≤ 140737488351232 := by rw [← data_length, hx]; have := data_length s; rw [hq] at this; simp at this; omega
   have hk := key (s.extract 1 s.size) hz
   rw [hx, hq] at hk
   refine hk (fun h => ?_) (fun h => ?_)
   ·unfold numberL
    rw [if_pos (show (45 :: r : List UInt8).head? = some 45 from rfl)]
    rw [if_pos (show okL (45 :: r : List UInt8).tail = true from h)]
    exact atoi_minus h
   ·unfold numberL
    rw [if_pos (show (45 :: r : List UInt8).head? = some 45 from rfl)]
    rw [if_neg (show ¬ okL (45 :: r : List UInt8).tail = true by rw [show okL (45 :: r : List UInt8).tail = false from h]; simp)]
  ·have hh : ¬ (c :: r).head? = some 45 := by simp [hc]
   simp only [if_neg hh]
   have hk := key s hs
   rw [hq] at hk
   refine hk (fun h => ?_) (fun h => ?_)
   ·unfold numberL
    rw [if_neg hh, if_pos h]
    exact atoi_plain h
   ·unfold numberL
    rw [if_neg hh, h]
    rfl
structure Fit (x : XOps.Sv) : Prop where
 size : x.f2.size ≤ 140737488351232
 num : -9223372036854775808 ≤ x.f1 ∧ x.f1 ≤ 9223372036854775807
theorem Ev.map {α β : Type} {g : Nat → Option α} {a : α} (f : α → β) {b : β} (h : Ev g a) (e : f a = b) : Ev (fun k => (g k).map f) b := by
 obtain ⟨K, h⟩ := h
 exact ⟨K, fun k hk => by show (g k).map f = some b; rw [h k hk, ← e]; rfl⟩
def toSv (p : Bool × Int × ByteArray) : XOps.Sv := ⟨p.1, p.2.1, p.2.2⟩
theorem D_add (k : Nat) (x y z : XOps.Sv) : value_Do.D k 74 x y z = (value_val_add.f x.f0 x.f1 x.f2 y.f0 y.f1 y.f2 z.f0 z.f1 z.f2).map toSv := rfl
theorem D_sub (k : Nat) (x y z : XOps.Sv) : value_Do.D k 75 x y z = (value_val_sub.f x.f0 x.f1 x.f2 y.f0 y.f1 y.f2 z.f0 z.f1 z.f2).map toSv := rfl
theorem D_mul (k : Nat) (x y z : XOps.Sv) : value_Do.D k 76 x y z = (value_val_mul.f x.f0 x.f1 x.f2 y.f0 y.f1 y.f2 z.f0 z.f1 z.f2).map toSv := rfl
theorem D_div (k : Nat) (x y z : XOps.Sv) : value_Do.D k 77 x y z = (value_val_div.f x.f0 x.f1 x.f2 y.f0 y.f1 y.f2 z.f0 z.f1 z.f2).map toSv := rfl
theorem D_mod (k : Nat) (x y z : XOps.Sv) : value_Do.D k 78 x y z = (value_val_mod.f x.f0 x.f1 x.f2 y.f0 y.f1 y.f2 z.f0 z.f1 z.f2).map toSv := rfl
theorem D_join (k : Nat) (x y z : XOps.Sv) : value_Do.D k 79 x y z = (value_val_join.f x.f0 x.f1 x.f2 y.f0 y.f1 y.f2 z.f0 z.f1 z.f2).map toSv := rfl
theorem D_long (k : Nat) (x y z : XOps.Sv) : value_Do.D k 80 x y z = (value_val_long.f x.f0 x.f1 x.f2 y.f0 y.f1 y.f2 z.f0 z.f1 z.f2).map toSv := rfl
theorem D_slice (k : Nat) (x y z : XOps.Sv) : value_Do.D k 81 x y z = (value_val_slice.f x.f0 x.f1 x.f2 y.f0 y.f1 y.f2 z.f0 z.f1 z.f2).map toSv := rfl
theorem D_upper (k : Nat) (x y z : XOps.Sv) : value_Do.D k 82 x y z = (value_val_upper.f x.f0 x.f1 x.f2 y.f0 y.f1 y.f2 z.f0 z.f1 z.f2).map toSv := rfl
theorem D_lower (k : Nat) (x y z : XOps.Sv) : value_Do.D k 83 x y z = (value_val_lower.f x.f0 x.f1 x.f2 y.f0 y.f1 y.f2 z.f0 z.f1 z.f2).map toSv := rfl
theorem D_eq (k : Nat) (x y z : XOps.Sv) : value_Do.D k 84 x y z = (value_val_eq.f k x.f0 x.f1 x.f2 y.f0 y.f1 y.f2 z.f0 z.f1 z.f2).map toSv := rfl
theorem D_less (k : Nat) (x y z : XOps.Sv) : value_Do.D k 85 x y z = (value_val_less.f k x.f0 x.f1 x.f2 y.f0 y.f1 y.f2 z.f0 z.f1 z.f2).map toSv := rfl
theorem D_not (k : Nat) (x y z : XOps.Sv) : value_Do.D k 86 x y z = (value_val_not.f x.f0 x.f1 x.f2 y.f0 y.f1 y.f2 z.f0 z.f1 z.f2).map toSv := rfl
theorem D_choose (k : Nat) (x y z : XOps.Sv) : value_Do.D k 87 x y z = (value_val_choose.f x.f0 x.f1 x.f2 y.f0 y.f1 y.f2 z.f0 z.f1 z.f2).map toSv := rfl
theorem D_number (k : Nat) (x y z : XOps.Sv) : value_Do.D k 88 x y z = (value_val_number.f k x.f0 x.f1 x.f2 y.f0 y.f1 y.f2 z.f0 z.f1 z.f2).map toSv := rfl
theorem D_text (k : Nat) (x y z : XOps.Sv) : value_Do.D k 89 x y z = (value_val_text.f x.f0 x.f1 x.f2 y.f0 y.f1 y.f2 z.f0 z.f1 z.f2).map toSv := rfl
theorem D_hash (k : Nat) (x y z : XOps.Sv) : value_Do.D k 90 x y z = (value_val_hash.f k x.f0 x.f1 x.f2 y.f0 y.f1 y.f2 z.f0 z.f1 z.f2).map toSv := rfl
theorem D_find (k : Nat) (x y z : XOps.Sv) : value_Do.D k 91 x y z = (value_val_find.f x.f0 x.f1 x.f2 y.f0 y.f1 y.f2 z.f0 z.f1 z.f2).map toSv := rfl
theorem slice_f (s : ByteArray) (a b : Int) (b0 : Bool) (b1 : Int) (y0 : Bool) (y2 : ByteArray) (z0 : Bool) (z2 : ByteArray) : value_val_slice.f b0 b1 s y0 a y2 z0 b z2 = some (true, 0, clip (sliceS s a b)) := by
 unfold value_val_slice.f
 rw [if_pos (mn_ge (by have := (mx_ge a 0).2; omega) (by omega)), if_pos (mn_le _ _).2]
 rw [if_pos (mn_ge (by have := (mx_ge b 0).2; omega) (by omega)), if_pos (mn_le _ _).2]
 rw [text_f]
 rfl
theorem turn_f (s : ByteArray) (f : Int) (h0 : 0 ≤ f) (h1 : f ≤ 200) (hs : s.size ≤ 140737488351232) : value_turn.f s f = some (true, 0, clip (turnS f s)) := by
 unfold value_turn.f
 rw [if_pos ⟨h0, h1, by omega⟩, text_f]
 rfl
theorem op_does {o : Int} {ks : List Int} {t : Int} {f : Nat} (h : XOps.opFn o = some (ks, t, f)) (x y z : XOps.Sv) (hx : Fit x) (hy : Fit y) (hs : x.f2.size ≤ 4000 ∧ y.f2.size ≤ 4000) : Ev (fun k => value_Do.D k f x y z) (opV o x y z) := by
 by_cases h4 : o = 4
 ·subst h4
  obtain rfl : f = 74 := by
   injection h with h
   injection h with _ h
   injection h with _ h
   exact h.symm
  simp only [D_add]
  exact Ev.const rfl
 by_cases h5 : o = 5
 ·subst h5
  obtain rfl : f = 75 := by
   injection h with h
   injection h with _ h
   injection h with _ h
   exact h.symm
  simp only [D_sub]
  exact Ev.const rfl
 by_cases h6 : o = 6
 ·subst h6
  obtain rfl : f = 76 := by
   injection h with h
   injection h with _ h
   injection h with _ h
   exact h.symm
  simp only [D_mul]
  exact Ev.const rfl
 by_cases h7 : o = 7
 ·subst h7
  obtain rfl : f = 77 := by
   injection h with h
   injection h with _ h
   injection h with _ h
   exact h.symm
  simp only [D_div]
  refine Ev.const ?_
  unfold value_val_div.f opV
  by_cases c : y.f1 = 0
  ·simp [c, num_f, toSv, numV]
  ·simp [c, num_f, toSv, numV]
 by_cases h8 : o = 8
 ·subst h8
  obtain rfl : f = 78 := by
   injection h with h
   injection h with _ h
   injection h with _ h
   exact h.symm
  simp only [D_mod]
  refine Ev.const ?_
  unfold value_val_mod.f opV
  by_cases c : y.f1 = 0
  ·simp [c, num_f, toSv, numV]
  ·simp [c, num_f, toSv, numV]
 by_cases h9 : o = 9
 ·subst h9
  obtain rfl : f = 79 := by
   injection h with h
   injection h with _ h
   injection h with _ h
   exact h.symm
  simp only [D_join]
  refine Ev.const ?_
  unfold value_val_join.f opV
  rw [if_pos (by omega), text_f]
  rfl
 by_cases h10 : o = 10
 ·subst h10
  obtain rfl : f = 80 := by
   injection h with h
   injection h with _ h
   injection h with _ h
   exact h.symm
  simp only [D_long]
  exact Ev.const rfl
 by_cases h11 : o = 11
 ·subst h11
  obtain rfl : f = 81 := by
   injection h with h
   injection h with _ h
   injection h with _ h
   exact h.symm
  simp only [D_slice]
  refine Ev.const ?_
  rw [slice_f]
  rfl
 by_cases h12 : o = 12
 ·subst h12
  obtain rfl : f = 82 := by
   injection h with h
   injection h with _ h
   injection h with _ h
   exact h.symm
  simp only [D_upper]
  refine Ev.const ?_
  unfold value_val_upper.f
  rw [turn_f _ _ (by decide) (by decide) hx.size]
  rfl
 by_cases h13 : o = 13
 ·subst h13
  obtain rfl : f = 83 := by
   injection h with h
   injection h with _ h
   injection h with _ h
   exact h.symm
  simp only [D_lower]
  refine Ev.const ?_
  unfold value_val_lower.f
  rw [turn_f _ _ (by decide) (by decide) hx.size]
  rfl
 by_cases h14 : o = 14
 ·subst h14
  obtain rfl : f = 84 := by
   injection h with h
   injection h with _ h
   injection h with _ h
   exact h.symm
  simp only [D_eq]
  refine Ev.map toSv (a := (false, (if (cmpV x y == 0) = true then 1 else 0), (⟨#[]⟩ : ByteArray))) ?_ rfl
  unfold value_val_eq.f
  refine Ev.bind (compare x y) ?_
  rw [yes_f]
  exact Ev.now _
 by_cases h15 : o = 15
 ·subst h15
  obtain rfl : f = 85 := by
   injection h with h
   injection h with _ h
   injection h with _ h
   exact h.symm
  simp only [D_less]
  refine Ev.map toSv (a := (false, (if (decide (cmpV x y < 0)) = true then 1 else 0), (⟨#[]⟩ : ByteArray))) ?_ rfl
  unfold value_val_less.f
  refine Ev.bind (compare x y) ?_
  rw [yes_f]
  exact Ev.now _
 by_cases h16 : o = 16
 ·subst h16
  obtain rfl : f = 86 := by
   injection h with h
   injection h with _ h
   injection h with _ h
   exact h.symm
  simp only [D_not]
  refine Ev.const ?_
  unfold value_val_not.f
  rw [yes_f]
  rfl
 by_cases h17 : o = 17
 ·subst h17
  obtain rfl : f = 87 := by
   injection h with h
   injection h with _ h
   injection h with _ h
   exact h.symm
  simp only [D_choose]
  refine Ev.const ?_
  unfold value_val_choose.f opV
  by_cases c : x.f1 = 0
  ·simp [c, toSv]
  ·simp [c, toSv]
 by_cases h18 : o = 18
 ·subst h18
  obtain rfl : f = 88 := by
   injection h with h
   injection h with _ h
   injection h with _ h
   exact h.symm
  simp only [D_number]
  exact Ev.map toSv (number_f x.f2 hx.size x.f0 x.f1 y z) rfl
 by_cases h19 : o = 19
 ·subst h19
  obtain rfl : f = 89 := by
   injection h with h
   injection h with _ h
   injection h with _ h
   exact h.symm
  simp only [D_text]
  refine Ev.const ?_
  unfold value_val_text.f strconv_Itoa.f
  rw [if_pos hx.num, Option.bind_some, text_f]
  rfl
 by_cases h20 : o = 20
 ·subst h20
  obtain rfl : f = 90 := by
   injection h with h
   injection h with _ h
   injection h with _ h
   exact h.symm
  simp only [D_hash]
  refine Ev.map toSv (a := (false, hashS x.f2, (⟨#[]⟩ : ByteArray))) ?_ rfl
  unfold value_val_hash.f
  exact Ev.bind (hash_f x.f2 hx.size).1 (Ev.now _)
 by_cases h21 : o = 21
 ·subst h21
  obtain rfl : f = 91 := by
   injection h with h
   injection h with _ h
   injection h with _ h
   exact h.symm
  simp only [D_find]
  refine Ev.const ?_
  unfold value_val_find.f strings_Index.f
  rw [if_pos (by omega)]
  rfl
 have e : XOps.opFn o = none := by simp only [XOps.opFn, h4, h5, h6, h7, h8, h9, h10, h11, h12, h13, h14, h15, h16, h17, h18, h19, h20, h21, if_false]
 rw [e] at h
 cases h
def doV (o : Int) (l : List XOps.Sv) : Bool × Int × ByteArray × Int :=
 if l.any (fun x => !XOps.isValB x) = true then (false, 0, (⟨#[]⟩ : ByteArray), 1) else
 if (XOps.resultF o (l.map (·.f0))).2 ≠ 0 then (false, 0, (⟨#[]⟩ : ByteArray), (XOps.resultF o (l.map (·.f0))).2) else
 ((opV o (l.getD 0 XOps.zv) (l.getD 1 XOps.zv) (l.getD 2 XOps.zv)).f0, (opV o (l.getD 0 XOps.zv) (l.getD 1 XOps.zv) (l.getD 2 XOps.zv)).f1, (opV o (l.getD 0 XOps.zv) (l.getD 1 XOps.zv) (l.getD 2 XOps.zv)).f2, 0)
theorem isVal_size {x : XOps.Sv} (h : XOps.isValB x = true) : x.f2.size ≤ 1000 := by
 unfold XOps.isValB at h
 split at h
 ·simp only [Bool.and_eq_true, decide_eq_true_eq] at h
  omega
 ·have h2 : x.f2.toList = [] := by simpa using h
  rw [toList_data] at h2
  have := data_length x.f2
  rw [h2] at this
  simp at this
  omega
theorem zv_val : XOps.isValB XOps.zv = true := by
 unfold XOps.isValB
 rw [if_neg (show ¬ XOps.zv.f0 = true from fun h => by cases h), toList_data]
 rfl
theorem getD_val {l : List XOps.Sv} (h : ¬ l.any (fun x => !XOps.isValB x) = true) (i : Nat) : XOps.isValB (l.getD i XOps.zv) = true := by
 by_cases hi : i < l.length
 ·rw [List.getD_eq_getElem?_getD, List.getElem?_eq_getElem hi]
  rcases hq : XOps.isValB l[i] with _ | _
  ·refine absurd (List.any_eq_true.2 ⟨l[i], List.getElem_mem hi, ?_⟩) h
   rw [hq]; rfl
  ·exact hq
 ·rw [List.getD_eq_getElem?_getD, List.getElem?_eq_none (by omega)]
  exact zv_val
theorem getD_num {l : List XOps.Sv} (h : ∀ v ∈ l, -9223372036854775808 ≤ v.f1 ∧ v.f1 ≤ 9223372036854775807) (i : Nat) : -9223372036854775808 ≤ (l.getD i XOps.zv).f1 ∧ (l.getD i XOps.zv).f1 ≤ 9223372036854775807 := by
 by_cases hi : i < l.length
 ·rw [List.getD_eq_getElem?_getD, List.getElem?_eq_getElem hi]
  exact h _ (List.getElem_mem hi)
 ·rw [List.getD_eq_getElem?_getD, List.getElem?_eq_none (by omega)]
  decide
theorem do_ (o : Int) (l : List XOps.Sv) (hl : l.length ≤ 1000000) (hn : ∀ v ∈ l, -9223372036854775808 ≤ v.f1 ∧ v.f1 ≤ 9223372036854775807) : Ev (fun k => value_Do.f k o l) (doV o l) := by
 unfold value_Do.f
 simp only [if_pos hl]
 by_cases c1 : l.any (fun x => !XOps.isValB x) = true
 ·simp only [XOps.doF, doV, if_pos c1]
  exact Ev.const rfl
 by_cases c2 : (XOps.resultF o (l.map (·.f0))).2 ≠ 0
 ·simp only [XOps.doF, doV, if_neg c1, if_pos c2]
  exact Ev.const rfl
 have c3 : XOps.resultF o (l.map (·.f0)) = ((XOps.resultF o (l.map (·.f0))).1, 0) := by
  have : (XOps.resultF o (l.map (·.f0))).2 = 0 := by simpa using c2
  rw [← this]
 obtain ⟨ks, t, f, hof, _, _, _⟩ := XOps.res_len c3
 have hv := getD_val c1
 have hN := getD_num hn
 have fit : ∀ i, Fit (l.getD i XOps.zv) := fun i => ⟨by have := isVal_size (hv i); omega, hN i⟩
 have hd := op_does hof (l.getD 0 XOps.zv) (l.getD 1 XOps.zv) (l.getD 2 XOps.zv) (fit 0) (fit 1) ⟨by have := isVal_size (hv 0); omega, by have := isVal_size (hv 1); omega⟩
 simp only [XOps.doF, doV, if_neg c1, if_neg c2, hof]
 exact Ev.map _ (Ev.map _ hd rfl) rfl
end Go.Proofs.YtebofnoljebakaaGreatDoorL
namespace Go.Proofs.YtebofnoljebakaaGreatDoorL
open Go.RowKit Go.Sort Go.Proofs Go.Proofs.YtebofnoljebakaaGreatDoor Go.Proofs.YtebofnoljebakaaGreatDoor.PX Go.Proofs.YtebofnoljebakaaGreatDoor.Stb Go.Proofs.YtebofnoljebakaaGreatDoorW.PrintWords
abbrev It := XSort.It
abbrev Jb := S26
theorem Ev.all_ {α β : Type} {g : Nat → α → Option β} {r : α → β} : ∀ (l : List α), (∀ x ∈ l, Ev (fun k => g k x) (r x)) → ∃ K, ∀ k, K ≤ k → ∀ x ∈ l, g k x = some (r x)
 | [], _ => ⟨0, fun _ _ _ h => by cases h⟩
 | x :: l, h => by
  obtain ⟨K1, h1⟩ := h x List.mem_cons_self
  obtain ⟨K2, h2⟩ := Ev.all_ l fun y hy => h y (List.mem_cons_of_mem _ hy)
  refine ⟨max K1 K2, fun k hk y hy => ?_⟩
  rcases List.mem_cons.1 hy with e | hy
  ·rw [e]; exact h1 k (by omega)
  ·exact h2 k (by omega) y hy
theorem rdI (l : List It) (i : Nat) : rd_T38 l (i : Int) = l.getD i z38 := by unfold rd_T38; rw [Int.toNat_natCast]
theorem rdI_mem (l : List It) {i : Nat} (h : i < l.length) : rd_T38 l (i : Int) = l[i] ∧ l[i] ∈ l := by
 rw [rdI, List.getD_eq_getElem?_getD, List.getElem?_eq_getElem h]
 exact ⟨rfl, List.getElem_mem h⟩
def Sized (l : List It) : Prop := ∀ q ∈ l, q.f0.size ≤ 140737488351232 ∧ q.f1.f2.size ≤ 140737488351232
theorem few_go (l : List It) (hs : Sized l) (hl : l.length < 100000000000000) : ∀ (m i : Nat) (n : Int), i + m = l.length → 0 ≤ n → n ≤ 3000 → ∃ b, Ev (fun k => w19_few.l0 k l n (i : Int)) b ∧ (b = true → l.length ≤ 150)
 | 0, i, n, hi, _, _ => by
  refine ⟨decide ((l.length : Int) ≤ 150), Ev.succ ?_, fun h => by have := of_decide_eq_true h; omega⟩
  simp only [w19_few.l0, if_neg (show ¬ (i : Int) < (l.length : Int) by omega)]
  exact Ev.now _
 | m + 1, i, n, hi, h0, h1 => by
  have hlt : i < l.length := by omega
  obtain ⟨hr, hm⟩ := rdI_mem l hlt
  obtain ⟨s0, s2⟩ := hs _ hm
  have e : wrap64 ((wrap64 ((wrap64 (n + 3)) + (((rd_T38 l (i : Int)).f0).size : Int))) + (((rd_T38 l (i : Int)).f1.f2).size : Int)) = n + 3 + (l[i].f0.size : Int) + (l[i].f1.f2.size : Int) := by
   rw [hr, wrap_id (x := n + 3) (by omega) (by omega), wrap_id (x := n + 3 + (l[i].f0.size : Int)) (by omega) (by omega), wrap_id (by omega) (by omega)]
  by_cases c : n + 3 + (l[i].f0.size : Int) + (l[i].f1.f2.size : Int) > 3000
  ·refine ⟨false, Ev.succ ?_, fun h => by cases h⟩
   simp only [w19_few.l0, if_pos (show (i : Int) < (l.length : Int) by omega), if_pos (show (0 : Int) ≤ (i : Int) by omega), e, if_pos c]
   exact Ev.now _
  ·obtain ⟨b, hb, hbl⟩ := few_go l hs hl m (i + 1) (n + 3 + (l[i].f0.size : Int) + (l[i].f1.f2.size : Int)) (by omega) (by omega) (by omega)
   refine ⟨b, Ev.succ ?_, hbl⟩
   simp only [w19_few.l0, if_pos (show (i : Int) < (l.length : Int) by omega), if_pos (show (0 : Int) ≤ (i : Int) by omega), e, if_neg c, wrap_succ (i := i) (by omega)]
   exact hb
theorem few_f (l : List It) (hs : Sized l) (hl : l.length < 100000000000000) : ∃ b, Ev (fun k => w19_few.f k l) b ∧ (b = true → l.length ≤ 150) := few_go l hs hl l.length 0 0 (by omega) (by omega) (by omega)
theorem small_go (l : List S81) : ∀ m i : Nat, i + m = 40 → i ≤ l.length → ∃ b, Ev (fun k => w19_small.l0 k l (i : Int)) b
 | 0, i, hi, hl => by
  by_cases h : i < l.length
  ·refine ⟨false, Ev.succ ?_⟩
   simp only [w19_small.l0, if_pos (show (i : Int) < (l.length : Int) by omega), if_pos (show (i : Int) = 40 by omega)]
   exact Ev.now _
  ·refine ⟨true, Ev.succ ?_⟩
   simp only [w19_small.l0, if_neg (show ¬ (i : Int) < (l.length : Int) by omega)]
   exact Ev.now _
 | m + 1, i, hi, hl => by
  by_cases h : i < l.length
  ·by_cases h2 : (((rd_T81 l (i : Int)).f2).size : Int) > 1100
   ·refine ⟨false, Ev.succ ?_⟩
    simp only [w19_small.l0, if_pos (show (i : Int) < (l.length : Int) by omega), if_neg (show ¬ (i : Int) = 40 by omega), if_pos (show (0 : Int) ≤ (i : Int) by omega), if_pos h2]
    exact Ev.now _
   ·obtain ⟨b, hb⟩ := small_go l m (i + 1) (by omega) (by omega)
    refine ⟨b, Ev.succ ?_⟩
    simp only [w19_small.l0, if_pos (show (i : Int) < (l.length : Int) by omega), if_neg (show ¬ (i : Int) = 40 by omega), if_pos (show (0 : Int) ≤ (i : Int) by omega), if_neg h2, wrap_succ (i := i) (by omega)]
    exact hb
  ·refine ⟨true, Ev.succ ?_⟩
   simp only [w19_small.l0, if_neg (show ¬ (i : Int) < (l.length : Int) by omega)]
   exact Ev.now _
theorem small_f (l : List S81) : ∃ b, Ev (fun k => w19_small.f k l) b := small_go l 40 0 rfl (Nat.zero_le _)
theorem little_f (j : Jb) : ∃ b, Ev (fun k => w19_little.f k j.f0 j.f1 j.f2 j.f3 j.f4 j.f5 j.f6.f0 j.f6.f1 j.f6.f2 j.f7 j.f8 j.f9 j.f10 j.f11) b := by
 obtain ⟨b1, h1⟩ := small_f j.f1
 obtain ⟨b2, h2⟩ := small_f j.f2
 obtain ⟨b3, h3⟩ := small_f j.f3
 obtain ⟨b5, h5⟩ := small_f j.f5
 refine ⟨if b1 = true then (if b2 = true then (if b3 = true then (if b5 = true then decide ((j.f6.f2.size : Int) ≤ 1100) else false) else false) else false) else false, ?_⟩
 unfold w19_little.f
 refine Ev.bind h1 ?_
 cases b1
 ·exact Ev.now _
 refine Ev.bind h2 ?_
 cases b2
 ·exact Ev.now _
 refine Ev.bind h3 ?_
 cases b3
 ·exact Ev.now _
 refine Ev.bind h5 ?_
 cases b5
 ·exact Ev.now _
 ·exact Ev.now _
def wrP (s : ByteArray) : Int := (doV 18 [textV s]).2.1
theorem written_f (s : ByteArray) : Ev (fun k => job_written.f k s) (wrP s) := by
 have h : Ev (fun k => value_Do.f k 18 [textV s]) (doV 18 [textV s]) := do_ 18 [textV s] (by simp) (fun v hv => by obtain rfl := List.mem_singleton.1 hv; exact ⟨by show (-9223372036854775808 : Int) ≤ 0; omega, by show (0 : Int) ≤ 9223372036854775807; omega⟩)
 unfold job_written.f
 simp only [text_f, Option.bind_some]
 exact Ev.bind h (Ev.now _)
theorem or2 (x y : Int) : Ev (fun k => cmp_Or_int.f k [x, y]) (if x = 0 then y else x) := by
 refine Ev.at_k 5 (fun k => cmp_Or_int.mono _ k) ?_
 have w1 : wrap64 (0 + 1) = 1 := wrap_id (by decide) (by decide)
 have w2 : wrap64 (1 + 1) = 2 := wrap_id (by decide) (by decide)
 have r0 : rd [x, y] 0 = x := rfl
 have r1 : rd [x, y] 1 = y := rfl
 have hl : (([x, y] : List Int).length : Int) = 2 := rfl
 simp only [cmp_Or_int.f, cmp_Or_int.l0, hl, r0, r1, w1, w2]
 by_cases hx : x = 0
 ·by_cases hy : y = 0
  ·simp [hx, hy]
  ·simp [hx, hy]
 ·simp [hx]
theorem aheadC {wr wr' : ByteArray → Int} {num down : Bool} {x y : ByteArray} (hx : wr x = wr' x) (hy : wr y = wr' y) : aheadP wr num down x y = aheadP wr' num down x y := by
 unfold aheadP keyLt
 rw [hx, hy]
def ahP (j : Jb) (x y : ByteArray) : Bool := aheadP wrP j.f10 j.f9 x y
theorem ahead_f (j : Jb) (x y : ByteArray) : Ev (fun k => job_Ahead.f k j.f0 j.f1 j.f2 j.f3 j.f4 j.f5 j.f6.f0 j.f6.f1 j.f6.f2 j.f7 j.f8 j.f9 j.f10 j.f11 x y) (ahP j x y) := by
 have ex : ∀ x y, ∃ b, Ev (fun k => job_Ahead.j0 k x y j.f0 j.f1 j.f2 j.f3 j.f4 j.f5 j.f6.f0 j.f6.f1 j.f6.f2 j.f7 j.f8 j.f9 j.f10 j.f11) b := fun x y => by
  by_cases hn : j.f10 = true
  ·refine ⟨decide ((if cI (wrP x) (wrP y) = 0 then cS x y else cI (wrP x) (wrP y)) < 0), Ev.succ ?_⟩
   simp only [job_Ahead.j0, if_pos hn, cmpInt, cmpStr, Option.bind_some]
   exact Ev.bind (written_f x) (Ev.bind (written_f y) (Ev.bind (or2 _ _) (Ev.now _)))
  ·refine ⟨decide ((if (0 : Int) = 0 then cS x y else 0) < 0), Ev.succ ?_⟩
   simp only [job_Ahead.j0, if_neg hn, cmpStr, Option.bind_some]
   exact Ev.bind (or2 _ _) (Ev.now _)
 obtain ⟨b, K, hK⟩ : ∃ b, Ev (fun k => job_Ahead.f k j.f0 j.f1 j.f2 j.f3 j.f4 j.f5 j.f6.f0 j.f6.f1 j.f6.f2 j.f7 j.f8 j.f9 j.f10 j.f11 x y) b := by
  unfold job_Ahead.f
  by_cases hd : j.f9 = true
  ·simp only [if_pos hd]; exact ex y x
  ·simp only [if_neg hd]; exact ex x y
 obtain ⟨K1, h1⟩ := written_f x
 obtain ⟨K2, h2⟩ := written_f y
 refine ⟨max K (max K1 K2) + 1, fun k hk => ?_⟩
 have hb := hK k (by omega)
 rw [hb]
 have e := sorter_Sort.av hb
 rw [e]
 congr 1
 refine aheadC ?_ ?_
 ·show (job_written.f (k - 1) x).getD 0 = _; have q := h1 (k - 1) (by omega); dsimp only at q; rw [q]; rfl
 ·show (job_written.f (k - 1) y).getD 0 = _; have q := h2 (k - 1) (by omega); dsimp only at q; rw [q]; rfl
def ltP (j : Jb) (x y : It) : Bool := ahP j x.f0 y.f0
theorem ltP_swo (j : Jb) : SWO (ltP j) := ahead_swo (fun x : It => x.f0) _ _ _
theorem ahead_all (j : Jb) (l : List It) : ∃ K, ∀ k, K ≤ k → ∀ x ∈ l, ∀ y ∈ l, job_Ahead.f k j.f0 j.f1 j.f2 j.f3 j.f4 j.f5 j.f6.f0 j.f6.f1 j.f6.f2 j.f7 j.f8 j.f9 j.f10 j.f11 x.f0 y.f0 = some (ltP j x y) := by
 obtain ⟨K, hK⟩ := Ev.all_ (g := fun k (p : It × It) => job_Ahead.f k j.f0 j.f1 j.f2 j.f3 j.f4 j.f5 j.f6.f0 j.f6.f1 j.f6.f2 j.f7 j.f8 j.f9 j.f10 j.f11 p.1.f0 p.2.f0) (r := fun p => ltP j p.1 p.2) (l.flatMap fun x => l.map fun y => (x, y)) fun p _ => ahead_f j _ _
 exact ⟨K, fun k hk x hx y hy => hK k hk (x, y) (List.mem_flatMap.2 ⟨x, hx, List.mem_map.2 ⟨y, hy, rfl⟩⟩)⟩
theorem sort_f (j : Jb) (l : List It) (hl : l.length < 1000000000000) : Ev (fun k => sorter_Sort.f k j.f0 j.f1 j.f2 j.f3 j.f4 j.f5 j.f6.f0 j.f6.f1 j.f6.f2 j.f7 j.f8 j.f9 j.f10 j.f11 l) (sortRef (ltP j) l) := by
 obtain ⟨K, hK⟩ := ahead_all j l
 refine ⟨K, fun k hk => ?_⟩
 unfold sorter_Sort.f
 dsimp only
 rw [if_pos ⟨List.all_eq_true.2 fun x hx => List.all_eq_true.2 fun y hy => by rw [hK k hk x hx y hy]; rfl, hl⟩]
 congr 1
 exact sorter_Sort.sortc l fun x hx y hy => by rw [hK k hk x hx y hy]; rfl
theorem inOrder_f (j : Jb) (l : List It) (hl : l.length < 1000000000000) : Ev (fun k => sorter_InOrder.f k j.f0 j.f1 j.f2 j.f3 j.f4 j.f5 j.f6.f0 j.f6.f1 j.f6.f2 j.f7 j.f8 j.f9 j.f10 j.f11 l) (XSort.srtB (ltP j) l) := by
 obtain ⟨K, hK⟩ := ahead_all j l
 refine ⟨K, fun k hk => ?_⟩
 unfold sorter_InOrder.f
 dsimp only
 rw [if_pos ⟨List.all_eq_true.2 fun x hx => List.all_eq_true.2 fun y hy => by rw [hK k hk x hx y hy]; rfl, hl⟩]
 congr 1
 exact sorter_InOrder.srtc l fun x hx y hy => by rw [hK k hk x hx y hy]; rfl
abbrev It8 := S74
def toR (x : It) : It8 := ⟨x.f0, ⟨x.f1.f0, x.f1.f1, x.f1.f2⟩⟩
theorem items_go (l : List It) (hl : l.length < 1000000000000) : ∀ (m i : Nat) (out : List It8), i + m = l.length → out = (l.take i).map toR → Ev (fun k => w19_items.l0 k l out (i : Int)) (l.map toR)
 | 0, i, out, hi, ho => by
  refine Ev.succ ?_
  simp only [w19_items.l0, if_neg (show ¬ (i : Int) < (l.length : Int) by omega)]
  refine Ev.ret ?_
  rw [ho, List.take_of_length_le (by omega)]
 | m + 1, i, out, hi, ho => by
  have hlt : i < l.length := by omega
  obtain ⟨hr, _⟩ := rdI_mem l hlt
  have hol : out.length < 2932031007402 := by rw [ho, List.length_map, List.length_take]; omega
  refine Ev.succ ?_
  simp only [w19_items.l0, if_pos (show (i : Int) < (l.length : Int) by omega), if_pos (show (0 : Int) ≤ (i : Int) by omega), if_pos hol, wrap_succ (i := i) (by omega), hr]
  refine items_go l hl m (i + 1) _ (by omega) ?_
  rw [ho, List.take_add_one, List.getElem?_eq_getElem hlt, List.map_append]
  rfl
theorem items_f (l : List It) (hl : l.length < 1000000000000) : Ev (fun k => w19_items.f k l) (l.map toR) := items_go l hl l.length 0 [] (by omega) rfl
theorem same_go (l : List It8) (hl : l.length < 1000000000000) : ∀ m i : Nat, i + m = l.length → Ev (fun k => r18_Same.l0 k l l (i : Int)) true
 | 0, i, hi => by
  refine Ev.succ ?_
  simp only [r18_Same.l0, if_neg (show ¬ (i : Int) < (l.length : Int) by omega)]
  exact Ev.now _
 | m + 1, i, hi => by
  refine Ev.succ ?_
  simp only [r18_Same.l0, if_pos (show (i : Int) < (l.length : Int) by omega), if_pos (show (0 : Int) ≤ (i : Int) by omega), beq_self_eq_true, Bool.not_true, Bool.or_false, Bool.false_eq_true, if_false, wrap_succ (i := i) (by omega)]
  exact same_go l hl m (i + 1) (by omega)
theorem same_f (l : List It8) (hl : l.length < 1000000000000) : Ev (fun k => r18_Same.f k l l) true := by
 unfold r18_Same.f
 simp only [if_true]
 exact same_go l hl l.length 0 (by omega)
end Go.Proofs.YtebofnoljebakaaGreatDoorL
namespace Go.Proofs.YtebofnoljebakaaGreatDoor.Pure
open Go.RowKit Go.Sort Go.Proofs Go.Proofs.YtebofnoljebakaaGreatDoor Go.Proofs.YtebofnoljebakaaGreatDoor.PX Go.Proofs.YtebofnoljebakaaGreatDoor.Stb Go.Proofs.YtebofnoljebakaaGreatDoorW.PrintWords Go.Proofs.YtebofnoljebakaaGreatDoorL
def itEq (x y : It) : Bool := (y.f0.toList == x.f0.toList && ((y.f1.f0 == x.f1.f0) && ((y.f1.f1 == x.f1.f1) && (y.f1.f2.toList == x.f1.f2.toList))))
theorem count_go (l : List It) (x : It) (hl : l.length < 1000000000000) : ∀ (m i n : Nat), i + m = l.length → n = (l.take i).countP (itEq x) → Ev (fun k => w19_count.l0 k l (n : Int) (i : Int) x.f0 x.f1.f0 x.f1.f1 x.f1.f2) ((l.countP (itEq x) : Nat) : Int)
 | 0, i, n, hi, hn => by
  refine Ev.succ ?_
  simp only [w19_count.l0, if_neg (show ¬ (i : Int) < (l.length : Int) by omega)]
  refine Ev.ret ?_
  rw [hn, List.take_of_length_le (by omega)]
 | m + 1, i, n, hi, hn => by
  have hlt : i < l.length := by omega
  obtain ⟨hr, _⟩ := rdI_mem l hlt
  have hnb : n ≤ i := by
   rw [hn]; exact Nat.le_trans List.countP_le_length (by rw [List.length_take]; omega)
  have step : (l.take (i + 1)).countP (itEq x) = n + if itEq x l[i] = true then 1 else 0 := by
   rw [List.take_add_one, List.getElem?_eq_getElem hlt, List.countP_append, ← hn]
   simp [List.countP_cons]
  refine Ev.succ ?_
  simp only [w19_count.l0, if_pos (show (i : Int) < (l.length : Int) by omega), if_pos (show (0 : Int) ≤ (i : Int) by omega), wrap_succ (i := i) (by omega), wrap_succ (i := n) (by omega), hr]
  by_cases c : itEq x l[i] = true
  ·have c' := c
   unfold itEq at c'
   simp only [if_pos c']
   rw [if_pos c] at step
   exact count_go l x hl m (i + 1) (n + 1) (by omega) step.symm
  ·have c' := c
   unfold itEq at c'
   simp only [if_neg c']
   rw [if_neg c] at step
   exact count_go l x hl m (i + 1) n (by omega) step.symm
theorem count_f (l : List It) (x : It) (hl : l.length < 1000000000000) : Ev (fun k => w19_count.f k l x.f0 x.f1.f0 x.f1.f1 x.f1.f2) ((l.countP (itEq x) : Nat) : Int) := count_go l x hl l.length 0 0 (by omega) rfl
theorem alive19 : w19_alive.f = some true := rfl
theorem rdG (g : List Gr) {i : Nat} (h : i < g.length) : rd_T43 g (i : Int) = g[i] := by
 unfold rd_T43; rw [Int.toNat_natCast, List.getD_eq_getElem?_getD, List.getElem?_eq_getElem h]; rfl
theorem inner_go (g : List Gr) (hp : (g.map (·.f0)).Pairwise (fun a b => a ≠ b)) (hl : g.length < 1000000000000) (i : Nat) (hi : i < g.length) (next : Ev (fun k => w19_SorterOrder.l1 k g ((i + 1 : Nat) : Int)) true) :
  ∀ m q : Nat, q + m = i → Ev (fun k => w19_SorterOrder.l2 k g (i : Int) (q : Int)) true
 | 0, q, hq => by
  refine Ev.succ ?_
  simp only [w19_SorterOrder.l2, if_neg (show ¬ (q : Int) < (i : Int) by omega), wrap_succ (i := i) (by omega)]
  exact next
 | m + 1, q, hq => by
  have hne : ¬ g[i].f0.toList = (g[q]'(by omega)).f0.toList := fun e => by
   rw [List.pairwise_map, List.pairwise_iff_getElem] at hp
   exact hp q i (by omega) hi (by omega) (toList_inj.1 e).symm
  refine Ev.succ ?_
  simp only [w19_SorterOrder.l2, if_pos (show (q : Int) < (i : Int) by omega), if_pos (show (0 : Int) ≤ (i : Int) by omega), if_pos (show (i : Int) < (g.length : Int) by omega), if_pos (show (0 : Int) ≤ (q : Int) by omega), if_pos (show (q : Int) < (g.length : Int) by omega), rdG g hi, rdG g (show q < g.length by omega), if_neg hne, wrap_succ (i := q) (by omega)]
  exact inner_go g hp hl i hi next m (q + 1) (by omega)
theorem outer_go (g : List Gr) (hp : (g.map (·.f0)).Pairwise (fun a b => a ≠ b)) (hl : g.length < 1000000000000) : ∀ m i : Nat, i + m = g.length → Ev (fun k => w19_SorterOrder.l1 k g (i : Int)) true
 | 0, i, hi => by
  refine Ev.succ ?_
  simp only [w19_SorterOrder.l1, if_neg (show ¬ (i : Int) < (g.length : Int) by omega), alive19, Option.bind_some]
  exact Ev.now _
 | m + 1, i, hi => by
  refine Ev.succ ?_
  simp only [w19_SorterOrder.l1, if_pos (show (i : Int) < (g.length : Int) by omega)]
  exact inner_go g hp hl i (by omega) (outer_go g hp hl m (i + 1) (by omega)) i 0 (by omega)
theorem counts_go (j : Jb) (l s : List It) (hps : s.Perm l) (hl : l.length < 1000000000000) (hp : ((groupsL s).map (·.f0)).Pairwise (fun a b => a ≠ b)) : ∀ m i : Nat, i + m = l.length → Ev (fun k => w19_SorterOrder.l0 k l s (i : Int) j.f0 j.f1 j.f2 j.f3 j.f4 j.f5 j.f6.f0 j.f6.f1 j.f6.f2 j.f7 j.f8 j.f9 j.f10 j.f11) true
 | 0, i, hi => by
  have hsl := hps.length_eq
  have hg : sorter_Groups.f j.f0 j.f1 j.f2 j.f3 j.f4 j.f5 j.f6.f0 j.f6.f1 j.f6.f2 j.f7 j.f8 j.f9 j.f10 j.f11 s = some (groupsL s) := by unfold sorter_Groups.f; rw [if_pos (by omega)]
  refine Ev.succ ?_
  simp only [w19_SorterOrder.l0, if_neg (show ¬ (i : Int) < (l.length : Int) by omega), hg, Option.bind_some]
  exact outer_go (groupsL s) hp (by have := (groups_bound s).1; omega) (groupsL s).length 0 (by omega)
 | m + 1, i, hi => by
  have hlt : i < l.length := by omega
  have hsl := hps.length_eq
  obtain ⟨hr, _⟩ := rdI_mem l hlt
  refine Ev.succ ?_
  simp only [w19_SorterOrder.l0, if_pos (show (i : Int) < (l.length : Int) by omega), if_pos (show (0 : Int) ≤ (i : Int) by omega), hr, wrap_succ (i := i) (by omega)]
  refine Ev.bind (count_f s l[i] (by omega)) ?_
  refine Ev.bind (count_f l l[i] hl) ?_
  simp only [hps.countP_eq, if_true]
  exact counts_go j l s hps hl hp m (i + 1) (by omega)
theorem SorterOrder : w19_SorterOrder.Pure := by
 intro j l hj hl
 refine Ev.rounds ?_
 have hs : Sized l := fun q hq => ⟨(hl.2 q hq).1, (hl.2 q hq).2.2.2⟩
 have hlen : l.length < 100000000000000 := by have := hl.1; omega
 have live : ∀ x1, Ev (fun k => w19_SorterOrder.j0 k x1 true j.f0 j.f1 j.f2 j.f3 j.f4 j.f5 j.f6.f0 j.f6.f1 j.f6.f2 j.f7 j.f8 j.f9 j.f10 j.f11) true := fun x1 => by
  refine Ev.succ ?_
  simp only [w19_SorterOrder.j0, if_true, alive19, Option.bind_some]
  exact Ev.now _
 unfold w19_SorterOrder.f
 obtain ⟨b, hb⟩ := little_f j
 refine Ev.bind hb ?_
 cases b
 ·simp only [Bool.false_eq_true, if_false]
  exact live _
 simp only [if_true]
 obtain ⟨c, hc, hcl⟩ := few_f l hs hlen
 refine Ev.bind hc ?_
 cases c
 ·exact live _
 have h150 := hcl rfl
 refine Ev.succ ?_
 simp only [w19_SorterOrder.j0, Bool.not_true, Bool.false_eq_true, if_false]
 refine Ev.bind (sort_f j l (by omega)) ?_
 have hps := sortRef_perm (ltP j) l
 obtain ⟨ho, hag⟩ := sorted_again (ltP_swo j) l
 have hasc := (sortRef_ok (ltP_swo j) l).1
 generalize sortRef (ltP j) l = s at *
 have hsl := hps.length_eq
 refine Ev.bind (inOrder_f j s (by omega)) ?_
 simp only [ho, if_true, if_pos (show (s.length : Int) = (l.length : Int) by omega)]
 refine Ev.bind (sort_f j s (by omega)) ?_
 rw [hag]
 refine Ev.bind (items_f s (by omega)) ?_
 refine Ev.bind (items_f s (by omega)) ?_
 refine Ev.bind (same_f (s.map toR) (by rw [List.length_map]; omega)) ?_
 refine Ev.succ ?_
 simp only [w19_SorterOrder.j1, Bool.not_true, Bool.false_eq_true, if_false]
 exact counts_go j l s hps (by omega) (groups_unlike s hasc) l.length 0 (by omega)
end Go.Proofs.YtebofnoljebakaaGreatDoor.Pure
