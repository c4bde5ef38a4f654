/- What each operation tells of values, in plain words. -/
import Derived.Test.YtejmgcfjpofniaaDoorPXx
import Derived.Test.YtejmgcfjpofniaaDoorLBase
import Derived.Test.YtejmgcfjpofniaaDoorLVal
import Derived.Lib.AtoiAllCases
import Derived.Lib.AtoiTie
import Derived.Lib.ItoaLen
set_option linter.unusedVariables false
set_option linter.unusedSimpArgs false
namespace Go.Proofs.YtejmgcfjpofniaaDoorL
open Go.RowKit Go.Proofs Go.Proofs.YtejmgcfjpofniaaDoor Go.Proofs.YtejmgcfjpofniaaDoor.PX Go.Proofs.YtejmgcfjpofniaaDoorW.PrintWords Go.Proofs.YtejmgcfjpofniaaDoorW.PrintMore
def numV (n : Int) : XOps.Sv := ⟨false, n, ⟨#[]⟩⟩
def clip (s : ByteArray) : ByteArray := s.extract 0 (mn (s.size : Int) 1000).toNat
def textV (s : ByteArray) : XOps.Sv := ⟨true, 0, clip s⟩
def yesV (b : Bool) : XOps.Sv := numV (if b = true then 1 else 0)
def fromS (s : ByteArray) (a : Int) : ByteArray := s.extract (mn (mx a 0) (s.size : Int)).toNat s.size
def sliceS (s : ByteArray) (a b : Int) : ByteArray := (fromS s a).extract 0 (mn (mx b 0) ((fromS s a).size : Int)).toNat
def turnS (f : Int) (s : ByteArray) : ByteArray := strOfNums (XTurn.turnL f (bytesOf s))
def itoaS (n : Int) : ByteArray := ⟨(Lib.itoa n).toArray⟩
def dig (b : UInt8) : Bool := decide (48 ≤ b.toNat ∧ b.toNat ≤ 57)
def magL (l : List UInt8) : Int := (((Lib.decFrom 0 l).getD 0 : Nat) : Int)
def okL (l : List UInt8) : Bool := decide (l ≠ []) && decide (l.length ≤ 18) && l.all dig
def numberL (l : List UInt8) : Int :=
  if l.head? = some 45 then (if okL l.tail = true then -magL l.tail else 0) else (if okL l = true then magL l else 0)
def hashN (x : Int) : List Int → Int
  | [] => x % 2147483648
  | c :: l => hashN (((Go.bits .xor .u32 x (c % 4294967296)) * 16777619) % 4294967296) l
def hashS (s : ByteArray) : Int := hashN 2166136261 (bytesOf s)
def opV (o : Int) (x y z : XOps.Sv) : XOps.Sv :=
  if o = 4 then numV (wrap64 (x.f1 + y.f1)) else if o = 5 then numV (wrap64 (x.f1 - y.f1)) else if o = 6 then numV (wrap64 (x.f1 * y.f1))
  else if o = 7 then numV (if y.f1 = 0 then 0 else wrap64 (Int.tdiv x.f1 y.f1)) else if o = 8 then numV (if y.f1 = 0 then 0 else Int.tmod x.f1 y.f1)
  else if o = 9 then textV (x.f2 ++ y.f2) else if o = 10 then numV (x.f2.size : Int) else if o = 11 then textV (sliceS x.f2 y.f1 z.f1)
  else if o = 12 then textV (turnS 97 x.f2) else if o = 13 then textV (turnS 65 x.f2) else if o = 14 then yesV (cmpV x y == 0) else if o = 15 then yesV (decide (cmpV x y < 0))
  else if o = 16 then yesV (x.f1 == 0) else if o = 17 then (if x.f1 = 0 then z else y) else if o = 18 then numV (numberL x.f2.data.toList) else if o = 19 then textV (itoaS x.f1)
  else if o = 20 then numV (hashS x.f2) else numV (Lib.index x.f2.data.toList y.f2.data.toList)
/-! ### the functions -/
theorem mn_le (a b : Int) : mn a b ≤ a ∧ mn a b ≤ b := by unfold mn; split <;> omega
theorem mn_ge {a b c : Int} (h : c ≤ a) (k : c ≤ b) : c ≤ mn a b := by unfold mn; split <;> omega
theorem mx_ge (a b : Int) : a ≤ mx a b ∧ b ≤ mx a b := by unfold mx; split <;> omega
theorem num_f (n : Int) : value_Num.f n = some (false, n, (⟨#[]⟩ : ByteArray)) := rfl
theorem text_f (s : ByteArray) : value_Text.f s = some (true, 0, clip s) := by
  unfold value_Text.f
  rw [if_pos (mn_ge (by omega) (by omega)), if_pos (mn_le _ _).1]
  rfl
theorem yes_f (b : Bool) : value_yes.f b = some (false, (if b = true then 1 else 0), (⟨#[]⟩ : ByteArray)) := by cases b <;> rfl
theorem hash_go2 (s : ByteArray) (hs : s.size ≤ 140737488351232) : ∀ (m i : Nat) (x : Int), i + m = s.size → 0 ≤ x → x < 4294967296 → Ev (fun k => value_Hash.l0 k s x (s.size : Int) (i : Int)) (hashN x ((bytesOf s).drop i)) ∧ 0 ≤ hashN x ((bytesOf s).drop i) ∧ hashN x ((bytesOf s).drop i) < 2147483648
  | 0, i, x, hi, h0, h1 => by
    have hb : Go.bits .and .u32 x 2147483647 = x % 2147483648 := bits_mask .u32 32 (by decide) wraps_u32 31 (by decide) x h0 h1
    have hd : (bytesOf s).drop i = [] := List.drop_eq_nil_iff.2 (by rw [bytesOf_length]; omega)
    rw [hd]
    simp only [hashN]
    refine ⟨Ev.succ ?_, by omega, by omega⟩
    simp only [value_Hash.l0, if_neg (show ¬ (i : Int) < (s.size : Int) by omega), hb]
    exact Ev.ret (wrap_id (by omega) (by omega))
  | m + 1, i, x, hi, h0, h1 => by
    have hlt : i < (bytesOf s).length := by rw [bytesOf_length]; omega
    have hd : (bytesOf s).drop i = bt s (i : Int) :: (bytesOf s).drop (i + 1) := by
      rw [List.drop_eq_getElem_cons hlt]
      congr 1
      rw [← rd_bytesOf, rd_nat, List.getD_eq_getElem?_getD, List.getElem?_eq_getElem hlt]
      rfl
    obtain ⟨hr, h2, h3⟩ := hash_go2 s hs m (i + 1) (((Go.bits .xor .u32 x ((bt s (i : Int)) % 4294967296)) * 16777619) % 4294967296) (by omega) (by omega) (by omega)
    rw [hd]
    simp only [hashN]
    refine ⟨Ev.succ ?_, h2, h3⟩
    simp only [value_Hash.l0, if_pos (show (i : Int) < (s.size : Int) by omega), if_pos (show (0 : Int) ≤ (i : Int) by omega), wrap_succ (i := i) (by omega)]
    exact hr
theorem hash_f (s : ByteArray) (hs : s.size ≤ 140737488351232) : Ev (fun k => value_Hash.f k s) (hashS s) ∧ 0 ≤ hashS s ∧ hashS s < 2147483648 :=
  hash_go2 s hs s.size 0 2166136261 (by omega) (by decide) (by decide)
/-! ### the number that a text writes -/
theorem contains_fin : ∀ n : Fin 256, ([48, 49, 50, 51, 52, 53, 54, 55, 56, 57] : List UInt8).contains (UInt8.ofNat n.val) = decide (48 ≤ n.val ∧ n.val ≤ 57) := by decide +kernel
theorem contains_dig (b : UInt8) : ([48, 49, 50, 51, 52, 53, 54, 55, 56, 57] : List UInt8).contains b = dig b := by
  have := contains_fin ⟨b.toNat, b.toNat_lt⟩
  rw [UInt8.ofNat_toNat] at this
  exact this
theorem dropWhile_all {α : Type} {p : α → Bool} {l : List α} (h : l.dropWhile p = []) : ∀ x ∈ l, p x = true := by
  induction l with
  | nil => intro x hx; cases hx
  | cons a l ih =>
    rw [List.dropWhile_cons] at h
    split at h
    · intro x hx
      rcases List.mem_cons.1 hx with rfl | hx
      · assumption
      · exact ih h x hx
    · cases h
theorem all_dropWhile {α : Type} {p : α → Bool} {l : List α} (h : ∀ x ∈ l, p x = true) : l.dropWhile p = [] := by
  induction l with
  | nil => rfl
  | cons a l ih =>
    rw [List.dropWhile_cons, if_pos (h a List.mem_cons_self)]
    exact ih fun x hx => h x (List.mem_cons_of_mem _ hx)
theorem dropWhile_head {α : Type} {p : α → Bool} {l : List α} {a : α} {r : List α} (h : l.dropWhile p = a :: r) : p a = false := by
  induction l with
  | nil => cases h
  | cons b l ih =>
    rw [List.dropWhile_cons] at h
    split at h
    · exact ih h
    · injection h with h1 h2
      subst h1
      simpa using ‹¬ p b = true›
theorem trim_nil (l cs : List UInt8) : Lib.trimS l cs = [] ↔ ∀ x ∈ l, cs.contains x = true := by
  unfold Lib.trimS Lib.trimLeftS Lib.trimRightS
  constructor
  · intro h
    have h1 := dropWhile_all h
    have h2 : l.reverse.dropWhile (cs.contains ·) = [] := by
      rcases hq : l.reverse.dropWhile (cs.contains ·) with _ | ⟨a, r⟩
      · rfl
      · have h3 := dropWhile_head hq
        have h4 := h1 a (by rw [hq]; simp)
        rw [h4] at h3
        cases h3
    intro x hx
    exact dropWhile_all h2 x (by simpa using hx)
  · intro h
    have h2 : l.reverse.dropWhile (cs.contains ·) = [] := all_dropWhile fun x hx => h x (by simpa using hx)
    rw [h2]
    rfl
theorem dec_all {l : List UInt8} (h : l.all dig = true) : ∀ a, ∃ m, Lib.decFrom a l = some m := by
  induction l with
  | nil => intro a; exact ⟨a, rfl⟩
  | cons b r ih =>
    intro a
    simp only [List.all_cons, Bool.and_eq_true] at h
    have hb : Lib.digitVal b = some (b.toNat - 48) := by
      have := h.1
      unfold dig at this
      unfold Lib.digitVal
      rw [if_pos (of_decide_eq_true this)]
    obtain ⟨m, hm⟩ := ih h.2 (a * 10 + (b.toNat - 48))
    exact ⟨m, by simp only [Lib.decFrom, hb]; exact hm⟩
theorem ok_mag {l : List UInt8} (h : okL l = true) : Lib.parseMag l = .ok (magL l).toNat ∧ 0 ≤ magL l ∧ magL l < 1000000000000000000 := by
  unfold okL at h
  simp only [Bool.and_eq_true, decide_eq_true_eq] at h
  obtain ⟨⟨h1, h2⟩, h3⟩ := h
  obtain ⟨m, hm⟩ := dec_all h3 0
  have h4 : magL l = (m : Int) := by unfold magL; rw [hm]; rfl
  have h5 := Lib.decFrom_lt18 hm h2
  refine ⟨?_, by omega, by omega⟩
  rw [Lib.parseMag_short l h2, h4]
  unfold Lib.decNat
  rw [if_neg (by simpa using h1), hm]
  rfl
theorem atoi_minus {r : List UInt8} (h : okL r = true) : Lib.atoiAll (45 :: r) = .ok (-magL r) := by
  obtain ⟨h1, h2, h3⟩ := ok_mag h
  rw [Lib.atoiAll_minus, h1]
  simp only [Lib.signed]
  rw [if_neg (by omega)]
  congr 1 <;> omega
theorem atoi_plain {l : List UInt8} (h : okL l = true) : Lib.atoiAll l = .ok (magL l) := by
  obtain ⟨h1, h2, h3⟩ := ok_mag h
  unfold okL at h
  simp only [Bool.and_eq_true, decide_eq_true_eq] at h
  obtain ⟨⟨k1, k2⟩, k3⟩ := h
  rcases l with _ | ⟨c, r⟩
  · exact absurd rfl k1
  simp only [List.all_cons, Bool.and_eq_true] at k3
  have hc := k3.1
  unfold dig at hc
  have hc := of_decide_eq_true hc
  rw [Lib.atoiAll_plain c r (by omega) (by omega), h1]
  simp only [Lib.signless]
  rw [if_neg (by omega)]
  congr 1 <;> omega
theorem data_extract (s : ByteArray) (a : Nat) : (s.extract a s.size).data.toList = s.data.toList.drop a := by
  rw [Lib.extract_data]
  rw [List.take_of_length_le]
  rw [List.length_drop, data_length]
  exact Nat.le_refl _
theorem prefix_f (s : ByteArray) : strings_TrimPrefix.f s (⟨#[45]⟩ : ByteArray) = some (if s.data.toList.head? = some 45 then s.extract 1 s.size else s) := by
  have h1 : (⟨#[45]⟩ : ByteArray).size = 1 := rfl
  have hl := data_length s
  unfold strings_TrimPrefix.f stringslite_TrimPrefix.f stringslite_HasPrefix.f
  rcases hq : s.data.toList with _ | ⟨c, r⟩
  · rw [hq] at hl
    have hz : s.size = 0 := hl.symm
    rw [h1, hz]
    rfl
  · rw [hq] at hl
    have hz : 1 ≤ s.size := by rw [← hl]; simp
    have he : (s.extract 0 1).toList = [c] := by
      rw [toList_data, Lib.extract_data, hq]
      rfl
    rw [h1, if_pos (show (s.size : Int) ≥ ((1 : Nat) : Int) by omega), if_pos (show (0 : Int) ≤ ((1 : Nat) : Int) by decide), if_pos (show ((1 : Nat) : Int) ≤ (s.size : Int) by omega)]
    simp only [Int.toNat_natCast, he, Option.bind_some]
    have h2 : (⟨#[45]⟩ : ByteArray).toList = [45] := by rw [toList_data]
    rw [h2]
    by_cases hc : c = 45
    · subst hc
      simp only [List.head?_cons, if_true, BEq.rfl]
      rw [if_pos (show (0 : Int) ≤ ((1 : Nat) : Int) by decide), if_pos (show ((1 : Nat) : Int) ≤ (s.size : Int) by omega)]
      rfl
    · have h3 : ([c] == ([45] : List UInt8)) = false := by simp [hc]
      rw [h3]
      simp [hc]
theorem number_f (s : ByteArray) (hs : s.size ≤ 140737488351232) (b0 : Bool) (b1 : Int) (y z : XOps.Sv) : Ev (fun k => value_val_number.f k b0 b1 s y.f0 y.f1 y.f2 z.f0 z.f1 z.f2) (false, numberL s.data.toList, (⟨#[]⟩ : ByteArray)) := by
  have key : ∀ t : ByteArray, t.size ≤ 140737488351232 → (∀ h : okL t.data.toList = true, Lib.atoiAll s.data.toList = .ok (numberL s.data.toList)) → (okL t.data.toList = false → numberL s.data.toList = 0) →
      Ev (fun k => if t.toList = ([] : List UInt8) then (value_val_number.j0 k true b0 b1 s) else (if (t.size : Int) > 18 then (value_val_number.j0 k true b0 b1 s) else ((strings_Trim.f t (⟨#[48, 49, 50, 51, 52, 53, 54, 55, 56, 57]⟩ : ByteArray)).bind fun t246 => (value_val_number.j0 k (t246.toList != ([] : List UInt8)) b0 b1 s)))) (false, numberL s.data.toList, (⟨#[]⟩ : ByteArray)) := by
    intro t ht hok hno
    have bad : okL t.data.toList = false → Ev (fun k => value_val_number.j0 k true b0 b1 s) (false, numberL s.data.toList, (⟨#[]⟩ : ByteArray)) := fun h => by
      rw [hno h]
      refine Ev.succ ?_
      simp only [value_val_number.j0, if_true, num_f, Option.bind_some]
      exact Ev.now _
    have hlen := data_length t
    by_cases h1 : t.toList = ([] : List UInt8)
    · simp only [if_pos h1]
      rw [toList_data] at h1
      refine bad ?_
      rw [h1]; rfl
    · simp only [if_neg h1]
      rw [toList_data] at h1
      by_cases h2 : (t.size : Int) > 18
      · simp only [if_pos h2]
        refine bad ?_
        unfold okL
        have : ¬ t.data.toList.length ≤ 18 := by rw [hlen]; omega
        rw [decide_eq_false this, Bool.and_false, Bool.false_and]
      · simp only [if_neg h2]
        have h3 : strings_Trim.f t (⟨#[48, 49, 50, 51, 52, 53, 54, 55, 56, 57]⟩ : ByteArray) = some ⟨(Lib.trimS t.data.toList [48, 49, 50, 51, 52, 53, 54, 55, 56, 57]).toArray⟩ := by
          unfold strings_Trim.f
          rw [if_pos ⟨by omega, by decide, by decide⟩]
        simp only [h3, Option.bind_some]
        have h4 : (⟨(Lib.trimS t.data.toList [48, 49, 50, 51, 52, 53, 54, 55, 56, 57]).toArray⟩ : ByteArray).toList = Lib.trimS t.data.toList [48, 49, 50, 51, 52, 53, 54, 55, 56, 57] := by rw [toList_data]
        rw [h4]
        by_cases h5 : t.data.toList.all dig = true
        · have h6 : Lib.trimS t.data.toList [48, 49, 50, 51, 52, 53, 54, 55, 56, 57] = [] := (trim_nil _ _).2 fun x hx => by rw [contains_dig]; exact List.all_eq_true.1 h5 x hx
          have h7 : okL t.data.toList = true := by
            unfold okL
            have : t.data.toList.length ≤ 18 := by rw [hlen]; omega
            rw [h5, decide_eq_true h1, decide_eq_true this]
            rfl
          rw [h6]
          refine Ev.succ ?_
          have h8 : strconv_Atoi.f s = some (numberL s.data.toList, none) := by
            unfold strconv_Atoi.f
            rw [if_pos (by omega), hok h7]
          simp only [value_val_number.j0, h8, num_f, Option.bind_some, bne_self_eq_false, Bool.false_eq_true, if_false]
          exact Ev.now _
        · have h6 : (Lib.trimS t.data.toList [48, 49, 50, 51, 52, 53, 54, 55, 56, 57] != []) = true := by
            rw [bne_iff_ne]
            intro h
            refine h5 (List.all_eq_true.2 fun x hx => ?_)
            rw [← contains_dig]
            exact (trim_nil _ _).1 h x hx
          rw [h6]
          refine bad ?_
          unfold okL
          simp only [Bool.not_eq_true] at h5
          rw [h5, Bool.and_false]
  unfold value_val_number.f
  simp only [prefix_f, Option.bind_some]
  rcases hq : s.data.toList with _ | ⟨c, r⟩
  · have : ¬ s.data.toList.head? = some 45 := by rw [hq]; simp
    rw [hq] at this
    simp only [List.head?_nil, if_neg this]
    have hk := key s hs
    rw [hq] at hk
    exact hk (fun h => by cases h) (fun _ => rfl)
  · by_cases hc : c = 45
    · subst hc
      simp only [List.head?_cons, if_true]
      have hx : (s.extract 1 s.size).data.toList = r := by rw [data_extract, hq]; rfl
      have hz : (s.extract 1 s.size).size ≤ 140737488351232 := by rw [← data_length, hx]; have := data_length s; rw [hq] at this; simp at this; omega
      have hk := key (s.extract 1 s.size) hz
      rw [hx, hq] at hk
      refine hk (fun h => ?_) (fun h => ?_)
      · unfold numberL
        rw [if_pos (show (45 :: r : List UInt8).head? = some 45 from rfl)]
        rw [if_pos (show okL (45 :: r : List UInt8).tail = true from h)]
        exact atoi_minus h
      · unfold numberL
        rw [if_pos (show (45 :: r : List UInt8).head? = some 45 from rfl)]
        rw [if_neg (show ¬ okL (45 :: r : List UInt8).tail = true by rw [show okL (45 :: r : List UInt8).tail = false from h]; simp)]
    · have hh : ¬ (c :: r).head? = some 45 := by simp [hc]
      simp only [if_neg hh]
      have hk := key s hs
      rw [hq] at hk
      refine hk (fun h => ?_) (fun h => ?_)
      · unfold numberL
        rw [if_neg hh, if_pos h]
        exact atoi_plain h
      · unfold numberL
        rw [if_neg hh, h]
        rfl
/-! ### the operations -/
structure Fit (x : XOps.Sv) : Prop where
  size : x.f2.size ≤ 140737488351232
  num : -9223372036854775808 ≤ x.f1 ∧ x.f1 ≤ 9223372036854775807
theorem Ev.map {α β : Type} {g : Nat → Option α} {a : α} (f : α → β) {b : β} (h : Ev g a) (e : f a = b) : Ev (fun k => (g k).map f) b := by
  obtain ⟨K, h⟩ := h
  exact ⟨K, fun k hk => by show (g k).map f = some b; rw [h k hk, ← e]; rfl⟩
def toSv (p : Bool × Int × ByteArray) : XOps.Sv := ⟨p.1, p.2.1, p.2.2⟩
theorem D_add (k : Nat) (x y z : XOps.Sv) : value_Do.D k 11 x y z = (value_val_add.f x.f0 x.f1 x.f2 y.f0 y.f1 y.f2 z.f0 z.f1 z.f2).map toSv := rfl
theorem D_sub (k : Nat) (x y z : XOps.Sv) : value_Do.D k 12 x y z = (value_val_sub.f x.f0 x.f1 x.f2 y.f0 y.f1 y.f2 z.f0 z.f1 z.f2).map toSv := rfl
theorem D_mul (k : Nat) (x y z : XOps.Sv) : value_Do.D k 13 x y z = (value_val_mul.f x.f0 x.f1 x.f2 y.f0 y.f1 y.f2 z.f0 z.f1 z.f2).map toSv := rfl
theorem D_div (k : Nat) (x y z : XOps.Sv) : value_Do.D k 14 x y z = (value_val_div.f x.f0 x.f1 x.f2 y.f0 y.f1 y.f2 z.f0 z.f1 z.f2).map toSv := rfl
theorem D_mod (k : Nat) (x y z : XOps.Sv) : value_Do.D k 15 x y z = (value_val_mod.f x.f0 x.f1 x.f2 y.f0 y.f1 y.f2 z.f0 z.f1 z.f2).map toSv := rfl
theorem D_join (k : Nat) (x y z : XOps.Sv) : value_Do.D k 16 x y z = (value_val_join.f x.f0 x.f1 x.f2 y.f0 y.f1 y.f2 z.f0 z.f1 z.f2).map toSv := rfl
theorem D_long (k : Nat) (x y z : XOps.Sv) : value_Do.D k 17 x y z = (value_val_long.f x.f0 x.f1 x.f2 y.f0 y.f1 y.f2 z.f0 z.f1 z.f2).map toSv := rfl
theorem D_slice (k : Nat) (x y z : XOps.Sv) : value_Do.D k 18 x y z = (value_val_slice.f x.f0 x.f1 x.f2 y.f0 y.f1 y.f2 z.f0 z.f1 z.f2).map toSv := rfl
theorem D_upper (k : Nat) (x y z : XOps.Sv) : value_Do.D k 19 x y z = (value_val_upper.f x.f0 x.f1 x.f2 y.f0 y.f1 y.f2 z.f0 z.f1 z.f2).map toSv := rfl
theorem D_lower (k : Nat) (x y z : XOps.Sv) : value_Do.D k 20 x y z = (value_val_lower.f x.f0 x.f1 x.f2 y.f0 y.f1 y.f2 z.f0 z.f1 z.f2).map toSv := rfl
theorem D_eq (k : Nat) (x y z : XOps.Sv) : value_Do.D k 21 x y z = (value_val_eq.f k x.f0 x.f1 x.f2 y.f0 y.f1 y.f2 z.f0 z.f1 z.f2).map toSv := rfl
theorem D_less (k : Nat) (x y z : XOps.Sv) : value_Do.D k 22 x y z = (value_val_less.f k x.f0 x.f1 x.f2 y.f0 y.f1 y.f2 z.f0 z.f1 z.f2).map toSv := rfl
theorem D_not (k : Nat) (x y z : XOps.Sv) : value_Do.D k 23 x y z = (value_val_not.f x.f0 x.f1 x.f2 y.f0 y.f1 y.f2 z.f0 z.f1 z.f2).map toSv := rfl
theorem D_choose (k : Nat) (x y z : XOps.Sv) : value_Do.D k 24 x y z = (value_val_choose.f x.f0 x.f1 x.f2 y.f0 y.f1 y.f2 z.f0 z.f1 z.f2).map toSv := rfl
theorem D_number (k : Nat) (x y z : XOps.Sv) : value_Do.D k 25 x y z = (value_val_number.f k x.f0 x.f1 x.f2 y.f0 y.f1 y.f2 z.f0 z.f1 z.f2).map toSv := rfl
theorem D_text (k : Nat) (x y z : XOps.Sv) : value_Do.D k 26 x y z = (value_val_text.f x.f0 x.f1 x.f2 y.f0 y.f1 y.f2 z.f0 z.f1 z.f2).map toSv := rfl
theorem D_hash (k : Nat) (x y z : XOps.Sv) : value_Do.D k 27 x y z = (value_val_hash.f k x.f0 x.f1 x.f2 y.f0 y.f1 y.f2 z.f0 z.f1 z.f2).map toSv := rfl
theorem D_find (k : Nat) (x y z : XOps.Sv) : value_Do.D k 28 x y z = (value_val_find.f x.f0 x.f1 x.f2 y.f0 y.f1 y.f2 z.f0 z.f1 z.f2).map toSv := rfl
theorem slice_f (s : ByteArray) (a b : Int) (b0 : Bool) (b1 : Int) (y0 : Bool) (y2 : ByteArray) (z0 : Bool) (z2 : ByteArray) : value_val_slice.f b0 b1 s y0 a y2 z0 b z2 = some (true, 0, clip (sliceS s a b)) := by
  unfold value_val_slice.f
  rw [if_pos (mn_ge (by have := (mx_ge a 0).2; omega) (by omega)), if_pos (mn_le _ _).2]
  rw [if_pos (mn_ge (by have := (mx_ge b 0).2; omega) (by omega)), if_pos (mn_le _ _).2]
  rw [text_f]
  rfl
theorem turn_f (s : ByteArray) (f : Int) (h0 : 0 ≤ f) (h1 : f ≤ 200) (hs : s.size ≤ 140737488351232) : value_turn.f s f = some (true, 0, clip (turnS f s)) := by
  unfold value_turn.f
  rw [if_pos ⟨h0, h1, by omega⟩, text_f]
  rfl
theorem op_does {o : Int} {ks : List Int} {t : Int} {f : Nat} (h : XOps.opFn o = some (ks, t, f)) (x y z : XOps.Sv) (hx : Fit x) (hy : Fit y) (hs : x.f2.size ≤ 4000 ∧ y.f2.size ≤ 4000) : Ev (fun k => value_Do.D k f x y z) (opV o x y z) := by
  by_cases h4 : o = 4
  · subst h4
    obtain rfl : f = 11 := by
      injection h with h
      injection h with _ h
      injection h with _ h
      exact h.symm
    simp only [D_add]
    exact Ev.const rfl
  by_cases h5 : o = 5
  · subst h5
    obtain rfl : f = 12 := by
      injection h with h
      injection h with _ h
      injection h with _ h
      exact h.symm
    simp only [D_sub]
    exact Ev.const rfl
  by_cases h6 : o = 6
  · subst h6
    obtain rfl : f = 13 := by
      injection h with h
      injection h with _ h
      injection h with _ h
      exact h.symm
    simp only [D_mul]
    exact Ev.const rfl
  by_cases h7 : o = 7
  · subst h7
    obtain rfl : f = 14 := by
      injection h with h
      injection h with _ h
      injection h with _ h
      exact h.symm
    simp only [D_div]
    refine Ev.const ?_
    unfold value_val_div.f opV
    by_cases c : y.f1 = 0
    · simp [c, num_f, toSv, numV]
    · simp [c, num_f, toSv, numV]
  by_cases h8 : o = 8
  · subst h8
    obtain rfl : f = 15 := by
      injection h with h
      injection h with _ h
      injection h with _ h
      exact h.symm
    simp only [D_mod]
    refine Ev.const ?_
    unfold value_val_mod.f opV
    by_cases c : y.f1 = 0
    · simp [c, num_f, toSv, numV]
    · simp [c, num_f, toSv, numV]
  by_cases h9 : o = 9
  · subst h9
    obtain rfl : f = 16 := by
      injection h with h
      injection h with _ h
      injection h with _ h
      exact h.symm
    simp only [D_join]
    refine Ev.const ?_
    unfold value_val_join.f opV
    rw [if_pos (by omega), text_f]
    rfl
  by_cases h10 : o = 10
  · subst h10
    obtain rfl : f = 17 := by
      injection h with h
      injection h with _ h
      injection h with _ h
      exact h.symm
    simp only [D_long]
    exact Ev.const rfl
  by_cases h11 : o = 11
  · subst h11
    obtain rfl : f = 18 := by
      injection h with h
      injection h with _ h
      injection h with _ h
      exact h.symm
    simp only [D_slice]
    refine Ev.const ?_
    rw [slice_f]
    rfl
  by_cases h12 : o = 12
  · subst h12
    obtain rfl : f = 19 := by
      injection h with h
      injection h with _ h
      injection h with _ h
      exact h.symm
    simp only [D_upper]
    refine Ev.const ?_
    unfold value_val_upper.f
    rw [turn_f _ _ (by decide) (by decide) hx.size]
    rfl
  by_cases h13 : o = 13
  · subst h13
    obtain rfl : f = 20 := by
      injection h with h
      injection h with _ h
      injection h with _ h
      exact h.symm
    simp only [D_lower]
    refine Ev.const ?_
    unfold value_val_lower.f
    rw [turn_f _ _ (by decide) (by decide) hx.size]
    rfl
  by_cases h14 : o = 14
  · subst h14
    obtain rfl : f = 21 := by
      injection h with h
      injection h with _ h
      injection h with _ h
      exact h.symm
    simp only [D_eq]
    refine Ev.map toSv (a := (false, (if (cmpV x y == 0) = true then 1 else 0), (⟨#[]⟩ : ByteArray))) ?_ rfl
    unfold value_val_eq.f
    refine Ev.bind (compare x y) ?_
    rw [yes_f]
    exact Ev.now _
  by_cases h15 : o = 15
  · subst h15
    obtain rfl : f = 22 := by
      injection h with h
      injection h with _ h
      injection h with _ h
      exact h.symm
    simp only [D_less]
    refine Ev.map toSv (a := (false, (if (decide (cmpV x y < 0)) = true then 1 else 0), (⟨#[]⟩ : ByteArray))) ?_ rfl
    unfold value_val_less.f
    refine Ev.bind (compare x y) ?_
    rw [yes_f]
    exact Ev.now _
  by_cases h16 : o = 16
  · subst h16
    obtain rfl : f = 23 := by
      injection h with h
      injection h with _ h
      injection h with _ h
      exact h.symm
    simp only [D_not]
    refine Ev.const ?_
    unfold value_val_not.f
    rw [yes_f]
    rfl
  by_cases h17 : o = 17
  · subst h17
    obtain rfl : f = 24 := by
      injection h with h
      injection h with _ h
      injection h with _ h
      exact h.symm
    simp only [D_choose]
    refine Ev.const ?_
    unfold value_val_choose.f opV
    by_cases c : x.f1 = 0
    · simp [c, toSv]
    · simp [c, toSv]
  by_cases h18 : o = 18
  · subst h18
    obtain rfl : f = 25 := by
      injection h with h
      injection h with _ h
      injection h with _ h
      exact h.symm
    simp only [D_number]
    exact Ev.map toSv (number_f x.f2 hx.size x.f0 x.f1 y z) rfl
  by_cases h19 : o = 19
  · subst h19
    obtain rfl : f = 26 := by
      injection h with h
      injection h with _ h
      injection h with _ h
      exact h.symm
    simp only [D_text]
    refine Ev.const ?_
    unfold value_val_text.f strconv_Itoa.f
    rw [if_pos hx.num, Option.bind_some, text_f]
    rfl
  by_cases h20 : o = 20
  · subst h20
    obtain rfl : f = 27 := by
      injection h with h
      injection h with _ h
      injection h with _ h
      exact h.symm
    simp only [D_hash]
    refine Ev.map toSv (a := (false, hashS x.f2, (⟨#[]⟩ : ByteArray))) ?_ rfl
    unfold value_val_hash.f
    exact Ev.bind (hash_f x.f2 hx.size).1 (Ev.now _)
  by_cases h21 : o = 21
  · subst h21
    obtain rfl : f = 28 := by
      injection h with h
      injection h with _ h
      injection h with _ h
      exact h.symm
    simp only [D_find]
    refine Ev.const ?_
    unfold value_val_find.f strings_Index.f
    rw [if_pos (by omega)]
    rfl
  have e : XOps.opFn o = none := by simp only [XOps.opFn, h4, h5, h6, h7, h8, h9, h10, h11, h12, h13, h14, h15, h16, h17, h18, h19, h20, h21, if_false]
  rw [e] at h
  cases h
/-- What value.Do tells. -/
def doV (o : Int) (l : List XOps.Sv) : Bool × Int × ByteArray × Int :=
  if l.any (fun x => !XOps.isValB x) = true then (false, 0, (⟨#[]⟩ : ByteArray), 1) else
  if (XOps.resultF o (l.map (·.f0))).2 ≠ 0 then (false, 0, (⟨#[]⟩ : ByteArray), (XOps.resultF o (l.map (·.f0))).2) else
  ((opV o (l.getD 0 XOps.zv) (l.getD 1 XOps.zv) (l.getD 2 XOps.zv)).f0, (opV o (l.getD 0 XOps.zv) (l.getD 1 XOps.zv) (l.getD 2 XOps.zv)).f1, (opV o (l.getD 0 XOps.zv) (l.getD 1 XOps.zv) (l.getD 2 XOps.zv)).f2, 0)
theorem isVal_size {x : XOps.Sv} (h : XOps.isValB x = true) : x.f2.size ≤ 1000 := by
  unfold XOps.isValB at h
  split at h
  · simp only [Bool.and_eq_true, decide_eq_true_eq] at h
    omega
  · have h2 : x.f2.toList = [] := by simpa using h
    rw [toList_data] at h2
    have := data_length x.f2
    rw [h2] at this
    simp at this
    omega
theorem zv_val : XOps.isValB XOps.zv = true := by
  unfold XOps.isValB
  rw [if_neg (show ¬ XOps.zv.f0 = true from fun h => by cases h), toList_data]
  rfl
theorem getD_val {l : List XOps.Sv} (h : ¬ l.any (fun x => !XOps.isValB x) = true) (i : Nat) : XOps.isValB (l.getD i XOps.zv) = true := by
  by_cases hi : i < l.length
  · rw [List.getD_eq_getElem?_getD, List.getElem?_eq_getElem hi]
    rcases hq : XOps.isValB l[i] with _ | _
    · refine absurd (List.any_eq_true.2 ⟨l[i], List.getElem_mem hi, ?_⟩) h
      rw [hq]; rfl
    · exact hq
  · rw [List.getD_eq_getElem?_getD, List.getElem?_eq_none (by omega)]
    exact zv_val
theorem getD_num {l : List XOps.Sv} (h : ∀ v ∈ l, -9223372036854775808 ≤ v.f1 ∧ v.f1 ≤ 9223372036854775807) (i : Nat) : -9223372036854775808 ≤ (l.getD i XOps.zv).f1 ∧ (l.getD i XOps.zv).f1 ≤ 9223372036854775807 := by
  by_cases hi : i < l.length
  · rw [List.getD_eq_getElem?_getD, List.getElem?_eq_getElem hi]
    exact h _ (List.getElem_mem hi)
  · rw [List.getD_eq_getElem?_getD, List.getElem?_eq_none (by omega)]
    decide
theorem do_ (o : Int) (l : List XOps.Sv) (hl : l.length ≤ 1000000) (hn : ∀ v ∈ l, -9223372036854775808 ≤ v.f1 ∧ v.f1 ≤ 9223372036854775807) : Ev (fun k => value_Do.f k o l) (doV o l) := by
  unfold value_Do.f
  simp only [if_pos hl]
  by_cases c1 : l.any (fun x => !XOps.isValB x) = true
  · simp only [XOps.doF, doV, if_pos c1]
    exact Ev.const rfl
  by_cases c2 : (XOps.resultF o (l.map (·.f0))).2 ≠ 0
  · simp only [XOps.doF, doV, if_neg c1, if_pos c2]
    exact Ev.const rfl
  have c3 : XOps.resultF o (l.map (·.f0)) = ((XOps.resultF o (l.map (·.f0))).1, 0) := by
    have : (XOps.resultF o (l.map (·.f0))).2 = 0 := by simpa using c2
    rw [← this]
  obtain ⟨ks, t, f, hof, _, _, _⟩ := XOps.res_len c3
  have hv := getD_val c1
  have hN := getD_num hn
  have fit : ∀ i, Fit (l.getD i XOps.zv) := fun i => ⟨by have := isVal_size (hv i); omega, hN i⟩
  have hd := op_does hof (l.getD 0 XOps.zv) (l.getD 1 XOps.zv) (l.getD 2 XOps.zv) (fit 0) (fit 1) ⟨by have := isVal_size (hv 0); omega, by have := isVal_size (hv 1); omega⟩
  simp only [XOps.doF, doV, if_neg c1, if_neg c2, hof]
  exact Ev.map _ (Ev.map _ hd rfl) rfl
/-! ### total -/
theorem res_rb {o : Int} {bs : List Bool} {rb : Bool} {ks : List Int} {t : Int} {f : Nat} (h : XOps.resultF o bs = (rb, 0)) (hf : XOps.opFn o = some (ks, t, f)) :
    rb = (decide (t = 1) || (decide (t = 2) && bs.getD (bs.length - 1) false)) ∧ bs.length = ks.length ∧ ∀ i, i < ks.length → XOps.bad (ks.getD i 0) (bs.getD i false) (bs.getD (bs.length - 1) false) = false := by
  unfold XOps.resultF at h
  rw [hf] at h
  simp only at h
  by_cases h1 : bs.length ≠ ks.length
  · rw [if_pos h1] at h
    simp at h
  rw [if_neg h1] at h
  by_cases h2 : (List.range ks.length).any (fun i => XOps.bad (ks.getD i 0) (bs.getD i false) (bs.getD (bs.length - 1) false)) = true
  · rw [if_pos h2] at h
    simp at h
  rw [if_neg h2] at h
  injection h with h3 h4
  refine ⟨h3.symm, by omega, fun i hi => ?_⟩
  rcases hq : XOps.bad (ks.getD i 0) (bs.getD i false) (bs.getD (bs.length - 1) false) with _ | _
  · rfl
  · exact absurd (List.any_eq_true.2 ⟨i, List.mem_range.2 hi, hq⟩) h2
theorem num_val (n : Int) : XOps.isValB (numV n) = true := by
  unfold XOps.isValB
  rw [if_neg (show ¬ (numV n).f0 = true from fun h => by cases h), show (numV n).f2 = ⟨#[]⟩ from rfl, toList_data]
  rfl
theorem clip_size (s : ByteArray) : (clip s).size ≤ 1000 ∧ (clip s).size ≤ s.size := by
  unfold clip
  rw [ByteArray.size_extract]
  have := mn_le (s.size : Int) 1000
  omega
theorem text_val (s : ByteArray) : XOps.isValB (textV s) = true := by
  unfold XOps.isValB
  rw [if_pos (show (textV s).f0 = true from rfl), show (textV s).f1 = 0 from rfl, show (textV s).f2 = clip s from rfl]
  have := (clip_size s).1
  simp
  omega
theorem op_total {o : Int} {ks : List Int} {t : Int} {f : Nat} (h : XOps.opFn o = some (ks, t, f)) (l : List XOps.Sv) (hv : ∀ i, XOps.isValB (l.getD i XOps.zv) = true) {rb : Bool} (hr : XOps.resultF o (l.map (·.f0)) = (rb, 0)) :
    XOps.isValB (opV o (l.getD 0 XOps.zv) (l.getD 1 XOps.zv) (l.getD 2 XOps.zv)) = true ∧ (opV o (l.getD 0 XOps.zv) (l.getD 1 XOps.zv) (l.getD 2 XOps.zv)).f0 = rb := by
  obtain ⟨hrb, hlen, hbad⟩ := res_rb hr h
  by_cases h4 : o = 4
  · subst h4
    obtain ⟨rfl, rfl⟩ : ks = [0, 0] ∧ t = 0 := by
      injection h with h
      injection h with h1 h2
      injection h2 with h2 _
      exact ⟨h1.symm, h2.symm⟩
    subst hrb
    exact ⟨num_val _, rfl⟩
  by_cases h5 : o = 5
  · subst h5
    obtain ⟨rfl, rfl⟩ : ks = [0, 0] ∧ t = 0 := by
      injection h with h
      injection h with h1 h2
      injection h2 with h2 _
      exact ⟨h1.symm, h2.symm⟩
    subst hrb
    exact ⟨num_val _, rfl⟩
  by_cases h6 : o = 6
  · subst h6
    obtain ⟨rfl, rfl⟩ : ks = [0, 0] ∧ t = 0 := by
      injection h with h
      injection h with h1 h2
      injection h2 with h2 _
      exact ⟨h1.symm, h2.symm⟩
    subst hrb
    exact ⟨num_val _, rfl⟩
  by_cases h7 : o = 7
  · subst h7
    obtain ⟨rfl, rfl⟩ : ks = [0, 0] ∧ t = 0 := by
      injection h with h
      injection h with h1 h2
      injection h2 with h2 _
      exact ⟨h1.symm, h2.symm⟩
    subst hrb
    exact ⟨num_val _, rfl⟩
  by_cases h8 : o = 8
  · subst h8
    obtain ⟨rfl, rfl⟩ : ks = [0, 0] ∧ t = 0 := by
      injection h with h
      injection h with h1 h2
      injection h2 with h2 _
      exact ⟨h1.symm, h2.symm⟩
    subst hrb
    exact ⟨num_val _, rfl⟩
  by_cases h9 : o = 9
  · subst h9
    obtain ⟨rfl, rfl⟩ : ks = [1, 1] ∧ t = 1 := by
      injection h with h
      injection h with h1 h2
      injection h2 with h2 _
      exact ⟨h1.symm, h2.symm⟩
    subst hrb
    exact ⟨text_val _, rfl⟩
  by_cases h10 : o = 10
  · subst h10
    obtain ⟨rfl, rfl⟩ : ks = [1] ∧ t = 0 := by
      injection h with h
      injection h with h1 h2
      injection h2 with h2 _
      exact ⟨h1.symm, h2.symm⟩
    subst hrb
    exact ⟨num_val _, rfl⟩
  by_cases h11 : o = 11
  · subst h11
    obtain ⟨rfl, rfl⟩ : ks = [1, 0, 0] ∧ t = 1 := by
      injection h with h
      injection h with h1 h2
      injection h2 with h2 _
      exact ⟨h1.symm, h2.symm⟩
    subst hrb
    exact ⟨text_val _, rfl⟩
  by_cases h12 : o = 12
  · subst h12
    obtain ⟨rfl, rfl⟩ : ks = [1] ∧ t = 1 := by
      injection h with h
      injection h with h1 h2
      injection h2 with h2 _
      exact ⟨h1.symm, h2.symm⟩
    subst hrb
    exact ⟨text_val _, rfl⟩
  by_cases h13 : o = 13
  · subst h13
    obtain ⟨rfl, rfl⟩ : ks = [1] ∧ t = 1 := by
      injection h with h
      injection h with h1 h2
      injection h2 with h2 _
      exact ⟨h1.symm, h2.symm⟩
    subst hrb
    exact ⟨text_val _, rfl⟩
  by_cases h14 : o = 14
  · subst h14
    obtain ⟨rfl, rfl⟩ : ks = [2, 2] ∧ t = 0 := by
      injection h with h
      injection h with h1 h2
      injection h2 with h2 _
      exact ⟨h1.symm, h2.symm⟩
    subst hrb
    exact ⟨num_val _, rfl⟩
  by_cases h15 : o = 15
  · subst h15
    obtain ⟨rfl, rfl⟩ : ks = [2, 2] ∧ t = 0 := by
      injection h with h
      injection h with h1 h2
      injection h2 with h2 _
      exact ⟨h1.symm, h2.symm⟩
    subst hrb
    exact ⟨num_val _, rfl⟩
  by_cases h16 : o = 16
  · subst h16
    obtain ⟨rfl, rfl⟩ : ks = [0] ∧ t = 0 := by
      injection h with h
      injection h with h1 h2
      injection h2 with h2 _
      exact ⟨h1.symm, h2.symm⟩
    subst hrb
    exact ⟨num_val _, rfl⟩
  by_cases h17 : o = 17
  · subst h17
    obtain ⟨rfl, rfl⟩ : ks = [0, 2, 2] ∧ t = 2 := by
      injection h with h
      injection h with h1 h2
      injection h2 with h2 _
      exact ⟨h1.symm, h2.symm⟩
    rw [List.length_map] at hlen
    rcases l with _ | ⟨x, _ | ⟨y, _ | ⟨z, _ | ⟨q, r⟩⟩⟩⟩ <;> simp at hlen
    have h1 := hbad 1 (by simp)
    have hy := hv 1
    have hz := hv 2
    simp only [List.map_cons, List.map_nil, List.length_cons, List.length_nil] at h1 hrb
    have e1 : y.f0 = z.f0 := by
      have h3 : XOps.bad 2 y.f0 z.f0 = false := h1
      unfold XOps.bad at h3
      simpa using h3
    have e2 : rb = z.f0 := by
      rw [hrb]
      simp
    have e3 : opV 17 x y z = if x.f1 = 0 then z else y := rfl
    show XOps.isValB (opV 17 x y z) = true ∧ (opV 17 x y z).f0 = rb
    rw [e3, e2]
    by_cases c : x.f1 = 0
    · rw [if_pos c]; exact ⟨hz, rfl⟩
    · rw [if_neg c]; exact ⟨hy, e1⟩
  by_cases h18 : o = 18
  · subst h18
    obtain ⟨rfl, rfl⟩ : ks = [1] ∧ t = 0 := by
      injection h with h
      injection h with h1 h2
      injection h2 with h2 _
      exact ⟨h1.symm, h2.symm⟩
    subst hrb
    exact ⟨num_val _, rfl⟩
  by_cases h19 : o = 19
  · subst h19
    obtain ⟨rfl, rfl⟩ : ks = [0] ∧ t = 1 := by
      injection h with h
      injection h with h1 h2
      injection h2 with h2 _
      exact ⟨h1.symm, h2.symm⟩
    subst hrb
    exact ⟨text_val _, rfl⟩
  by_cases h20 : o = 20
  · subst h20
    obtain ⟨rfl, rfl⟩ : ks = [1] ∧ t = 0 := by
      injection h with h
      injection h with h1 h2
      injection h2 with h2 _
      exact ⟨h1.symm, h2.symm⟩
    subst hrb
    exact ⟨num_val _, rfl⟩
  by_cases h21 : o = 21
  · subst h21
    obtain ⟨rfl, rfl⟩ : ks = [1, 1] ∧ t = 0 := by
      injection h with h
      injection h with h1 h2
      injection h2 with h2 _
      exact ⟨h1.symm, h2.symm⟩
    subst hrb
    exact ⟨num_val _, rfl⟩
  have e : XOps.opFn o = none := by simp only [XOps.opFn, h4, h5, h6, h7, h8, h9, h10, h11, h12, h13, h14, h15, h16, h17, h18, h19, h20, h21, if_false]
  rw [e] at h
  cases h
end Go.Proofs.YtejmgcfjpofniaaDoorL
