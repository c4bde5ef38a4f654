/- A stable sort by insertion and merges in place: what it comes to. -/
import Derived.Sort.LotA
import Derived.Test.YtebofnoljebakaaGreatDoorWALL
import Derived.Lib.Bytealg
import Derived.Lib.Bytes
import Derived.Laws.Strings
import Derived.Test.YtebofnoljebakaaGreatDoorXA
import Derived.Sort.Walk0
set_option linter.unusedVariables false
set_option linter.unusedSimpArgs false
namespace Go.Proofs.YtebofnoljebakaaGreatDoor.Stb
open Go.Sort
variable {α : Type} [Inhabited α]
def srch (p : Nat → Bool) (i j : Nat) : Nat := if i < j then (if p ((i + j) / 2) then srch p ((i + j) / 2 + 1) j else srch p i ((i + j) / 2)) else i
termination_by j - i
def swapFrom (a b n i : Nat) (d : Array α) : Array α := if i < n then swapFrom a b n (i + 1) (swp d (a + i) (b + i)) else d
termination_by n - i
def rotLoop (m i j : Nat) (d : Array α) : Array α :=
 if i = j ∨ i = 0 ∨ j = 0 then swapFrom (m - i) m i 0 d
 else if i > j then rotLoop m (i - j) j (swapFrom (m - i) m j 0 d) else rotLoop m i (j - i) (swapFrom (m - i) (m + j - i) i 0 d)
termination_by i + j
decreasing_by all_goals omega
def bubUp (e k : Nat) (d : Array α) : Array α := if k < e then bubUp e (k + 1) (swp d k (k + 1)) else d
termination_by e - k
def bubDown (i : Nat) : Nat → Array α → Array α
 | 0, d => d
 | k + 1, d => if i < k + 1 then bubDown i k (swp d (k + 1) k) else d
def symMerge (lt : α → α → Bool) (a m b : Nat) (d : Array α) : Array α :=
 if m - a = 1 then bubUp (srch (fun h => lt d[h]! d[a]!) m b - 1) a d
 else if b - m = 1 then bubDown (srch (fun h => !lt d[m]! d[h]!) a m) m d
 else
  let mid := (a + b) / 2
  let n := mid + m
  let s := srch (fun c => !lt d[n - 1 - c]! d[c]!) (if m > mid then n - b else a) (if m > mid then mid else m)
  let e := n - s
  let d1 := if s < m ∧ m < e then rotLoop m (m - s) (e - m) d else d
  let d2 := if h : a < s ∧ s < mid ∧ mid < b then symMerge lt a s mid d1 else d1
  if h : mid < e ∧ e < b ∧ a < mid then symMerge lt mid e b d2 else d2
termination_by b - a
decreasing_by all_goals omega
def stBlocks (lt : α → α → Bool) (n a b : Nat) (d : Array α) : Array α :=
 if b ≤ n then stBlocks lt n b (b + 20) (insertionSort lt d a b) else insertionSort lt d a n
termination_by n + 1 - b
decreasing_by omega
def stMerges (lt : α → α → Bool) (n s a b : Nat) (d : Array α) : Array α :=
 if b ≤ n ∧ 0 < s then stMerges lt n s b (b + 2 * s) (symMerge lt a (a + s) b d) else if a + s < n then symMerge lt a (a + s) n d else d
termination_by n + 1 - b
decreasing_by omega
def stRounds (lt : α → α → Bool) (n s : Nat) (d : Array α) : Array α :=
 if s < n ∧ 0 < s then stRounds lt n (s * 2) (stMerges lt n s 0 (2 * s) d) else d
termination_by n - s
decreasing_by omega
def stable (lt : α → α → Bool) (d : Array α) : Array α := stRounds lt d.size 20 (stBlocks lt d.size 0 20 d)
def seg (d : Array α) (a n : Nat) : List α := (List.range' a n).map fun i => d[i]!
theorem seg_add (d : Array α) (a n m : Nat) : seg d a (n + m) = seg d a n ++ seg d (a + n) m := by
 unfold seg; rw [← List.map_append, List.range'_append_1]
theorem seg_shift {d d' : Array α} {a b n : Nat} (h : ∀ k, k < n → d'[a + k]! = d[b + k]!) : seg d' a n = seg d b n := by
 unfold seg
 apply List.ext_getElem
 ·simp
 ·intro k h1 h2
  simp only [List.length_map, List.length_range'] at h1
  simp [h k h1]
theorem mem_seg {d : Array α} {a n : Nat} {x : α} : x ∈ seg d a n ↔ ∃ k, k < n ∧ x = d[a + k]! := by
 unfold seg; rw [List.mem_map]
 constructor
 ·rintro ⟨i, hi, rfl⟩
  rw [List.mem_range'_1] at hi
  exact ⟨i - a, by omega, by rw [show a + (i - a) = i by omega]⟩
 ·rintro ⟨k, hk, rfl⟩
  exact ⟨a + k, by rw [List.mem_range'_1]; omega, rfl⟩
theorem seg_one (d : Array α) (a : Nat) : seg d a 1 = [d[a]!] := rfl
section
variable (lt : α → α → Bool)
def eqv (x y : α) : Bool := !lt x y && !lt y x
def Asc (l : List α) : Prop := l.Pairwise fun x y => lt y x = false
structure St (a b : Nat) (d d' : Array α) : Prop where
 size : d'.size = d.size
 out : ∀ i, i < a ∨ b ≤ i → d'[i]! = d[i]!
 cls : ∀ x, (seg d' a (b - a)).filter (eqv lt x) = (seg d a (b - a)).filter (eqv lt x)
end
variable {lt : α → α → Bool}
theorem St.refl (a b : Nat) (d : Array α) : St lt a b d d := ⟨rfl, fun _ _ => rfl, fun _ => rfl⟩
theorem St.trans {a b : Nat} {d d' d'' : Array α} (h : St lt a b d d') (h' : St lt a b d' d'') : St lt a b d d'' :=
 ⟨h'.size.trans h.size, fun i hi => (h'.out i hi).trans (h.out i hi), fun x => (h'.cls x).trans (h.cls x)⟩
theorem St.seg_out {a b : Nat} {d d' : Array α} (h : St lt a b d d') {i n : Nat} (hi : i + n ≤ a ∨ b ≤ i) : seg d' i n = seg d i n :=
 seg_shift fun k hk => h.out _ (by omega)
theorem St.widen {a b a' b' : Nat} {d d' : Array α} (h : St lt a b d d') (h1 : a' ≤ a) (h2 : a ≤ b) (h3 : b ≤ b') : St lt a' b' d d' := by
 refine ⟨h.size, fun i hi => h.out i (by omega), fun x => ?_⟩
 have e : b' - a' = (a - a') + ((b - a) + (b' - b)) := by omega
 have s : ∀ q : Array α, seg q a' (b' - a') = seg q a' (a - a') ++ (seg q a (b - a) ++ seg q b (b' - b)) := fun q => by
  rw [e, seg_add, seg_add, show a' + (a - a') = a by omega, show a + (b - a) = b by omega]
 rw [s, s, List.filter_append, List.filter_append, List.filter_append, List.filter_append, h.cls, h.seg_out (by omega), h.seg_out (by omega)]
theorem St.mem (hS : SWO lt) {a b : Nat} {d d' : Array α} (h : St lt a b d d') {y : α} (hy : y ∈ seg d' a (b - a)) : y ∈ seg d a (b - a) := by
 have : y ∈ (seg d' a (b - a)).filter (eqv lt y) := List.mem_filter.mpr ⟨hy, by simp [eqv, hS.irrefl]⟩
 rw [h.cls] at this
 exact (List.mem_filter.mp this).1
def Rot (d : Array α) (a m b : Nat) (d' : Array α) : Prop :=
 d'.size = d.size ∧ ∀ k, d'[k]! = if a ≤ k ∧ k < a + (b - m) then d[k + (m - a)]! else if a + (b - m) ≤ k ∧ k < b then d[k - (b - m)]! else d[k]!
theorem Rot.segs {d d' : Array α} {a m b : Nat} (h : Rot d a m b d') (h1 : a ≤ m) (h2 : m ≤ b) : seg d' a (b - m) = seg d m (b - m) ∧ seg d' (a + (b - m)) (m - a) = seg d a (m - a) := by
 constructor
 ·refine seg_shift fun k hk => ?_
  rw [h.2, if_pos (by omega), show a + k + (m - a) = m + k by omega]
 ·refine seg_shift fun k hk => ?_
  rw [h.2, if_neg (by omega), if_pos (by omega), show a + (b - m) + k - (b - m) = a + k by omega]
theorem Rot.st (hS : SWO lt) {d d' : Array α} {a m b : Nat} (h : Rot d a m b d') (h1 : a ≤ m) (h2 : m ≤ b) (hl : ∀ i j, a ≤ i → i < m → m ≤ j → j < b → lt d[j]! d[i]! = true) : St lt a b d d' := by
 refine ⟨h.1, fun i hi => ?_, fun x => ?_⟩
 ·rw [h.2]
  rw [if_neg (by omega), if_neg (by omega)]
 ·obtain ⟨s1, s2⟩ := h.segs h1 h2
  have e1 : seg d' a (b - a) = seg d m (b - m) ++ seg d a (m - a) := by
   rw [show b - a = (b - m) + (m - a) by omega, seg_add, s1, s2]
  have e2 : seg d a (b - a) = seg d a (m - a) ++ seg d m (b - m) := by
   rw [show b - a = (m - a) + (b - m) by omega, seg_add, show a + (m - a) = m by omega]
  rw [e1, e2, List.filter_append, List.filter_append]
  have key : (seg d a (m - a)).filter (eqv lt x) = [] ∨ (seg d m (b - m)).filter (eqv lt x) = [] := by
   by_cases hA : (seg d a (m - a)).filter (eqv lt x) = []
   ·exact Or.inl hA
   ·right
    obtain ⟨y, hy⟩ := List.exists_mem_of_ne_nil _ hA
    rw [List.mem_filter] at hy
    obtain ⟨⟨k, hk, rfl⟩, hxy⟩ := (⟨mem_seg.mp hy.1, hy.2⟩ : (∃ k, k < m - a ∧ y = d[a + k]!) ∧ _)
    rw [List.filter_eq_nil_iff]
    intro z hz hxz
    obtain ⟨q, hq, rfl⟩ := mem_seg.mp hz
    have := hl (a + k) (m + q) (by omega) (by omega) (by omega) (by omega)
    simp only [eqv, Bool.and_eq_true, Bool.not_eq_true'] at hxy hxz
    have := hS.ntrans _ _ _ hxz.2 hxy.1
    simp_all
  rcases key with k | k <;> rw [k] <;> simp
theorem swapFrom_get (a b n : Nat) (hab : a + n ≤ b) : ∀ (g i : Nat) (d : Array α), n - i ≤ g → b + n ≤ d.size →
  (swapFrom a b n i d).size = d.size ∧ ∀ k, (swapFrom a b n i d)[k]! = if a + i ≤ k ∧ k < a + n then d[k - a + b]! else if b + i ≤ k ∧ k < b + n then d[k - b + a]! else d[k]! := by
 intro g
 induction g with
 | zero =>
  intro i d hg hs
  rw [swapFrom, if_neg (by omega)]
  exact ⟨rfl, fun k => by rw [if_neg (by omega), if_neg (by omega)]⟩
 | succ g ih =>
  intro i d hg hs
  rw [swapFrom]
  by_cases h : i < n
  ·rw [if_pos h]
   obtain ⟨e1, e2⟩ := ih (i + 1) (swp d (a + i) (b + i)) (by omega) (by rw [size_swp]; exact hs)
   refine ⟨e1.trans (size_swp _ _ _), fun k => ?_⟩
   have sg := swp_get d (i := a + i) (j := b + i) (by omega) (by omega)
   rw [e2]
   by_cases c1 : a + (i + 1) ≤ k ∧ k < a + n
   ·rw [if_pos c1, if_pos (by omega), sg, if_neg (by omega), if_neg (by omega)]
   ·rw [if_neg c1]
    by_cases c2 : b + (i + 1) ≤ k ∧ k < b + n
    ·rw [if_pos c2, if_neg (by omega), if_pos (by omega), sg, if_neg (by omega), if_neg (by omega)]
    ·rw [if_neg c2, sg]
     by_cases c3 : k = b + i
     ·rw [if_pos c3, if_neg (by omega), if_pos (by omega)]; congr 1; omega
     ·rw [if_neg c3]
      by_cases c4 : k = a + i
      ·rw [if_pos c4, if_pos (by omega)]; congr 1; omega
      ·rw [if_neg c4, if_neg (by omega), if_neg (by omega)]
  ·rw [if_neg h]
   exact ⟨rfl, fun k => by rw [if_neg (by omega), if_neg (by omega)]⟩
theorem rotLoop_rot : ∀ (g m i j : Nat) (d : Array α), i + j ≤ g → 0 < i → 0 < j → i ≤ m → m + j ≤ d.size → Rot d (m - i) m (m + j) (rotLoop m i j d) := by
 intro g
 induction g with
 | zero => intro m i j d h h1 h2; omega
 | succ g ih =>
  intro m i j d hg hi hj hm hs
  rw [rotLoop]
  by_cases he : i = j
  ·subst he
   rw [if_pos (Or.inl rfl)]
   obtain ⟨e1, e2⟩ := swapFrom_get (m - i) m i (by omega) i 0 d (by omega) (by omega)
   refine ⟨e1, fun k => ?_⟩
   rw [e2]
   repeat' split
   all_goals first | (exfalso; omega) | rfl | (congr 1; omega)
  ·rw [if_neg (by omega)]
   by_cases hgt : i > j
   ·rw [if_pos hgt]
    obtain ⟨e1, e2⟩ := swapFrom_get (m - i) m j (by omega) j 0 d (by omega) (by omega)
    obtain ⟨f1, f2⟩ := ih m (i - j) j (swapFrom (m - i) m j 0 d) (by omega) (by omega) hj (by omega) (by rw [e1]; exact hs)
    refine ⟨f1.trans e1, fun k => ?_⟩
    rw [f2]
    simp only [e2]
    repeat' split
    all_goals first | (exfalso; omega) | rfl | (congr 1; omega)
   ·rw [if_neg hgt]
    obtain ⟨e1, e2⟩ := swapFrom_get (m - i) (m + j - i) i (by omega) i 0 d (by omega) (by omega)
    obtain ⟨f1, f2⟩ := ih m i (j - i) (swapFrom (m - i) (m + j - i) i 0 d) (by omega) hi (by omega) (by omega) (by rw [e1]; omega)
    refine ⟨f1.trans e1, fun k => ?_⟩
    rw [f2]
    simp only [e2]
    repeat' split
    all_goals first | (exfalso; omega) | rfl | (congr 1; omega)
theorem bubUp_rot : ∀ (g e k : Nat) (d : Array α), e - k ≤ g → k ≤ e → e < d.size → Rot d k (k + 1) (e + 1) (bubUp e k d) := by
 intro g
 induction g with
 | zero =>
  intro e k d hg hk hs
  rw [bubUp, if_neg (by omega)]
  refine ⟨rfl, fun q => ?_⟩
  repeat' split
  all_goals first | (exfalso; omega) | rfl | (congr 1; omega)
 | succ g ih =>
  intro e k d hg hk hs
  rw [bubUp]
  by_cases h : k < e
  ·rw [if_pos h]
   obtain ⟨f1, f2⟩ := ih e (k + 1) (swp d k (k + 1)) (by omega) (by omega) (by rw [size_swp]; exact hs)
   refine ⟨f1.trans (size_swp _ _ _), fun q => ?_⟩
   rw [f2]
   simp only [swp_get d (i := k) (j := k + 1) (by omega) (by omega)]
   repeat' split
   all_goals first | (exfalso; omega) | rfl | (congr 1; omega)
  ·rw [if_neg h]
   refine ⟨rfl, fun q => ?_⟩
   repeat' split
   all_goals first | (exfalso; omega) | rfl | (congr 1; omega)
theorem bubDown_rot (i : Nat) : ∀ (k : Nat) (d : Array α), i ≤ k → k < d.size → Rot d i k (k + 1) (bubDown i k d) := by
 intro k
 induction k with
 | zero =>
  intro d hi hs
  rw [bubDown]
  refine ⟨rfl, fun q => ?_⟩
  repeat' split
  all_goals first | (exfalso; omega) | rfl | (congr 1; omega)
 | succ k ih =>
  intro d hi hs
  rw [bubDown]
  by_cases h : i < k + 1
  ·rw [if_pos h]
   obtain ⟨f1, f2⟩ := ih (swp d (k + 1) k) (by omega) (by rw [size_swp]; omega)
   refine ⟨f1.trans (size_swp _ _ _), fun q => ?_⟩
   rw [f2]
   simp only [swp_get d (i := k + 1) (j := k) (by omega) (by omega)]
   repeat' split
   all_goals first | (exfalso; omega) | rfl | (congr 1; omega)
  ·rw [if_neg h]
   refine ⟨rfl, fun q => ?_⟩
   repeat' split
   all_goals first | (exfalso; omega) | rfl | (congr 1; omega)
theorem srch_spec (p : Nat → Bool) (lo hi : Nat) (hp : ∀ x y, lo ≤ x → x ≤ y → y < hi → p y = true → p x = true) : ∀ (g i j : Nat), j - i ≤ g → lo ≤ i → i ≤ j → j ≤ hi →
  (∀ x, lo ≤ x → x < i → p x = true) → (∀ x, j ≤ x → x < hi → p x = false) →
  i ≤ srch p i j ∧ srch p i j ≤ j ∧ (∀ x, lo ≤ x → x < srch p i j → p x = true) ∧ (∀ x, srch p i j ≤ x → x < hi → p x = false) := by
 intro g
 induction g with
 | zero =>
  intro i j hg h1 h2 h3 h4 h5
  rw [srch, if_neg (by omega)]
  exact ⟨Nat.le_refl _, h2, h4, fun x hx => h5 x (by omega)⟩
 | succ g ih =>
  intro i j hg h1 h2 h3 h4 h5
  rw [srch]
  by_cases h : i < j
  ·rw [if_pos h]
   cases hq : p ((i + j) / 2) with
   | true =>
    rw [if_pos rfl]
    obtain ⟨a, b, c, d⟩ := ih ((i + j) / 2 + 1) j (by omega) (by omega) (by omega) h3 (fun x hx hxi => hp x ((i + j) / 2) hx (by omega) (by omega) hq) h5
    exact ⟨by omega, b, c, d⟩
   | false =>
    rw [if_neg (by simp)]
    obtain ⟨a, b, c, d⟩ := ih i ((i + j) / 2) (by omega) h1 (by omega) (by omega) h4 (fun x hx hxi => by
     cases hz : p x with
     | false => rfl
     | true => rw [hp ((i + j) / 2) x (by omega) hx hxi hz] at hq; cases hq)
    exact ⟨a, by omega, c, d⟩
  ·rw [if_neg h]
   exact ⟨Nat.le_refl _, h2, h4, fun x hx => h5 x (by omega)⟩
theorem asc_seg {d : Array α} {a n : Nat} : Asc lt (seg d a n) ↔ ∀ i j, a ≤ i → i < j → j < a + n → lt d[j]! d[i]! = false := by
 unfold Asc seg
 rw [List.pairwise_map, List.pairwise_iff_getElem]
 constructor
 ·intro h i j h1 h2 h3
  have := h (i - a) (j - a) (by simp; omega) (by simp; omega) (by omega)
  simpa [show a + (i - a) = i by omega, show a + (j - a) = j by omega] using this
 ·intro h i j h1 h2 h3
  simp only [List.length_range'] at h1 h2
  simpa using h (a + i) (a + j) (by omega) (by omega) (by omega)
theorem asc_join {d : Array α} {a m b : Nat} (h1 : a ≤ m) (h2 : m ≤ b) (A : Asc lt (seg d a (m - a))) (B : Asc lt (seg d m (b - m))) (C : ∀ x ∈ seg d a (m - a), ∀ y ∈ seg d m (b - m), lt y x = false) : Asc lt (seg d a (b - a)) := by
 rw [show b - a = (m - a) + (b - m) by omega, seg_add, show a + (m - a) = m by omega]
 exact List.pairwise_append.mpr ⟨A, B, C⟩
theorem symMerge_mid (hS : SWO lt) {a m b : Nat} {d : Array α}
  (ih : ∀ (a' m' b' : Nat) (d' : Array α), b' - a' < b - a → a' < m' → m' < b' → b' ≤ d'.size → Asc lt (seg d' a' (m' - a')) → Asc lt (seg d' m' (b' - m')) →
   St lt a' b' d' (symMerge lt a' m' b' d') ∧ Asc lt (seg (symMerge lt a' m' b' d') a' (b' - a')))
  (h1 : a < m) (h2 : m < b) (hb : b ≤ d.size) (A : Asc lt (seg d a (m - a))) (B : Asc lt (seg d m (b - m))) (c1 : ¬ m - a = 1) (c2 : ¬ b - m = 1)
  (lo hi : Nat) (g1 : a ≤ lo) (g2 : lo ≤ hi) (g3 : hi ≤ m) (g4 : hi ≤ (a + b) / 2) (g5 : (a + b) / 2 + m ≤ lo + b) (g6 : hi = m ∨ hi = (a + b) / 2) (g7 : lo = a ∨ lo + b = (a + b) / 2 + m) :
  let mid := (a + b) / 2
  let n := mid + m
  let s := srch (fun c => !lt d[n - 1 - c]! d[c]!) lo hi
  let e := n - s
  let d1 := if s < m ∧ m < e then rotLoop m (m - s) (e - m) d else d
  let d2 := if h : a < s ∧ s < mid ∧ mid < b then symMerge lt a s mid d1 else d1
  let d3 := if h : mid < e ∧ e < b ∧ a < mid then symMerge lt mid e b d2 else d2
  St lt a b d d3 ∧ Asc lt (seg d3 a (b - a)) := by
 intro mid n s e d1 d2 d3
 have A' := asc_seg.mp A
 have B' := asc_seg.mp B
 have hmid : mid = (a + b) / 2 := rfl
 have hn : n = mid + m := rfl
 have he : e = n - s := rfl
 have mono : ∀ x y, lo ≤ x → x ≤ y → y < hi → (!lt d[n - 1 - y]! d[y]!) = true → (!lt d[n - 1 - x]! d[x]!) = true := fun x y hx hxy hy hp => by
  rcases Nat.eq_or_lt_of_le hxy with rfl | hlt
  ·exact hp
  ·simp only [Bool.not_eq_true'] at hp ⊢
   exact hS.ntrans _ _ _ (B' (n - 1 - y) (n - 1 - x) (by omega) (by omega) (by omega)) (hS.ntrans _ _ _ hp (A' x y (by omega) hlt (by omega)))
 obtain ⟨p1, p2, p3, p4⟩ : lo ≤ s ∧ s ≤ hi ∧ (∀ x, lo ≤ x → x < s → (!lt d[n - 1 - x]! d[x]!) = true) ∧ (∀ x, s ≤ x → x < hi → (!lt d[n - 1 - x]! d[x]!) = false) :=
  srch_spec (fun c => !lt d[n - 1 - c]! d[c]!) lo hi mono (hi - lo) lo hi (Nat.le_refl _) (Nat.le_refl _) g2 (Nat.le_refl _) (fun x hx hx' => by omega) (fun x hx hx' => by omega)
 have hd1 : d1 = if s < m ∧ m < e then rotLoop m (m - s) (e - m) d else d := rfl
 have hd2 : d2 = if h : a < s ∧ s < mid ∧ mid < b then symMerge lt a s mid d1 else d1 := rfl
 have hd3 : d3 = if h : mid < e ∧ e < b ∧ a < mid then symMerge lt mid e b d2 else d2 := rfl
 clear_value d3 d2 d1 e s n mid
 have strict : ∀ i j, s ≤ i → i < m → m ≤ j → j < e → lt d[j]! d[i]! = true := fun i j hi1 hi2 hj1 hj2 => by
  have t := p4 s (Nat.le_refl _) (by omega)
  rw [show n - 1 - s = e - 1 by omega] at t
  simp only [Bool.not_eq_false'] at t
  cases hq : lt d[j]! d[i]! with
  | true => rfl
  | false =>
   have x1 : lt d[e - 1]! d[j]! = false := by
    rcases Nat.eq_or_lt_of_le (show j ≤ e - 1 by omega) with r | r
    ·rw [r]; exact hS.irrefl _
    ·exact B' _ _ hj1 r (by omega)
   have x2 : lt d[i]! d[s]! = false := by
    rcases Nat.eq_or_lt_of_le hi1 with r | r
    ·rw [r]; exact hS.irrefl _
    ·exact A' _ _ (by omega) r (by omega)
   rw [hS.ntrans _ _ _ (hS.ntrans _ _ _ x1 hq) x2] at t
   cases t
 have R : Rot d s m e d1 := by
  rw [hd1]
  split
  ·have := rotLoop_rot (m - s + (e - m)) m (m - s) (e - m) d (Nat.le_refl _) (by omega) (by omega) (by omega) (by omega)
   rwa [show m - (m - s) = s by omega, show m + (e - m) = e by omega] at this
  ·refine ⟨rfl, fun q => ?_⟩
   repeat' split
   all_goals first | (exfalso; omega) | rfl | (congr 1; omega)
 have S1 := R.st hS (by omega) (by omega) strict
 obtain ⟨q1, q2⟩ := R.segs (by omega) (by omega)
 rw [show s + (e - m) = mid by omega] at q2
 have L1 : Asc lt (seg d1 a (s - a)) := by rw [S1.seg_out (by omega)]; exact asc_seg.mpr fun i j x y z => A' i j x y (by omega)
 have L2 : Asc lt (seg d1 s (mid - s)) := by rw [show mid - s = e - m by omega, q1]; exact asc_seg.mpr fun i j x y z => B' i j x y (by omega)
 have R1 : Asc lt (seg d1 mid (e - mid)) := by rw [show e - mid = m - s by omega, q2]; exact asc_seg.mpr fun i j x y z => A' i j (by omega) y (by omega)
 have R2 : Asc lt (seg d1 e (b - e)) := by rw [S1.seg_out (by omega)]; exact asc_seg.mpr fun i j x y z => B' i j (by omega) y (by omega)
 have hb1 : b ≤ d1.size := by rw [S1.size]; exact hb
 obtain ⟨S2, A2⟩ : St lt a mid d1 d2 ∧ Asc lt (seg d2 a (mid - a)) := by
  rw [hd2]
  split
  ·rename_i h; exact ih a s mid d1 (by omega) h.1 h.2.1 (by omega) L1 L2
  ·refine ⟨St.refl _ _ _, ?_⟩
   rcases (show s = a ∨ s = mid by omega) with r | r
   ·rw [← r]; exact L2
   ·rw [← r]; exact L1
 have o2 : ∀ i k, mid ≤ i → seg d2 i k = seg d1 i k := fun i k h => S2.seg_out (by omega)
 have hb2 : b ≤ d2.size := by rw [S2.size]; exact hb1
 obtain ⟨S3, A3⟩ : St lt mid b d2 d3 ∧ Asc lt (seg d3 mid (b - mid)) := by
  rw [hd3]
  split
  ·rename_i h
   exact ih mid e b d2 (by omega) h.1 h.2.1 hb2 (by rw [o2 _ _ (Nat.le_refl _)]; exact R1) (by rw [o2 _ _ (by omega)]; exact R2)
  ·refine ⟨St.refl _ _ _, ?_⟩
   rw [o2 _ _ (Nat.le_refl _)]
   rcases (show e = mid ∨ e = b by omega) with r | r
   ·rw [← r]; exact R2
   ·rw [← r]; exact R1
 refine ⟨((S1.widen (by omega) (by omega) (by omega)).trans (S2.widen (by omega) (by omega) (by omega))).trans (S3.widen (by omega) (by omega) (by omega)), ?_⟩
 refine asc_join (show a ≤ mid by omega) (by omega) (by rw [S3.seg_out (by omega)]; exact A2) A3 ?_
 intro x hx y hy
 rw [S3.seg_out (by omega)] at hx
 have hx := S2.mem hS hx
 have hy := S3.mem hS hy
 rw [o2 _ _ (Nat.le_refl _)] at hy
 rw [show mid - a = (s - a) + (mid - s) by omega, seg_add, show a + (s - a) = s by omega, show mid - s = e - m by omega, q1, S1.seg_out (by omega), List.mem_append] at hx
 rw [show b - mid = (m - s) + (b - e) by omega, seg_add, show mid + (m - s) = e by omega, q2, S1.seg_out (by omega), List.mem_append] at hy
 rcases hx with hx | hx <;> rcases hy with hy | hy <;> obtain ⟨i, hi', rfl⟩ := mem_seg.mp hx <;> obtain ⟨j, hj', rfl⟩ := mem_seg.mp hy
 ·exact A' _ _ (by omega) (by omega) (by omega)
 ·have t := p3 (s - 1) (by omega) (by omega)
  rw [show n - 1 - (s - 1) = e by omega] at t
  simp only [Bool.not_eq_true'] at t
  have x1 : lt d[e + j]! d[e]! = false := by
   rcases Nat.eq_zero_or_pos j with r | r
   ·rw [r]; exact hS.irrefl _
   ·exact B' _ _ (by omega) (by omega) (by omega)
  have x2 : lt d[s - 1]! d[a + i]! = false := by
   rcases Nat.eq_or_lt_of_le (show a + i ≤ s - 1 by omega) with r | r
   ·rw [r]; exact hS.irrefl _
   ·exact A' _ _ (by omega) r (by omega)
  exact hS.ntrans _ _ _ (hS.ntrans _ _ _ x1 t) x2
 ·exact hS.asymmA (strict _ _ (by omega) (by omega) (by omega) (by omega))
 ·exact B' _ _ (by omega) (by omega) (by omega)
theorem symMerge_ok (hS : SWO lt) : ∀ (g a m b : Nat) (d : Array α), b - a ≤ g → a < m → m < b → b ≤ d.size → Asc lt (seg d a (m - a)) → Asc lt (seg d m (b - m)) →
  St lt a b d (symMerge lt a m b d) ∧ Asc lt (seg (symMerge lt a m b d) a (b - a)) := by
 intro g
 induction g with
 | zero => intro a m b d hg h1 h2; omega
 | succ g ih =>
  intro a m b d hg h1 h2 hb A B
  have A' := asc_seg.mp A
  have B' := asc_seg.mp B
  rw [symMerge]
  by_cases c1 : m - a = 1
  ·rw [if_pos c1]
   obtain rfl : m = a + 1 := by omega
   obtain ⟨p1, p2, p3, p4⟩ := srch_spec (fun h => lt d[h]! d[a]!) (a + 1) b (fun x y hx hxy hy hp => by
    rcases Nat.eq_or_lt_of_le hxy with rfl | hlt
    ·exact hp
    ·cases hq : lt d[x]! d[a]! with
     | true => rfl
     | false => have := hS.ntrans _ _ _ (B' x y hx hlt (by omega)) hq; simp only [this] at hp; cases hp) (b - (a + 1)) (a + 1) b (Nat.le_refl _) (Nat.le_refl _) (by omega) (Nat.le_refl _) (fun x hx hx' => by omega) (fun x hx hx' => by omega)
   generalize hs : srch (fun h => lt d[h]! d[a]!) (a + 1) b = s at p1 p2 p3 p4 ⊢
   have R := bubUp_rot (s - 1 - a) (s - 1) a d (Nat.le_refl _) (by omega) (by omega)
   rw [show s - 1 + 1 = s by omega] at R
   have S := R.st hS (by omega) (by omega) (fun i j hi hi' hj hj' => by have e : i = a := (by omega); rw [e]; exact p3 j hj hj')
   have S' := S.widen (Nat.le_refl a) (by omega) p2
   refine ⟨S', ?_⟩
   obtain ⟨q1, q2⟩ := R.segs (by omega) (by omega)
   have C1 : Asc lt (seg (bubUp (s - 1) a d) a (s - a)) := by
    rw [show s - a = (s - (a + 1)) + 1 by omega, seg_add, q1]
    rw [show a + 1 - a = 1 by omega] at q2
    rw [q2]
    refine List.pairwise_append.mpr ⟨asc_seg.mpr fun i j hi hj hk => B' i j hi hj (by omega), by rw [seg_one]; exact List.pairwise_singleton _ _, ?_⟩
    intro x hx y hy
    obtain ⟨k, hk, rfl⟩ := mem_seg.mp hx
    rw [seg_one, List.mem_singleton] at hy
    subst hy
    exact hS.asymmA (p3 _ (by omega) (by omega))
   refine asc_join (by omega) p2 C1 ?_ ?_
   ·rw [S.seg_out (by omega)]
    exact asc_seg.mpr fun i j hi hj hk => B' i j (by omega) hj (by omega)
   ·intro x hx y hy
    have hx := S.mem hS hx
    rw [S.seg_out (by omega)] at hy
    obtain ⟨k, hk, rfl⟩ := mem_seg.mp hx
    obtain ⟨q, hq, rfl⟩ := mem_seg.mp hy
    have e := p4 (s + q) (by omega) (by omega)
    rcases Nat.eq_zero_or_pos k with rfl | hk0
    ·exact e
    ·exact B' _ _ (by omega) (by omega) (by omega)
  rw [if_neg c1]
  by_cases c2 : b - m = 1
  ·rw [if_pos c2]
   obtain rfl : b = m + 1 := by omega
   obtain ⟨p1, p2, p3, p4⟩ := srch_spec (fun h => !lt d[m]! d[h]!) a m (fun x y hx hxy hy hp => by
    rcases Nat.eq_or_lt_of_le hxy with rfl | hlt
    ·exact hp
    ·simp only [Bool.not_eq_true'] at hp ⊢
     exact hS.ntrans _ _ _ hp (A' x y hx hlt (by omega))) (m - a) a m (Nat.le_refl _) (Nat.le_refl _) (by omega) (Nat.le_refl _) (fun x hx hx' => by omega) (fun x hx hx' => by omega)
   generalize hs : srch (fun h => !lt d[m]! d[h]!) a m = s at p1 p2 p3 p4 ⊢
   have p3 : ∀ x, a ≤ x → x < s → lt d[m]! d[x]! = false := fun x hx hx' => by simpa using p3 x hx hx'
   have p4 : ∀ x, s ≤ x → x < m → lt d[m]! d[x]! = true := fun x hx hx' => by simpa using p4 x hx hx'
   have R := bubDown_rot s m d p2 (by omega)
   have S := R.st hS (by omega) (by omega) (fun i j hi hi' hj hj' => by have e : j = m := (by omega); rw [e]; exact p4 i hi hi')
   have S' := S.widen p1 (by omega) (Nat.le_refl (m + 1))
   refine ⟨S', ?_⟩
   obtain ⟨q1, q2⟩ := R.segs (by omega) (by omega)
   have C1 : Asc lt (seg (bubDown s m d) s (m + 1 - s)) := by
    rw [show m + 1 - s = (m + 1 - m) + (m - s) by omega, seg_add, q1, q2]
    rw [show m + 1 - m = 1 by omega]
    refine List.pairwise_append.mpr ⟨by rw [seg_one]; exact List.pairwise_singleton _ _, asc_seg.mpr fun i j hi hj hk => A' i j (by omega) hj (by omega), ?_⟩
    intro x hx y hy
    rw [seg_one, List.mem_singleton] at hx
    subst hx
    obtain ⟨k, hk, rfl⟩ := mem_seg.mp hy
    exact hS.asymmA (p4 _ (by omega) (by omega))
   refine asc_join p1 (by omega) ?_ C1 ?_
   ·rw [S.seg_out (by omega)]
    exact asc_seg.mpr fun i j hi hj hk => A' i j (by omega) hj (by omega)
   ·intro x hx y hy
    have hy := S.mem hS hy
    rw [S.seg_out (by omega)] at hx
    obtain ⟨k, hk, rfl⟩ := mem_seg.mp hx
    obtain ⟨q, hq, rfl⟩ := mem_seg.mp hy
    by_cases hqm : s + q = m
    ·rw [hqm]; exact p3 _ (by omega) (by omega)
    ·exact A' _ _ (by omega) (by omega) (by omega)
  rw [if_neg c2]
  by_cases hm : m > (a + b) / 2
  ·simp only [if_pos hm]
   exact symMerge_mid hS (fun a m b d h => ih a m b d (by omega)) h1 h2 hb A B c1 c2 ((a + b) / 2 + m - b) ((a + b) / 2) (by omega) (by omega) (by omega) (by omega) (by omega) (by omega) (by omega)
  ·simp only [if_neg hm]
   exact symMerge_mid hS (fun a m b d h => ih a m b d (by omega)) h1 h2 hb A B c1 c2 a m (by omega) (by omega) (by omega) (by omega) (by omega) (by omega) (by omega)
theorem insInner_st (hS : SWO lt) (a b : Nat) : ∀ (j : Nat) (d : Array α), j < b → b ≤ d.size → a ≤ j → St lt a b d (insInner lt a j d) := by
 intro j
 induction j with
 | zero => intro d h1 h2 h3; rw [insInner]; exact St.refl _ _ _
 | succ j ih =>
  intro d h1 h2 h3
  rw [insInner]
  split
  ·rename_i h
   simp only [gt_iff_lt, Bool.and_eq_true, decide_eq_true_eq] at h
   have R : Rot d j (j + 1) (j + 2) (swp d (j + 1) j) := by
    refine ⟨size_swp _ _ _, fun q => ?_⟩
    simp only [swp_get d (i := j + 1) (j := j) (by omega) (by omega)]
    repeat' split
    all_goals first | (exfalso; omega) | rfl | (congr 1; omega)
   have S := R.st hS (by omega) (by omega) (fun x y hx hx' hy hy' => by have e : x = j := (by omega); have e' : y = j + 1 := (by omega); rw [e, e']; exact h.2)
   exact (S.widen (by omega) (by omega) (by omega)).trans (ih _ (by omega) (by rw [size_swp]; exact h2) (by omega))
  ·exact St.refl _ _ _
theorem insOuter_st (hS : SWO lt) (a b : Nat) : ∀ (g i : Nat) (d : Array α), b - i ≤ g → a ≤ i → b ≤ d.size → St lt a b d (insOuter lt a b i d) := by
 intro g
 induction g with
 | zero => intro i d h1 h2 h3; rw [insOuter, if_neg (by omega)]; exact St.refl _ _ _
 | succ g ih =>
  intro i d h1 h2 h3
  rw [insOuter]
  by_cases h : i < b
  ·rw [if_pos h]
   have S := insInner_st hS a b i d h h3 h2
   exact S.trans (ih _ _ (by omega) (by omega) (by rw [S.size]; exact h3))
  ·rw [if_neg h]; exact St.refl _ _ _
theorem insertionSort_st (hS : SWO lt) (d : Array α) (a b : Nat) (hab : a ≤ b) (hb : b ≤ d.size) : St lt a b d (insertionSort lt d a b) ∧ Asc lt (seg (insertionSort lt d a b) a (b - a)) := by
 refine ⟨insOuter_st hS a b _ (a + 1) d (Nat.le_refl _) (by omega) hb, asc_seg.mpr fun i j h1 h2 h3 => ?_⟩
 have := insertionSort_holds (lt := lt)
 exact (this hS d a b hab hb).2 i j h1 h2 (by omega)
def Blk (lt : α → α → Bool) (s n : Nat) (d : Array α) : Prop := ∀ q, q * s ≤ n → Asc lt (seg d (q * s) (min s (n - q * s)))
theorem St.all {a b n : Nat} {d d' : Array α} (h : St lt a b d d') (h1 : a ≤ b) (h2 : b ≤ n) : St lt 0 n d d' := h.widen (Nat.zero_le _) h1 h2
theorem stBlocks_ok (hS : SWO lt) (n : Nat) : ∀ (g q : Nat) (d : Array α), n - q * 20 ≤ g → d.size = n → q * 20 ≤ n → (∀ p, p < q → Asc lt (seg d (p * 20) 20)) →
  St lt 0 n d (stBlocks lt n (q * 20) (q * 20 + 20) d) ∧ Blk lt 20 n (stBlocks lt n (q * 20) (q * 20 + 20) d) := by
 intro g
 induction g with
 | zero =>
  intro q d hg hs hq hp
  rw [stBlocks, if_neg (by omega)]
  obtain ⟨S, A⟩ := insertionSort_st hS d (q * 20) n hq (by omega)
  refine ⟨S.all hq (Nat.le_refl _), fun p hpn => ?_⟩
  by_cases h : p < q
  ·rw [show min 20 (n - p * 20) = 20 by omega, S.seg_out (by omega)]; exact hp p h
  ·obtain rfl : p = q := by omega
   rw [show min 20 (n - p * 20) = n - p * 20 by omega]; exact A
 | succ g ih =>
  intro q d hg hs hq hp
  rw [stBlocks]
  by_cases h : q * 20 + 20 ≤ n
  ·rw [if_pos h]
   obtain ⟨S, A⟩ := insertionSort_st hS d (q * 20) (q * 20 + 20) (by omega) (by omega)
   have e : q * 20 + 20 = (q + 1) * 20 := by omega
   rw [e] at S A ⊢
   obtain ⟨S2, B⟩ := ih (q + 1) (insertionSort lt d (q * 20) ((q + 1) * 20)) (by omega) (by rw [S.size]; exact hs) (by omega) (fun p hp' => by
    by_cases h' : p < q
    ·rw [S.seg_out (by omega)]; exact hp p h'
    ·obtain rfl : p = q := by omega
     rw [show (p + 1) * 20 - p * 20 = 20 by omega] at A; exact A)
   exact ⟨(S.all (by omega) (by omega)).trans S2, B⟩
  ·rw [if_neg h]
   obtain ⟨S, A⟩ := insertionSort_st hS d (q * 20) n hq (by omega)
   refine ⟨S.all hq (Nat.le_refl _), fun p hpn => ?_⟩
   by_cases h : p < q
   ·rw [show min 20 (n - p * 20) = 20 by omega, S.seg_out (by omega)]; exact hp p h
   ·obtain rfl : p = q := by omega
    rw [show min 20 (n - p * 20) = n - p * 20 by omega]; exact A
theorem stMerges_ok (hS : SWO lt) (n s : Nat) (s0 : 0 < s) : ∀ (g a q : Nat) (d : Array α), n - a ≤ g → a = q * (2 * s) → d.size = n → a ≤ n → (∀ p, p < q → Asc lt (seg d (p * (2 * s)) (2 * s))) →
  (∀ c k, c = a + k * s → c ≤ n → Asc lt (seg d c (min s (n - c)))) →
  St lt 0 n d (stMerges lt n s a (a + 2 * s) d) ∧ Blk lt (2 * s) n (stMerges lt n s a (a + 2 * s) d) := by
 intro g
 have fin : ∀ (a q : Nat) (d : Array α), ¬ a + 2 * s ≤ n → a = q * (2 * s) → d.size = n → a ≤ n → (∀ p, p < q → Asc lt (seg d (p * (2 * s)) (2 * s))) →
   (∀ c k, c = a + k * s → c ≤ n → Asc lt (seg d c (min s (n - c)))) →
   St lt 0 n d (if a + s < n then symMerge lt a (a + s) n d else d) ∧ Blk lt (2 * s) n (if a + s < n then symMerge lt a (a + s) n d else d) := by
  intro a q d hlt ha hs han hp hk
  have lo : ∀ p, p < q → p * (2 * s) + 2 * s ≤ a := fun p hpq => by
   rw [ha, show p * (2 * s) + 2 * s = (p + 1) * (2 * s) by rw [Nat.add_mul, Nat.one_mul]]; exact Nat.mul_le_mul_right _ hpq
  have hi : ∀ p, q < p → a + 2 * s ≤ p * (2 * s) := fun p hpq => by
   rw [ha, show q * (2 * s) + 2 * s = (q + 1) * (2 * s) by rw [Nat.add_mul, Nat.one_mul]]; exact Nat.mul_le_mul_right _ hpq
  by_cases h : a + s < n
  ·rw [if_pos h]
   obtain ⟨S, A⟩ := symMerge_ok hS (n - a) a (a + s) n d (Nat.le_refl _) (by omega) h (by omega)
    (by have := hk a 0 (by simp) han; rwa [show min s (n - a) = a + s - a by omega] at this)
    (by have := hk (a + s) 1 (by simp) (by omega); rwa [show min s (n - (a + s)) = n - (a + s) by omega] at this)
   refine ⟨S.all han (Nat.le_refl _), fun p hpn => ?_⟩
   rcases Nat.lt_trichotomy p q with h' | h' | h'
   ·have := lo p h'
    rw [show min (2 * s) (n - p * (2 * s)) = 2 * s by omega, S.seg_out (by omega)]; exact hp p h'
   ·subst h'
    rw [← ha, show min (2 * s) (n - a) = n - a by omega]; exact A
   ·have := hi p h'; omega
  ·rw [if_neg h]
   refine ⟨St.refl _ _ _, fun p hpn => ?_⟩
   rcases Nat.lt_trichotomy p q with h' | h' | h'
   ·have := lo p h'
    rw [show min (2 * s) (n - p * (2 * s)) = 2 * s by omega]; exact hp p h'
   ·subst h'
    have := hk a 0 (by simp) han
    rw [← ha, show min (2 * s) (n - a) = min s (n - a) by omega]; exact this
   ·have := hi p h'; omega
 induction g with
 | zero =>
  intro a q d hg ha hs han hp hk
  rw [stMerges, if_neg (by omega)]
  exact fin a q d (by omega) ha hs han hp hk
 | succ g ih =>
  intro a q d hg ha hs han hp hk
  rw [stMerges]
  by_cases h : a + 2 * s ≤ n
  ·rw [if_pos ⟨h, s0⟩]
   obtain ⟨S, A⟩ := symMerge_ok hS (2 * s) a (a + s) (a + 2 * s) d (by omega) (by omega) (by omega) (by omega)
    (by have := hk a 0 (by simp) han; rwa [show min s (n - a) = a + s - a by omega] at this)
    (by have := hk (a + s) 1 (by simp) (by omega); rwa [show min s (n - (a + s)) = a + 2 * s - (a + s) by omega] at this)
   have lo : ∀ p, p < q → p * (2 * s) + 2 * s ≤ a := fun p hpq => by
    rw [ha, show p * (2 * s) + 2 * s = (p + 1) * (2 * s) by rw [Nat.add_mul, Nat.one_mul]]; exact Nat.mul_le_mul_right _ hpq
   obtain ⟨S2, B⟩ := ih (a + 2 * s) (q + 1) (symMerge lt a (a + s) (a + 2 * s) d) (by omega) (by rw [ha, Nat.add_mul, Nat.one_mul]) (by rw [S.size]; exact hs) h (fun p hpq => by
     rcases Nat.lt_or_ge p q with h' | h'
     ·have := lo p h'
      rw [S.seg_out (by omega)]; exact hp p h'
     ·obtain rfl : p = q := by omega
      rw [← ha]; rwa [show a + 2 * s - a = 2 * s by omega] at A)
    (fun c k hc hcn => by
     have : a + 2 * s ≤ c := by omega
     rw [S.seg_out (by omega)]
     exact hk c (k + 2) (by rw [hc, Nat.add_mul]; omega) hcn)
   exact ⟨(S.all (by omega) h).trans S2, B⟩
  ·rw [if_neg (fun x => h x.1)]
   exact fin a q d h ha hs han hp hk
theorem stRounds_ok (hS : SWO lt) (n : Nat) : ∀ (g s : Nat) (d : Array α), n - s ≤ g → 0 < s → d.size = n → Blk lt s n d → St lt 0 n d (stRounds lt n s d) ∧ Asc lt (seg (stRounds lt n s d) 0 n) := by
 intro g
 have fin : ∀ s (d : Array α), n ≤ s → Blk lt s n d → Asc lt (seg d 0 n) := fun s d h hB => by
  have := hB 0 (by omega)
  rwa [Nat.zero_mul, show min s (n - 0) = n by omega] at this
 induction g with
 | zero =>
  intro s d hg h0 hs hB
  rw [stRounds, if_neg (by omega)]
  exact ⟨St.refl _ _ _, fin s d (by omega) hB⟩
 | succ g ih =>
  intro s d hg h0 hs hB
  rw [stRounds]
  by_cases h : s < n
  ·rw [if_pos ⟨h, h0⟩]
   obtain ⟨S, B⟩ := stMerges_ok hS n s h0 n 0 0 d (by omega) (by simp) hs (by omega) (fun p hp => by omega) (fun c k hc hcn => by
    rw [Nat.zero_add] at hc; subst hc; exact hB k hcn)
   rw [Nat.zero_add] at S B
   rw [Nat.mul_comm 2 s] at S B ⊢
   obtain ⟨S2, A⟩ := ih (s * 2) (stMerges lt n s 0 (s * 2) d) (by omega) (by omega) (by rw [S.size]; exact hs) B
   exact ⟨S.trans S2, A⟩
  ·rw [if_neg (fun x => h x.1)]
   exact ⟨St.refl _ _ _, fin s d (by omega) hB⟩
theorem stable_ok (hS : SWO lt) (d : Array α) : St lt 0 d.size d (stable lt d) ∧ Asc lt (seg (stable lt d) 0 d.size) := by
 unfold stable
 obtain ⟨S, B⟩ := stBlocks_ok hS d.size d.size 0 d (by omega) rfl (by omega) (fun p hp => by omega)
 simp only [Nat.zero_mul, Nat.zero_add] at S B
 obtain ⟨S2, A⟩ := stRounds_ok hS d.size d.size 20 _ (by omega) (by omega) S.size B
 exact ⟨S.trans S2, A⟩
theorem seg_all (d : Array α) : seg d 0 d.size = d.toList := by
 unfold seg
 apply List.ext_getElem
 ·simp
 ·intro k h1 h2
  simp only [List.length_map, List.length_range'] at h1
  simp [getElem!_pos d k h1]
omit [Inhabited α] in
theorem asc_unique (hS : SWO lt) : ∀ (l l' : List α), Asc lt l → Asc lt l' → (∀ x, l'.filter (eqv lt x) = l.filter (eqv lt x)) → l' = l := by
 have refl : ∀ x, eqv lt x x = true := fun x => by simp [eqv, hS.irrefl]
 intro l
 induction l with
 | nil =>
  intro l' _ _ h
  cases l' with
  | nil => rfl
  | cons y t =>
   have := h y
   rw [List.filter_cons_of_pos (refl y)] at this
   cases this
 | cons x t ih =>
  intro l' hA hA' h
  have mem : ∀ {u v : List α}, (∀ z, v.filter (eqv lt z) = u.filter (eqv lt z)) → ∀ z, z ∈ u → z ∈ v := fun hq z hz => by
   have : z ∈ _ := List.mem_filter.mpr ⟨hz, refl z⟩
   rw [← hq z] at this
   exact (List.mem_filter.mp this).1
  cases l' with
  | nil => exact absurd (mem h x (List.mem_cons_self ..)) (by simp)
  | cons y t' =>
   have h1 : x ∈ y :: t' := mem h x (List.mem_cons_self ..)
   have h2 : y ∈ x :: t := mem (fun z => (h z).symm) y (List.mem_cons_self ..)
   have p1 := List.pairwise_cons.mp hA
   have p2 := List.pairwise_cons.mp hA'
   have e1 : lt x y = false := by
    rcases List.mem_cons.mp h1 with e | e
    ·rw [e]; exact hS.irrefl _
    ·exact p2.1 x e
   have e2 : lt y x = false := by
    rcases List.mem_cons.mp h2 with e | e
    ·rw [e]; exact hS.irrefl _
    ·exact p1.1 y e
   have hx := h x
   rw [List.filter_cons_of_pos (refl x), List.filter_cons_of_pos (by simp [eqv, e1, e2])] at hx
   obtain ⟨rfl, _⟩ := List.cons.inj hx
   rw [ih t' p1.2 p2.2 fun z => ?_]
   have hz := h z
   cases hq : eqv lt z y with
   | true =>
    rw [List.filter_cons_of_pos hq, List.filter_cons_of_pos hq] at hz
    exact (List.cons.inj hz).2
   | false =>
    rw [List.filter_cons_of_neg (by rw [hq]; simp), List.filter_cons_of_neg (by rw [hq]; simp)] at hz
    exact hz
def insRef (lt : α → α → Bool) (x : α) : List α → List α
 | [] => [x]
 | y :: t => if lt x y then x :: y :: t else y :: insRef lt x t
def sortRef (lt : α → α → Bool) (l : List α) : List α := l.foldl (fun out x => insRef lt x out) []
omit [Inhabited α] in
theorem mem_insRef {x z : α} : ∀ {l : List α}, z ∈ insRef lt x l ↔ z = x ∨ z ∈ l := by
 intro l
 induction l with
 | nil => simp [insRef]
 | cons y t ih =>
  rw [insRef]; split
  ·simp
  ·rw [List.mem_cons, ih, List.mem_cons]; constructor
   ·rintro (h | h | h) <;> simp [h]
   ·rintro (h | h | h) <;> simp [h]
omit [Inhabited α] in
theorem insRef_asc (hS : SWO lt) (x : α) : ∀ (l : List α), Asc lt l → Asc lt (insRef lt x l) := by
 intro l
 induction l with
 | nil => intro _; exact List.pairwise_singleton _ _
 | cons y t ih =>
  intro h
  obtain ⟨h1, h2⟩ := List.pairwise_cons.mp h
  rw [insRef]; split
  ·rename_i hl
   refine List.pairwise_cons.mpr ⟨fun z hz => ?_, h⟩
   rcases List.mem_cons.mp hz with e | e
   ·rw [e]; exact hS.asymmA hl
   ·cases hq : lt z x with
    | false => rfl
    | true => have := h1 z e; rw [hS.trans _ _ _ hq hl] at this; cases this
  ·rename_i hl
   refine List.pairwise_cons.mpr ⟨fun z hz => ?_, ih h2⟩
   rcases mem_insRef.mp hz with e | e
   ·rw [e]; simpa using hl
   ·exact h1 z e
omit [Inhabited α] in
theorem insRef_filter (hS : SWO lt) (x z : α) : ∀ (l : List α), Asc lt l → (insRef lt x l).filter (eqv lt z) = l.filter (eqv lt z) ++ [x].filter (eqv lt z) := by
 intro l
 induction l with
 | nil => intro _; rfl
 | cons y t ih =>
  intro h
  obtain ⟨h1, h2⟩ := List.pairwise_cons.mp h
  rw [insRef]; split
  ·rename_i hl
   cases hz : eqv lt z x with
   | false => rw [List.filter_cons_of_neg (by rw [hz]; simp)]; simp [hz]
   | true =>
    have none : (y :: t).filter (eqv lt z) = [] := by
     rw [List.filter_eq_nil_iff]
     intro q hq hzq
     simp only [eqv, Bool.and_eq_true, Bool.not_eq_true'] at hz hzq
     have hxq : lt x q = true := by
      rcases List.mem_cons.mp hq with e | e
      ·rw [e]; exact hl
      ·cases hw : lt x q with
       | true => rfl
       | false => have := hS.ntrans _ _ _ hw (h1 q e); rw [hl] at this; cases this
     have := hS.ntrans _ _ _ hz.2 hzq.1
     rw [hxq] at this; cases this
    rw [List.filter_cons_of_pos hz, none]; simp [hz]
  ·cases hy : eqv lt z y with
   | true => rw [List.filter_cons_of_pos hy, List.filter_cons_of_pos hy, ih h2]; rfl
   | false => rw [List.filter_cons_of_neg (by rw [hy]; simp), List.filter_cons_of_neg (by rw [hy]; simp), ih h2]
omit [Inhabited α] in
theorem foldIns (hS : SWO lt) : ∀ (l out : List α), Asc lt out → Asc lt (l.foldl (fun o x => insRef lt x o) out) ∧ ∀ z, (l.foldl (fun o x => insRef lt x o) out).filter (eqv lt z) = out.filter (eqv lt z) ++ l.filter (eqv lt z) := by
 intro l
 induction l with
 | nil => intro out h; exact ⟨h, fun z => by simp⟩
 | cons x t ih =>
  intro out h
  obtain ⟨a, b⟩ := ih (insRef lt x out) (insRef_asc hS x out h)
  refine ⟨a, fun z => ?_⟩
  rw [List.foldl_cons, b, insRef_filter hS x z out h, List.append_assoc]
  congr 1
  rw [← List.filter_append]; rfl
omit [Inhabited α] in
theorem sortRef_ok (hS : SWO lt) (l : List α) : Asc lt (sortRef lt l) ∧ ∀ z, (sortRef lt l).filter (eqv lt z) = l.filter (eqv lt z) := by
 obtain ⟨a, b⟩ := foldIns hS l [] List.Pairwise.nil
 exact ⟨a, fun z => by rw [sortRef, b]; rfl⟩
theorem stable_ref (hS : SWO lt) (d : Array α) : (stable lt d).toList = sortRef lt d.toList := by
 obtain ⟨S, A⟩ := stable_ok hS d
 obtain ⟨A', F⟩ := sortRef_ok hS d.toList
 have e : seg (stable lt d) 0 d.size = (stable lt d).toList := by rw [← S.size]; exact seg_all _
 rw [e] at A
 refine asc_unique hS _ _ A' A fun x => ?_
 have := S.cls x
 rw [Nat.sub_zero, e, seg_all] at this
 rw [this, F]
end Go.Proofs.YtebofnoljebakaaGreatDoor.Stb
namespace Go.Proofs.YtebofnoljebakaaGreatDoorW.PrintWords
theorem Ev.succ {α : Type} {g : Nat → Option α} {r : α} (h : Ev (fun k => g (k + 1)) r) : Ev g r := Ev.step (fun _ => rfl) h
theorem Ev.const {α : Type} {x : Option α} {r : α} (h : x = some r) : Ev (fun _ => x) r := ⟨0, fun _ _ => h⟩
theorem Ev.ret {α : Type} {x r : α} (h : x = r) : Ev (fun _ => some x) r := ⟨0, fun _ _ => by rw [h]⟩
theorem Ev.at_k {α : Type} {g : Nat → Option α} {r : α} (K : Nat) (hm : ∀ k, LeO (g k) (g (k + 1))) (h : g K = some r) : Ev g r := Ev.of hm h
theorem Ev.to {α : Type} {g : Nat → Option α} {r r' : α} (h : Ev g r) (e : r = r') : Ev g r' := e ▸ h
end Go.Proofs.YtebofnoljebakaaGreatDoorW.PrintWords
namespace Go.Proofs.YtebofnoljebakaaGreatDoorL
open Go.RowKit Go.Proofs.YtebofnoljebakaaGreatDoorW.PrintWords
theorem wrap_id {x : Int} (h0 : -9223372036854775808 ≤ x) (h1 : x ≤ 9223372036854775807) : wrap64 x = x := by
 unfold wrap64
 omega
theorem wrap_succ {i : Nat} (h : i < 4611686018427387904) : wrap64 ((i : Int) + 1) = ((i + 1 : Nat) : Int) := by
 rw [wrap_id (by omega) (by omega)]
 omega
def Bytes (l : List Int) : Prop := ∀ x ∈ l, 0 ≤ x ∧ x ≤ 255
theorem Bytes.nil : Bytes [] := fun _ h => by cases h
theorem Bytes.append {a b : List Int} (h : Bytes a) (k : Bytes b) : Bytes (a ++ b) := fun x hx => (List.mem_append.1 hx).elim (h x) (k x)
theorem Bytes.left {a b : List Int} (h : Bytes (a ++ b)) : Bytes a := fun x hx => h x (List.mem_append.2 (.inl hx))
theorem Bytes.right {a b : List Int} (h : Bytes (a ++ b)) : Bytes b := fun x hx => h x (List.mem_append.2 (.inr hx))
theorem Bytes.take {a : List Int} (h : Bytes a) (n : Nat) : Bytes (a.take n) := fun x hx => h x (List.mem_of_mem_take hx)
theorem Bytes.drop {a : List Int} (h : Bytes a) (n : Nat) : Bytes (a.drop n) := fun x hx => h x (List.mem_of_mem_drop hx)
theorem Bytes.cons {a : Int} {b : List Int} (h : 0 ≤ a ∧ a ≤ 255) (k : Bytes b) : Bytes (a :: b) := fun x hx => (List.mem_cons.1 hx).elim (fun e => e ▸ h) (k x)
theorem toList_data (s : ByteArray) : s.toList = s.data.toList := ByteArray.toList_eq s
theorem toList_inj {a b : ByteArray} : a.toList = b.toList ↔ a = b := by
 rw [toList_data, toList_data]
 constructor
 ·intro h
  exact ByteArray.ext (Array.toList_inj.1 h)
 ·rintro rfl
  rfl
theorem rd_nat (l : List Int) (i : Nat) : rd l (i : Int) = l.getD i 0 := by unfold rd; simp
end Go.Proofs.YtebofnoljebakaaGreatDoorL
namespace Go.Proofs.YtebofnoljebakaaGreatDoor.Stb
open Go.RowKit Go.Sort Go.Proofs Go.Proofs.YtebofnoljebakaaGreatDoorL
def keyLt (wr : ByteArray → Int) (num : Bool) (a b : ByteArray) : Bool := if num = true ∧ wr a ≠ wr b then decide (wr a < wr b) else Op.bytesLess a.toList b.toList
def aheadP (wr : ByteArray → Int) (num down : Bool) (a b : ByteArray) : Bool := if down = true then keyLt wr num b a else keyLt wr num a b
theorem bl_irrefl (x : List UInt8) : Op.bytesLess x x = false := by rw [bytesLess_eq]; simp
theorem bl_trans {x y z : List UInt8} (h : Op.bytesLess x y = true) (k : Op.bytesLess y z = true) : Op.bytesLess x z = true := by
 rw [bytesLess_eq, decide_eq_true_eq] at *
 exact List.lt_trans h k
theorem bl_eq {x y : List UInt8} (h : ¬ Op.bytesLess x y = true) (k : ¬ Op.bytesLess y x = true) : x = y := by
 have := Go.Proofs.YtebofnoljebakaaGreatDoorW.PrintMore.xm_less_gtr x y
 simp only [Bool.not_eq_true] at h k
 rw [h, k] at this
 simpa using this
theorem key_total (wr : ByteArray → Int) (num : Bool) {a b : ByteArray} (h : keyLt wr num a b = false) (k : keyLt wr num b a = false) : a = b := by
 unfold keyLt at h k
 by_cases c : num = true ∧ wr a ≠ wr b
 ·rw [if_pos c] at h; rw [if_pos ⟨c.1, Ne.symm c.2⟩] at k
  simp only [decide_eq_false_iff_not] at h k
  have := c.2; omega
 ·have c' : ¬ (num = true ∧ wr b ≠ wr a) := fun x => c ⟨x.1, Ne.symm x.2⟩
  rw [if_neg c] at h; rw [if_neg c'] at k
  have e := bl_eq (by rw [h]; simp) (by rw [k]; simp)
  exact toList_inj.1 e
theorem key_irrefl (wr : ByteArray → Int) (num : Bool) (a : ByteArray) : keyLt wr num a a = false := by
 unfold keyLt; rw [if_neg (fun x => x.2 rfl)]; exact bl_irrefl _
theorem key_trans (wr : ByteArray → Int) (num : Bool) {a b c : ByteArray} (h : keyLt wr num a b = true) (k : keyLt wr num b c = true) : keyLt wr num a c = true := by
 unfold keyLt at h k ⊢
 by_cases hn : num = true
 ·by_cases h1 : wr a = wr b
  ·rw [if_neg (fun x => x.2 h1)] at h
   by_cases h2 : wr b = wr c
   ·rw [if_neg (fun x => x.2 h2)] at k
    rw [if_neg (fun x => x.2 (h1.trans h2))]; exact bl_trans h k
   ·rw [if_pos ⟨hn, h2⟩] at k
    rw [if_pos ⟨hn, by rw [h1]; exact h2⟩, h1]; exact k
  ·rw [if_pos ⟨hn, h1⟩] at h
   by_cases h2 : wr b = wr c
   ·rw [if_pos ⟨hn, by rw [← h2]; exact h1⟩, ← h2]; exact h
   ·rw [if_pos ⟨hn, h2⟩] at k
    simp only [decide_eq_true_eq] at h k
    rw [if_pos ⟨hn, by omega⟩]; exact decide_eq_true (by omega)
 ·rw [if_neg (fun x => hn x.1)] at h k ⊢; exact bl_trans h k
theorem ahead_total (wr : ByteArray → Int) (num down : Bool) {a b : ByteArray} (h : aheadP wr num down a b = false) (k : aheadP wr num down b a = false) : a = b := by
 unfold aheadP at h k; split at h <;> rename_i c
 ·rw [if_pos c] at k; exact key_total wr num k h
 ·rw [if_neg c] at k; exact key_total wr num h k
theorem ahead_irrefl (wr : ByteArray → Int) (num down : Bool) (a : ByteArray) : aheadP wr num down a a = false := by
 unfold aheadP; split <;> exact key_irrefl _ _ _
theorem ahead_trans (wr : ByteArray → Int) (num down : Bool) {a b c : ByteArray} (h : aheadP wr num down a b = true) (k : aheadP wr num down b c = true) : aheadP wr num down a c = true := by
 unfold aheadP at h k ⊢; split at h <;> rename_i d
 ·rw [if_pos d] at k ⊢; exact key_trans wr num k h
 ·rw [if_neg d] at k ⊢; exact key_trans wr num h k
theorem ahead_swo {α : Type} (key : α → ByteArray) (wr : ByteArray → Int) (num down : Bool) : SWO fun x y : α => aheadP wr num down (key x) (key y) where
 irrefl := fun x => ahead_irrefl _ _ _ _
 trans := fun x y z h k => ahead_trans _ _ _ h k
 ntrans := fun x y z h k => by
  show aheadP wr num down (key x) (key z) = false
  cases hq : aheadP wr num down (key x) (key z) with
  | false => rfl
  | true =>
   cases h2 : aheadP wr num down (key y) (key x) with
   | true => have := ahead_trans _ _ _ h2 hq; rw [show aheadP wr num down (key y) (key z) = false from k] at this; cases this
   | false =>
    have e := ahead_total wr num down (show aheadP wr num down (key x) (key y) = false from h) h2
    rw [e, show aheadP wr num down (key y) (key z) = false from k] at hq; cases hq
section
variable {α : Type} {lt lt' : α → α → Bool}
theorem ins_congr (x : α) : ∀ l : List α, (∀ y ∈ l, lt x y = lt' x y) → insRef lt x l = insRef lt' x l
 | [], _ => rfl
 | y :: t, h => by rw [insRef, insRef, h y List.mem_cons_self, ins_congr x t (fun z hz => h z (List.mem_cons_of_mem _ hz))]
theorem foldIns_congr : ∀ l out : List α, (∀ x ∈ l, ∀ y, y ∈ l ∨ y ∈ out → lt x y = lt' x y) → l.foldl (fun o x => insRef lt x o) out = l.foldl (fun o x => insRef lt' x o) out
 | [], _, _ => rfl
 | x :: t, out, h => by
  rw [List.foldl_cons, List.foldl_cons, ins_congr x out (fun y hy => h x List.mem_cons_self y (Or.inr hy))]
  refine foldIns_congr t _ fun z hz y hy => h z (List.mem_cons_of_mem _ hz) y ?_
  rcases hy with hy | hy
  ·exact Or.inl (List.mem_cons_of_mem _ hy)
  ·rcases mem_insRef.1 hy with e | e
   ·rw [e]; exact Or.inl List.mem_cons_self
   ·exact Or.inr e
theorem sort_congr (l : List α) (h : ∀ x ∈ l, ∀ y ∈ l, lt x y = lt' x y) : sortRef lt l = sortRef lt' l :=
 foldIns_congr l [] (fun x hx y hy => h x hx y (by rcases hy with hy | hy; exact hy; cases hy))
end
end Go.Proofs.YtebofnoljebakaaGreatDoor.Stb
