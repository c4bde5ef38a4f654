/- Layer 13: the document's answer, in the same plain words. -/
import Derived.Test.YtpgddpkljbgjpaaGreatDoorPXx
import Derived.Test.YtpgddpkljbgjpaaGreatDoorLOps
import Derived.Lib.IndexLaws
import Derived.Lib.IndexMore
set_option linter.unusedVariables false
set_option linter.unusedSimpArgs false
namespace Go.Proofs.YtpgddpkljbgjpaaGreatDoorL
open Go.RowKit Go.Proofs Go.Proofs.YtpgddpkljbgjpaaGreatDoor Go.Proofs.YtpgddpkljbgjpaaGreatDoor.PX Go.Proofs.YtpgddpkljbgjpaaGreatDoorW.PrintWords Go.Proofs.YtpgddpkljbgjpaaGreatDoorW.PrintMore
/-! ### kinds, Arity, Result -/
def kk (o : Int) : ByteArray × ByteArray :=
  if o = 4 ∨ o = 5 ∨ o = 6 ∨ o = 7 ∨ o = 8 then (⟨#[110, 110]⟩, ⟨#[110]⟩) else if o = 9 then (⟨#[116, 116]⟩, ⟨#[116]⟩) else if o = 10 ∨ o = 18 ∨ o = 20 then (⟨#[116]⟩, ⟨#[110]⟩)
  else if o = 11 then (⟨#[116, 110, 110]⟩, ⟨#[116]⟩) else if o = 12 ∨ o = 13 then (⟨#[116]⟩, ⟨#[116]⟩) else if o = 14 ∨ o = 15 then (⟨#[97, 97]⟩, ⟨#[110]⟩)
  else if o = 16 then (⟨#[110]⟩, ⟨#[110]⟩) else if o = 17 then (⟨#[110, 97, 97]⟩, ⟨#[97]⟩) else if o = 19 then (⟨#[110]⟩, ⟨#[116]⟩) else if o = 21 then (⟨#[116, 116]⟩, ⟨#[110]⟩) else (⟨#[]⟩, ⟨#[]⟩)
theorem op_cases (o : Int) : o = 4 ∨ o = 5 ∨ o = 6 ∨ o = 7 ∨ o = 8 ∨ o = 9 ∨ o = 10 ∨ o = 11 ∨ o = 12 ∨ o = 13 ∨ o = 14 ∨ o = 15 ∨ o = 16 ∨ o = 17 ∨ o = 18 ∨ o = 19 ∨ o = 20 ∨ o = 21 ∨ (o ≠ 4 ∧ o ≠ 5 ∧ o ≠ 6 ∧ o ≠ 7 ∧ o ≠ 8 ∧ o ≠ 9 ∧ o ≠ 10 ∧ o ≠ 11 ∧ o ≠ 12 ∧ o ≠ 13 ∧ o ≠ 14 ∧ o ≠ 15 ∧ o ≠ 16 ∧ o ≠ 17 ∧ o ≠ 18 ∧ o ≠ 19 ∧ o ≠ 20 ∧ o ≠ 21) := by omega
theorem kinds_f (o : Int) : Ev (fun k => threshingref13_kinds.f k o) (kk o) := by
  refine Ev.at_k 8 (fun k => threshingref13_kinds.mono _ k) ?_
  rcases op_cases o with rfl | rfl | rfl | rfl | rfl | rfl | rfl | rfl | rfl | rfl | rfl | rfl | rfl | rfl | rfl | rfl | rfl | rfl | ⟨h4, h5, h6, h7, h8, h9, h10, h11, h12, h13, h14, h15, h16, h17, h18, h19, h20, h21⟩
  case inr.inr.inr.inr.inr.inr.inr.inr.inr.inr.inr.inr.inr.inr.inr.inr.inr.inr =>
    have b8 : (o == 8) = false := by simp [h8]
    have b10 : (o == 10) = false := by simp [h10]
    have b18 : (o == 18) = false := by simp [h18]
    have b20 : (o == 20) = false := by simp [h20]
    have b12 : (o == 12) = false := by simp [h12]
    have b13 : (o == 13) = false := by simp [h13]
    have b14 : (o == 14) = false := by simp [h14]
    have b15 : (o == 15) = false := by simp [h15]
    simp only [threshingref13_kinds.f, threshingref13_kinds.j0, threshingref13_kinds.j1, threshingref13_kinds.j2, threshingref13_kinds.j3, kk, h4, h5, h6, h7, h8, h9, h10, h11, h12, h13, h14, h15, h16, h17, h18, h19, h20, h21, b8, b10, b18, b20, b12, b13, b14, b15, if_false, Bool.false_eq_true, or_self]
  all_goals kernel_rfl
theorem op_kk {o : Int} (h : XOps.opFn o = none) : kk o = (⟨#[]⟩, ⟨#[]⟩) := by
  rcases op_cases o with rfl | rfl | rfl | rfl | rfl | rfl | rfl | rfl | rfl | rfl | rfl | rfl | rfl | rfl | rfl | rfl | rfl | rfl | ⟨h4, h5, h6, h7, h8, h9, h10, h11, h12, h13, h14, h15, h16, h17, h18, h19, h20, h21⟩
  case inr.inr.inr.inr.inr.inr.inr.inr.inr.inr.inr.inr.inr.inr.inr.inr.inr.inr =>
    simp only [kk, h4, h5, h6, h7, h8, h9, h10, h11, h12, h13, h14, h15, h16, h17, h18, h19, h20, h21, if_false, or_self]
  all_goals cases h
theorem op_none {o : Int} (h : o ≠ 4 ∧ o ≠ 5 ∧ o ≠ 6 ∧ o ≠ 7 ∧ o ≠ 8 ∧ o ≠ 9 ∧ o ≠ 10 ∧ o ≠ 11 ∧ o ≠ 12 ∧ o ≠ 13 ∧ o ≠ 14 ∧ o ≠ 15 ∧ o ≠ 16 ∧ o ≠ 17 ∧ o ≠ 18 ∧ o ≠ 19 ∧ o ≠ 20 ∧ o ≠ 21) : XOps.opFn o = none := by
  obtain ⟨h4, h5, h6, h7, h8, h9, h10, h11, h12, h13, h14, h15, h16, h17, h18, h19, h20, h21⟩ := h
  simp only [XOps.opFn, h4, h5, h6, h7, h8, h9, h10, h11, h12, h13, h14, h15, h16, h17, h18, h19, h20, h21, if_false]
theorem arity_f (o : Int) : Ev (fun k => threshingref13_Arity.f k o) (XOps.arityF o) := by
  unfold threshingref13_Arity.f
  refine Ev.bind (kinds_f o) (Ev.ret ?_)
  rcases op_cases o with rfl | rfl | rfl | rfl | rfl | rfl | rfl | rfl | rfl | rfl | rfl | rfl | rfl | rfl | rfl | rfl | rfl | rfl | hn
  case inr.inr.inr.inr.inr.inr.inr.inr.inr.inr.inr.inr.inr.inr.inr.inr.inr.inr =>
    rw [op_kk (op_none hn)]
    unfold XOps.arityF
    rw [op_none hn]
    rfl
  all_goals kernel_rfl
theorem res_two {o : Int} {x : Bool × Int} (h : ∀ a b, threshingref13_Result.f 30 o [a, b] = some (XOps.resultF o [a, b])) (l : List Bool) (hl : l.length = 2) : Ev (fun k => threshingref13_Result.f k o l) (XOps.resultF o l) := by
  rcases l with _ | ⟨a, _ | ⟨b, _ | ⟨c, r⟩⟩⟩ <;> simp at hl
  exact Ev.at_k 30 (fun k => threshingref13_Result.mono _ _ k) (h a b)
theorem res_one {o : Int} (h : ∀ a, threshingref13_Result.f 30 o [a] = some (XOps.resultF o [a])) (l : List Bool) (hl : l.length = 1) : Ev (fun k => threshingref13_Result.f k o l) (XOps.resultF o l) := by
  rcases l with _ | ⟨a, _ | ⟨b, r⟩⟩ <;> simp at hl
  exact Ev.at_k 30 (fun k => threshingref13_Result.mono _ _ k) (h a)
theorem res_three {o : Int} (h : ∀ a b c, threshingref13_Result.f 30 o [a, b, c] = some (XOps.resultF o [a, b, c])) (l : List Bool) (hl : l.length = 3) : Ev (fun k => threshingref13_Result.f k o l) (XOps.resultF o l) := by
  rcases l with _ | ⟨a, _ | ⟨b, _ | ⟨c, _ | ⟨d, r⟩⟩⟩⟩ <;> simp at hl
  exact Ev.at_k 30 (fun k => threshingref13_Result.mono _ _ k) (h a b c)
theorem res_off {o : Int} {ks : List Int} {t : Int} {f : Nat} (hq : XOps.opFn o = some (ks, t, f)) (hk : (kk o).1.size = ks.length) (hn : ¬ (kk o).1.toList = []) (l : List Bool) (hl : l.length ≠ ks.length) : Ev (fun k => threshingref13_Result.f k o l) (XOps.resultF o l) := by
  unfold threshingref13_Result.f
  refine Ev.bind (kinds_f o) ?_
  simp only [if_neg hn, if_neg (show ¬ (l.length : Int) = ((kk o).1.size : Int) by rw [hk]; omega)]
  refine Ev.ret ?_
  rw [XOps.res_short hq rfl hl]
theorem result_f (o : Int) (l : List Bool) : Ev (fun k => threshingref13_Result.f k o l) (XOps.resultF o l) := by
  rcases op_cases o with rfl | rfl | rfl | rfl | rfl | rfl | rfl | rfl | rfl | rfl | rfl | rfl | rfl | rfl | rfl | rfl | rfl | rfl | hn
  · by_cases hl : l.length = 2
    · exact res_two (x := (false, 0)) (fun a b => by cases a <;> cases b <;> kernel_rfl) l hl
    · exact res_off (show XOps.opFn 4 = _ from rfl) rfl (by rw [toList_data]; decide) l hl
  · by_cases hl : l.length = 2
    · exact res_two (x := (false, 0)) (fun a b => by cases a <;> cases b <;> kernel_rfl) l hl
    · exact res_off (show XOps.opFn 5 = _ from rfl) rfl (by rw [toList_data]; decide) l hl
  · by_cases hl : l.length = 2
    · exact res_two (x := (false, 0)) (fun a b => by cases a <;> cases b <;> kernel_rfl) l hl
    · exact res_off (show XOps.opFn 6 = _ from rfl) rfl (by rw [toList_data]; decide) l hl
  · by_cases hl : l.length = 2
    · exact res_two (x := (false, 0)) (fun a b => by cases a <;> cases b <;> kernel_rfl) l hl
    · exact res_off (show XOps.opFn 7 = _ from rfl) rfl (by rw [toList_data]; decide) l hl
  · by_cases hl : l.length = 2
    · exact res_two (x := (false, 0)) (fun a b => by cases a <;> cases b <;> kernel_rfl) l hl
    · exact res_off (show XOps.opFn 8 = _ from rfl) rfl (by rw [toList_data]; decide) l hl
  · by_cases hl : l.length = 2
    · exact res_two (x := (false, 0)) (fun a b => by cases a <;> cases b <;> kernel_rfl) l hl
    · exact res_off (show XOps.opFn 9 = _ from rfl) rfl (by rw [toList_data]; decide) l hl
  · by_cases hl : l.length = 1
    · exact res_one (fun a => by cases a <;> kernel_rfl) l hl
    · exact res_off (show XOps.opFn 10 = _ from rfl) rfl (by rw [toList_data]; decide) l hl
  · by_cases hl : l.length = 3
    · exact res_three (fun a b c => by cases a <;> cases b <;> cases c <;> kernel_rfl) l hl
    · exact res_off (show XOps.opFn 11 = _ from rfl) rfl (by rw [toList_data]; decide) l hl
  · by_cases hl : l.length = 1
    · exact res_one (fun a => by cases a <;> kernel_rfl) l hl
    · exact res_off (show XOps.opFn 12 = _ from rfl) rfl (by rw [toList_data]; decide) l hl
  · by_cases hl : l.length = 1
    · exact res_one (fun a => by cases a <;> kernel_rfl) l hl
    · exact res_off (show XOps.opFn 13 = _ from rfl) rfl (by rw [toList_data]; decide) l hl
  · by_cases hl : l.length = 2
    · exact res_two (x := (false, 0)) (fun a b => by cases a <;> cases b <;> kernel_rfl) l hl
    · exact res_off (show XOps.opFn 14 = _ from rfl) rfl (by rw [toList_data]; decide) l hl
  · by_cases hl : l.length = 2
    · exact res_two (x := (false, 0)) (fun a b => by cases a <;> cases b <;> kernel_rfl) l hl
    · exact res_off (show XOps.opFn 15 = _ from rfl) rfl (by rw [toList_data]; decide) l hl
  · by_cases hl : l.length = 1
    · exact res_one (fun a => by cases a <;> kernel_rfl) l hl
    · exact res_off (show XOps.opFn 16 = _ from rfl) rfl (by rw [toList_data]; decide) l hl
  · by_cases hl : l.length = 3
    · exact res_three (fun a b c => by cases a <;> cases b <;> cases c <;> kernel_rfl) l hl
    · exact res_off (show XOps.opFn 17 = _ from rfl) rfl (by rw [toList_data]; decide) l hl
  · by_cases hl : l.length = 1
    · exact res_one (fun a => by cases a <;> kernel_rfl) l hl
    · exact res_off (show XOps.opFn 18 = _ from rfl) rfl (by rw [toList_data]; decide) l hl
  · by_cases hl : l.length = 1
    · exact res_one (fun a => by cases a <;> kernel_rfl) l hl
    · exact res_off (show XOps.opFn 19 = _ from rfl) rfl (by rw [toList_data]; decide) l hl
  · by_cases hl : l.length = 1
    · exact res_one (fun a => by cases a <;> kernel_rfl) l hl
    · exact res_off (show XOps.opFn 20 = _ from rfl) rfl (by rw [toList_data]; decide) l hl
  · by_cases hl : l.length = 2
    · exact res_two (x := (false, 0)) (fun a b => by cases a <;> cases b <;> kernel_rfl) l hl
    · exact res_off (show XOps.opFn 21 = _ from rfl) rfl (by rw [toList_data]; decide) l hl
  · unfold threshingref13_Result.f
    refine Ev.bind (kinds_f o) ?_
    have h1 : (kk o).1.toList = [] := by rw [op_kk (op_none hn), toList_data]
    simp only [if_pos h1]
    refine Ev.ret ?_
    unfold XOps.resultF
    rw [op_none hn]
/-! ### Compare, Hash, the others -/
theorem rcompare (x y : XOps.Sv) : Ev (fun k => threshingref13_Compare.f k x.f0 x.f1 x.f2 y.f0 y.f1 y.f2) (cmpV x y) := by
  obtain ⟨a0, a1, a2⟩ := x
  obtain ⟨b0, b1, b2⟩ := y
  refine Ev.at_k 5 (fun k => threshingref13_Compare.mono _ _ _ _ _ _ k) ?_
  simp only [threshingref13_Compare.f, threshingref13_Compare.j0]
  by_cases h0 : a0 = b0
  · subst h0
    have hk : kd a0 a0 = 0 := (kd_zero a0 a0).2 rfl
    simp only [bne_self_eq_false, Bool.false_eq_true, if_false]
    unfold cmpV orI
    simp only [hk, if_true]
    by_cases h1 : a1 < b1
    · have hc : cI a1 b1 = -1 := by unfold cI; rw [if_pos h1]
      simp only [if_pos h1, if_true, hc]
      rfl
    · simp only [if_neg h1]
      by_cases h2 : a1 = b1
      · subst h2
        have hc : cI a1 a1 = 0 := (cI_zero a1 a1).2 rfl
        simp only [if_true, hc]
        unfold cS
        by_cases h3 : Op.bytesLess a2.toList b2.toList = true
        · simp only [if_pos h3]
        · simp only [if_neg h3]
          by_cases h4 : a2.toList = b2.toList
          · simp only [if_pos h4]
            rw [h4, less_irrefl]
            rfl
          · simp only [if_neg h4]
            have h5 : Op.bytesLess b2.toList a2.toList = true := by
              rcases hq : Op.bytesLess b2.toList a2.toList with _ | _
              · exact absurd (less_eq h3 (by rw [hq]; simp)) h4
              · rfl
            rw [if_pos h5]
      · have hc : cI a1 b1 = 1 := by unfold cI; rw [if_neg h1, if_pos (by omega)]
        simp only [if_neg h2, Bool.false_eq_true, if_false, hc]
        rfl
  · have hb : (a0 != b0) = true := by simp [h0]
    simp only [hb, if_true]
    unfold cmpV orI
    cases a0 <;> cases b0
    · exact absurd rfl h0
    · rfl
    · rfl
    · exact absurd rfl h0
theorem rhash_go (s : ByteArray) (hs : s.size ≤ 140737488351232) : ∀ (m i : Nat) (x : Int), i + m = s.size → 0 ≤ x → x < 4294967296 → Ev (fun k => threshingref13_Hash.l0 k s x (i : Int)) (hashN x ((bytesOf s).drop i))
  | 0, i, x, hi, h0, h1 => by
    have hd : (bytesOf s).drop i = [] := List.drop_eq_nil_iff.2 (by rw [bytesOf_length]; omega)
    rw [hd]
    simp only [hashN]
    refine Ev.succ ?_
    simp only [threshingref13_Hash.l0, if_neg (show ¬ (i : Int) < (s.size : Int) by omega)]
    refine Ev.ret ?_
    rw [Int.tmod_eq_emod_of_nonneg h0]
    exact wrap_id (by omega) (by omega)
  | m + 1, i, x, hi, h0, h1 => by
    have hlt : i < (bytesOf s).length := by rw [bytesOf_length]; omega
    have hd : (bytesOf s).drop i = bt s (i : Int) :: (bytesOf s).drop (i + 1) := by
      rw [List.drop_eq_getElem_cons hlt]
      congr 1
      rw [← rd_bytesOf, rd_nat, List.getD_eq_getElem?_getD, List.getElem?_eq_getElem hlt]
      rfl
    have hr := rhash_go s hs m (i + 1) (((Go.bits .xor .u32 x ((bt s (i : Int)) % 4294967296)) * 16777619) % 4294967296) (by omega) (by omega) (by omega)
    rw [hd]
    simp only [hashN]
    refine Ev.succ ?_
    simp only [threshingref13_Hash.l0, if_pos (show (i : Int) < (s.size : Int) by omega), if_pos (show (0 : Int) ≤ (i : Int) by omega), wrap_succ (i := i) (by omega)]
    exact hr
theorem rhash (s : ByteArray) (hs : s.size ≤ 140737488351232) : Ev (fun k => threshingref13_Hash.f k s) (hashS s) := rhash_go s hs s.size 0 2166136261 (by omega) (by decide) (by decide)
theorem rturn_go (s : ByteArray) (f : Int) (hf : 0 ≤ f ∧ f ≤ 200) (hs : s.size ≤ 140737488351232) : ∀ (m i : Nat), i + m = s.size → Ev (fun k => threshingref13_turned.l0 k s f (XTurn.turnL f ((bytesOf s).take i)) (i : Int)) (turnS f s)
  | 0, i, hi => by
    refine Ev.succ ?_
    simp only [threshingref13_turned.l0, if_neg (show ¬ (i : Int) < (s.size : Int) by omega)]
    refine Ev.ret ?_
    rw [List.take_of_length_le (by rw [bytesOf_length]; omega)]
    rfl
  | m + 1, i, hi => by
    have hlt : i < (bytesOf s).length := by rw [bytesOf_length]; omega
    have hb : bt s (i : Int) = (bytesOf s)[i] := by
      rw [← rd_bytesOf, rd_nat, List.getD_eq_getElem?_getD, List.getElem?_eq_getElem hlt]
      rfl
    have ht : XTurn.turnL f ((bytesOf s).take (i + 1)) = XTurn.turnL f ((bytesOf s).take i) ++ [XTurn.turnB f (bt s (i : Int))] := by
      unfold XTurn.turnL
      rw [List.take_add_one, List.getElem?_eq_getElem hlt, List.map_append, hb]
      rfl
    have hr := rturn_go s f hf hs m (i + 1) (by omega)
    rw [ht] at hr
    have hlen : (XTurn.turnL f ((bytesOf s).take i)).length < 140737488355328 := by
      unfold XTurn.turnL
      rw [List.length_map, List.length_take, bytesOf_length]
      omega
    have hm : (f + 26) % 256 = f + 26 := by omega
    refine Ev.succ ?_
    simp only [threshingref13_turned.l0, if_pos (show (i : Int) < (s.size : Int) by omega), if_pos (show (0 : Int) ≤ (i : Int) by omega), wrap_succ (i := i) (by omega), hm, if_pos hlen]
    by_cases c1 : bt s (i : Int) ≥ f
    · simp only [if_pos c1]
      by_cases c2 : bt s (i : Int) < f + 26
      · simp only [if_pos c2]
        have : XTurn.turnB f (bt s (i : Int)) = Go.bits .xor .u8 (bt s (i : Int)) 32 := by unfold XTurn.turnB; rw [if_pos ⟨c1, c2⟩]
        rw [this] at hr
        exact hr
      · simp only [if_neg c2]
        have : XTurn.turnB f (bt s (i : Int)) = bt s (i : Int) := by unfold XTurn.turnB; rw [if_neg (by omega)]
        rw [this] at hr
        exact hr
    · simp only [if_neg c1]
      have : XTurn.turnB f (bt s (i : Int)) = bt s (i : Int) := by unfold XTurn.turnB; rw [if_neg (by omega)]
      rw [this] at hr
      exact hr
theorem rturn (s : ByteArray) (f : Int) (hf : 0 ≤ f ∧ f ≤ 200) (hs : s.size ≤ 140737488351232) : Ev (fun k => threshingref13_turned.f k s f) (turnS f s) := by
  have := rturn_go s f hf hs s.size 0 (by omega)
  rw [List.take_zero] at this
  exact this
theorem rtext (s : ByteArray) : threshingref13_Text.f s = some (true, 0, clip s) := by
  unfold threshingref13_Text.f threshingref13_clip.f
  rw [if_pos (mn_ge (by omega) (by omega)), if_pos (mn_le _ _).1]
  rfl
theorem ext_data {a b : ByteArray} (h : a.data.toList = b.data.toList) : a = b := ByteArray.ext (Array.toList_inj.1 h)
theorem rslice (s : ByteArray) (a b : Int) (hs : s.size ≤ 140737488351232) : threshingref13_slice.f s a b = some (sliceS s a b) := by
  have h1 := mn_le (mx a 0) (s.size : Int)
  have h2 : 0 ≤ mn (mx a 0) (s.size : Int) := mn_ge (mx_ge a 0).2 (by omega)
  generalize hp : mn (mx a 0) (s.size : Int) = p at h1 h2
  have w1 : wrap64 ((s.size : Int) - p) = (s.size : Int) - p := wrap_id (by omega) (by omega)
  have h3 := mn_le (mx b 0) ((s.size : Int) - p)
  have h4 : 0 ≤ mn (mx b 0) ((s.size : Int) - p) := mn_ge (mx_ge b 0).2 (by omega)
  generalize hq : mn (mx b 0) ((s.size : Int) - p) = q at h3 h4
  have w2 : wrap64 (p + q) = p + q := wrap_id (by omega) (by omega)
  unfold threshingref13_slice.f
  simp only [hp, w1, hq, w2]
  rw [if_pos h2, if_pos (by omega), if_pos (by omega)]
  congr 1
  have hz : (fromS s a).size = s.size - p.toNat := by
    unfold fromS
    rw [hp, ByteArray.size_extract]
    omega
  unfold sliceS
  have e : (mn (mx b 0) ((fromS s a).size : Int)) = q := by
    rw [hz, ← hq]
    congr 1
    omega
  rw [e]
  apply ext_data
  rw [Lib.extract_data, Lib.extract_data]
  unfold fromS
  rw [hp, data_extract, List.drop_zero]
  congr 1
  omega
theorem rdiv (a b : Int) (ha : -9223372036854775808 ≤ a ∧ a ≤ 9223372036854775807) : threshingref13_div.f a b = some (if b = 0 then 0 else wrap64 (Int.tdiv a b), if b = 0 then 0 else Int.tmod a b) := by
  unfold threshingref13_div.f
  by_cases h : b = 0
  · simp [h]
  · by_cases h1 : b = -1
    · subst h1
      simp [Int.tdiv_neg, Int.tmod_neg]
    · simp [h, h1]
/-! ### the number that a text writes -/
theorem dec_dig : ∀ (l : List UInt8) (a n : Nat), Lib.decFrom a l = some n → l.all dig = true
  | [], _, _, _ => rfl
  | b :: r, a, n, h => by
    simp only [Lib.decFrom] at h
    rcases hq : Lib.digitVal b with _ | d
    · rw [hq] at h; cases h
    · rw [hq] at h
      have h1 := Lib.digitVal_eq hq
      have h2 := dec_dig r _ _ h
      simp only [List.all_cons, h2, Bool.and_true]
      unfold dig
      exact decide_eq_true ⟨h1.1, h1.2.1⟩
theorem bt_data (s : ByteArray) (i : Nat) (h : i < s.size) : ∃ b, s.data.toList[i]? = some b ∧ bt s (i : Int) = (b.toNat : Int) := by
  have h' : i < s.data.toList.length := by rw [data_length]; exact h
  refine ⟨s.data.toList[i], List.getElem?_eq_getElem h', ?_⟩
  rw [← rd_bytesOf, rd_nat]
  unfold bytesOf
  rw [List.getD_eq_getElem?_getD, List.getElem?_map, List.getElem?_eq_getElem h']
  rfl
theorem rnum_go (t : ByteArray) (sg : Int) (hsg : sg = 1 ∨ sg = -1) (ht : t.size ≤ 18) : ∀ (m i acc : Nat), i + m = t.size → Lib.decFrom 0 (t.data.toList.take i) = some acc →
    Ev (fun k => threshingref13_number.l0 k t sg (acc : Int) (i : Int)) (if t.data.toList.all dig = true then sg * magL t.data.toList else 0)
  | 0, i, acc, hi, hd => by
    rw [List.take_of_length_le (by rw [data_length]; omega)] at hd
    have hb := Lib.decFrom_lt18 hd (by rw [data_length]; exact ht)
    have hm : magL t.data.toList = (acc : Int) := by unfold magL; rw [hd]; rfl
    rw [if_pos (dec_dig _ _ _ hd), hm]
    refine Ev.succ ?_
    simp only [threshingref13_number.l0, if_neg (show ¬ (i : Int) < (t.size : Int) by omega)]
    refine Ev.ret ?_
    rcases hsg with rfl | rfl
    · exact wrap_id (by omega) (by omega)
    · exact wrap_id (by omega) (by omega)
  | m + 1, i, acc, hi, hd => by
    obtain ⟨b, h1, h2⟩ := bt_data t i (by omega)
    by_cases hdg : 48 ≤ b.toNat ∧ b.toNat ≤ 57
    · have hdv : Lib.digitVal b = some (b.toNat - 48) := by unfold Lib.digitVal; rw [if_pos hdg]
      have hd2 := Lib.decFrom_take t.data.toList i 0 acc b _ hd h1 hdv
      have hlt := Lib.decFrom_lt _ _ _ hd2
      have hlen : (t.data.toList.take (i + 1)).length = i + 1 := by rw [List.length_take, data_length]; omega
      rw [hlen] at hlt
      have hpow : 10 ^ (i + 1) ≤ 10 ^ 18 := Nat.pow_le_pow_right (by decide) (by omega)
      have hbnd : acc * 10 + (b.toNat - 48) < 1000000000000000000 := by
        have : (0 + 1) * 10 ^ (i + 1) ≤ 1000000000000000000 := by simpa using hpow
        omega
      have ih := rnum_go t sg hsg ht m (i + 1) _ (by omega) hd2
      have e1 : wrap64 (10 * (acc : Int)) = 10 * (acc : Int) := wrap_id (by omega) (by omega)
      have e2 : ((b.toNat : Int) - 48) % 256 = (b.toNat : Int) - 48 := by omega
      have e3 : wrap64 (10 * (acc : Int) + ((b.toNat : Int) - 48)) = ((acc * 10 + (b.toNat - 48) : Nat) : Int) := by
        rw [wrap_id (by omega) (by omega)]
        omega
      refine Ev.succ ?_
      simp only [threshingref13_number.l0, if_pos (show (i : Int) < (t.size : Int) by omega), if_pos (show (0 : Int) ≤ (i : Int) by omega), h2, if_neg (show ¬ (b.toNat : Int) < 48 by omega), if_neg (show ¬ (b.toNat : Int) > 57 by omega), e1, e2, e3, wrap_succ (i := i) (by omega)]
      exact ih
    · have hno : ¬ t.data.toList.all dig = true := by
        intro h
        have := List.all_eq_true.1 h b (List.mem_of_getElem? h1)
        unfold dig at this
        exact hdg (of_decide_eq_true this)
      rw [if_neg hno]
      refine Ev.succ ?_
      simp only [threshingref13_number.l0, if_pos (show (i : Int) < (t.size : Int) by omega), if_pos (show (0 : Int) ≤ (i : Int) by omega), h2]
      by_cases c : (b.toNat : Int) < 48
      · simp only [if_pos c]; exact Ev.now _
      · simp only [if_neg c, if_pos (show (b.toNat : Int) > 57 by omega)]; exact Ev.now _
theorem rnum_j1 (t : ByteArray) (sg : Int) (hsg : sg = 1 ∨ sg = -1) : Ev (fun k => threshingref13_number.j1 k t sg) (if okL t.data.toList = true then sg * magL t.data.toList else 0) := by
  have hlen := data_length t
  refine Ev.succ ?_
  by_cases h0 : (t.size : Int) < 1
  · have : okL t.data.toList = false := by
      have h1 : t.data.toList = [] := List.eq_nil_of_length_eq_zero (by omega)
      rw [h1]; rfl
    simp only [threshingref13_number.j1, if_pos h0, this, Bool.false_eq_true, if_false]
    refine Ev.succ ?_
    simp only [threshingref13_number.j2, if_true]
    exact Ev.now _
  · simp only [threshingref13_number.j1, if_neg h0]
    by_cases h1 : (t.size : Int) > 18
    · have : okL t.data.toList = false := by
        unfold okL
        have h2 : ¬ t.data.toList.length ≤ 18 := by omega
        rw [decide_eq_false h2, Bool.and_false, Bool.false_and]
      simp only [decide_eq_true h1, this, Bool.false_eq_true, if_false]
      refine Ev.succ ?_
      simp only [threshingref13_number.j2, if_true]
      exact Ev.now _
    · have hok : okL t.data.toList = t.data.toList.all dig := by
        unfold okL
        have h2 : t.data.toList.length ≤ 18 := by omega
        have h3 : t.data.toList ≠ [] := fun e => by rw [e] at hlen; simp at hlen; omega
        rw [decide_eq_true h2, decide_eq_true h3, Bool.true_and, Bool.true_and]
      simp only [decide_eq_false h1, hok]
      refine Ev.succ ?_
      simp only [threshingref13_number.j2, Bool.false_eq_true, if_false]
      exact rnum_go t sg hsg (by omega) t.size 0 0 (by omega) rfl
theorem rnumber (s : ByteArray) : Ev (fun k => threshingref13_number.f k s) (numberL s.data.toList) := by
  have hlen := data_length s
  unfold threshingref13_number.f
  rcases hq : s.data.toList with _ | ⟨c, r⟩
  · rw [hq] at hlen
    have hz : s.size = 0 := hlen.symm
    simp only [if_neg (show ¬ (s.size : Int) > 0 by omega)]
    refine Ev.succ ?_
    simp only [threshingref13_number.j0, Bool.false_eq_true, if_false]
    have := rnum_j1 s 1 (.inl rfl)
    rw [hq] at this
    exact this
  · rw [hq] at hlen
    have hz : 0 < s.size := by rw [← hlen]; simp
    obtain ⟨b, h1, h2⟩ := bt_data s 0 hz
    rw [hq] at h1
    obtain rfl : c = b := by simpa using h1
    have h2 : bt s 0 = (c.toNat : Int) := h2
    simp only [if_pos (show (s.size : Int) > 0 by omega), if_pos (show (0 : Int) < (s.size : Int) by omega), h2]
    refine Ev.succ ?_
    by_cases hc : c = 45
    · subst hc
      simp only [threshingref13_number.j0, show (((45 : UInt8).toNat : Int) == 45) = true from rfl, if_true, if_pos (show (1 : Int) ≤ (s.size : Int) by omega)]
      have := rnum_j1 (s.extract 1 s.size) (-1) (.inr rfl)
      rw [data_extract, hq] at this
      refine this.to ?_
      unfold numberL
      rw [if_pos (show (45 :: r : List UInt8).head? = some 45 from rfl)]
      show (if okL r = true then -1 * magL r else 0) = if okL r = true then -magL r else 0
      by_cases h : okL r = true
      · rw [if_pos h, if_pos h]; omega
      · rw [if_neg h, if_neg h]
    · have hb : ((c.toNat : Int) == 45) = false := by
        have : ¬ c.toNat = 45 := fun h => hc (UInt8.toNat_inj.1 h)
        simp
        omega
      simp only [threshingref13_number.j0, hb, Bool.false_eq_true, if_false]
      have := rnum_j1 s 1 (.inl rfl)
      rw [hq] at this
      refine this.to ?_
      unfold numberL
      rw [if_neg (show ¬ (c :: r : List UInt8).head? = some 45 by simp [hc])]
      by_cases h : okL (c :: r) = true
      · rw [if_pos h, if_pos h]; omega
      · rw [if_neg h, if_neg h]
/-! ### figures -/
theorem app_data (a b : List UInt8) : (⟨a.toArray⟩ ++ ⟨b.toArray⟩ : ByteArray) = ⟨(a ++ b).toArray⟩ := by
  apply ext_data
  rw [ByteArray.data_append]
  simp
theorem size_data (a : List UInt8) : (⟨a.toArray⟩ : ByteArray).size = a.length := by
  show a.toArray.size = a.length
  simp
theorem rfigs : ∀ (n : Nat), n < 18446744073709551616 → Ev (fun k => threshingref13_figures.f k (n : Int)) (⟨(Lib.decDigits n).toArray⟩ : ByteArray) := by
  intro n
  induction n using Nat.strongRecOn with
  | _ n ih =>
    intro hn
    have h1 : Int.tmod (n : Int) 10 = ((n % 10 : Nat) : Int) := by rw [Int.tmod_eq_emod_of_nonneg (by omega)]; omega
    have h2 : IntKind.u64.wrap (48 + ((n % 10 : Nat) : Int)) % 256 = ((48 + n % 10 : Nat) : Int) := by rw [IntKind.wrap_u64]; omega
    have h3 : strOfNums [((48 + n % 10 : Nat) : Int)] = (⟨[UInt8.ofNat (48 + n % 10)].toArray⟩ : ByteArray) := by
      unfold strOfNums
      rw [List.map_cons, List.map_nil, Int.toNat_natCast]
    refine Ev.succ ?_
    simp only [threshingref13_figures.f, h1, h2, Option.bind_some, h3]
    by_cases c : n < 10
    · simp only [if_pos (show (n : Int) < 10 by omega)]
      refine Ev.ret ?_
      rw [Lib.decDigits, dif_pos c, Nat.mod_eq_of_lt c]
    · simp only [if_neg (show ¬ (n : Int) < 10 by omega)]
      have h4 : IntKind.u64.wrap (Int.tdiv (n : Int) 10) = ((n / 10 : Nat) : Int) := by
        rw [Int.tdiv_eq_ediv_of_nonneg (by omega), IntKind.wrap_u64]; omega
      rw [h4]
      refine Ev.bind (ih (n / 10) (by omega) (by omega)) ?_
      have hl : (Lib.decDigits (n / 10)).length ≤ 20 := by rw [Lib.decDigits_length]; exact Lib.nDigits_le20 _ (by omega)
      rw [size_data, size_data]
      simp only [List.length_cons, List.length_nil]
      simp only [if_pos (show (Lib.decDigits (n / 10)).length + (0 + 1) ≤ 9223372036854775807 by omega)]
      refine Ev.ret ?_
      rw [app_data]
      conv => rhs; rw [Lib.decDigits, dif_neg c]
theorem rfigures (n : Int) (h : -9223372036854775808 ≤ n ∧ n ≤ 9223372036854775807) : Ev (fun k => threshingref13_Figures.f k n) (itoaS n) := by
  unfold threshingref13_Figures.f itoaS Lib.itoa
  by_cases c : n < 0
  · have h1 : IntKind.u64.wrap (-(IntKind.u64.wrap n)) = ((n.natAbs : Nat) : Int) := by rw [IntKind.wrap_u64, IntKind.wrap_u64]; omega
    simp only [if_pos c, h1]
    refine Ev.bind (rfigs _ (by omega)) ?_
    have hl : (Lib.decDigits n.natAbs).length ≤ 20 := by rw [Lib.decDigits_length]; exact Lib.nDigits_le20 _ (by omega)
    rw [size_data]
    simp only [if_pos (show 1 + (Lib.decDigits n.natAbs).length ≤ 9223372036854775807 by omega)]
    refine Ev.ret ?_
    exact app_data [45] _
  · have h1 : IntKind.u64.wrap n = ((n.toNat : Nat) : Int) := by rw [IntKind.wrap_u64]; omega
    simp only [if_neg c, h1]
    refine Ev.bind (rfigs _ (by omega)) ?_
    exact Ev.now _
/-! ### find -/
theorem occ_take (l m : List UInt8) (i : Nat) : Lib.occAt l m i = true ↔ (l.drop i).take m.length = m := by
  unfold Lib.occAt
  rw [List.isPrefixOf_iff_prefix, List.prefix_iff_eq_take]
  exact eq_comm
theorem rfind_go (s t : ByteArray) (hs : s.size ≤ 140737488351232) (ht : t.size ≤ 140737488351232) : ∀ (n i : Nat), i + n = s.size + 1 → (∀ j, j < i → Lib.occAt s.data.toList t.data.toList j = false) →
    Ev (fun k => threshingref13_find.l0 k s t (i : Int)) (Lib.index s.data.toList t.data.toList) := by
  have hls := data_length s
  have hlt := data_length t
  have far : ∀ i : Nat, s.size < i + t.size → (∀ j, j < i → Lib.occAt s.data.toList t.data.toList j = false) → Lib.index s.data.toList t.data.toList = -1 := fun i h hno => by
    refine Lib.index_none fun j hj => ?_
    by_cases c : j < i
    · exact hno j c
    · rcases hq : Lib.occAt s.data.toList t.data.toList j with _ | _
      · rfl
      · have h1 := congrArg List.length ((occ_take _ _ _).1 hq)
        rw [List.length_take, List.length_drop] at h1
        omega
  have last : ∀ i : Nat, i ≤ s.size + 1 → s.size < i + t.size → (∀ j, j < i → Lib.occAt s.data.toList t.data.toList j = false) → Ev (fun k => threshingref13_find.l0 k s t (i : Int)) (Lib.index s.data.toList t.data.toList) := fun i hi h hno => by
    rw [far i h hno]
    refine Ev.succ ?_
    have hw : wrap64 ((i : Int) + (t.size : Int)) = (i : Int) + (t.size : Int) := wrap_id (by omega) (by omega)
    simp only [threshingref13_find.l0, hw, if_neg (show ¬ (i : Int) + (t.size : Int) ≤ (s.size : Int) by omega)]
    exact Ev.now _
  intro n
  induction n with
  | zero => intro i hi hno; exact last i (by omega) (by omega) hno
  | succ n ih =>
    intro i hi hno
    by_cases c : i + t.size ≤ s.size
    · have hw : wrap64 ((i : Int) + (t.size : Int)) = ((i + t.size : Nat) : Int) := by rw [wrap_id (by omega) (by omega)]; omega
      have he : (s.extract i (i + t.size)).toList = t.toList ↔ Lib.occAt s.data.toList t.data.toList i = true := by
        rw [toList_data, toList_data, Lib.extract_data, occ_take, hlt, Nat.add_sub_cancel_left]
      refine Ev.succ ?_
      simp only [threshingref13_find.l0, hw, if_pos (show ((i + t.size : Nat) : Int) ≤ (s.size : Int) by omega), if_pos (show (0 : Int) ≤ (i : Int) by omega), if_pos (show (i : Int) ≤ ((i + t.size : Nat) : Int) by omega), Int.toNat_natCast]
      by_cases h : (s.extract i (i + t.size)).toList = t.toList
      · simp only [if_pos h]
        refine Ev.ret ?_
        exact (Lib.index_first (by omega) (he.1 h) hno).symm
      · simp only [if_neg h, wrap_succ (i := i) (by omega)]
        refine ih (i + 1) (by omega) fun j hj => ?_
        by_cases d : j < i
        · exact hno j d
        · obtain rfl : j = i := by omega
          rcases hq : Lib.occAt s.data.toList t.data.toList j with _ | _
          · rfl
          · exact absurd (he.2 hq) h
    · exact last i (by omega) (by omega) hno
theorem rfind (s t : ByteArray) (hs : s.size ≤ 140737488351232) (ht : t.size ≤ 140737488351232) : Ev (fun k => threshingref13_find.f k s t) (Lib.index s.data.toList t.data.toList) :=
  rfind_go s t hs ht (s.size + 1) 0 (by omega) (fun j hj => absurd hj (Nat.not_lt_zero _))
/-! ### Do -/
def unSv (x : XOps.Sv) : Bool × Int × ByteArray := (x.f0, x.f1, x.f2)
theorem ryes (b : Bool) : threshingref13_yes.f b = some (false, (if b = true then 1 else 0), (⟨#[]⟩ : ByteArray)) := by cases b <;> rfl
theorem rreck (o : Int) (x y z : XOps.Sv) (hx : Fit x) (ho : o = 4 ∨ o = 5 ∨ o = 6 ∨ o = 7 ∨ o = 8 ∨ o = 14 ∨ o = 15 ∨ o = 16 ∨ o = 17) : Ev (fun k => threshingref13_reckoned.f k o x.f0 x.f1 x.f2 y.f0 y.f1 y.f2 z.f0 z.f1 z.f2) (unSv (opV o x y z)) := by
  unfold threshingref13_reckoned.f
  simp only [rdiv _ _ hx.num, Option.bind_some]
  rcases ho with rfl | rfl | rfl | rfl | rfl | rfl | rfl | rfl | rfl
  · exact Ev.const rfl
  · exact Ev.const rfl
  · exact Ev.const rfl
  · exact Ev.const rfl
  · exact Ev.const rfl
  · refine Ev.bind (rcompare x y) ?_
    rw [ryes]
    exact Ev.now _
  · refine Ev.bind (rcompare x y) ?_
    rw [ryes]
    exact Ev.now _
  · show Ev (fun k => threshingref13_yes.f (x.f1 == 0)) _
    rw [ryes]
    exact Ev.now _
  · refine Ev.const ?_
    show (if x.f1 = 0 then some (z.f0, z.f1, z.f2) else some (y.f0, y.f1, y.f2)) = some (unSv (if x.f1 = 0 then z else y))
    by_cases c : x.f1 = 0
    · rw [if_pos c, if_pos c]; rfl
    · rw [if_neg c, if_neg c]; rfl
theorem rtexted (o : Int) (x y z : XOps.Sv) (hx : Fit x) (hy : Fit y) (ho : o = 9 ∨ o = 10 ∨ o = 11 ∨ o = 12 ∨ o = 13 ∨ o = 18 ∨ o = 19 ∨ o = 20 ∨ o = 21) : Ev (fun k => threshingref13_texted.f k o x.f0 x.f1 x.f2 y.f0 y.f1 y.f2 z.f0 z.f1 z.f2) (unSv (opV o x y z)) := by
  have h1 := hx.size
  have h2 := hy.size
  unfold threshingref13_texted.f
  rcases ho with rfl | rfl | rfl | rfl | rfl | rfl | rfl | rfl | rfl
  · refine Ev.const ?_
    show (if x.f2.size + y.f2.size ≤ 9223372036854775807 then _ else none) = _
    rw [if_pos (by omega), rtext]
    rfl
  · exact Ev.const rfl
  · refine Ev.const ?_
    show (threshingref13_slice.f x.f2 y.f1 z.f1).bind _ = _
    rw [rslice _ _ _ h1, Option.bind_some, rtext]
    rfl
  · refine Ev.bind (rturn x.f2 97 (by decide) h1) ?_
    rw [rtext]
    exact Ev.now _
  · refine Ev.bind (rturn x.f2 65 (by decide) h1) ?_
    rw [rtext]
    exact Ev.now _
  · refine Ev.bind (rnumber x.f2) ?_
    exact Ev.now _
  · refine Ev.bind (rfigures x.f1 hx.num) ?_
    rw [rtext]
    exact Ev.now _
  · refine Ev.bind (rhash x.f2 h1) ?_
    exact Ev.now _
  · refine Ev.bind (rfind x.f2 y.f2 h1 h2) ?_
    exact Ev.now _
theorem op_list {o : Int} {ks : List Int} {t : Int} {f : Nat} (h : XOps.opFn o = some (ks, t, f)) : (o = 4 ∨ o = 5 ∨ o = 6 ∨ o = 7 ∨ o = 8 ∨ o = 14 ∨ o = 15 ∨ o = 16 ∨ o = 17) ∨ (o = 9 ∨ o = 10 ∨ o = 11 ∨ o = 12 ∨ o = 13 ∨ o = 18 ∨ o = 19 ∨ o = 20 ∨ o = 21) := by
  rcases op_cases o with rfl | rfl | rfl | rfl | rfl | rfl | rfl | rfl | rfl | rfl | rfl | rfl | rfl | rfl | rfl | rfl | rfl | rfl | hn
  case inr.inr.inr.inr.inr.inr.inr.inr.inr.inr.inr.inr.inr.inr.inr.inr.inr.inr => rw [op_none hn] at h; cases h
  all_goals omega
theorem rdo_j2 (o : Int) (x y z : XOps.Sv) (hx : Fit x) (hy : Fit y) {ks : List Int} {t : Int} {f : Nat} (h : XOps.opFn o = some (ks, t, f)) : Ev (fun k => threshingref13_Do.j2 k o x.f0 x.f1 x.f2 y.f0 y.f1 y.f2 z.f0 z.f1 z.f2) ((opV o x y z).f0, (opV o x y z).f1, (opV o x y z).f2, 0) := by
  refine Ev.succ ?_
  rcases op_list h with ho | ho
  · have key : Ev (fun k => threshingref13_Do.j3 k o true x.f0 x.f1 x.f2 y.f0 y.f1 y.f2 z.f0 z.f1 z.f2) ((opV o x y z).f0, (opV o x y z).f1, (opV o x y z).f2, 0) := by
      refine Ev.succ ?_
      simp only [threshingref13_Do.j3, if_true]
      exact Ev.bind (rreck o x y z hx ho) (Ev.now _)
    by_cases c : o ≤ 8
    · simp only [threshingref13_Do.j2, if_pos c]
      exact key
    · simp only [threshingref13_Do.j2, if_neg c, if_pos (show o ≥ 14 by omega), decide_eq_true (show o ≤ 17 by omega)]
      exact key
  · have key : Ev (fun k => threshingref13_Do.j3 k o false x.f0 x.f1 x.f2 y.f0 y.f1 y.f2 z.f0 z.f1 z.f2) ((opV o x y z).f0, (opV o x y z).f1, (opV o x y z).f2, 0) := by
      refine Ev.succ ?_
      simp only [threshingref13_Do.j3, Bool.false_eq_true, if_false]
      exact Ev.bind (rtexted o x y z hx hy ho) (Ev.now _)
    have c : ¬ o ≤ 8 := by omega
    by_cases c2 : o ≥ 14
    · simp only [threshingref13_Do.j2, if_neg c, if_pos c2, decide_eq_false (show ¬ o ≤ 17 by omega)]
      exact key
    · simp only [threshingref13_Do.j2, if_neg c, if_neg c2]
      exact key
theorem rdo_end (o : Int) (l : List XOps.Sv) (hn : ∀ v ∈ l, -9223372036854775808 ≤ v.f1 ∧ v.f1 ≤ 9223372036854775807) (c1 : ¬ l.any (fun x => !XOps.isValB x) = true) :
    Ev (fun k => threshingref13_Do.l0 k o l (l.map (·.f0)) (l.length : Int)) (doV o l) := by
  have hv := getD_val c1
  have hN := getD_num hn
  have fit : ∀ i, Fit (l.getD i XOps.zv) := fun i => ⟨by have := isVal_size (hv i); omega, hN i⟩
  refine Ev.succ ?_
  simp only [threshingref13_Do.l0, if_neg (show ¬ (l.length : Int) < (l.length : Int) by omega)]
  refine Ev.bind (result_f o _) ?_
  by_cases c2 : (XOps.resultF o (l.map (·.f0))).2 ≠ 0
  · have hd : doV o l = (false, 0, (⟨#[]⟩ : ByteArray), (XOps.resultF o (l.map (·.f0))).2) := by
      unfold doV
      rw [if_neg c1, if_pos c2]
    rw [hd]
    simp only [if_neg c2]
    exact Ev.now _
  · have c4 : (XOps.resultF o (l.map (·.f0))).2 = 0 := by simpa using c2
    have c3 : XOps.resultF o (l.map (·.f0)) = ((XOps.resultF o (l.map (·.f0))).1, 0) := by rw [← c4]
    obtain ⟨ks, t, f, hof, hk, hk0, hk3⟩ := XOps.res_len c3
    rw [List.length_map] at hk
    have hd : doV o l = ((opV o (l.getD 0 XOps.zv) (l.getD 1 XOps.zv) (l.getD 2 XOps.zv)).f0, (opV o (l.getD 0 XOps.zv) (l.getD 1 XOps.zv) (l.getD 2 XOps.zv)).f1, (opV o (l.getD 0 XOps.zv) (l.getD 1 XOps.zv) (l.getD 2 XOps.zv)).f2, 0) := by
      unfold doV
      rw [if_neg c1, if_neg c2]
    rw [hd]
    simp only [c4, if_true]
    have hj2 := rdo_j2 o (l.getD 0 XOps.zv) (l.getD 1 XOps.zv) (l.getD 2 XOps.zv) (fit 0) (fit 1) hof
    have hl : l.length = 1 ∨ l.length = 2 ∨ l.length = 3 := by omega
    rcases hl with hl | hl | hl
    · rcases l with _ | ⟨x, _ | ⟨y, r⟩⟩ <;> simp at hl
      simp only [List.length_cons, List.length_nil, if_pos (show (0 : Int) < ((0 + 1 : Nat) : Int) by decide), if_neg (show ¬ ((0 + 1 : Nat) : Int) > 1 by decide)]
      refine Ev.succ ?_
      simp only [threshingref13_Do.j1, List.length_cons, List.length_nil, if_neg (show ¬ ((0 + 1 : Nat) : Int) > 2 by decide)]
      exact hj2
    · rcases l with _ | ⟨x, _ | ⟨y, _ | ⟨z, r⟩⟩⟩ <;> simp at hl
      simp only [List.length_cons, List.length_nil, if_pos (show (0 : Int) < ((0 + 1 + 1 : Nat) : Int) by decide), if_pos (show ((0 + 1 + 1 : Nat) : Int) > 1 by decide), if_pos (show (1 : Int) < ((0 + 1 + 1 : Nat) : Int) by decide)]
      refine Ev.succ ?_
      simp only [threshingref13_Do.j1, List.length_cons, List.length_nil, if_neg (show ¬ ((0 + 1 + 1 : Nat) : Int) > 2 by decide)]
      exact hj2
    · rcases l with _ | ⟨x, _ | ⟨y, _ | ⟨z, _ | ⟨q, r⟩⟩⟩⟩ <;> simp at hl
      simp only [List.length_cons, List.length_nil, if_pos (show (0 : Int) < ((0 + 1 + 1 + 1 : Nat) : Int) by decide), if_pos (show ((0 + 1 + 1 + 1 : Nat) : Int) > 1 by decide), if_pos (show (1 : Int) < ((0 + 1 + 1 + 1 : Nat) : Int) by decide)]
      refine Ev.succ ?_
      simp only [threshingref13_Do.j1, List.length_cons, List.length_nil, if_pos (show ((0 + 1 + 1 + 1 : Nat) : Int) > 2 by decide), if_pos (show (2 : Int) < ((0 + 1 + 1 + 1 : Nat) : Int) by decide)]
      exact hj2
theorem rdo_go (o : Int) (l : List XOps.Sv) (hl : l.length ≤ 1000000) (hn : ∀ v ∈ l, -9223372036854775808 ≤ v.f1 ∧ v.f1 ≤ 9223372036854775807) : ∀ m i : Nat, i + m = l.length → (∀ j, j < i → XOps.isValB (l.getD j XOps.zv) = true) →
    Ev (fun k => threshingref13_Do.l0 k o l ((l.take i).map (·.f0)) (i : Int)) (doV o l)
  | 0, i, hi, hg => by
    obtain rfl : i = l.length := by omega
    rw [List.take_length]
    refine rdo_end o l hn ?_
    rw [List.any_eq_true]
    rintro ⟨x, hx, hx2⟩
    obtain ⟨j, hj, rfl⟩ := List.getElem_of_mem hx
    have := hg j hj
    rw [List.getD_eq_getElem?_getD, List.getElem?_eq_getElem hj, Option.getD_some] at this
    rw [this] at hx2
    cases hx2
  | m + 1, i, hi, hg => by
    have hlt : i < l.length := by omega
    have hx : rd_T27 l (i : Int) = l.getD i XOps.zv := rfl
    by_cases hv : XOps.isValB (l.getD i XOps.zv) = true
    · have ih := rdo_go o l hl hn m (i + 1) (by omega) (fun j hj => by
        rcases Nat.lt_or_ge j i with h | h
        · exact hg j h
        · obtain rfl : j = i := by omega
          exact hv)
      have ht : (l.take (i + 1)).map (·.f0) = (l.take i).map (·.f0) ++ [(l.getD i XOps.zv).f0] := by
        rw [List.take_add_one, List.getElem?_eq_getElem hlt, List.map_append, List.getD_eq_getElem?_getD, List.getElem?_eq_getElem hlt]
        rfl
      rw [ht] at ih
      refine Ev.succ ?_
      simp only [threshingref13_Do.l0, if_pos (show (i : Int) < (l.length : Int) by omega), if_pos (show (0 : Int) ≤ (i : Int) by omega), hx, is_, Option.bind_some, if_pos hv, if_pos (show ((l.take i).map (·.f0)).length < 140737488355328 by simp; omega), wrap_succ (i := i) (by omega)]
      exact ih
    · refine Ev.succ ?_
      simp only [threshingref13_Do.l0, if_pos (show (i : Int) < (l.length : Int) by omega), if_pos (show (0 : Int) ≤ (i : Int) by omega), hx, is_, Option.bind_some, if_neg hv]
      refine Ev.ret ?_
      have c1 : l.any (fun x => !XOps.isValB x) = true := by
        refine List.any_eq_true.2 ⟨l[i], List.getElem_mem hlt, ?_⟩
        rw [List.getD_eq_getElem?_getD, List.getElem?_eq_getElem hlt] at hv
        simp only [Option.getD_some] at hv
        simp [hv]
      unfold doV
      rw [if_pos c1]
theorem rdo (o : Int) (l : List XOps.Sv) (hl : l.length ≤ 1000000) (hn : ∀ v ∈ l, -9223372036854775808 ≤ v.f1 ∧ v.f1 ≤ 9223372036854775807) : Ev (fun k => threshingref13_Do.f k o l) (doV o l) :=
  rdo_go o l hl hn l.length 0 (by omega) (fun j hj => absurd hj (Nat.not_lt_zero _))
end Go.Proofs.YtpgddpkljbgjpaaGreatDoorL
