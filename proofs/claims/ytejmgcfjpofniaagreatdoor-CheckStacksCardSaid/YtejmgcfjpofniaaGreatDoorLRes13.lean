/- Layer 13: the document's kinds, Arity, Result, in the same plain words. -/
import Derived.Test.YtejmgcfjpofniaaGreatDoorPXx
import Derived.Test.YtejmgcfjpofniaaGreatDoorLBase
set_option linter.unusedVariables false
set_option linter.unusedSimpArgs false
namespace Go.Proofs.YtejmgcfjpofniaaGreatDoorL
open Go.RowKit Go.Proofs Go.Proofs.YtejmgcfjpofniaaGreatDoor Go.Proofs.YtejmgcfjpofniaaGreatDoor.PX Go.Proofs.YtejmgcfjpofniaaGreatDoorW.PrintWords Go.Proofs.YtejmgcfjpofniaaGreatDoorW.PrintMore
/-! ### kinds, Arity, Result -/
def kk (o : Int) : ByteArray × ByteArray :=
  if o = 4 ∨ o = 5 ∨ o = 6 ∨ o = 7 ∨ o = 8 then (⟨#[110, 110]⟩, ⟨#[110]⟩) else if o = 9 then (⟨#[116, 116]⟩, ⟨#[116]⟩) else if o = 10 ∨ o = 18 ∨ o = 20 then (⟨#[116]⟩, ⟨#[110]⟩)
  else if o = 11 then (⟨#[116, 110, 110]⟩, ⟨#[116]⟩) else if o = 12 ∨ o = 13 then (⟨#[116]⟩, ⟨#[116]⟩) else if o = 14 ∨ o = 15 then (⟨#[97, 97]⟩, ⟨#[110]⟩)
  else if o = 16 then (⟨#[110]⟩, ⟨#[110]⟩) else if o = 17 then (⟨#[110, 97, 97]⟩, ⟨#[97]⟩) else if o = 19 then (⟨#[110]⟩, ⟨#[116]⟩) else if o = 21 then (⟨#[116, 116]⟩, ⟨#[110]⟩) else (⟨#[]⟩, ⟨#[]⟩)
theorem op_cases (o : Int) : o = 4 ∨ o = 5 ∨ o = 6 ∨ o = 7 ∨ o = 8 ∨ o = 9 ∨ o = 10 ∨ o = 11 ∨ o = 12 ∨ o = 13 ∨ o = 14 ∨ o = 15 ∨ o = 16 ∨ o = 17 ∨ o = 18 ∨ o = 19 ∨ o = 20 ∨ o = 21 ∨ (o ≠ 4 ∧ o ≠ 5 ∧ o ≠ 6 ∧ o ≠ 7 ∧ o ≠ 8 ∧ o ≠ 9 ∧ o ≠ 10 ∧ o ≠ 11 ∧ o ≠ 12 ∧ o ≠ 13 ∧ o ≠ 14 ∧ o ≠ 15 ∧ o ≠ 16 ∧ o ≠ 17 ∧ o ≠ 18 ∧ o ≠ 19 ∧ o ≠ 20 ∧ o ≠ 21) := by omega
theorem kinds_f (o : Int) : Ev (fun k => threshingref13_kinds.f k o) (kk o) := by
  refine Ev.at_k 8 (fun k => threshingref13_kinds.mono _ k) ?_
  rcases op_cases o with rfl | rfl | rfl | rfl | rfl | rfl | rfl | rfl | rfl | rfl | rfl | rfl | rfl | rfl | rfl | rfl | rfl | rfl | ⟨h4, h5, h6, h7, h8, h9, h10, h11, h12, h13, h14, h15, h16, h17, h18, h19, h20, h21⟩
  case inr.inr.inr.inr.inr.inr.inr.inr.inr.inr.inr.inr.inr.inr.inr.inr.inr.inr =>
    have b8 : (o == 8) = false := by simp [h8]
    have b10 : (o == 10) = false := by simp [h10]
    have b18 : (o == 18) = false := by simp [h18]
    have b20 : (o == 20) = false := by simp [h20]
    have b12 : (o == 12) = false := by simp [h12]
    have b13 : (o == 13) = false := by simp [h13]
    have b14 : (o == 14) = false := by simp [h14]
    have b15 : (o == 15) = false := by simp [h15]
    simp only [threshingref13_kinds.f, threshingref13_kinds.j0, threshingref13_kinds.j1, threshingref13_kinds.j2, threshingref13_kinds.j3, kk, h4, h5, h6, h7, h8, h9, h10, h11, h12, h13, h14, h15, h16, h17, h18, h19, h20, h21, b8, b10, b18, b20, b12, b13, b14, b15, if_false, Bool.false_eq_true, or_self]
  all_goals kernel_rfl
theorem op_kk {o : Int} (h : XOps.opFn o = none) : kk o = (⟨#[]⟩, ⟨#[]⟩) := by
  rcases op_cases o with rfl | rfl | rfl | rfl | rfl | rfl | rfl | rfl | rfl | rfl | rfl | rfl | rfl | rfl | rfl | rfl | rfl | rfl | ⟨h4, h5, h6, h7, h8, h9, h10, h11, h12, h13, h14, h15, h16, h17, h18, h19, h20, h21⟩
  case inr.inr.inr.inr.inr.inr.inr.inr.inr.inr.inr.inr.inr.inr.inr.inr.inr.inr =>
    simp only [kk, h4, h5, h6, h7, h8, h9, h10, h11, h12, h13, h14, h15, h16, h17, h18, h19, h20, h21, if_false, or_self]
  all_goals cases h
theorem op_none {o : Int} (h : o ≠ 4 ∧ o ≠ 5 ∧ o ≠ 6 ∧ o ≠ 7 ∧ o ≠ 8 ∧ o ≠ 9 ∧ o ≠ 10 ∧ o ≠ 11 ∧ o ≠ 12 ∧ o ≠ 13 ∧ o ≠ 14 ∧ o ≠ 15 ∧ o ≠ 16 ∧ o ≠ 17 ∧ o ≠ 18 ∧ o ≠ 19 ∧ o ≠ 20 ∧ o ≠ 21) : XOps.opFn o = none := by
  obtain ⟨h4, h5, h6, h7, h8, h9, h10, h11, h12, h13, h14, h15, h16, h17, h18, h19, h20, h21⟩ := h
  simp only [XOps.opFn, h4, h5, h6, h7, h8, h9, h10, h11, h12, h13, h14, h15, h16, h17, h18, h19, h20, h21, if_false]
theorem arity_f (o : Int) : Ev (fun k => threshingref13_Arity.f k o) (XOps.arityF o) := by
  unfold threshingref13_Arity.f
  refine Ev.bind (kinds_f o) (Ev.ret ?_)
  rcases op_cases o with rfl | rfl | rfl | rfl | rfl | rfl | rfl | rfl | rfl | rfl | rfl | rfl | rfl | rfl | rfl | rfl | rfl | rfl | hn
  case inr.inr.inr.inr.inr.inr.inr.inr.inr.inr.inr.inr.inr.inr.inr.inr.inr.inr =>
    rw [op_kk (op_none hn)]
    unfold XOps.arityF
    rw [op_none hn]
    rfl
  all_goals kernel_rfl
theorem res_two {o : Int} {x : Bool × Int} (h : ∀ a b, threshingref13_Result.f 30 o [a, b] = some (XOps.resultF o [a, b])) (l : List Bool) (hl : l.length = 2) : Ev (fun k => threshingref13_Result.f k o l) (XOps.resultF o l) := by
  rcases l with _ | ⟨a, _ | ⟨b, _ | ⟨c, r⟩⟩⟩ <;> simp at hl
  exact Ev.at_k 30 (fun k => threshingref13_Result.mono _ _ k) (h a b)
theorem res_one {o : Int} (h : ∀ a, threshingref13_Result.f 30 o [a] = some (XOps.resultF o [a])) (l : List Bool) (hl : l.length = 1) : Ev (fun k => threshingref13_Result.f k o l) (XOps.resultF o l) := by
  rcases l with _ | ⟨a, _ | ⟨b, r⟩⟩ <;> simp at hl
  exact Ev.at_k 30 (fun k => threshingref13_Result.mono _ _ k) (h a)
theorem res_three {o : Int} (h : ∀ a b c, threshingref13_Result.f 30 o [a, b, c] = some (XOps.resultF o [a, b, c])) (l : List Bool) (hl : l.length = 3) : Ev (fun k => threshingref13_Result.f k o l) (XOps.resultF o l) := by
  rcases l with _ | ⟨a, _ | ⟨b, _ | ⟨c, _ | ⟨d, r⟩⟩⟩⟩ <;> simp at hl
  exact Ev.at_k 30 (fun k => threshingref13_Result.mono _ _ k) (h a b c)
theorem res_off {o : Int} {ks : List Int} {t : Int} {f : Nat} (hq : XOps.opFn o = some (ks, t, f)) (hk : (kk o).1.size = ks.length) (hn : ¬ (kk o).1.toList = []) (l : List Bool) (hl : l.length ≠ ks.length) : Ev (fun k => threshingref13_Result.f k o l) (XOps.resultF o l) := by
  unfold threshingref13_Result.f
  refine Ev.bind (kinds_f o) ?_
  simp only [if_neg hn, if_neg (show ¬ (l.length : Int) = ((kk o).1.size : Int) by rw [hk]; omega)]
  refine Ev.ret ?_
  rw [XOps.res_short hq rfl hl]
theorem result_f (o : Int) (l : List Bool) : Ev (fun k => threshingref13_Result.f k o l) (XOps.resultF o l) := by
  rcases op_cases o with rfl | rfl | rfl | rfl | rfl | rfl | rfl | rfl | rfl | rfl | rfl | rfl | rfl | rfl | rfl | rfl | rfl | rfl | hn
  · by_cases hl : l.length = 2
    · exact res_two (x := (false, 0)) (fun a b => by cases a <;> cases b <;> kernel_rfl) l hl
    · exact res_off (show XOps.opFn 4 = _ from rfl) rfl (by rw [toList_data]; decide) l hl
  · by_cases hl : l.length = 2
    · exact res_two (x := (false, 0)) (fun a b => by cases a <;> cases b <;> kernel_rfl) l hl
    · exact res_off (show XOps.opFn 5 = _ from rfl) rfl (by rw [toList_data]; decide) l hl
  · by_cases hl : l.length = 2
    · exact res_two (x := (false, 0)) (fun a b => by cases a <;> cases b <;> kernel_rfl) l hl
    · exact res_off (show XOps.opFn 6 = _ from rfl) rfl (by rw [toList_data]; decide) l hl
  · by_cases hl : l.length = 2
    · exact res_two (x := (false, 0)) (fun a b => by cases a <;> cases b <;> kernel_rfl) l hl
    · exact res_off (show XOps.opFn 7 = _ from rfl) rfl (by rw [toList_data]; decide) l hl
  · by_cases hl : l.length = 2
    · exact res_two (x := (false, 0)) (fun a b => by cases a <;> cases b <;> kernel_rfl) l hl
    · exact res_off (show XOps.opFn 8 = _ from rfl) rfl (by rw [toList_data]; decide) l hl
  · by_cases hl : l.length = 2
    · exact res_two (x := (false, 0)) (fun a b => by cases a <;> cases b <;> kernel_rfl) l hl
    · exact res_off (show XOps.opFn 9 = _ from rfl) rfl (by rw [toList_data]; decide) l hl
  · by_cases hl : l.length = 1
    · exact res_one (fun a => by cases a <;> kernel_rfl) l hl
    · exact res_off (show XOps.opFn 10 = _ from rfl) rfl (by rw [toList_data]; decide) l hl
  · by_cases hl : l.length = 3
    · exact res_three (fun a b c => by cases a <;> cases b <;> cases c <;> kernel_rfl) l hl
    · exact res_off (show XOps.opFn 11 = _ from rfl) rfl (by rw [toList_data]; decide) l hl
  · by_cases hl : l.length = 1
    · exact res_one (fun a => by cases a <;> kernel_rfl) l hl
    · exact res_off (show XOps.opFn 12 = _ from rfl) rfl (by rw [toList_data]; decide) l hl
  · by_cases hl : l.length = 1
    · exact res_one (fun a => by cases a <;> kernel_rfl) l hl
    · exact res_off (show XOps.opFn 13 = _ from rfl) rfl (by rw [toList_data]; decide) l hl
  · by_cases hl : l.length = 2
    · exact res_two (x := (false, 0)) (fun a b => by cases a <;> cases b <;> kernel_rfl) l hl
    · exact res_off (show XOps.opFn 14 = _ from rfl) rfl (by rw [toList_data]; decide) l hl
  · by_cases hl : l.length = 2
    · exact res_two (x := (false, 0)) (fun a b => by cases a <;> cases b <;> kernel_rfl) l hl
    · exact res_off (show XOps.opFn 15 = _ from rfl) rfl (by rw [toList_data]; decide) l hl
  · by_cases hl : l.length = 1
    · exact res_one (fun a => by cases a <;> kernel_rfl) l hl
    · exact res_off (show XOps.opFn 16 = _ from rfl) rfl (by rw [toList_data]; decide) l hl
  · by_cases hl : l.length = 3
    · exact res_three (fun a b c => by cases a <;> cases b <;> cases c <;> kernel_rfl) l hl
    · exact res_off (show XOps.opFn 17 = _ from rfl) rfl (by rw [toList_data]; decide) l hl
  · by_cases hl : l.length = 1
    · exact res_one (fun a => by cases a <;> kernel_rfl) l hl
    · exact res_off (show XOps.opFn 18 = _ from rfl) rfl (by rw [toList_data]; decide) l hl
  · by_cases hl : l.length = 1
    · exact res_one (fun a => by cases a <;> kernel_rfl) l hl
    · exact res_off (show XOps.opFn 19 = _ from rfl) rfl (by rw [toList_data]; decide) l hl
  · by_cases hl : l.length = 1
    · exact res_one (fun a => by cases a <;> kernel_rfl) l hl
    · exact res_off (show XOps.opFn 20 = _ from rfl) rfl (by rw [toList_data]; decide) l hl
  · by_cases hl : l.length = 2
    · exact res_two (x := (false, 0)) (fun a b => by cases a <;> cases b <;> kernel_rfl) l hl
    · exact res_off (show XOps.opFn 21 = _ from rfl) rfl (by rw [toList_data]; decide) l hl
  · unfold threshingref13_Result.f
    refine Ev.bind (kinds_f o) ?_
    have h1 : (kk o).1.toList = [] := by rw [op_kk (op_none hn), toList_data]
    simp only [if_pos h1]
    refine Ev.ret ?_
    unfold XOps.resultF
    rw [op_none hn]
end Go.Proofs.YtejmgcfjpofniaaGreatDoorL
