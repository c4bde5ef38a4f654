/- What the program's functions compute, in plain words. -/
import Derived.Test.YtnodgcakmolleaaGreatDoorWWords
import Derived.Test.YtnodgcakmolleaaGreatDoorWNEv
import Derived.Lib.Bytealg
import Derived.Lib.Bytes
import Derived.Laws.Strings
import Derived.Test.YtnodgcakmolleaaGreatDoorPXx
import Derived.Sort.Walk0
import Derived.Lib.AtoiAllCases
import Derived.Lib.AtoiTie
import Derived.Lib.ItoaLen
import Derived.Lib.IndexLaws
import Derived.Lib.IndexMore
set_option linter.unusedVariables false
set_option linter.unusedSimpArgs false
namespace Go.Proofs.YtnodgcakmolleaaGreatDoorW.PrintWords
theorem Ev.succ {α : Type} {g : Nat → Option α} {r : α} (h : Ev (fun k => g (k + 1)) r) : Ev g r := Ev.step (fun _ => rfl) h
theorem Ev.const {α : Type} {x : Option α} {r : α} (h : x = some r) : Ev (fun _ => x) r := ⟨0, fun _ _ => h⟩
theorem Ev.ret {α : Type} {x r : α} (h : x = r) : Ev (fun _ => some x) r := ⟨0, fun _ _ => by rw [h]⟩
theorem Ev.at_k {α : Type} {g : Nat → Option α} {r : α} (K : Nat) (hm : ∀ k, LeO (g k) (g (k + 1))) (h : g K = some r) : Ev g r := Ev.of hm h
theorem Ev.to {α : Type} {g : Nat → Option α} {r r' : α} (h : Ev g r) (e : r = r') : Ev g r' := e ▸ h
end Go.Proofs.YtnodgcakmolleaaGreatDoorW.PrintWords
namespace Go.Proofs.YtnodgcakmolleaaGreatDoorL
open Go.RowKit Go.Proofs.YtnodgcakmolleaaGreatDoorW.PrintWords
theorem wrap_id {x : Int} (h0 : -9223372036854775808 ≤ x) (h1 : x ≤ 9223372036854775807) : wrap64 x = x := by
  unfold wrap64
  omega
theorem wrap_succ {i : Nat} (h : i < 4611686018427387904) : wrap64 ((i : Int) + 1) = ((i + 1 : Nat) : Int) := by
  rw [wrap_id (by omega) (by omega)]
  omega
theorem wf_i64 {x : Int} (h : (Lit.int .i64 x).wf = true) : -9223372036854775808 ≤ x ∧ x ≤ 9223372036854775807 := by
  simpa [Lit.wf, IntKind.min, IntKind.max, IntKind.signed, IntKind.bits] using h
def Bytes (l : List Int) : Prop := ∀ x ∈ l, 0 ≤ x ∧ x ≤ 255
theorem Bytes.nil : Bytes [] := fun _ h => by cases h
theorem Bytes.append {a b : List Int} (h : Bytes a) (k : Bytes b) : Bytes (a ++ b) := fun x hx => (List.mem_append.1 hx).elim (h x) (k x)
theorem Bytes.take {a : List Int} (h : Bytes a) (n : Nat) : Bytes (a.take n) := fun x hx => h x (List.mem_of_mem_take hx)
theorem Bytes.drop {a : List Int} (h : Bytes a) (n : Nat) : Bytes (a.drop n) := fun x hx => h x (List.mem_of_mem_drop hx)
theorem Bytes.cons {a : Int} {b : List Int} (h : 0 ≤ a ∧ a ≤ 255) (k : Bytes b) : Bytes (a :: b) := fun x hx => (List.mem_cons.1 hx).elim (fun e => e ▸ h) (k x)
theorem toList_data (s : ByteArray) : s.toList = s.data.toList := ByteArray.toList_eq s
theorem toList_inj {a b : ByteArray} : a.toList = b.toList ↔ a = b := by
  rw [toList_data, toList_data]
  constructor
  · intro h
    exact ByteArray.ext (Array.toList_inj.1 h)
  · rintro rfl
    rfl
theorem rd_nat (l : List Int) (i : Nat) : rd l (i : Int) = l.getD i 0 := by unfold rd; simp
theorem rdOf_nat {α : Type} (d : α) (l : List α) (i : Nat) : rdOf d l (i : Int) = l.getD i d := by unfold rdOf; simp
end Go.Proofs.YtnodgcakmolleaaGreatDoorL
namespace Go.Proofs.YtnodgcakmolleaaGreatDoorL
open Go.RowKit Go.Proofs Go.Proofs.YtnodgcakmolleaaGreatDoor Go.Proofs.YtnodgcakmolleaaGreatDoor.PX Go.Proofs.YtnodgcakmolleaaGreatDoorW.PrintWords Go.Proofs.YtnodgcakmolleaaGreatDoorW.PrintMore
def kk (o : Int) : ByteArray × ByteArray :=
  if o = 4 ∨ o = 5 ∨ o = 6 ∨ o = 7 ∨ o = 8 then (⟨#[110, 110]⟩, ⟨#[110]⟩) else if o = 9 then (⟨#[116, 116]⟩, ⟨#[116]⟩) else if o = 10 ∨ o = 18 ∨ o = 20 then (⟨#[116]⟩, ⟨#[110]⟩)
  else if o = 11 then (⟨#[116, 110, 110]⟩, ⟨#[116]⟩) else if o = 12 ∨ o = 13 then (⟨#[116]⟩, ⟨#[116]⟩) else if o = 14 ∨ o = 15 then (⟨#[97, 97]⟩, ⟨#[110]⟩)
  else if o = 16 then (⟨#[110]⟩, ⟨#[110]⟩) else if o = 17 then (⟨#[110, 97, 97]⟩, ⟨#[97]⟩) else if o = 19 then (⟨#[110]⟩, ⟨#[116]⟩) else if o = 21 then (⟨#[116, 116]⟩, ⟨#[110]⟩) else (⟨#[]⟩, ⟨#[]⟩)
theorem op_cases (o : Int) : o = 4 ∨ o = 5 ∨ o = 6 ∨ o = 7 ∨ o = 8 ∨ o = 9 ∨ o = 10 ∨ o = 11 ∨ o = 12 ∨ o = 13 ∨ o = 14 ∨ o = 15 ∨ o = 16 ∨ o = 17 ∨ o = 18 ∨ o = 19 ∨ o = 20 ∨ o = 21 ∨ (o ≠ 4 ∧ o ≠ 5 ∧ o ≠ 6 ∧ o ≠ 7 ∧ o ≠ 8 ∧ o ≠ 9 ∧ o ≠ 10 ∧ o ≠ 11 ∧ o ≠ 12 ∧ o ≠ 13 ∧ o ≠ 14 ∧ o ≠ 15 ∧ o ≠ 16 ∧ o ≠ 17 ∧ o ≠ 18 ∧ o ≠ 19 ∧ o ≠ 20 ∧ o ≠ 21) := by omega
theorem kinds_f (o : Int) : Ev (fun k => r13_kinds.f k o) (kk o) := by
  refine Ev.at_k 8 (fun k => r13_kinds.mono _ k) ?_
  rcases op_cases o with rfl | rfl | rfl | rfl | rfl | rfl | rfl | rfl | rfl | rfl | rfl | rfl | rfl | rfl | rfl | rfl | rfl | rfl | ⟨h4, h5, h6, h7, h8, h9, h10, h11, h12, h13, h14, h15, h16, h17, h18, h19, h20, h21⟩
  case inr.inr.inr.inr.inr.inr.inr.inr.inr.inr.inr.inr.inr.inr.inr.inr.inr.inr =>
    have b8 : (o == 8) = false := by simp [h8]
    have b10 : (o == 10) = false := by simp [h10]
    have b18 : (o == 18) = false := by simp [h18]
    have b20 : (o == 20) = false := by simp [h20]
    have b12 : (o == 12) = false := by simp [h12]
    have b13 : (o == 13) = false := by simp [h13]
    have b14 : (o == 14) = false := by simp [h14]
    have b15 : (o == 15) = false := by simp [h15]
    simp only [r13_kinds.f, r13_kinds.j0, r13_kinds.j1, r13_kinds.j2, r13_kinds.j3, kk, h4, h5, h6, h7, h8, h9, h10, h11, h12, h13, h14, h15, h16, h17, h18, h19, h20, h21, b8, b10, b18, b20, b12, b13, b14, b15, if_false, Bool.false_eq_true, or_self]
  all_goals kernel_rfl
theorem op_kk {o : Int} (h : XOps.opFn o = none) : kk o = (⟨#[]⟩, ⟨#[]⟩) := by
  rcases op_cases o with rfl | rfl | rfl | rfl | rfl | rfl | rfl | rfl | rfl | rfl | rfl | rfl | rfl | rfl | rfl | rfl | rfl | rfl | ⟨h4, h5, h6, h7, h8, h9, h10, h11, h12, h13, h14, h15, h16, h17, h18, h19, h20, h21⟩
  case inr.inr.inr.inr.inr.inr.inr.inr.inr.inr.inr.inr.inr.inr.inr.inr.inr.inr =>
    simp only [kk, h4, h5, h6, h7, h8, h9, h10, h11, h12, h13, h14, h15, h16, h17, h18, h19, h20, h21, if_false, or_self]
  all_goals cases h
theorem op_none {o : Int} (h : o ≠ 4 ∧ o ≠ 5 ∧ o ≠ 6 ∧ o ≠ 7 ∧ o ≠ 8 ∧ o ≠ 9 ∧ o ≠ 10 ∧ o ≠ 11 ∧ o ≠ 12 ∧ o ≠ 13 ∧ o ≠ 14 ∧ o ≠ 15 ∧ o ≠ 16 ∧ o ≠ 17 ∧ o ≠ 18 ∧ o ≠ 19 ∧ o ≠ 20 ∧ o ≠ 21) : XOps.opFn o = none := by
  obtain ⟨h4, h5, h6, h7, h8, h9, h10, h11, h12, h13, h14, h15, h16, h17, h18, h19, h20, h21⟩ := h
  simp only [XOps.opFn, h4, h5, h6, h7, h8, h9, h10, h11, h12, h13, h14, h15, h16, h17, h18, h19, h20, h21, if_false]
theorem arity_f (o : Int) : Ev (fun k => r13_Arity.f k o) (XOps.arityF o) := by
  unfold r13_Arity.f
  refine Ev.bind (kinds_f o) (Ev.ret ?_)
  rcases op_cases o with rfl | rfl | rfl | rfl | rfl | rfl | rfl | rfl | rfl | rfl | rfl | rfl | rfl | rfl | rfl | rfl | rfl | rfl | hn
  case inr.inr.inr.inr.inr.inr.inr.inr.inr.inr.inr.inr.inr.inr.inr.inr.inr.inr =>
    rw [op_kk (op_none hn)]
    unfold XOps.arityF
    rw [op_none hn]
    rfl
  all_goals kernel_rfl
theorem res_two {o : Int} {x : Bool × Int} (h : ∀ a b, r13_Result.f 30 o [a, b] = some (XOps.resultF o [a, b])) (l : List Bool) (hl : l.length = 2) : Ev (fun k => r13_Result.f k o l) (XOps.resultF o l) := by
  rcases l with _ | ⟨a, _ | ⟨b, _ | ⟨c, r⟩⟩⟩ <;> simp at hl
  exact Ev.at_k 30 (fun k => r13_Result.mono _ _ k) (h a b)
theorem res_one {o : Int} (h : ∀ a, r13_Result.f 30 o [a] = some (XOps.resultF o [a])) (l : List Bool) (hl : l.length = 1) : Ev (fun k => r13_Result.f k o l) (XOps.resultF o l) := by
  rcases l with _ | ⟨a, _ | ⟨b, r⟩⟩ <;> simp at hl
  exact Ev.at_k 30 (fun k => r13_Result.mono _ _ k) (h a)
theorem res_three {o : Int} (h : ∀ a b c, r13_Result.f 30 o [a, b, c] = some (XOps.resultF o [a, b, c])) (l : List Bool) (hl : l.length = 3) : Ev (fun k => r13_Result.f k o l) (XOps.resultF o l) := by
  rcases l with _ | ⟨a, _ | ⟨b, _ | ⟨c, _ | ⟨d, r⟩⟩⟩⟩ <;> simp at hl
  exact Ev.at_k 30 (fun k => r13_Result.mono _ _ k) (h a b c)
theorem res_off {o : Int} {ks : List Int} {t : Int} {f : Nat} (hq : XOps.opFn o = some (ks, t, f)) (hk : (kk o).1.size = ks.length) (hn : ¬ (kk o).1.toList = []) (l : List Bool) (hl : l.length ≠ ks.length) : Ev (fun k => r13_Result.f k o l) (XOps.resultF o l) := by
  unfold r13_Result.f
  refine Ev.bind (kinds_f o) ?_
  simp only [if_neg hn, if_neg (show ¬ (l.length : Int) = ((kk o).1.size : Int) by rw [hk]; omega)]
  refine Ev.ret ?_
  rw [XOps.res_short hq rfl hl]
theorem result_f (o : Int) (l : List Bool) : Ev (fun k => r13_Result.f k o l) (XOps.resultF o l) := by
  rcases op_cases o with rfl | rfl | rfl | rfl | rfl | rfl | rfl | rfl | rfl | rfl | rfl | rfl | rfl | rfl | rfl | rfl | rfl | rfl | hn
  · by_cases hl : l.length = 2
    · exact res_two (x := (false, 0)) (fun a b => by cases a <;> cases b <;> kernel_rfl) l hl
    · exact res_off (show XOps.opFn 4 = _ from rfl) rfl (by rw [toList_data]; decide) l hl
  · by_cases hl : l.length = 2
    · exact res_two (x := (false, 0)) (fun a b => by cases a <;> cases b <;> kernel_rfl) l hl
    · exact res_off (show XOps.opFn 5 = _ from rfl) rfl (by rw [toList_data]; decide) l hl
  · by_cases hl : l.length = 2
    · exact res_two (x := (false, 0)) (fun a b => by cases a <;> cases b <;> kernel_rfl) l hl
    · exact res_off (show XOps.opFn 6 = _ from rfl) rfl (by rw [toList_data]; decide) l hl
  · by_cases hl : l.length = 2
    · exact res_two (x := (false, 0)) (fun a b => by cases a <;> cases b <;> kernel_rfl) l hl
    · exact res_off (show XOps.opFn 7 = _ from rfl) rfl (by rw [toList_data]; decide) l hl
  · by_cases hl : l.length = 2
    · exact res_two (x := (false, 0)) (fun a b => by cases a <;> cases b <;> kernel_rfl) l hl
    · exact res_off (show XOps.opFn 8 = _ from rfl) rfl (by rw [toList_data]; decide) l hl
  · by_cases hl : l.length = 2
    · exact res_two (x := (false, 0)) (fun a b => by cases a <;> cases b <;> kernel_rfl) l hl
    · exact res_off (show XOps.opFn 9 = _ from rfl) rfl (by rw [toList_data]; decide) l hl
  · by_cases hl : l.length = 1
    · exact res_one (fun a => by cases a <;> kernel_rfl) l hl
    · exact res_off (show XOps.opFn 10 = _ from rfl) rfl (by rw [toList_data]; decide) l hl
  · by_cases hl : l.length = 3
    · exact res_three (fun a b c => by cases a <;> cases b <;> cases c <;> kernel_rfl) l hl
    · exact res_off (show XOps.opFn 11 = _ from rfl) rfl (by rw [toList_data]; decide) l hl
  · by_cases hl : l.length = 1
    · exact res_one (fun a => by cases a <;> kernel_rfl) l hl
    · exact res_off (show XOps.opFn 12 = _ from rfl) rfl (by rw [toList_data]; decide) l hl
  · by_cases hl : l.length = 1
    · exact res_one (fun a => by cases a <;> kernel_rfl) l hl
    · exact res_off (show XOps.opFn 13 = _ from rfl) rfl (by rw [toList_data]; decide) l hl
  · by_cases hl : l.length = 2
    · exact res_two (x := (false, 0)) (fun a b => by cases a <;> cases b <;> kernel_rfl) l hl
    · exact res_off (show XOps.opFn 14 = _ from rfl) rfl (by rw [toList_data]; decide) l hl
  · by_cases hl : l.length = 2
    · exact res_two (x := (false, 0)) (fun a b => by cases a <;> cases b <;> kernel_rfl) l hl
    · exact res_off (show XOps.opFn 15 = _ from rfl) rfl (by rw [toList_data]; decide) l hl
  · by_cases hl : l.length = 1
    · exact res_one (fun a => by cases a <;> kernel_rfl) l hl
    · exact res_off (show XOps.opFn 16 = _ from rfl) rfl (by rw [toList_data]; decide) l hl
  · by_cases hl : l.length = 3
    · exact res_three (fun a b c => by cases a <;> cases b <;> cases c <;> kernel_rfl) l hl
    · exact res_off (show XOps.opFn 17 = _ from rfl) rfl (by rw [toList_data]; decide) l hl
  · by_cases hl : l.length = 1
    · exact res_one (fun a => by cases a <;> kernel_rfl) l hl
    · exact res_off (show XOps.opFn 18 = _ from rfl) rfl (by rw [toList_data]; decide) l hl
  · by_cases hl : l.length = 1
    · exact res_one (fun a => by cases a <;> kernel_rfl) l hl
    · exact res_off (show XOps.opFn 19 = _ from rfl) rfl (by rw [toList_data]; decide) l hl
  · by_cases hl : l.length = 1
    · exact res_one (fun a => by cases a <;> kernel_rfl) l hl
    · exact res_off (show XOps.opFn 20 = _ from rfl) rfl (by rw [toList_data]; decide) l hl
  · by_cases hl : l.length = 2
    · exact res_two (x := (false, 0)) (fun a b => by cases a <;> cases b <;> kernel_rfl) l hl
    · exact res_off (show XOps.opFn 21 = _ from rfl) rfl (by rw [toList_data]; decide) l hl
  · unfold r13_Result.f
    refine Ev.bind (kinds_f o) ?_
    have h1 : (kk o).1.toList = [] := by rw [op_kk (op_none hn), toList_data]
    simp only [if_pos h1]
    refine Ev.ret ?_
    unfold XOps.resultF
    rw [op_none hn]
end Go.Proofs.YtnodgcakmolleaaGreatDoorL
namespace Go.Proofs.YtnodgcakmolleaaGreatDoorL
open Go.RowKit Go.Proofs Go.Proofs.YtnodgcakmolleaaGreatDoor Go.Proofs.YtnodgcakmolleaaGreatDoor.PX Go.Proofs.YtnodgcakmolleaaGreatDoorW.PrintWords Go.Proofs.YtnodgcakmolleaaGreatDoorW.PrintMore Go.Proofs.YtnodgcakmolleaaGreatDoor.XCheck
abbrev May : Ins → Bool := check_Stack.may
theorem mx_ge' (a b : Int) : a ≤ mx a b ∧ b ≤ mx a b := by unfold mx; split <;> omega
theorem push_ok {x : List Bool × Int} {t : Bool} (h : ¬ x.1.length = 30) : pushP x t = ((x.1 ++ [t], mx x.2 ((x.1.length : Int) + 1)), 0) := by
  unfold pushP
  rw [if_neg h]
theorem push_full {x : List Bool × Int} {t : Bool} (h : x.1.length = 30) : pushP x t = (x, 13) := by
  unfold pushP
  rw [if_pos h]
theorem step_plain {fold : List Bool} {x : List Bool × Int} {o : Int} (c : ¬ 22 ≤ o) (c2 : ¬ 0 < XOps.arityF o) : stepP fold x o = pushP x (decide (o = 1) || decide (o = 2)) := by
  unfold stepP plainP
  rw [if_neg c, if_neg c2]
theorem step_done {fold : List Bool} {x : List Bool × Int} {o : Int} (c : ¬ 22 ≤ o) (c2 : 0 < XOps.arityF o) : stepP fold x o = doneP x o := by
  unfold stepP
  rw [if_neg c, if_pos c2]
theorem step_given {fold : List Bool} {x : List Bool × Int} {o : Int} (c : 22 ≤ o) : stepP fold x o = givenP fold x o := by
  unfold stepP
  rw [if_pos c]
theorem push_most {x : List Bool × Int} {t : Bool} : x.2 ≤ (pushP x t).1.2 ∧ ((pushP x t).2 = 0 → ((pushP x t).1.1.length : Int) ≤ (pushP x t).1.2) := by
  by_cases c : x.1.length = 30
  · rw [push_full c]
    exact ⟨Int.le_refl _, fun h => by cases h⟩
  · rw [push_ok c]
    have := mx_ge' x.2 ((x.1.length : Int) + 1)
    refine ⟨this.1, fun _ => ?_⟩
    simp only [List.length_append, List.length_cons, List.length_nil]
    omega
theorem step_err {fold : List Bool} {x : List Bool × Int} {o : Int} (hx : x.1.length ≤ 30) (h : (stepP fold x o).2 ≠ 0) : (stepP fold x o).1 = x := by
  have hp : ∀ t, (pushP x t).2 ≠ 0 → (pushP x t).1 = x := fun t h => by
    by_cases c : x.1.length = 30
    · rw [push_full c]
    · rw [push_ok c] at h; exact absurd rfl h
  by_cases c : 22 ≤ o
  · rw [step_given c] at h ⊢
    unfold givenP at h ⊢
    by_cases c2 : fold.length = 0
    · rw [if_pos c2]
    · rw [if_neg c2] at h ⊢; exact hp _ h
  · by_cases c2 : 0 < XOps.arityF o
    · rw [step_done c c2] at h ⊢
      unfold doneP at h ⊢
      by_cases c3 : (x.1.length : Int) < XOps.arityF o
      · rw [if_pos c3]
      · rw [if_neg c3] at h ⊢
        by_cases c4 : (XOps.resultF o (x.1.drop (x.1.length - (XOps.arityF o).toNat))).2 ≠ 0
        · rw [if_pos c4]
        · rw [if_neg c4] at h
          rw [push_ok (by simp only [List.length_take]; omega)] at h
          exact absurd rfl h
    · rw [step_plain c c2] at h ⊢; exact hp _ h
theorem step_most {fold : List Bool} {x : List Bool × Int} {o : Int} (h : (stepP fold x o).2 = 0) : x.2 ≤ (stepP fold x o).1.2 ∧ ((stepP fold x o).1.1.length : Int) ≤ (stepP fold x o).1.2 := by
  by_cases c : 22 ≤ o
  · rw [step_given c] at h ⊢
    unfold givenP at h ⊢
    by_cases c2 : fold.length = 0
    · rw [if_pos c2] at h; cases h
    · rw [if_neg c2] at h ⊢; exact ⟨push_most.1, push_most.2 h⟩
  · by_cases c2 : 0 < XOps.arityF o
    · rw [step_done c c2] at h ⊢
      unfold doneP at h ⊢
      by_cases c3 : (x.1.length : Int) < XOps.arityF o
      · rw [if_pos c3] at h; cases h
      · rw [if_neg c3] at h ⊢
        by_cases c4 : (XOps.resultF o (x.1.drop (x.1.length - (XOps.arityF o).toNat))).2 ≠ 0
        · rw [if_pos c4] at h; exact absurd h c4
        · rw [if_neg c4] at h ⊢
          exact ⟨push_most.1, push_most.2 h⟩
    · rw [step_plain c c2] at h ⊢; exact ⟨push_most.1, push_most.2 h⟩
theorem run_nil (fold : List Bool) (i : Nat) (x : List Bool × Int) : runP May fold [] i x = (x, (i : Int), 0) := rfl
theorem run_no {fold : List Bool} {a : Ins} {r : List Ins} {i : Nat} {x : List Bool × Int} (h : May a = false) : runP May fold (a :: r) i x = (x, (i : Int), 1) := by
  conv => lhs; unfold runP
  rw [if_pos h]
theorem run_bad {fold : List Bool} {a : Ins} {r : List Ins} {i : Nat} {x : List Bool × Int} (h : May a = true) (h2 : (stepP fold x a.f0).2 ≠ 0) : runP May fold (a :: r) i x = ((stepP fold x a.f0).1, (i : Int), (stepP fold x a.f0).2) := by
  conv => lhs; unfold runP
  rw [if_neg (by rw [h]; simp), if_pos h2]
theorem run_go {fold : List Bool} {a : Ins} {r : List Ins} {i : Nat} {x : List Bool × Int} (h : May a = true) (h2 : (stepP fold x a.f0).2 = 0) : runP May fold (a :: r) i x = runP May fold r (i + 1) (stepP fold x a.f0).1 := by
  conv => lhs; unfold runP
  rw [if_neg (by rw [h]; simp), if_neg (by rw [h2]; decide)]
theorem run_all (fold : List Bool) : ∀ (p : List Ins) (i : Nat) (x : List Bool × Int), x.1.length ≤ 30 → ∃ j, j ≤ p.length ∧ (runP May fold p i x).2.1 = ((i + j : Nat) : Int) ∧ ((runP May fold p i x).2.2 = 0 ↔ j = p.length) ∧
    (∀ q, q ≤ j → (runP May fold (p.take q) i x).2 = (((i + q : Nat) : Int), 0)) ∧ (runP May fold (p.take j) i x).1 = (runP May fold p i x).1 ∧ (runP May fold p i x).1.1.length ≤ 30 ∧ x.2 ≤ (runP May fold p i x).1.2 ∧ ((x.1.length : Int) ≤ x.2 → ((runP May fold p i x).1.1.length : Int) ≤ (runP May fold p i x).1.2)
  | [], i, x, hx => by
    refine ⟨0, Nat.le_refl _, rfl, ⟨fun _ => rfl, fun _ => rfl⟩, fun q hq => ?_, rfl, hx, Int.le_refl _, fun h => h⟩
    obtain rfl : q = 0 := by omega
    rfl
  | a :: r, i, x, hx => by
    have zero : ∀ q, q ≤ 0 → (runP May fold ((a :: r).take q) i x).2 = (((i + q : Nat) : Int), 0) := fun q hq => by
      obtain rfl : q = 0 := by omega
      rfl
    rcases hm : May a with _ | _
    · rw [run_no hm]
      exact ⟨0, Nat.zero_le _, rfl, ⟨(fun h => by cases h), (fun h => by simp at h)⟩, zero, rfl, hx, Int.le_refl _, fun h => h⟩
    · by_cases h2 : (stepP fold x a.f0).2 = 0
      · rw [run_go hm h2]
        obtain ⟨j, h3, h4, h5, h6, h7, h8, h9, h10⟩ := run_all fold r (i + 1) (stepP fold x a.f0).1 (stepP_len hx)
        have hs := step_most h2
        refine ⟨j + 1, by simp; omega, by rw [h4]; omega, by rw [h5]; simp, fun q hq => ?_, ?_, h8, by omega, fun _ => h10 hs.2⟩
        · rcases q with _ | q
          · rfl
          · rw [List.take_succ_cons, run_go hm h2, h6 q (by omega)]
            congr 1
            omega
        · rw [List.take_succ_cons, run_go hm h2]
          exact h7
      · rw [run_bad hm h2, step_err hx h2]
        exact ⟨0, Nat.zero_le _, rfl, ⟨(fun h => absurd h h2), (fun h => by simp at h)⟩, zero, rfl, hx, Int.le_refl _, fun h => h⟩
end Go.Proofs.YtnodgcakmolleaaGreatDoorL
namespace Go.Proofs.YtnodgcakmolleaaGreatDoorL
open Go.RowKit Go.Proofs Go.Proofs.YtnodgcakmolleaaGreatDoor Go.Proofs.YtnodgcakmolleaaGreatDoor.PX Go.Proofs.YtnodgcakmolleaaGreatDoorW.PrintWords Go.Proofs.YtnodgcakmolleaaGreatDoorW.PrintMore Go.Proofs.YtnodgcakmolleaaGreatDoor.XCheck
theorem isOp_f (o : Int) : code_isOp.f o = some (decide (0 ≤ o ∧ o ≤ 23)) := by
  have hA : value_Arity.f o = some (XOps.arityF o) := rfl
  unfold code_isOp.f
  rw [hA]
  simp only [Option.bind_some]
  rcases op_cases o with rfl | rfl | rfl | rfl | rfl | rfl | rfl | rfl | rfl | rfl | rfl | rfl | rfl | rfl | rfl | rfl | rfl | rfl | hn
  case inr.inr.inr.inr.inr.inr.inr.inr.inr.inr.inr.inr.inr.inr.inr.inr.inr.inr =>
    have h0 : XOps.arityF o = 0 := by
      unfold XOps.arityF
      rw [op_none hn]
    rw [h0]
    by_cases c : o ≥ 0
    · rw [if_pos c]
      by_cases c3 : o ≤ 3
      · rw [if_pos c3, decide_eq_true (by omega)]
      · rw [if_neg c3]
        by_cases c22 : o = 22
        · rw [if_pos c22, decide_eq_true (by omega)]
        · rw [if_neg c22]
          by_cases c23 : o = 23
          · rw [if_pos c23, decide_eq_true (by omega)]
          · rw [if_neg c23, decide_eq_false (show ¬ (0 ≤ o ∧ o ≤ 23) by omega)]
            rfl
    · rw [if_neg c, if_neg (by omega), if_neg (by omega), decide_eq_false (show ¬ (0 ≤ o ∧ o ≤ 23) by omega)]
      rfl
  all_goals rfl
theorem nil_size {x : ByteArray} (h : x.toList = ([] : List UInt8)) : x.size = 0 := by
  rw [toList_data] at h
  have := data_length x
  rw [h] at this
  exact this.symm
theorem may_ref (o n : Int) (x : ByteArray) : r14_May.f o n x = code_May.f o n x := by
  unfold r14_May.f code_May.f
  simp only [isOp_f, Option.bind_some]
  by_cases c0 : o = 0
  · subst c0
    simp only [if_neg (show ¬ (0 : Int) < 0 by decide), if_neg (show ¬ (0 : Int) > 23 by decide), if_neg (show ¬ (0 : Int) = 1 by decide), if_true, show decide ((0 : Int) ≤ 0 ∧ (0 : Int) ≤ 23) = true from rfl]
    by_cases h : x.toList = ([] : List UInt8)
    · rw [if_pos h, if_neg (by rw [nil_size h]; decide)]
      simp [h]
    · rw [if_neg h]
      simp [h]
  by_cases c1 : o = 1
  · subst c1
    simp only [if_neg (show ¬ (1 : Int) < 0 by decide), if_neg (show ¬ (1 : Int) > 23 by decide), if_true, if_neg (show ¬ (1 : Int) = 0 by decide), if_neg (show ¬ (1 : Int) = 2 by decide), show decide ((0 : Int) ≤ 1 ∧ (1 : Int) ≤ 23) = true from rfl]
    by_cases h : (x.size : Int) > 1000
    · rw [if_pos h]
      by_cases hn : n = 0
      · rw [if_pos hn, decide_eq_false (by omega)]
      · rw [if_neg hn]
    · rw [if_neg h]
      by_cases hn : n = 0
      · rw [if_pos hn, decide_eq_true (by omega)]
        simp [hn]
      · rw [if_neg hn]
        simp [hn]
  by_cases c2 : o = 2
  · subst c2
    simp only [if_neg (show ¬ (2 : Int) < 0 by decide), if_neg (show ¬ (2 : Int) > 23 by decide), if_true, if_neg (show ¬ (2 : Int) = 0 by decide), if_neg (show ¬ (2 : Int) = 1 by decide), show decide ((0 : Int) ≤ 2 ∧ (2 : Int) ≤ 23) = true from rfl]
    by_cases h : x.toList = ([] : List UInt8)
    · rw [if_pos h, if_neg (by rw [nil_size h]; decide)]
      by_cases hn : n ≥ 0
      · rw [if_pos hn, if_pos hn]
        by_cases hm : n ≤ 49
        · rw [if_pos hm, if_pos (by omega)]
          simp [h]
        · rw [if_neg hm, if_neg (by omega)]
      · rw [if_neg hn, if_neg hn]
    · rw [if_neg h]
      by_cases hn : n ≥ 0
      · rw [if_pos hn]
        by_cases hm : n < 50
        · rw [if_pos hm]
          simp [h]
        · rw [if_neg hm]
      · rw [if_neg hn]
  simp only [if_neg c0, if_neg c1, if_neg c2]
  by_cases hl : o < 0
  · rw [if_pos hl, decide_eq_false (show ¬ (0 ≤ o ∧ o ≤ 23) by omega)]
    rfl
  · rw [if_neg hl]
    by_cases hh : o > 23
    · rw [if_pos hh, decide_eq_false (show ¬ (0 ≤ o ∧ o ≤ 23) by omega)]
      rfl
    · rw [if_neg hh, decide_eq_true (show 0 ≤ o ∧ o ≤ 23 by omega)]
      simp only [if_true]
      by_cases h : x.toList = ([] : List UInt8)
      · rw [if_pos h, if_neg (by rw [nil_size h]; decide)]
        by_cases hn : n = 0
        · simp [hn, h]
        · simp [hn]
      · rw [if_neg h]
        by_cases hn : n = 0
        · simp [hn, h]
        · simp [hn]
theorem rmay (a : Ins) : r14_May.f a.f0 a.f1 a.f2 = some (May a) := (may_ref _ _ _).trans (check_Stack.may_eq a)
theorem arity_pos_lt {o : Int} (h : 0 < XOps.arityF o) : o < 22 := check_Stack.arity_lt h
theorem arity_ge (o : Int) : 0 ≤ XOps.arityF o := by
  unfold XOps.arityF
  split <;> omega
def rstepP (fold : List Bool) (s : List Bool) (a : Ins) : List Bool × Int :=
  if May a = false then ([], 1) else if (stepP fold (s, 0) a.f0).2 ≠ 0 then ([], (stepP fold (s, 0) a.f0).2) else ((stepP fold (s, 0) a.f0).1.1, 0)
theorem wrap_sub {a b : Nat} (h : b ≤ a) (ha : a < 4611686018427387904) : wrap64 ((a : Int) - (b : Int)) = ((a - b : Nat) : Int) := by
  rw [wrap_id (by omega) (by omega)]
  omega
theorem rj2 (s : List Bool) (hs : s.length ≤ 30) (o : Int) (n' : Int) (x : ByteArray) (kind : Bool) : ∀ n : Nat, n ≤ s.length → (0 < n → XOps.arityF o = n) →
    Ev (fun k => r15_step.j2 k s (n : Int) kind o n' x) (if 0 < n then (if (XOps.resultF o (s.drop (s.length - n))).2 ≠ 0 then ([], (XOps.resultF o (s.drop (s.length - n))).2) else (s.take (s.length - n) ++ [(XOps.resultF o (s.drop (s.length - n))).1], 0)) else (if s.length = 30 then ([], 13) else (s ++ [kind], 0))) := by
  intro n hn hna
  refine Ev.succ ?_
  have hw := wrap_sub hn (by omega)
  have h0 : (0 : Int) ≤ ((s.length - n : Nat) : Int) := by omega
  have h1 : ((s.length - n : Nat) : Int) ≤ (s.length : Int) := by omega
  have ht : (s.take (s.length - n)).length = s.length - n := by rw [List.length_take]; omega
  by_cases c : 0 < n
  · simp only [r15_step.j2, if_pos (show (n : Int) > 0 by omega), hw, if_pos h0, if_pos h1, Int.toNat_natCast, if_pos c]
    refine Ev.bind (result_f o _) ?_
    by_cases c2 : (XOps.resultF o (s.drop (s.length - n))).2 ≠ 0
    · simp only [if_neg c2, if_pos c2]
      exact Ev.now _
    · have c3 : (XOps.resultF o (s.drop (s.length - n))).2 = 0 := by simpa using c2
      simp only [c3, if_true, if_neg (show ¬ ((0 : Int) ≠ 0) by decide), Option.bind_some, List.length_nil, Nat.zero_add, ht, if_pos (show s.length - n < 140737488355328 by omega), List.nil_append, List.length_append, List.length_cons]
      rw [if_neg (show ¬ (((s.length - n + (0 + 1) : Nat) : Int) > 30) by omega)]
      exact Ev.now _
  · obtain rfl : n = 0 := by omega
    have hz : s.length - 0 = s.length := rfl
    have ht2 : s.take s.length = s := List.take_length
    simp only [r15_step.j2, if_neg (show ¬ (((0 : Nat) : Int) > 0) by decide), hw, hz, Option.bind_some, if_pos (show (0 : Int) ≤ (s.length : Int) by omega), if_pos (show (s.length : Int) ≤ (s.length : Int) by omega), Int.toNat_natCast, ht2, List.length_nil, Nat.zero_add, if_pos (show s.length < 140737488355328 by omega), List.nil_append, List.length_append, List.length_cons, if_neg c]
    by_cases c2 : s.length = 30
    · simp only [if_pos c2, if_pos (show ((s.length + (0 + 1) : Nat) : Int) > 30 by omega)]
      exact Ev.now _
    · simp only [if_neg c2, if_neg (show ¬ (((s.length + (0 + 1) : Nat) : Int) > 30) by omega)]
      exact Ev.now _
theorem rstep (fold s : List Bool) (a : Ins) (hf : fold.length = 0 ∨ fold.length = 2) (hs : s.length ≤ 30) : Ev (fun k => r15_step.f k s a.f0 a.f1 a.f2 fold) (rstepP fold s a) := by
  unfold r15_step.f
  simp only [rmay, Option.bind_some]
  have bad : Ev (fun k => r15_step.j0 k s fold true a.f0 a.f1 a.f2) ([], 1) := by
    refine Ev.succ ?_
    simp only [r15_step.j0, if_true]
    exact Ev.now _
  rcases hm : May a with _ | _
  · simp only [Bool.false_eq_true, if_false]
    refine bad.to ?_
    unfold rstepP
    rw [if_pos hm]
  · have hop := check_Stack.may_op a hm
    have hr : rstepP fold s a = if (stepP fold (s, 0) a.f0).2 ≠ 0 then ([], (stepP fold (s, 0) a.f0).2) else ((stepP fold (s, 0) a.f0).1.1, 0) := by unfold rstepP; rw [if_neg (by rw [hm]; simp)]
    rw [hr]
    simp only [if_true]
    by_cases c : 22 ≤ a.f0
    · have hge : a.f0 ≥ 22 := c
      simp only [if_pos hge]
      have h0 : XOps.arityF a.f0 = 0 := by
        have := arity_ge a.f0
        by_cases d : 0 < XOps.arityF a.f0
        · have := arity_pos_lt d; omega
        · omega
      rcases hf with hf | hf
      · have hb : ((fold.length : Int) == 0) = true := by rw [hf]; rfl
        rw [hb]
        refine bad.to ?_
        rw [step_given c]
        unfold givenP
        rw [if_pos hf]
        rfl
      · have hb : ((fold.length : Int) == 0) = false := by rw [hf]; rfl
        rw [hb]
        have hw : wrap64 (a.f0 - 22) = a.f0 - 22 := by
          have := hop c
          exact wrap_id (by omega) (by omega)
        have hj : Ev (fun k => r15_step.j1 k s fold 0 (a.f0 == 2) a.f0 a.f1 a.f2) (if s.length = 30 then ([], 13) else (s ++ [rdOf false fold (a.f0 - 22)], 0)) := by
          refine Ev.succ ?_
          have := hop c
          simp only [r15_step.j1, if_pos hge, hw, if_pos (show (0 : Int) ≤ a.f0 - 22 by omega), if_pos (show a.f0 - 22 < (fold.length : Int) by omega)]
          exact rj2 s hs a.f0 a.f1 a.f2 _ 0 (Nat.zero_le _) (fun h => absurd h (Nat.lt_irrefl _))
        refine Ev.succ ?_
        simp only [r15_step.j0, Bool.false_eq_true, if_false]
        refine Ev.bind (arity_f a.f0) ?_
        rw [h0]
        simp only [if_neg (show ¬ (0 : Int) > (s.length : Int) by omega), if_neg (show ¬ a.f0 = 1 by omega)]
        refine hj.to ?_
        rw [step_given c]
        unfold givenP
        rw [if_neg (show ¬ fold.length = 0 by omega)]
        unfold pushP rdOf
        by_cases c2 : s.length = 30
        · simp [c2]
        · simp [c2]
    · have hlt : ¬ a.f0 ≥ 22 := c
      simp only [if_neg hlt]
      obtain ⟨n, hn⟩ : ∃ n : Nat, XOps.arityF a.f0 = n := ⟨(XOps.arityF a.f0).toNat, by have := arity_ge a.f0; omega⟩
      refine Ev.succ ?_
      simp only [r15_step.j0, Bool.false_eq_true, if_false]
      refine Ev.bind (arity_f a.f0) ?_
      rw [hn]
      by_cases c2 : 0 < n
      · rw [step_done c (show 0 < XOps.arityF a.f0 by rw [hn]; omega)]
        unfold doneP
        simp only [hn, Int.toNat_natCast]
        by_cases c3 : (n : Int) > (s.length : Int)
        · simp only [if_pos c3]
          try rw [if_pos (show (s.length : Int) < (n : Int) by omega)]
          exact Ev.now _
        · simp only [if_neg c3]
          try rw [if_neg (show ¬ (s.length : Int) < (n : Int) by omega)]
          have hj := fun kind => rj2 s hs a.f0 a.f1 a.f2 kind n (by omega) (fun _ => hn)
          simp only [if_pos c2] at hj
          have key : ∀ kind, Ev (fun k => r15_step.j1 k s fold (n : Int) kind a.f0 a.f1 a.f2) (if (XOps.resultF a.f0 (s.drop (s.length - n))).2 ≠ 0 then ([], (XOps.resultF a.f0 (s.drop (s.length - n))).2) else (s.take (s.length - n) ++ [(XOps.resultF a.f0 (s.drop (s.length - n))).1], 0)) := fun kind => by
            refine Ev.succ ?_
            simp only [r15_step.j1, if_neg hlt]
            exact hj kind
          have e : (if (if (XOps.resultF a.f0 (s.drop (s.length - n))).2 ≠ 0 then ((s, (0 : Int)), (XOps.resultF a.f0 (s.drop (s.length - n))).2) else pushP (s.take (s.length - n), 0) (XOps.resultF a.f0 (s.drop (s.length - n))).1).2 ≠ 0 then (([] : List Bool), (if (XOps.resultF a.f0 (s.drop (s.length - n))).2 ≠ 0 then ((s, (0 : Int)), (XOps.resultF a.f0 (s.drop (s.length - n))).2) else pushP (s.take (s.length - n), 0) (XOps.resultF a.f0 (s.drop (s.length - n))).1).2) else ((if (XOps.resultF a.f0 (s.drop (s.length - n))).2 ≠ 0 then ((s, (0 : Int)), (XOps.resultF a.f0 (s.drop (s.length - n))).2) else pushP (s.take (s.length - n), 0) (XOps.resultF a.f0 (s.drop (s.length - n))).1).1.1, 0)) = (if (XOps.resultF a.f0 (s.drop (s.length - n))).2 ≠ 0 then ([], (XOps.resultF a.f0 (s.drop (s.length - n))).2) else (s.take (s.length - n) ++ [(XOps.resultF a.f0 (s.drop (s.length - n))).1], 0)) := by
            by_cases c4 : (XOps.resultF a.f0 (s.drop (s.length - n))).2 ≠ 0
            · simp only [if_pos c4]
            · simp only [if_neg c4]
              rw [push_ok (by simp only [List.length_take]; omega)]
              simp
          rw [e]
          by_cases c5 : a.f0 = 1
          · simp only [if_pos c5]; exact key _
          · simp only [if_neg c5]; exact key _
      · obtain rfl : n = 0 := by omega
        rw [step_plain c (show ¬ 0 < XOps.arityF a.f0 by rw [hn]; decide)]
        simp only [if_neg (show ¬ (((0 : Nat) : Int) > (s.length : Int)) by omega)]
        have key : ∀ kind, Ev (fun k => r15_step.j1 k s fold ((0 : Nat) : Int) kind a.f0 a.f1 a.f2) (if s.length = 30 then ([], 13) else (s ++ [kind], 0)) := fun kind => by
          refine Ev.succ ?_
          simp only [r15_step.j1, if_neg hlt]
          exact rj2 s hs a.f0 a.f1 a.f2 kind 0 (Nat.zero_le _) (fun h => absurd h (Nat.lt_irrefl _))
        have e : ∀ kind, (if (pushP (s, 0) kind).2 ≠ 0 then (([] : List Bool), (pushP (s, 0) kind).2) else ((pushP (s, 0) kind).1.1, 0)) = (if s.length = 30 then ([], 13) else (s ++ [kind], 0)) := fun kind => by
          unfold pushP
          by_cases c6 : s.length = 30
          · simp [c6]
          · simp [c6]
        rw [e]
        by_cases c5 : a.f0 = 1
        · simp only [if_pos c5]
          refine (key _).to ?_
          simp [c5]
        · simp only [if_neg c5]
          refine (key _).to ?_
          have : (decide (a.f0 = 1) || decide (a.f0 = 2)) = (a.f0 == 2) := by
            rw [decide_eq_false c5, Bool.false_or]
            rfl
          rw [this]
end Go.Proofs.YtnodgcakmolleaaGreatDoorL
namespace Go.Proofs.YtnodgcakmolleaaGreatDoorL
open Go.RowKit Go.Proofs Go.Proofs.YtnodgcakmolleaaGreatDoor Go.Proofs.YtnodgcakmolleaaGreatDoor.PX Go.Proofs.YtnodgcakmolleaaGreatDoorW.PrintWords Go.Proofs.YtnodgcakmolleaaGreatDoorW.PrintMore Go.Proofs.YtnodgcakmolleaaGreatDoor.XCheck
theorem rd_ins (p : List Ins) (i : Nat) (h : i < p.length) : rd_T44 p (i : Int) = p[i] := by
  unfold rd_T44
  rw [Int.toNat_natCast, List.getD_eq_getElem?_getD, List.getElem?_eq_getElem h]
  rfl
theorem push_m {s : List Bool} {m m' : Int} {t : Bool} : (pushP (s, m) t).2 = (pushP (s, m') t).2 ∧ (pushP (s, m) t).1.1 = (pushP (s, m') t).1.1 := by
  unfold pushP
  by_cases c : s.length = 30
  · simp [c]
  · simp [c]
theorem step_m {fold s : List Bool} {m m' : Int} {o : Int} : (stepP fold (s, m) o).2 = (stepP fold (s, m') o).2 ∧ (stepP fold (s, m) o).1.1 = (stepP fold (s, m') o).1.1 := by
  by_cases c : 22 ≤ o
  · rw [step_given c, step_given c]
    unfold givenP
    by_cases c2 : fold.length = 0
    · rw [if_pos c2, if_pos c2]; exact ⟨rfl, rfl⟩
    · rw [if_neg c2, if_neg c2]; exact push_m
  · by_cases c2 : 0 < XOps.arityF o
    · rw [step_done c c2, step_done c c2]
      unfold doneP
      simp only
      by_cases c3 : (s.length : Int) < XOps.arityF o
      · simp [c3]
      · simp only [if_neg c3]
        by_cases c4 : (XOps.resultF o (s.drop (s.length - (XOps.arityF o).toNat))).2 ≠ 0
        · simp only [if_pos c4, and_self]
        · simp only [if_neg c4]; exact push_m
    · rw [step_plain c c2, step_plain c c2]; exact push_m
theorem rstack_go (fold : List Bool) (hf : fold.length = 0 ∨ fold.length = 2) (p : List Ins) (hp : p.length ≤ 200) : ∀ m i : Nat, i + m = p.length → ∀ (s : List Bool) (most : Int), s.length ≤ 30 →
    Ev (fun k => r15_Stack.l0 k p fold s (i : Int)) ((runP May fold (p.drop i) i (s, most)).1.1, (runP May fold (p.drop i) i (s, most)).2.1, (runP May fold (p.drop i) i (s, most)).2.2)
  | 0, i, hi, s, most, hs => by
    refine Ev.succ ?_
    simp only [r15_Stack.l0, if_neg (show ¬ (i : Int) < (p.length : Int) by omega)]
    refine Ev.ret ?_
    rw [List.drop_of_length_le (by omega), run_nil]
    have : p.length = i := by omega
    rw [this]
  | m + 1, i, hi, s, most, hs => by
    have h : i < p.length := by omega
    have hd : p.drop i = p[i] :: p.drop (i + 1) := List.drop_eq_getElem_cons h
    refine Ev.succ ?_
    simp only [r15_Stack.l0, if_pos (show (i : Int) < (p.length : Int) by omega), if_pos (show (0 : Int) ≤ (i : Int) by omega), rd_ins p i h, wrap_succ (i := i) (by omega)]
    refine Ev.bind (rstep fold s p[i] hf hs) ?_
    rw [hd]
    rcases hm : May p[i] with _ | _
    · have e : rstepP fold s p[i] = ([], 1) := by unfold rstepP; rw [if_pos hm]
      rw [e, run_no hm]
      simp only [if_neg (show ¬ (1 : Int) = 0 by decide)]
      exact Ev.now _
    · have e : rstepP fold s p[i] = if (stepP fold (s, 0) (p[i]).f0).2 ≠ 0 then ([], (stepP fold (s, 0) (p[i]).f0).2) else ((stepP fold (s, 0) (p[i]).f0).1.1, 0) := by unfold rstepP; rw [if_neg (by rw [hm]; simp)]
      have hsm := step_m (fold := fold) (s := s) (m := most) (m' := 0) (o := (p[i]).f0)
      rw [e]
      by_cases h2 : (stepP fold (s, most) (p[i]).f0).2 = 0
      · have h3 : ¬ (stepP fold (s, 0) (p[i]).f0).2 ≠ 0 := by rw [← hsm.1]; simpa using h2
        rw [if_neg h3, run_go hm h2]
        simp only [if_true]
        have := rstack_go fold hf p hp m (i + 1) (by omega) (stepP fold (s, most) (p[i]).f0).1.1 (stepP fold (s, most) (p[i]).f0).1.2 (stepP_len (fold := fold) (x := (s, most)) hs)
        rw [hsm.2] at this
        rw [show (stepP fold (s, most) (p[i]).f0).1 = ((stepP fold (s, 0) (p[i]).f0).1.1, (stepP fold (s, most) (p[i]).f0).1.2) by rw [← hsm.2]]
        exact this
      · have h3 : (stepP fold (s, 0) (p[i]).f0).2 ≠ 0 := by rw [← hsm.1]; exact h2
        rw [if_pos h3, run_bad hm h2, step_err hs h2]
        simp only [if_neg h3]
        refine Ev.ret ?_
        rw [hsm.1]
theorem rstack (p : List Ins) (fold : List Bool) (hfl : fold.length ≤ 1000000) : Ev (fun k => r15_Stack.f k p fold) (stackP May p fold) := by
  have key : ∀ b : Bool, (b = true ↔ (fold.length ≠ 0 ∧ fold.length ≠ 2)) → Ev (fun k => r15_Stack.j0 k p fold b) (stackP May p fold) := fun b hb => by
    refine Ev.succ ?_
    unfold stackP
    cases b
    · have h1 : ¬ (fold.length ≠ 0 ∧ fold.length ≠ 2) := fun h => by have := hb.2 h; cases this
      rw [if_neg h1]
      by_cases h2 : 200 < p.length
      · simp only [r15_Stack.j0, Bool.false_eq_true, if_false, if_pos (show (p.length : Int) > 200 by omega), if_pos h2]
        exact Ev.now _
      · simp only [r15_Stack.j0, Bool.false_eq_true, if_false, if_neg (show ¬ (p.length : Int) > 200 by omega), if_neg h2]
        exact rstack_go fold (by omega) p (by omega) p.length 0 (by omega) [] 0 (by decide)
    · rw [if_pos (hb.1 rfl)]
      simp only [r15_Stack.j0, if_true]
      exact Ev.now _
  unfold r15_Stack.f
  by_cases h0 : (fold.length : Int) = 0
  · simp only [if_pos h0]
    exact key false ⟨(fun h => by cases h), (fun h => absurd (by omega : fold.length = 0) h.1)⟩
  · simp only [if_neg h0]
    refine key _ ⟨fun h => ?_, fun h => ?_⟩
    · have : ¬ (fold.length : Int) = 2 := by simpa using h
      exact ⟨by omega, by omega⟩
    · have : ¬ (fold.length : Int) = 2 := by omega
      simpa using this
theorem rsame_go (a b : List Bool) (hl : a.length = b.length) (hs : a.length < 1000) : ∀ m i : Nat, i + m = a.length → Ev (fun k => r15_Same.l0 k a b (i : Int)) (decide (a.drop i = b.drop i))
  | 0, i, hi => by
    refine Ev.succ ?_
    simp only [r15_Same.l0, if_neg (show ¬ (i : Int) < (a.length : Int) by omega)]
    refine Ev.ret ?_
    rw [List.drop_of_length_le (by omega), List.drop_of_length_le (by omega)]
    rfl
  | m + 1, i, hi => by
    have h1 : i < a.length := by omega
    have h2 : i < b.length := by omega
    have ea : a.drop i = a[i] :: a.drop (i + 1) := List.drop_eq_getElem_cons h1
    have eb : b.drop i = b[i] :: b.drop (i + 1) := List.drop_eq_getElem_cons h2
    have ra : rdOf false a (i : Int) = a[i] := by rw [rdOf_nat, List.getD_eq_getElem?_getD, List.getElem?_eq_getElem h1]; rfl
    have rb : rdOf false b (i : Int) = b[i] := by rw [rdOf_nat, List.getD_eq_getElem?_getD, List.getElem?_eq_getElem h2]; rfl
    refine Ev.succ ?_
    simp only [r15_Same.l0, if_pos (show (i : Int) < (a.length : Int) by omega), if_pos (show (0 : Int) ≤ (i : Int) by omega), if_pos (show (i : Int) < (b.length : Int) by omega), ra, rb, wrap_succ (i := i) (by omega)]
    by_cases c : a[i] = b[i]
    · have : (a[i] != b[i]) = false := by simp [c]
      simp only [this, Bool.false_eq_true, if_false]
      refine (rsame_go a b hl hs m (i + 1) (by omega)).to ?_
      have h3 : (a.drop i = b.drop i) ↔ (a.drop (i + 1) = b.drop (i + 1)) := by
        rw [ea, eb, List.cons.injEq]
        exact ⟨fun h => h.2, fun h => ⟨c, h⟩⟩
      exact decide_eq_decide.2 h3.symm
    · have : (a[i] != b[i]) = true := by simp [c]
      simp only [this, if_true]
      refine Ev.ret ?_
      symm
      refine decide_eq_false ?_
      rw [ea, eb, List.cons.injEq]
      exact fun h => c h.1
theorem rsame (a b : List Bool) (hs : a.length < 1000) : Ev (fun k => r15_Same.f k a b) (decide (a = b)) := by
  unfold r15_Same.f
  by_cases c : a.length = b.length
  · simp only [if_pos (show (a.length : Int) = (b.length : Int) by omega)]
    exact rsame_go a b c hs a.length 0 (by omega)
  · simp only [if_neg (show ¬ (a.length : Int) = (b.length : Int) by omega)]
    refine Ev.ret ?_
    symm
    exact decide_eq_false fun e => c (by rw [e])
theorem equal_go (a b : List Bool) (hl : a.length = b.length) (hs : a.length < 1000) : ∀ m i : Nat, i + m = a.length → Ev (fun k => slices_Equal_bool_bool.l0 k a b (a.length : Int) (i : Int)) (decide (a.drop i = b.drop i))
  | 0, i, hi => by
    refine Ev.succ ?_
    simp only [slices_Equal_bool_bool.l0, if_neg (show ¬ (i : Int) < (a.length : Int) by omega)]
    refine Ev.ret ?_
    rw [List.drop_of_length_le (by omega), List.drop_of_length_le (by omega)]
    rfl
  | m + 1, i, hi => by
    have h1 : i < a.length := by omega
    have h2 : i < b.length := by omega
    have ea : a.drop i = a[i] :: a.drop (i + 1) := List.drop_eq_getElem_cons h1
    have eb : b.drop i = b[i] :: b.drop (i + 1) := List.drop_eq_getElem_cons h2
    have ra : rdOf false a (i : Int) = a[i] := by rw [rdOf_nat, List.getD_eq_getElem?_getD, List.getElem?_eq_getElem h1]; rfl
    have rb : rdOf false b (i : Int) = b[i] := by rw [rdOf_nat, List.getD_eq_getElem?_getD, List.getElem?_eq_getElem h2]; rfl
    refine Ev.succ ?_
    simp only [slices_Equal_bool_bool.l0, if_pos (show (i : Int) < (a.length : Int) by omega), if_pos (show (0 : Int) ≤ (i : Int) by omega), if_pos (show (i : Int) < (b.length : Int) by omega), ra, rb, wrap_succ (i := i) (by omega)]
    by_cases c : a[i] = b[i]
    · have : (a[i] != b[i]) = false := by simp [c]
      simp only [this, Bool.false_eq_true, if_false]
      refine (equal_go a b hl hs m (i + 1) (by omega)).to ?_
      have h3 : (a.drop i = b.drop i) ↔ (a.drop (i + 1) = b.drop (i + 1)) := by
        rw [ea, eb, List.cons.injEq]
        exact ⟨fun h => h.2, fun h => ⟨c, h⟩⟩
      exact decide_eq_decide.2 h3.symm
    · have : (a[i] != b[i]) = true := by simp [c]
      simp only [this, if_true]
      refine Ev.ret ?_
      symm
      refine decide_eq_false ?_
      rw [ea, eb, List.cons.injEq]
      exact fun h => c h.1
theorem equal_f (a b : List Bool) (hs : a.length < 1000) : Ev (fun k => slices_Equal_bool_bool.f k a b) (decide (a = b)) := by
  unfold slices_Equal_bool_bool.f
  by_cases c : a.length = b.length
  · simp only [if_pos (show (a.length : Int) = (b.length : Int) by omega)]
    exact equal_go a b c hs a.length 0 (by omega)
  · simp only [if_neg (show ¬ (a.length : Int) = (b.length : Int) by omega)]
    refine Ev.ret ?_
    symm
    exact decide_eq_false fun e => c (by rw [e])
theorem stack_len (p : List Ins) (fold : List Bool) : (stackP May p fold).1.length ≤ 30 := by
  unfold stackP
  split
  · decide
  · split
    · decide
    · obtain ⟨_, _, _, _, _, _, h, _⟩ := run_all fold p 0 ([], 0) (by decide)
      exact h
def checkP (p : List Ins) (fold want : List Bool) : Int := if (stackP May p fold).2.2 = 0 then (if (stackP May p fold).1 = want then 0 else 11) else (stackP May p fold).2.2
theorem check_f (p : List Ins) (fold want : List Bool) : Ev (fun k => check_Check.f k p fold want) (checkP p fold want) := by
  unfold check_Check.f
  have hl := stack_len p fold
  have hS : check_Stack.f p fold = some (stackP May p fold) := rfl
  obtain ⟨st, hst⟩ : ∃ st, stackP May p fold = st := ⟨_, rfl⟩
  simp only [hS, Option.bind_some]
  unfold checkP
  rw [hst] at hl ⊢
  rcases st with ⟨s, n, er⟩
  simp only at hl ⊢
  by_cases c : er = 0
  · simp only [if_pos c]
    refine Ev.bind (equal_f s want (by omega)) ?_
    by_cases c2 : s = want
    · simp only [decide_eq_true c2, if_true, if_pos c2]
      exact Ev.ret (by rw [c])
    · simp only [decide_eq_false c2, Bool.false_eq_true, if_false, if_neg c2]
      exact Ev.now _
  · simp only [if_neg c]
    exact Ev.now _
theorem rcheck (p : List Ins) (fold want : List Bool) (hfl : fold.length ≤ 1000000) : Ev (fun k => r15_Check.f k p fold want) (checkP p fold want) := by
  unfold r15_Check.f
  have hl := stack_len p fold
  refine Ev.bind (rstack p fold hfl) ?_
  unfold checkP
  obtain ⟨st, hst⟩ : ∃ st, stackP May p fold = st := ⟨_, rfl⟩
  rw [hst] at hl ⊢
  rcases st with ⟨s, n, er⟩
  simp only at hl ⊢
  by_cases c : er = 0
  · simp only [if_pos c]
    refine Ev.bind (rsame s want (by omega)) ?_
    by_cases c2 : s = want
    · simp only [decide_eq_true c2, if_true, if_pos c2]
      exact Ev.ret (by rw [c])
    · simp only [decide_eq_false c2, Bool.false_eq_true, if_false, if_neg c2]
      exact Ev.now _
  · simp only [if_neg c]
    exact Ev.now _
end Go.Proofs.YtnodgcakmolleaaGreatDoorL
namespace Go.Proofs.YtnodgcakmolleaaGreatDoorL
open Go.RowKit Go.Proofs Go.Proofs.YtnodgcakmolleaaGreatDoor Go.Proofs.YtnodgcakmolleaaGreatDoor.PX Go.Proofs.YtnodgcakmolleaaGreatDoorW.PrintWords Go.Proofs.YtnodgcakmolleaaGreatDoorW.PrintMore
def cI (a b : Int) : Int := if a < b then -1 else if a > b then 1 else 0
def cS (a b : ByteArray) : Int := if Op.bytesLess a.toList b.toList = true then -1 else if Op.bytesLess b.toList a.toList = true then 1 else 0
def orI (x y z : Int) : Int := if x = 0 then (if y = 0 then z else y) else x
def kd (a b : Bool) : Int := if a = true then (if b = true then 0 else 1) else (if b = true then -1 else 0)
def cmpV (x y : XOps.Sv) : Int := orI (kd x.f0 y.f0) (cI x.f1 y.f1) (cS x.f2 y.f2)
theorem cmpInt (a b : Int) : cmp_Compare_int.f a b = some (cI a b) := by
  have h1 : (a != a) = false := by simp
  have h2 : (b != b) = false := by simp
  simp only [cmp_Compare_int.f, cmp_isNaN_int.f, Option.bind_some, h1, h2, cI, Bool.false_eq_true, if_false]
  split
  · rfl
  · split <;> rfl
theorem cmpStr (a b : ByteArray) : cmp_Compare_string.f a b = some (cS a b) := by
  have h1 : (a.toList != a.toList) = false := by simp
  have h2 : (b.toList != b.toList) = false := by simp
  simp only [cmp_Compare_string.f, cmp_isNaN_string.f, Option.bind_some, h1, h2, cS, Bool.false_eq_true, if_false]
  split
  · rfl
  · split <;> rfl
theorem or3 (x y z : Int) : Ev (fun k => cmp_Or_int.f k [x, y, z]) (orI x y z) := by
  refine Ev.at_k 5 (fun k => cmp_Or_int.mono _ k) ?_
  have w1 : wrap64 (0 + 1) = 1 := wrap_id (by decide) (by decide)
  have w2 : wrap64 (1 + 1) = 2 := wrap_id (by decide) (by decide)
  have w3 : wrap64 (2 + 1) = 3 := wrap_id (by decide) (by decide)
  have r0 : rd [x, y, z] 0 = x := rfl
  have r1 : rd [x, y, z] 1 = y := rfl
  have r2 : rd [x, y, z] 2 = z := rfl
  have hl : (([x, y, z] : List Int).length : Int) = 3 := rfl
  simp only [cmp_Or_int.f, cmp_Or_int.l0, hl, r0, r1, r2, w1, w2, w3, orI]
  by_cases hx : x = 0
  · by_cases hy : y = 0
    · by_cases hz : z = 0
      · simp [hx, hy, hz, r0, r1, r2]
      · simp [hx, hy, hz]
    · simp [hx, hy]
  · simp [hx]
theorem compare (x y : XOps.Sv) : Ev (fun k => value_Compare.f k x.f0 x.f1 x.f2 y.f0 y.f1 y.f2) (cmpV x y) := by
  obtain ⟨a0, a1, a2⟩ := x
  obtain ⟨b0, b1, b2⟩ := y
  have h : ∀ q : Int, Ev (fun k => (cmp_Compare_int.f a1 b1).bind fun t => (cmp_Compare_string.f a2 b2).bind fun u => (cmp_Or_int.f k [q, t, u]).bind fun r => some r) (orI q (cI a1 b1) (cS a2 b2)) := fun q => by
    simp only [cmpInt, cmpStr, Option.bind_some, Option.bind_fun_some]
    exact or3 _ _ _
  cases a0 <;> cases b0
  · refine Ev.succ ?_
    simp only [value_Compare.f, value_Compare.j0, Bool.false_eq_true, if_false]
    refine Ev.succ ?_
    simp only [value_Compare.j1, Bool.false_eq_true, if_false]
    exact h 0
  · refine Ev.succ ?_
    simp only [value_Compare.f, value_Compare.j0, Bool.false_eq_true, if_false]
    refine Ev.succ ?_
    simp only [value_Compare.j1, if_true]
    exact h (-1)
  · refine Ev.succ ?_
    simp only [value_Compare.f, value_Compare.j0, if_true, Bool.not_false]
    exact h 1
  · refine Ev.succ ?_
    simp only [value_Compare.f, value_Compare.j0, if_true, Bool.not_true, Bool.false_eq_true, if_false]
    refine Ev.succ ?_
    simp only [value_Compare.j1, Bool.false_eq_true, if_false]
    exact h 0
theorem less_irrefl (x : List UInt8) : Op.bytesLess x x = false := by rw [bytesLess_eq]; simp
theorem less_eq {x y : List UInt8} (h : ¬ Op.bytesLess x y = true) (k : ¬ Op.bytesLess y x = true) : x = y := by
  have := xm_less_gtr x y
  simp only [Bool.not_eq_true] at h k
  rw [h, k] at this
  simpa using this
theorem cI_zero (a b : Int) : cI a b = 0 ↔ a = b := by unfold cI; split <;> (try split) <;> omega
theorem kd_zero (a b : Bool) : kd a b = 0 ↔ a = b := by cases a <;> cases b <;> decide
theorem wraps_u32 (n : Int) (h₀ : 0 ≤ n) (h₁ : n < 2 ^ 32) : IntKind.u32.wrap n = n := by rw [IntKind.wrap_u32]; omega
end Go.Proofs.YtnodgcakmolleaaGreatDoorL
namespace Go.Proofs.YtnodgcakmolleaaGreatDoorL
open Go.RowKit Go.Proofs Go.Proofs.YtnodgcakmolleaaGreatDoor Go.Proofs.YtnodgcakmolleaaGreatDoor.PX Go.Proofs.YtnodgcakmolleaaGreatDoorW.PrintWords Go.Proofs.YtnodgcakmolleaaGreatDoorW.PrintMore
def numV (n : Int) : XOps.Sv := ⟨false, n, ⟨#[]⟩⟩
def clip (s : ByteArray) : ByteArray := s.extract 0 (mn (s.size : Int) 1000).toNat
def textV (s : ByteArray) : XOps.Sv := ⟨true, 0, clip s⟩
def yesV (b : Bool) : XOps.Sv := numV (if b = true then 1 else 0)
def fromS (s : ByteArray) (a : Int) : ByteArray := s.extract (mn (mx a 0) (s.size : Int)).toNat s.size
def sliceS (s : ByteArray) (a b : Int) : ByteArray := (fromS s a).extract 0 (mn (mx b 0) ((fromS s a).size : Int)).toNat
def turnS (f : Int) (s : ByteArray) : ByteArray := strOfNums (XTurn.turnL f (bytesOf s))
def itoaS (n : Int) : ByteArray := ⟨(Lib.itoa n).toArray⟩
def dig (b : UInt8) : Bool := decide (48 ≤ b.toNat ∧ b.toNat ≤ 57)
def magL (l : List UInt8) : Int := (((Lib.decFrom 0 l).getD 0 : Nat) : Int)
def okL (l : List UInt8) : Bool := decide (l ≠ []) && decide (l.length ≤ 18) && l.all dig
def numberL (l : List UInt8) : Int :=
  if l.head? = some 45 then (if okL l.tail = true then -magL l.tail else 0) else (if okL l = true then magL l else 0)
def hashN (x : Int) : List Int → Int
  | [] => x % 2147483648
  | c :: l => hashN (((Go.bits .xor .u32 x (c % 4294967296)) * 16777619) % 4294967296) l
def hashS (s : ByteArray) : Int := hashN 2166136261 (bytesOf s)
def opV (o : Int) (x y z : XOps.Sv) : XOps.Sv :=
  if o = 4 then numV (wrap64 (x.f1 + y.f1)) else if o = 5 then numV (wrap64 (x.f1 - y.f1)) else if o = 6 then numV (wrap64 (x.f1 * y.f1))
  else if o = 7 then numV (if y.f1 = 0 then 0 else wrap64 (Int.tdiv x.f1 y.f1)) else if o = 8 then numV (if y.f1 = 0 then 0 else Int.tmod x.f1 y.f1)
  else if o = 9 then textV (x.f2 ++ y.f2) else if o = 10 then numV (x.f2.size : Int) else if o = 11 then textV (sliceS x.f2 y.f1 z.f1)
  else if o = 12 then textV (turnS 97 x.f2) else if o = 13 then textV (turnS 65 x.f2) else if o = 14 then yesV (cmpV x y == 0) else if o = 15 then yesV (decide (cmpV x y < 0))
  else if o = 16 then yesV (x.f1 == 0) else if o = 17 then (if x.f1 = 0 then z else y) else if o = 18 then numV (numberL x.f2.data.toList) else if o = 19 then textV (itoaS x.f1)
  else if o = 20 then numV (hashS x.f2) else numV (Lib.index x.f2.data.toList y.f2.data.toList)
theorem mn_le (a b : Int) : mn a b ≤ a ∧ mn a b ≤ b := by unfold mn; split <;> omega
theorem mn_ge {a b c : Int} (h : c ≤ a) (k : c ≤ b) : c ≤ mn a b := by unfold mn; split <;> omega
theorem mx_ge (a b : Int) : a ≤ mx a b ∧ b ≤ mx a b := by unfold mx; split <;> omega
theorem num_f (n : Int) : value_Num.f n = some (false, n, (⟨#[]⟩ : ByteArray)) := rfl
theorem text_f (s : ByteArray) : value_Text.f s = some (true, 0, clip s) := by
  unfold value_Text.f
  rw [if_pos (mn_ge (by omega) (by omega)), if_pos (mn_le _ _).1]
  rfl
theorem yes_f (b : Bool) : value_yes.f b = some (false, (if b = true then 1 else 0), (⟨#[]⟩ : ByteArray)) := by cases b <;> rfl
theorem hash_go2 (s : ByteArray) (hs : s.size ≤ 140737488351232) : ∀ (m i : Nat) (x : Int), i + m = s.size → 0 ≤ x → x < 4294967296 → Ev (fun k => value_Hash.l0 k s x (s.size : Int) (i : Int)) (hashN x ((bytesOf s).drop i)) ∧ 0 ≤ hashN x ((bytesOf s).drop i) ∧ hashN x ((bytesOf s).drop i) < 2147483648
  | 0, i, x, hi, h0, h1 => by
    have hb : Go.bits .and .u32 x 2147483647 = x % 2147483648 := bits_mask .u32 32 (by decide) wraps_u32 31 (by decide) x h0 h1
    have hd : (bytesOf s).drop i = [] := List.drop_eq_nil_iff.2 (by rw [bytesOf_length]; omega)
    rw [hd]
    simp only [hashN]
    refine ⟨Ev.succ ?_, by omega, by omega⟩
    simp only [value_Hash.l0, if_neg (show ¬ (i : Int) < (s.size : Int) by omega), hb]
    exact Ev.ret (wrap_id (by omega) (by omega))
  | m + 1, i, x, hi, h0, h1 => by
    have hlt : i < (bytesOf s).length := by rw [bytesOf_length]; omega
    have hd : (bytesOf s).drop i = bt s (i : Int) :: (bytesOf s).drop (i + 1) := by
      rw [List.drop_eq_getElem_cons hlt]
      congr 1
      rw [← rd_bytesOf, rd_nat, List.getD_eq_getElem?_getD, List.getElem?_eq_getElem hlt]
      rfl
    obtain ⟨hr, h2, h3⟩ := hash_go2 s hs m (i + 1) (((Go.bits .xor .u32 x ((bt s (i : Int)) % 4294967296)) * 16777619) % 4294967296) (by omega) (by omega) (by omega)
    rw [hd]
    simp only [hashN]
    refine ⟨Ev.succ ?_, h2, h3⟩
    simp only [value_Hash.l0, if_pos (show (i : Int) < (s.size : Int) by omega), if_pos (show (0 : Int) ≤ (i : Int) by omega), wrap_succ (i := i) (by omega)]
    exact hr
theorem hash_f (s : ByteArray) (hs : s.size ≤ 140737488351232) : Ev (fun k => value_Hash.f k s) (hashS s) ∧ 0 ≤ hashS s ∧ hashS s < 2147483648 :=
  hash_go2 s hs s.size 0 2166136261 (by omega) (by decide) (by decide)
theorem contains_fin : ∀ n : Fin 256, ([48, 49, 50, 51, 52, 53, 54, 55, 56, 57] : List UInt8).contains (UInt8.ofNat n.val) = decide (48 ≤ n.val ∧ n.val ≤ 57) := by decide +kernel
theorem contains_dig (b : UInt8) : ([48, 49, 50, 51, 52, 53, 54, 55, 56, 57] : List UInt8).contains b = dig b := by
  have := contains_fin ⟨b.toNat, b.toNat_lt⟩
  rw [UInt8.ofNat_toNat] at this
  exact this
theorem dropWhile_all {α : Type} {p : α → Bool} {l : List α} (h : l.dropWhile p = []) : ∀ x ∈ l, p x = true := by
  induction l with
  | nil => intro x hx; cases hx
  | cons a l ih =>
    rw [List.dropWhile_cons] at h
    split at h
    · intro x hx
      rcases List.mem_cons.1 hx with rfl | hx
      · assumption
      · exact ih h x hx
    · cases h
theorem all_dropWhile {α : Type} {p : α → Bool} {l : List α} (h : ∀ x ∈ l, p x = true) : l.dropWhile p = [] := by
  induction l with
  | nil => rfl
  | cons a l ih =>
    rw [List.dropWhile_cons, if_pos (h a List.mem_cons_self)]
    exact ih fun x hx => h x (List.mem_cons_of_mem _ hx)
theorem dropWhile_head {α : Type} {p : α → Bool} {l : List α} {a : α} {r : List α} (h : l.dropWhile p = a :: r) : p a = false := by
  induction l with
  | nil => cases h
  | cons b l ih =>
    rw [List.dropWhile_cons] at h
    split at h
    · exact ih h
    · injection h with h1 h2
      subst h1
      simpa using ‹¬ p b = true›
theorem trim_nil (l cs : List UInt8) : Lib.trimS l cs = [] ↔ ∀ x ∈ l, cs.contains x = true := by
  unfold Lib.trimS Lib.trimLeftS Lib.trimRightS
  constructor
  · intro h
    have h1 := dropWhile_all h
    have h2 : l.reverse.dropWhile (cs.contains ·) = [] := by
      rcases hq : l.reverse.dropWhile (cs.contains ·) with _ | ⟨a, r⟩
      · rfl
      · have h3 := dropWhile_head hq
        have h4 := h1 a (by rw [hq]; simp)
        rw [h4] at h3
        cases h3
    intro x hx
    exact dropWhile_all h2 x (by simpa using hx)
  · intro h
    have h2 : l.reverse.dropWhile (cs.contains ·) = [] := all_dropWhile fun x hx => h x (by simpa using hx)
    rw [h2]
    rfl
theorem dec_all {l : List UInt8} (h : l.all dig = true) : ∀ a, ∃ m, Lib.decFrom a l = some m := by
  induction l with
  | nil => intro a; exact ⟨a, rfl⟩
  | cons b r ih =>
    intro a
    simp only [List.all_cons, Bool.and_eq_true] at h
    have hb : Lib.digitVal b = some (b.toNat - 48) := by
      have := h.1
      unfold dig at this
      unfold Lib.digitVal
      rw [if_pos (of_decide_eq_true this)]
    obtain ⟨m, hm⟩ := ih h.2 (a * 10 + (b.toNat - 48))
    exact ⟨m, by simp only [Lib.decFrom, hb]; exact hm⟩
theorem ok_mag {l : List UInt8} (h : okL l = true) : Lib.parseMag l = .ok (magL l).toNat ∧ 0 ≤ magL l ∧ magL l < 1000000000000000000 := by
  unfold okL at h
  simp only [Bool.and_eq_true, decide_eq_true_eq] at h
  obtain ⟨⟨h1, h2⟩, h3⟩ := h
  obtain ⟨m, hm⟩ := dec_all h3 0
  have h4 : magL l = (m : Int) := by unfold magL; rw [hm]; rfl
  have h5 := Lib.decFrom_lt18 hm h2
  refine ⟨?_, by omega, by omega⟩
  rw [Lib.parseMag_short l h2, h4]
  unfold Lib.decNat
  rw [if_neg (by simpa using h1), hm]
  rfl
theorem atoi_minus {r : List UInt8} (h : okL r = true) : Lib.atoiAll (45 :: r) = .ok (-magL r) := by
  obtain ⟨h1, h2, h3⟩ := ok_mag h
  rw [Lib.atoiAll_minus, h1]
  simp only [Lib.signed]
  rw [if_neg (by omega)]
  congr 1 <;> omega
theorem atoi_plain {l : List UInt8} (h : okL l = true) : Lib.atoiAll l = .ok (magL l) := by
  obtain ⟨h1, h2, h3⟩ := ok_mag h
  unfold okL at h
  simp only [Bool.and_eq_true, decide_eq_true_eq] at h
  obtain ⟨⟨k1, k2⟩, k3⟩ := h
  rcases l with _ | ⟨c, r⟩
  · exact absurd rfl k1
  simp only [List.all_cons, Bool.and_eq_true] at k3
  have hc := k3.1
  unfold dig at hc
  have hc := of_decide_eq_true hc
  rw [Lib.atoiAll_plain c r (by omega) (by omega), h1]
  simp only [Lib.signless]
  rw [if_neg (by omega)]
  congr 1 <;> omega
theorem data_extract (s : ByteArray) (a : Nat) : (s.extract a s.size).data.toList = s.data.toList.drop a := by
  rw [Lib.extract_data]
  rw [List.take_of_length_le]
  rw [List.length_drop, data_length]
  exact Nat.le_refl _
theorem prefix_f (s : ByteArray) : strings_TrimPrefix.f s (⟨#[45]⟩ : ByteArray) = some (if s.data.toList.head? = some 45 then s.extract 1 s.size else s) := by
  have h1 : (⟨#[45]⟩ : ByteArray).size = 1 := rfl
  have hl := data_length s
  unfold strings_TrimPrefix.f stringslite_TrimPrefix.f stringslite_HasPrefix.f
  rcases hq : s.data.toList with _ | ⟨c, r⟩
  · rw [hq] at hl
    have hz : s.size = 0 := hl.symm
    rw [h1, hz]
    rfl
  · rw [hq] at hl
    have hz : 1 ≤ s.size := by rw [← hl]; simp
    have he : (s.extract 0 1).toList = [c] := by
      rw [toList_data, Lib.extract_data, hq]
      rfl
    rw [h1, if_pos (show (s.size : Int) ≥ ((1 : Nat) : Int) by omega), if_pos (show (0 : Int) ≤ ((1 : Nat) : Int) by decide), if_pos (show ((1 : Nat) : Int) ≤ (s.size : Int) by omega)]
    simp only [Int.toNat_natCast, he, Option.bind_some]
    have h2 : (⟨#[45]⟩ : ByteArray).toList = [45] := by rw [toList_data]
    rw [h2]
    by_cases hc : c = 45
    · subst hc
      simp only [List.head?_cons, if_true, BEq.rfl]
      rw [if_pos (show (0 : Int) ≤ ((1 : Nat) : Int) by decide), if_pos (show ((1 : Nat) : Int) ≤ (s.size : Int) by omega)]
      rfl
    · have h3 : ([c] == ([45] : List UInt8)) = false := by simp [hc]
      rw [h3]
      simp [hc]
theorem number_f (s : ByteArray) (hs : s.size ≤ 140737488351232) (b0 : Bool) (b1 : Int) (y z : XOps.Sv) : Ev (fun k => value_val_number.f k b0 b1 s y.f0 y.f1 y.f2 z.f0 z.f1 z.f2) (false, numberL s.data.toList, (⟨#[]⟩ : ByteArray)) := by
  have key : ∀ t : ByteArray, t.size ≤ 140737488351232 → (∀ h : okL t.data.toList = true, Lib.atoiAll s.data.toList = .ok (numberL s.data.toList)) → (okL t.data.toList = false → numberL s.data.toList = 0) →
      Ev (fun k => if t.toList = ([] : List UInt8) then (value_val_number.j0 k true b0 b1 s) else (if (t.size : Int) > 18 then (value_val_number.j0 k true b0 b1 s) else ((strings_Trim.f t (⟨#[48, 49, 50, 51, 52, 53, 54, 55, 56, 57]⟩ : ByteArray)).bind fun t246 => (value_val_number.j0 k (t246.toList != ([] : List UInt8)) b0 b1 s)))) (false, numberL s.data.toList, (⟨#[]⟩ : ByteArray)) := by
    intro t ht hok hno
    have bad : okL t.data.toList = false → Ev (fun k => value_val_number.j0 k true b0 b1 s) (false, numberL s.data.toList, (⟨#[]⟩ : ByteArray)) := fun h => by
      rw [hno h]
      refine Ev.succ ?_
      simp only [value_val_number.j0, if_true, num_f, Option.bind_some]
      exact Ev.now _
    have hlen := data_length t
    by_cases h1 : t.toList = ([] : List UInt8)
    · simp only [if_pos h1]
      rw [toList_data] at h1
      refine bad ?_
      rw [h1]; rfl
    · simp only [if_neg h1]
      rw [toList_data] at h1
      by_cases h2 : (t.size : Int) > 18
      · simp only [if_pos h2]
        refine bad ?_
        unfold okL
        have : ¬ t.data.toList.length ≤ 18 := by rw [hlen]; omega
        rw [decide_eq_false this, Bool.and_false, Bool.false_and]
      · simp only [if_neg h2]
        have h3 : strings_Trim.f t (⟨#[48, 49, 50, 51, 52, 53, 54, 55, 56, 57]⟩ : ByteArray) = some ⟨(Lib.trimS t.data.toList [48, 49, 50, 51, 52, 53, 54, 55, 56, 57]).toArray⟩ := by
          unfold strings_Trim.f
          rw [if_pos ⟨by omega, by decide, by decide⟩]
        simp only [h3, Option.bind_some]
        have h4 : (⟨(Lib.trimS t.data.toList [48, 49, 50, 51, 52, 53, 54, 55, 56, 57]).toArray⟩ : ByteArray).toList = Lib.trimS t.data.toList [48, 49, 50, 51, 52, 53, 54, 55, 56, 57] := by rw [toList_data]
        rw [h4]
        by_cases h5 : t.data.toList.all dig = true
        · have h6 : Lib.trimS t.data.toList [48, 49, 50, 51, 52, 53, 54, 55, 56, 57] = [] := (trim_nil _ _).2 fun x hx => by rw [contains_dig]; exact List.all_eq_true.1 h5 x hx
          have h7 : okL t.data.toList = true := by
            unfold okL
            have : t.data.toList.length ≤ 18 := by rw [hlen]; omega
            rw [h5, decide_eq_true h1, decide_eq_true this]
            rfl
          rw [h6]
          refine Ev.succ ?_
          have h8 : strconv_Atoi.f s = some (numberL s.data.toList, none) := by
            unfold strconv_Atoi.f
            rw [if_pos (by omega), hok h7]
          simp only [value_val_number.j0, h8, num_f, Option.bind_some, bne_self_eq_false, Bool.false_eq_true, if_false]
          exact Ev.now _
        · have h6 : (Lib.trimS t.data.toList [48, 49, 50, 51, 52, 53, 54, 55, 56, 57] != []) = true := by
            rw [bne_iff_ne]
            intro h
            refine h5 (List.all_eq_true.2 fun x hx => ?_)
            rw [← contains_dig]
            exact (trim_nil _ _).1 h x hx
          rw [h6]
          refine bad ?_
          unfold okL
          simp only [Bool.not_eq_true] at h5
          rw [h5, Bool.and_false]
  unfold value_val_number.f
  simp only [prefix_f, Option.bind_some]
  rcases hq : s.data.toList with _ | ⟨c, r⟩
  · have : ¬ s.data.toList.head? = some 45 := by rw [hq]; simp
    rw [hq] at this
    simp only [List.head?_nil, if_neg this]
    have hk := key s hs
    rw [hq] at hk
    exact hk (fun h => by cases h) (fun _ => rfl)
  · by_cases hc : c = 45
    · subst hc
      simp only [List.head?_cons, if_true]
      have hx : (s.extract 1 s.size).data.toList = r := by rw [data_extract, hq]; rfl
      have hz : (s.extract 1 s.size).size ≤ 140737488351232 := by rw [← data_length, hx]; have := data_length s; rw [hq] at this; simp at this; omega
      have hk := key (s.extract 1 s.size) hz
      rw [hx, hq] at hk
      refine hk (fun h => ?_) (fun h => ?_)
      · unfold numberL
        rw [if_pos (show (45 :: r : List UInt8).head? = some 45 from rfl)]
        rw [if_pos (show okL (45 :: r : List UInt8).tail = true from h)]
        exact atoi_minus h
      · unfold numberL
        rw [if_pos (show (45 :: r : List UInt8).head? = some 45 from rfl)]
        rw [if_neg (show ¬ okL (45 :: r : List UInt8).tail = true by rw [show okL (45 :: r : List UInt8).tail = false from h]; simp)]
    · have hh : ¬ (c :: r).head? = some 45 := by simp [hc]
      simp only [if_neg hh]
      have hk := key s hs
      rw [hq] at hk
      refine hk (fun h => ?_) (fun h => ?_)
      · unfold numberL
        rw [if_neg hh, if_pos h]
        exact atoi_plain h
      · unfold numberL
        rw [if_neg hh, h]
        rfl
structure Fit (x : XOps.Sv) : Prop where
  size : x.f2.size ≤ 140737488351232
  num : -9223372036854775808 ≤ x.f1 ∧ x.f1 ≤ 9223372036854775807
theorem Ev.map {α β : Type} {g : Nat → Option α} {a : α} (f : α → β) {b : β} (h : Ev g a) (e : f a = b) : Ev (fun k => (g k).map f) b := by
  obtain ⟨K, h⟩ := h
  exact ⟨K, fun k hk => by show (g k).map f = some b; rw [h k hk, ← e]; rfl⟩
def toSv (p : Bool × Int × ByteArray) : XOps.Sv := ⟨p.1, p.2.1, p.2.2⟩
theorem D_add (k : Nat) (x y z : XOps.Sv) : value_Do.D k 70 x y z = (value_val_add.f x.f0 x.f1 x.f2 y.f0 y.f1 y.f2 z.f0 z.f1 z.f2).map toSv := rfl
theorem D_sub (k : Nat) (x y z : XOps.Sv) : value_Do.D k 71 x y z = (value_val_sub.f x.f0 x.f1 x.f2 y.f0 y.f1 y.f2 z.f0 z.f1 z.f2).map toSv := rfl
theorem D_mul (k : Nat) (x y z : XOps.Sv) : value_Do.D k 72 x y z = (value_val_mul.f x.f0 x.f1 x.f2 y.f0 y.f1 y.f2 z.f0 z.f1 z.f2).map toSv := rfl
theorem D_div (k : Nat) (x y z : XOps.Sv) : value_Do.D k 73 x y z = (value_val_div.f x.f0 x.f1 x.f2 y.f0 y.f1 y.f2 z.f0 z.f1 z.f2).map toSv := rfl
theorem D_mod (k : Nat) (x y z : XOps.Sv) : value_Do.D k 74 x y z = (value_val_mod.f x.f0 x.f1 x.f2 y.f0 y.f1 y.f2 z.f0 z.f1 z.f2).map toSv := rfl
theorem D_join (k : Nat) (x y z : XOps.Sv) : value_Do.D k 75 x y z = (value_val_join.f x.f0 x.f1 x.f2 y.f0 y.f1 y.f2 z.f0 z.f1 z.f2).map toSv := rfl
theorem D_long (k : Nat) (x y z : XOps.Sv) : value_Do.D k 76 x y z = (value_val_long.f x.f0 x.f1 x.f2 y.f0 y.f1 y.f2 z.f0 z.f1 z.f2).map toSv := rfl
theorem D_slice (k : Nat) (x y z : XOps.Sv) : value_Do.D k 77 x y z = (value_val_slice.f x.f0 x.f1 x.f2 y.f0 y.f1 y.f2 z.f0 z.f1 z.f2).map toSv := rfl
theorem D_upper (k : Nat) (x y z : XOps.Sv) : value_Do.D k 78 x y z = (value_val_upper.f x.f0 x.f1 x.f2 y.f0 y.f1 y.f2 z.f0 z.f1 z.f2).map toSv := rfl
theorem D_lower (k : Nat) (x y z : XOps.Sv) : value_Do.D k 79 x y z = (value_val_lower.f x.f0 x.f1 x.f2 y.f0 y.f1 y.f2 z.f0 z.f1 z.f2).map toSv := rfl
theorem D_eq (k : Nat) (x y z : XOps.Sv) : value_Do.D k 80 x y z = (value_val_eq.f k x.f0 x.f1 x.f2 y.f0 y.f1 y.f2 z.f0 z.f1 z.f2).map toSv := rfl
theorem D_less (k : Nat) (x y z : XOps.Sv) : value_Do.D k 81 x y z = (value_val_less.f k x.f0 x.f1 x.f2 y.f0 y.f1 y.f2 z.f0 z.f1 z.f2).map toSv := rfl
theorem D_not (k : Nat) (x y z : XOps.Sv) : value_Do.D k 82 x y z = (value_val_not.f x.f0 x.f1 x.f2 y.f0 y.f1 y.f2 z.f0 z.f1 z.f2).map toSv := rfl
theorem D_choose (k : Nat) (x y z : XOps.Sv) : value_Do.D k 83 x y z = (value_val_choose.f x.f0 x.f1 x.f2 y.f0 y.f1 y.f2 z.f0 z.f1 z.f2).map toSv := rfl
theorem D_number (k : Nat) (x y z : XOps.Sv) : value_Do.D k 84 x y z = (value_val_number.f k x.f0 x.f1 x.f2 y.f0 y.f1 y.f2 z.f0 z.f1 z.f2).map toSv := rfl
theorem D_text (k : Nat) (x y z : XOps.Sv) : value_Do.D k 85 x y z = (value_val_text.f x.f0 x.f1 x.f2 y.f0 y.f1 y.f2 z.f0 z.f1 z.f2).map toSv := rfl
theorem D_hash (k : Nat) (x y z : XOps.Sv) : value_Do.D k 86 x y z = (value_val_hash.f k x.f0 x.f1 x.f2 y.f0 y.f1 y.f2 z.f0 z.f1 z.f2).map toSv := rfl
theorem D_find (k : Nat) (x y z : XOps.Sv) : value_Do.D k 87 x y z = (value_val_find.f x.f0 x.f1 x.f2 y.f0 y.f1 y.f2 z.f0 z.f1 z.f2).map toSv := rfl
theorem slice_f (s : ByteArray) (a b : Int) (b0 : Bool) (b1 : Int) (y0 : Bool) (y2 : ByteArray) (z0 : Bool) (z2 : ByteArray) : value_val_slice.f b0 b1 s y0 a y2 z0 b z2 = some (true, 0, clip (sliceS s a b)) := by
  unfold value_val_slice.f
  rw [if_pos (mn_ge (by have := (mx_ge a 0).2; omega) (by omega)), if_pos (mn_le _ _).2]
  rw [if_pos (mn_ge (by have := (mx_ge b 0).2; omega) (by omega)), if_pos (mn_le _ _).2]
  rw [text_f]
  rfl
theorem turn_f (s : ByteArray) (f : Int) (h0 : 0 ≤ f) (h1 : f ≤ 200) (hs : s.size ≤ 140737488351232) : value_turn.f s f = some (true, 0, clip (turnS f s)) := by
  unfold value_turn.f
  rw [if_pos ⟨h0, h1, by omega⟩, text_f]
  rfl
theorem op_does {o : Int} {ks : List Int} {t : Int} {f : Nat} (h : XOps.opFn o = some (ks, t, f)) (x y z : XOps.Sv) (hx : Fit x) (hy : Fit y) (hs : x.f2.size ≤ 4000 ∧ y.f2.size ≤ 4000) : Ev (fun k => value_Do.D k f x y z) (opV o x y z) := by
  by_cases h4 : o = 4
  · subst h4
    obtain rfl : f = 70 := by
      injection h with h
      injection h with _ h
      injection h with _ h
      exact h.symm
    simp only [D_add]
    exact Ev.const rfl
  by_cases h5 : o = 5
  · subst h5
    obtain rfl : f = 71 := by
      injection h with h
      injection h with _ h
      injection h with _ h
      exact h.symm
    simp only [D_sub]
    exact Ev.const rfl
  by_cases h6 : o = 6
  · subst h6
    obtain rfl : f = 72 := by
      injection h with h
      injection h with _ h
      injection h with _ h
      exact h.symm
    simp only [D_mul]
    exact Ev.const rfl
  by_cases h7 : o = 7
  · subst h7
    obtain rfl : f = 73 := by
      injection h with h
      injection h with _ h
      injection h with _ h
      exact h.symm
    simp only [D_div]
    refine Ev.const ?_
    unfold value_val_div.f opV
    by_cases c : y.f1 = 0
    · simp [c, num_f, toSv, numV]
    · simp [c, num_f, toSv, numV]
  by_cases h8 : o = 8
  · subst h8
    obtain rfl : f = 74 := by
      injection h with h
      injection h with _ h
      injection h with _ h
      exact h.symm
    simp only [D_mod]
    refine Ev.const ?_
    unfold value_val_mod.f opV
    by_cases c : y.f1 = 0
    · simp [c, num_f, toSv, numV]
    · simp [c, num_f, toSv, numV]
  by_cases h9 : o = 9
  · subst h9
    obtain rfl : f = 75 := by
      injection h with h
      injection h with _ h
      injection h with _ h
      exact h.symm
    simp only [D_join]
    refine Ev.const ?_
    unfold value_val_join.f opV
    rw [if_pos (by omega), text_f]
    rfl
  by_cases h10 : o = 10
  · subst h10
    obtain rfl : f = 76 := by
      injection h with h
      injection h with _ h
      injection h with _ h
      exact h.symm
    simp only [D_long]
    exact Ev.const rfl
  by_cases h11 : o = 11
  · subst h11
    obtain rfl : f = 77 := by
      injection h with h
      injection h with _ h
      injection h with _ h
      exact h.symm
    simp only [D_slice]
    refine Ev.const ?_
    rw [slice_f]
    rfl
  by_cases h12 : o = 12
  · subst h12
    obtain rfl : f = 78 := by
      injection h with h
      injection h with _ h
      injection h with _ h
      exact h.symm
    simp only [D_upper]
    refine Ev.const ?_
    unfold value_val_upper.f
    rw [turn_f _ _ (by decide) (by decide) hx.size]
    rfl
  by_cases h13 : o = 13
  · subst h13
    obtain rfl : f = 79 := by
      injection h with h
      injection h with _ h
      injection h with _ h
      exact h.symm
    simp only [D_lower]
    refine Ev.const ?_
    unfold value_val_lower.f
    rw [turn_f _ _ (by decide) (by decide) hx.size]
    rfl
  by_cases h14 : o = 14
  · subst h14
    obtain rfl : f = 80 := by
      injection h with h
      injection h with _ h
      injection h with _ h
      exact h.symm
    simp only [D_eq]
    refine Ev.map toSv (a := (false, (if (cmpV x y == 0) = true then 1 else 0), (⟨#[]⟩ : ByteArray))) ?_ rfl
    unfold value_val_eq.f
    refine Ev.bind (compare x y) ?_
    rw [yes_f]
    exact Ev.now _
  by_cases h15 : o = 15
  · subst h15
    obtain rfl : f = 81 := by
      injection h with h
      injection h with _ h
      injection h with _ h
      exact h.symm
    simp only [D_less]
    refine Ev.map toSv (a := (false, (if (decide (cmpV x y < 0)) = true then 1 else 0), (⟨#[]⟩ : ByteArray))) ?_ rfl
    unfold value_val_less.f
    refine Ev.bind (compare x y) ?_
    rw [yes_f]
    exact Ev.now _
  by_cases h16 : o = 16
  · subst h16
    obtain rfl : f = 82 := by
      injection h with h
      injection h with _ h
      injection h with _ h
      exact h.symm
    simp only [D_not]
    refine Ev.const ?_
    unfold value_val_not.f
    rw [yes_f]
    rfl
  by_cases h17 : o = 17
  · subst h17
    obtain rfl : f = 83 := by
      injection h with h
      injection h with _ h
      injection h with _ h
      exact h.symm
    simp only [D_choose]
    refine Ev.const ?_
    unfold value_val_choose.f opV
    by_cases c : x.f1 = 0
    · simp [c, toSv]
    · simp [c, toSv]
  by_cases h18 : o = 18
  · subst h18
    obtain rfl : f = 84 := by
      injection h with h
      injection h with _ h
      injection h with _ h
      exact h.symm
    simp only [D_number]
    exact Ev.map toSv (number_f x.f2 hx.size x.f0 x.f1 y z) rfl
  by_cases h19 : o = 19
  · subst h19
    obtain rfl : f = 85 := by
      injection h with h
      injection h with _ h
      injection h with _ h
      exact h.symm
    simp only [D_text]
    refine Ev.const ?_
    unfold value_val_text.f strconv_Itoa.f
    rw [if_pos hx.num, Option.bind_some, text_f]
    rfl
  by_cases h20 : o = 20
  · subst h20
    obtain rfl : f = 86 := by
      injection h with h
      injection h with _ h
      injection h with _ h
      exact h.symm
    simp only [D_hash]
    refine Ev.map toSv (a := (false, hashS x.f2, (⟨#[]⟩ : ByteArray))) ?_ rfl
    unfold value_val_hash.f
    exact Ev.bind (hash_f x.f2 hx.size).1 (Ev.now _)
  by_cases h21 : o = 21
  · subst h21
    obtain rfl : f = 87 := by
      injection h with h
      injection h with _ h
      injection h with _ h
      exact h.symm
    simp only [D_find]
    refine Ev.const ?_
    unfold value_val_find.f strings_Index.f
    rw [if_pos (by omega)]
    rfl
  have e : XOps.opFn o = none := by simp only [XOps.opFn, h4, h5, h6, h7, h8, h9, h10, h11, h12, h13, h14, h15, h16, h17, h18, h19, h20, h21, if_false]
  rw [e] at h
  cases h
def doV (o : Int) (l : List XOps.Sv) : Bool × Int × ByteArray × Int :=
  if l.any (fun x => !XOps.isValB x) = true then (false, 0, (⟨#[]⟩ : ByteArray), 1) else
  if (XOps.resultF o (l.map (·.f0))).2 ≠ 0 then (false, 0, (⟨#[]⟩ : ByteArray), (XOps.resultF o (l.map (·.f0))).2) else
  ((opV o (l.getD 0 XOps.zv) (l.getD 1 XOps.zv) (l.getD 2 XOps.zv)).f0, (opV o (l.getD 0 XOps.zv) (l.getD 1 XOps.zv) (l.getD 2 XOps.zv)).f1, (opV o (l.getD 0 XOps.zv) (l.getD 1 XOps.zv) (l.getD 2 XOps.zv)).f2, 0)
theorem isVal_size {x : XOps.Sv} (h : XOps.isValB x = true) : x.f2.size ≤ 1000 := by
  unfold XOps.isValB at h
  split at h
  · simp only [Bool.and_eq_true, decide_eq_true_eq] at h
    omega
  · have h2 : x.f2.toList = [] := by simpa using h
    rw [toList_data] at h2
    have := data_length x.f2
    rw [h2] at this
    simp at this
    omega
theorem zv_val : XOps.isValB XOps.zv = true := by
  unfold XOps.isValB
  rw [if_neg (show ¬ XOps.zv.f0 = true from fun h => by cases h), toList_data]
  rfl
theorem getD_val {l : List XOps.Sv} (h : ¬ l.any (fun x => !XOps.isValB x) = true) (i : Nat) : XOps.isValB (l.getD i XOps.zv) = true := by
  by_cases hi : i < l.length
  · rw [List.getD_eq_getElem?_getD, List.getElem?_eq_getElem hi]
    rcases hq : XOps.isValB l[i] with _ | _
    · refine absurd (List.any_eq_true.2 ⟨l[i], List.getElem_mem hi, ?_⟩) h
      rw [hq]; rfl
    · exact hq
  · rw [List.getD_eq_getElem?_getD, List.getElem?_eq_none (by omega)]
    exact zv_val
theorem getD_num {l : List XOps.Sv} (h : ∀ v ∈ l, -9223372036854775808 ≤ v.f1 ∧ v.f1 ≤ 9223372036854775807) (i : Nat) : -9223372036854775808 ≤ (l.getD i XOps.zv).f1 ∧ (l.getD i XOps.zv).f1 ≤ 9223372036854775807 := by
  by_cases hi : i < l.length
  · rw [List.getD_eq_getElem?_getD, List.getElem?_eq_getElem hi]
    exact h _ (List.getElem_mem hi)
  · rw [List.getD_eq_getElem?_getD, List.getElem?_eq_none (by omega)]
    decide
theorem do_ (o : Int) (l : List XOps.Sv) (hl : l.length ≤ 1000000) (hn : ∀ v ∈ l, -9223372036854775808 ≤ v.f1 ∧ v.f1 ≤ 9223372036854775807) : Ev (fun k => value_Do.f k o l) (doV o l) := by
  unfold value_Do.f
  simp only [if_pos hl]
  by_cases c1 : l.any (fun x => !XOps.isValB x) = true
  · simp only [XOps.doF, doV, if_pos c1]
    exact Ev.const rfl
  by_cases c2 : (XOps.resultF o (l.map (·.f0))).2 ≠ 0
  · simp only [XOps.doF, doV, if_neg c1, if_pos c2]
    exact Ev.const rfl
  have c3 : XOps.resultF o (l.map (·.f0)) = ((XOps.resultF o (l.map (·.f0))).1, 0) := by
    have : (XOps.resultF o (l.map (·.f0))).2 = 0 := by simpa using c2
    rw [← this]
  obtain ⟨ks, t, f, hof, _, _, _⟩ := XOps.res_len c3
  have hv := getD_val c1
  have hN := getD_num hn
  have fit : ∀ i, Fit (l.getD i XOps.zv) := fun i => ⟨by have := isVal_size (hv i); omega, hN i⟩
  have hd := op_does hof (l.getD 0 XOps.zv) (l.getD 1 XOps.zv) (l.getD 2 XOps.zv) (fit 0) (fit 1) ⟨by have := isVal_size (hv 0); omega, by have := isVal_size (hv 1); omega⟩
  simp only [XOps.doF, doV, if_neg c1, if_neg c2, hof]
  exact Ev.map _ (Ev.map _ hd rfl) rfl
theorem res_rb {o : Int} {bs : List Bool} {rb : Bool} {ks : List Int} {t : Int} {f : Nat} (h : XOps.resultF o bs = (rb, 0)) (hf : XOps.opFn o = some (ks, t, f)) :
    rb = (decide (t = 1) || (decide (t = 2) && bs.getD (bs.length - 1) false)) ∧ bs.length = ks.length ∧ ∀ i, i < ks.length → XOps.bad (ks.getD i 0) (bs.getD i false) (bs.getD (bs.length - 1) false) = false := by
  unfold XOps.resultF at h
  rw [hf] at h
  simp only at h
  by_cases h1 : bs.length ≠ ks.length
  · rw [if_pos h1] at h
    simp at h
  rw [if_neg h1] at h
  by_cases h2 : (List.range ks.length).any (fun i => XOps.bad (ks.getD i 0) (bs.getD i false) (bs.getD (bs.length - 1) false)) = true
  · rw [if_pos h2] at h
    simp at h
  rw [if_neg h2] at h
  injection h with h3 h4
  refine ⟨h3.symm, by omega, fun i hi => ?_⟩
  rcases hq : XOps.bad (ks.getD i 0) (bs.getD i false) (bs.getD (bs.length - 1) false) with _ | _
  · rfl
  · exact absurd (List.any_eq_true.2 ⟨i, List.mem_range.2 hi, hq⟩) h2
theorem num_val (n : Int) : XOps.isValB (numV n) = true := by
  unfold XOps.isValB
  rw [if_neg (show ¬ (numV n).f0 = true from fun h => by cases h), show (numV n).f2 = ⟨#[]⟩ from rfl, toList_data]
  rfl
theorem clip_size (s : ByteArray) : (clip s).size ≤ 1000 ∧ (clip s).size ≤ s.size := by
  unfold clip
  rw [ByteArray.size_extract]
  have := mn_le (s.size : Int) 1000
  omega
theorem text_val (s : ByteArray) : XOps.isValB (textV s) = true := by
  unfold XOps.isValB
  rw [if_pos (show (textV s).f0 = true from rfl), show (textV s).f1 = 0 from rfl, show (textV s).f2 = clip s from rfl]
  have := (clip_size s).1
  simp
  omega
theorem op_total {o : Int} {ks : List Int} {t : Int} {f : Nat} (h : XOps.opFn o = some (ks, t, f)) (l : List XOps.Sv) (hv : ∀ i, XOps.isValB (l.getD i XOps.zv) = true) {rb : Bool} (hr : XOps.resultF o (l.map (·.f0)) = (rb, 0)) :
    XOps.isValB (opV o (l.getD 0 XOps.zv) (l.getD 1 XOps.zv) (l.getD 2 XOps.zv)) = true ∧ (opV o (l.getD 0 XOps.zv) (l.getD 1 XOps.zv) (l.getD 2 XOps.zv)).f0 = rb := by
  obtain ⟨hrb, hlen, hbad⟩ := res_rb hr h
  by_cases h4 : o = 4
  · subst h4
    obtain ⟨rfl, rfl⟩ : ks = [0, 0] ∧ t = 0 := by
      injection h with h
      injection h with h1 h2
      injection h2 with h2 _
      exact ⟨h1.symm, h2.symm⟩
    subst hrb
    exact ⟨num_val _, rfl⟩
  by_cases h5 : o = 5
  · subst h5
    obtain ⟨rfl, rfl⟩ : ks = [0, 0] ∧ t = 0 := by
      injection h with h
      injection h with h1 h2
      injection h2 with h2 _
      exact ⟨h1.symm, h2.symm⟩
    subst hrb
    exact ⟨num_val _, rfl⟩
  by_cases h6 : o = 6
  · subst h6
    obtain ⟨rfl, rfl⟩ : ks = [0, 0] ∧ t = 0 := by
      injection h with h
      injection h with h1 h2
      injection h2 with h2 _
      exact ⟨h1.symm, h2.symm⟩
    subst hrb
    exact ⟨num_val _, rfl⟩
  by_cases h7 : o = 7
  · subst h7
    obtain ⟨rfl, rfl⟩ : ks = [0, 0] ∧ t = 0 := by
      injection h with h
      injection h with h1 h2
      injection h2 with h2 _
      exact ⟨h1.symm, h2.symm⟩
    subst hrb
    exact ⟨num_val _, rfl⟩
  by_cases h8 : o = 8
  · subst h8
    obtain ⟨rfl, rfl⟩ : ks = [0, 0] ∧ t = 0 := by
      injection h with h
      injection h with h1 h2
      injection h2 with h2 _
      exact ⟨h1.symm, h2.symm⟩
    subst hrb
    exact ⟨num_val _, rfl⟩
  by_cases h9 : o = 9
  · subst h9
    obtain ⟨rfl, rfl⟩ : ks = [1, 1] ∧ t = 1 := by
      injection h with h
      injection h with h1 h2
      injection h2 with h2 _
      exact ⟨h1.symm, h2.symm⟩
    subst hrb
    exact ⟨text_val _, rfl⟩
  by_cases h10 : o = 10
  · subst h10
    obtain ⟨rfl, rfl⟩ : ks = [1] ∧ t = 0 := by
      injection h with h
      injection h with h1 h2
      injection h2 with h2 _
      exact ⟨h1.symm, h2.symm⟩
    subst hrb
    exact ⟨num_val _, rfl⟩
  by_cases h11 : o = 11
  · subst h11
    obtain ⟨rfl, rfl⟩ : ks = [1, 0, 0] ∧ t = 1 := by
      injection h with h
      injection h with h1 h2
      injection h2 with h2 _
      exact ⟨h1.symm, h2.symm⟩
    subst hrb
    exact ⟨text_val _, rfl⟩
  by_cases h12 : o = 12
  · subst h12
    obtain ⟨rfl, rfl⟩ : ks = [1] ∧ t = 1 := by
      injection h with h
      injection h with h1 h2
      injection h2 with h2 _
      exact ⟨h1.symm, h2.symm⟩
    subst hrb
    exact ⟨text_val _, rfl⟩
  by_cases h13 : o = 13
  · subst h13
    obtain ⟨rfl, rfl⟩ : ks = [1] ∧ t = 1 := by
      injection h with h
      injection h with h1 h2
      injection h2 with h2 _
      exact ⟨h1.symm, h2.symm⟩
    subst hrb
    exact ⟨text_val _, rfl⟩
  by_cases h14 : o = 14
  · subst h14
    obtain ⟨rfl, rfl⟩ : ks = [2, 2] ∧ t = 0 := by
      injection h with h
      injection h with h1 h2
      injection h2 with h2 _
      exact ⟨h1.symm, h2.symm⟩
    subst hrb
    exact ⟨num_val _, rfl⟩
  by_cases h15 : o = 15
  · subst h15
    obtain ⟨rfl, rfl⟩ : ks = [2, 2] ∧ t = 0 := by
      injection h with h
      injection h with h1 h2
      injection h2 with h2 _
      exact ⟨h1.symm, h2.symm⟩
    subst hrb
    exact ⟨num_val _, rfl⟩
  by_cases h16 : o = 16
  · subst h16
    obtain ⟨rfl, rfl⟩ : ks = [0] ∧ t = 0 := by
      injection h with h
      injection h with h1 h2
      injection h2 with h2 _
      exact ⟨h1.symm, h2.symm⟩
    subst hrb
    exact ⟨num_val _, rfl⟩
  by_cases h17 : o = 17
  · subst h17
    obtain ⟨rfl, rfl⟩ : ks = [0, 2, 2] ∧ t = 2 := by
      injection h with h
      injection h with h1 h2
      injection h2 with h2 _
      exact ⟨h1.symm, h2.symm⟩
    rw [List.length_map] at hlen
    rcases l with _ | ⟨x, _ | ⟨y, _ | ⟨z, _ | ⟨q, r⟩⟩⟩⟩ <;> simp at hlen
    have h1 := hbad 1 (by simp)
    have hy := hv 1
    have hz := hv 2
    simp only [List.map_cons, List.map_nil, List.length_cons, List.length_nil] at h1 hrb
    have e1 : y.f0 = z.f0 := by
      have h3 : XOps.bad 2 y.f0 z.f0 = false := h1
      unfold XOps.bad at h3
      simpa using h3
    have e2 : rb = z.f0 := by
      rw [hrb]
      simp
    have e3 : opV 17 x y z = if x.f1 = 0 then z else y := rfl
    show XOps.isValB (opV 17 x y z) = true ∧ (opV 17 x y z).f0 = rb
    rw [e3, e2]
    by_cases c : x.f1 = 0
    · rw [if_pos c]; exact ⟨hz, rfl⟩
    · rw [if_neg c]; exact ⟨hy, e1⟩
  by_cases h18 : o = 18
  · subst h18
    obtain ⟨rfl, rfl⟩ : ks = [1] ∧ t = 0 := by
      injection h with h
      injection h with h1 h2
      injection h2 with h2 _
      exact ⟨h1.symm, h2.symm⟩
    subst hrb
    exact ⟨num_val _, rfl⟩
  by_cases h19 : o = 19
  · subst h19
    obtain ⟨rfl, rfl⟩ : ks = [0] ∧ t = 1 := by
      injection h with h
      injection h with h1 h2
      injection h2 with h2 _
      exact ⟨h1.symm, h2.symm⟩
    subst hrb
    exact ⟨text_val _, rfl⟩
  by_cases h20 : o = 20
  · subst h20
    obtain ⟨rfl, rfl⟩ : ks = [1] ∧ t = 0 := by
      injection h with h
      injection h with h1 h2
      injection h2 with h2 _
      exact ⟨h1.symm, h2.symm⟩
    subst hrb
    exact ⟨num_val _, rfl⟩
  by_cases h21 : o = 21
  · subst h21
    obtain ⟨rfl, rfl⟩ : ks = [1, 1] ∧ t = 0 := by
      injection h with h
      injection h with h1 h2
      injection h2 with h2 _
      exact ⟨h1.symm, h2.symm⟩
    subst hrb
    exact ⟨num_val _, rfl⟩
  have e : XOps.opFn o = none := by simp only [XOps.opFn, h4, h5, h6, h7, h8, h9, h10, h11, h12, h13, h14, h15, h16, h17, h18, h19, h20, h21, if_false]
  rw [e] at h
  cases h
end Go.Proofs.YtnodgcakmolleaaGreatDoorL
namespace Go.Proofs.YtnodgcakmolleaaGreatDoorL
open Go.RowKit Go.Proofs Go.Proofs.YtnodgcakmolleaaGreatDoor Go.Proofs.YtnodgcakmolleaaGreatDoor.PX Go.Proofs.YtnodgcakmolleaaGreatDoorW.PrintWords Go.Proofs.YtnodgcakmolleaaGreatDoorW.PrintMore
theorem is_ (x : XOps.Sv) : r13_Is.f x.f0 x.f1 x.f2 = some (XOps.isValB x) := by
  unfold r13_Is.f XOps.isValB
  by_cases h1 : x.f0 = true
  · rw [if_pos h1, if_pos h1]
    by_cases h2 : x.f1 = 0
    · rw [if_pos h2, decide_eq_true h2, Bool.true_and]
    · rw [if_neg h2, decide_eq_false h2, Bool.false_and]
  · rw [if_neg h1, if_neg h1]
end Go.Proofs.YtnodgcakmolleaaGreatDoorL
namespace Go.Proofs.YtnodgcakmolleaaGreatDoorL
open Go.RowKit Go.Proofs Go.Proofs.YtnodgcakmolleaaGreatDoor Go.Proofs.YtnodgcakmolleaaGreatDoor.PX Go.Proofs.YtnodgcakmolleaaGreatDoorW.PrintWords Go.Proofs.YtnodgcakmolleaaGreatDoorW.PrintMore
theorem rcompare (x y : XOps.Sv) : Ev (fun k => r13_Compare.f k x.f0 x.f1 x.f2 y.f0 y.f1 y.f2) (cmpV x y) := by
  obtain ⟨a0, a1, a2⟩ := x
  obtain ⟨b0, b1, b2⟩ := y
  refine Ev.at_k 5 (fun k => r13_Compare.mono _ _ _ _ _ _ k) ?_
  simp only [r13_Compare.f, r13_Compare.j0]
  by_cases h0 : a0 = b0
  · subst h0
    have hk : kd a0 a0 = 0 := (kd_zero a0 a0).2 rfl
    simp only [bne_self_eq_false, Bool.false_eq_true, if_false]
    unfold cmpV orI
    simp only [hk, if_true]
    by_cases h1 : a1 < b1
    · have hc : cI a1 b1 = -1 := by unfold cI; rw [if_pos h1]
      simp only [if_pos h1, if_true, hc]
      rfl
    · simp only [if_neg h1]
      by_cases h2 : a1 = b1
      · subst h2
        have hc : cI a1 a1 = 0 := (cI_zero a1 a1).2 rfl
        simp only [if_true, hc]
        unfold cS
        by_cases h3 : Op.bytesLess a2.toList b2.toList = true
        · simp only [if_pos h3]
        · simp only [if_neg h3]
          by_cases h4 : a2.toList = b2.toList
          · simp only [if_pos h4]
            rw [h4, less_irrefl]
            rfl
          · simp only [if_neg h4]
            have h5 : Op.bytesLess b2.toList a2.toList = true := by
              rcases hq : Op.bytesLess b2.toList a2.toList with _ | _
              · exact absurd (less_eq h3 (by rw [hq]; simp)) h4
              · rfl
            rw [if_pos h5]
      · have hc : cI a1 b1 = 1 := by unfold cI; rw [if_neg h1, if_pos (by omega)]
        simp only [if_neg h2, Bool.false_eq_true, if_false, hc]
        rfl
  · have hb : (a0 != b0) = true := by simp [h0]
    simp only [hb, if_true]
    unfold cmpV orI
    cases a0 <;> cases b0
    · exact absurd rfl h0
    · rfl
    · rfl
    · exact absurd rfl h0
theorem rhash_go (s : ByteArray) (hs : s.size ≤ 140737488351232) : ∀ (m i : Nat) (x : Int), i + m = s.size → 0 ≤ x → x < 4294967296 → Ev (fun k => r13_Hash.l0 k s x (i : Int)) (hashN x ((bytesOf s).drop i))
  | 0, i, x, hi, h0, h1 => by
    have hd : (bytesOf s).drop i = [] := List.drop_eq_nil_iff.2 (by rw [bytesOf_length]; omega)
    rw [hd]
    simp only [hashN]
    refine Ev.succ ?_
    simp only [r13_Hash.l0, if_neg (show ¬ (i : Int) < (s.size : Int) by omega)]
    refine Ev.ret ?_
    rw [Int.tmod_eq_emod_of_nonneg h0]
    exact wrap_id (by omega) (by omega)
  | m + 1, i, x, hi, h0, h1 => by
    have hlt : i < (bytesOf s).length := by rw [bytesOf_length]; omega
    have hd : (bytesOf s).drop i = bt s (i : Int) :: (bytesOf s).drop (i + 1) := by
      rw [List.drop_eq_getElem_cons hlt]
      congr 1
      rw [← rd_bytesOf, rd_nat, List.getD_eq_getElem?_getD, List.getElem?_eq_getElem hlt]
      rfl
    have hr := rhash_go s hs m (i + 1) (((Go.bits .xor .u32 x ((bt s (i : Int)) % 4294967296)) * 16777619) % 4294967296) (by omega) (by omega) (by omega)
    rw [hd]
    simp only [hashN]
    refine Ev.succ ?_
    simp only [r13_Hash.l0, if_pos (show (i : Int) < (s.size : Int) by omega), if_pos (show (0 : Int) ≤ (i : Int) by omega), wrap_succ (i := i) (by omega)]
    exact hr
theorem rhash (s : ByteArray) (hs : s.size ≤ 140737488351232) : Ev (fun k => r13_Hash.f k s) (hashS s) := rhash_go s hs s.size 0 2166136261 (by omega) (by decide) (by decide)
theorem rturn_go (s : ByteArray) (f : Int) (hf : 0 ≤ f ∧ f ≤ 200) (hs : s.size ≤ 140737488351232) : ∀ (m i : Nat), i + m = s.size → Ev (fun k => r13_turned.l0 k s f (XTurn.turnL f ((bytesOf s).take i)) (i : Int)) (turnS f s)
  | 0, i, hi => by
    refine Ev.succ ?_
    simp only [r13_turned.l0, if_neg (show ¬ (i : Int) < (s.size : Int) by omega)]
    refine Ev.ret ?_
    rw [List.take_of_length_le (by rw [bytesOf_length]; omega)]
    rfl
  | m + 1, i, hi => by
    have hlt : i < (bytesOf s).length := by rw [bytesOf_length]; omega
    have hb : bt s (i : Int) = (bytesOf s)[i] := by
      rw [← rd_bytesOf, rd_nat, List.getD_eq_getElem?_getD, List.getElem?_eq_getElem hlt]
      rfl
    have ht : XTurn.turnL f ((bytesOf s).take (i + 1)) = XTurn.turnL f ((bytesOf s).take i) ++ [XTurn.turnB f (bt s (i : Int))] := by
      unfold XTurn.turnL
      rw [List.take_add_one, List.getElem?_eq_getElem hlt, List.map_append, hb]
      rfl
    have hr := rturn_go s f hf hs m (i + 1) (by omega)
    rw [ht] at hr
    have hlen : (XTurn.turnL f ((bytesOf s).take i)).length < 140737488355328 := by
      unfold XTurn.turnL
      rw [List.length_map, List.length_take, bytesOf_length]
      omega
    have hm : (f + 26) % 256 = f + 26 := by omega
    refine Ev.succ ?_
    simp only [r13_turned.l0, if_pos (show (i : Int) < (s.size : Int) by omega), if_pos (show (0 : Int) ≤ (i : Int) by omega), wrap_succ (i := i) (by omega), hm, if_pos hlen]
    by_cases c1 : bt s (i : Int) ≥ f
    · simp only [if_pos c1]
      by_cases c2 : bt s (i : Int) < f + 26
      · simp only [if_pos c2]
        have : XTurn.turnB f (bt s (i : Int)) = Go.bits .xor .u8 (bt s (i : Int)) 32 := by unfold XTurn.turnB; rw [if_pos ⟨c1, c2⟩]
        rw [this] at hr
        exact hr
      · simp only [if_neg c2]
        have : XTurn.turnB f (bt s (i : Int)) = bt s (i : Int) := by unfold XTurn.turnB; rw [if_neg (by omega)]
        rw [this] at hr
        exact hr
    · simp only [if_neg c1]
      have : XTurn.turnB f (bt s (i : Int)) = bt s (i : Int) := by unfold XTurn.turnB; rw [if_neg (by omega)]
      rw [this] at hr
      exact hr
theorem rturn (s : ByteArray) (f : Int) (hf : 0 ≤ f ∧ f ≤ 200) (hs : s.size ≤ 140737488351232) : Ev (fun k => r13_turned.f k s f) (turnS f s) := by
  have := rturn_go s f hf hs s.size 0 (by omega)
  rw [List.take_zero] at this
  exact this
theorem rtext (s : ByteArray) : r13_Text.f s = some (true, 0, clip s) := by
  unfold r13_Text.f r13_clip.f
  rw [if_pos (mn_ge (by omega) (by omega)), if_pos (mn_le _ _).1]
  rfl
theorem ext_data {a b : ByteArray} (h : a.data.toList = b.data.toList) : a = b := ByteArray.ext (Array.toList_inj.1 h)
theorem rslice (s : ByteArray) (a b : Int) (hs : s.size ≤ 140737488351232) : r13_slice.f s a b = some (sliceS s a b) := by
  have h1 := mn_le (mx a 0) (s.size : Int)
  have h2 : 0 ≤ mn (mx a 0) (s.size : Int) := mn_ge (mx_ge a 0).2 (by omega)
  generalize hp : mn (mx a 0) (s.size : Int) = p at h1 h2
  have w1 : wrap64 ((s.size : Int) - p) = (s.size : Int) - p := wrap_id (by omega) (by omega)
  have h3 := mn_le (mx b 0) ((s.size : Int) - p)
  have h4 : 0 ≤ mn (mx b 0) ((s.size : Int) - p) := mn_ge (mx_ge b 0).2 (by omega)
  generalize hq : mn (mx b 0) ((s.size : Int) - p) = q at h3 h4
  have w2 : wrap64 (p + q) = p + q := wrap_id (by omega) (by omega)
  unfold r13_slice.f
  simp only [hp, w1, hq, w2]
  rw [if_pos h2, if_pos (by omega), if_pos (by omega)]
  congr 1
  have hz : (fromS s a).size = s.size - p.toNat := by
    unfold fromS
    rw [hp, ByteArray.size_extract]
    omega
  unfold sliceS
  have e : (mn (mx b 0) ((fromS s a).size : Int)) = q := by
    rw [hz, ← hq]
    congr 1
    omega
  rw [e]
  apply ext_data
  rw [Lib.extract_data, Lib.extract_data]
  unfold fromS
  rw [hp, data_extract, List.drop_zero]
  congr 1
  omega
theorem rdiv (a b : Int) (ha : -9223372036854775808 ≤ a ∧ a ≤ 9223372036854775807) : r13_div.f a b = some (if b = 0 then 0 else wrap64 (Int.tdiv a b), if b = 0 then 0 else Int.tmod a b) := by
  unfold r13_div.f
  by_cases h : b = 0
  · simp [h]
  · by_cases h1 : b = -1
    · subst h1
      simp [Int.tdiv_neg, Int.tmod_neg]
    · simp [h, h1]
theorem dec_dig : ∀ (l : List UInt8) (a n : Nat), Lib.decFrom a l = some n → l.all dig = true
  | [], _, _, _ => rfl
  | b :: r, a, n, h => by
    simp only [Lib.decFrom] at h
    rcases hq : Lib.digitVal b with _ | d
    · rw [hq] at h; cases h
    · rw [hq] at h
      have h1 := Lib.digitVal_eq hq
      have h2 := dec_dig r _ _ h
      simp only [List.all_cons, h2, Bool.and_true]
      unfold dig
      exact decide_eq_true ⟨h1.1, h1.2.1⟩
theorem bt_data (s : ByteArray) (i : Nat) (h : i < s.size) : ∃ b, s.data.toList[i]? = some b ∧ bt s (i : Int) = (b.toNat : Int) := by
  have h' : i < s.data.toList.length := by rw [data_length]; exact h
  refine ⟨s.data.toList[i], List.getElem?_eq_getElem h', ?_⟩
  rw [← rd_bytesOf, rd_nat]
  unfold bytesOf
  rw [List.getD_eq_getElem?_getD, List.getElem?_map, List.getElem?_eq_getElem h']
  rfl
theorem rnum_go (t : ByteArray) (sg : Int) (hsg : sg = 1 ∨ sg = -1) (ht : t.size ≤ 18) : ∀ (m i acc : Nat), i + m = t.size → Lib.decFrom 0 (t.data.toList.take i) = some acc →
    Ev (fun k => r13_number.l0 k t sg (acc : Int) (i : Int)) (if t.data.toList.all dig = true then sg * magL t.data.toList else 0)
  | 0, i, acc, hi, hd => by
    rw [List.take_of_length_le (by rw [data_length]; omega)] at hd
    have hb := Lib.decFrom_lt18 hd (by rw [data_length]; exact ht)
    have hm : magL t.data.toList = (acc : Int) := by unfold magL; rw [hd]; rfl
    rw [if_pos (dec_dig _ _ _ hd), hm]
    refine Ev.succ ?_
    simp only [r13_number.l0, if_neg (show ¬ (i : Int) < (t.size : Int) by omega)]
    refine Ev.ret ?_
    rcases hsg with rfl | rfl
    · exact wrap_id (by omega) (by omega)
    · exact wrap_id (by omega) (by omega)
  | m + 1, i, acc, hi, hd => by
    obtain ⟨b, h1, h2⟩ := bt_data t i (by omega)
    by_cases hdg : 48 ≤ b.toNat ∧ b.toNat ≤ 57
    · have hdv : Lib.digitVal b = some (b.toNat - 48) := by unfold Lib.digitVal; rw [if_pos hdg]
      have hd2 := Lib.decFrom_take t.data.toList i 0 acc b _ hd h1 hdv
      have hlt := Lib.decFrom_lt _ _ _ hd2
      have hlen : (t.data.toList.take (i + 1)).length = i + 1 := by rw [List.length_take, data_length]; omega
      rw [hlen] at hlt
      have hpow : 10 ^ (i + 1) ≤ 10 ^ 18 := Nat.pow_le_pow_right (by decide) (by omega)
      have hbnd : acc * 10 + (b.toNat - 48) < 1000000000000000000 := by
        have : (0 + 1) * 10 ^ (i + 1) ≤ 1000000000000000000 := by simpa using hpow
        omega
      have ih := rnum_go t sg hsg ht m (i + 1) _ (by omega) hd2
      have e1 : wrap64 (10 * (acc : Int)) = 10 * (acc : Int) := wrap_id (by omega) (by omega)
      have e2 : ((b.toNat : Int) - 48) % 256 = (b.toNat : Int) - 48 := by omega
      have e3 : wrap64 (10 * (acc : Int) + ((b.toNat : Int) - 48)) = ((acc * 10 + (b.toNat - 48) : Nat) : Int) := by
        rw [wrap_id (by omega) (by omega)]
        omega
      refine Ev.succ ?_
      simp only [r13_number.l0, if_pos (show (i : Int) < (t.size : Int) by omega), if_pos (show (0 : Int) ≤ (i : Int) by omega), h2, if_neg (show ¬ (b.toNat : Int) < 48 by omega), if_neg (show ¬ (b.toNat : Int) > 57 by omega), e1, e2, e3, wrap_succ (i := i) (by omega)]
      exact ih
    · have hno : ¬ t.data.toList.all dig = true := by
        intro h
        have := List.all_eq_true.1 h b (List.mem_of_getElem? h1)
        unfold dig at this
        exact hdg (of_decide_eq_true this)
      rw [if_neg hno]
      refine Ev.succ ?_
      simp only [r13_number.l0, if_pos (show (i : Int) < (t.size : Int) by omega), if_pos (show (0 : Int) ≤ (i : Int) by omega), h2]
      by_cases c : (b.toNat : Int) < 48
      · simp only [if_pos c]; exact Ev.now _
      · simp only [if_neg c, if_pos (show (b.toNat : Int) > 57 by omega)]; exact Ev.now _
theorem rnum_j1 (t : ByteArray) (sg : Int) (hsg : sg = 1 ∨ sg = -1) : Ev (fun k => r13_number.j1 k t sg) (if okL t.data.toList = true then sg * magL t.data.toList else 0) := by
  have hlen := data_length t
  refine Ev.succ ?_
  by_cases h0 : (t.size : Int) < 1
  · have : okL t.data.toList = false := by
      have h1 : t.data.toList = [] := List.eq_nil_of_length_eq_zero (by omega)
      rw [h1]; rfl
    simp only [r13_number.j1, if_pos h0, this, Bool.false_eq_true, if_false]
    refine Ev.succ ?_
    simp only [r13_number.j2, if_true]
    exact Ev.now _
  · simp only [r13_number.j1, if_neg h0]
    by_cases h1 : (t.size : Int) > 18
    · have : okL t.data.toList = false := by
        unfold okL
        have h2 : ¬ t.data.toList.length ≤ 18 := by omega
        rw [decide_eq_false h2, Bool.and_false, Bool.false_and]
      simp only [decide_eq_true h1, this, Bool.false_eq_true, if_false]
      refine Ev.succ ?_
      simp only [r13_number.j2, if_true]
      exact Ev.now _
    · have hok : okL t.data.toList = t.data.toList.all dig := by
        unfold okL
        have h2 : t.data.toList.length ≤ 18 := by omega
        have h3 : t.data.toList ≠ [] := fun e => by rw [e] at hlen; simp at hlen; omega
        rw [decide_eq_true h2, decide_eq_true h3, Bool.true_and, Bool.true_and]
      simp only [decide_eq_false h1, hok]
      refine Ev.succ ?_
      simp only [r13_number.j2, Bool.false_eq_true, if_false]
      exact rnum_go t sg hsg (by omega) t.size 0 0 (by omega) rfl
theorem rnumber (s : ByteArray) : Ev (fun k => r13_number.f k s) (numberL s.data.toList) := by
  have hlen := data_length s
  unfold r13_number.f
  rcases hq : s.data.toList with _ | ⟨c, r⟩
  · rw [hq] at hlen
    have hz : s.size = 0 := hlen.symm
    simp only [if_neg (show ¬ (s.size : Int) > 0 by omega)]
    refine Ev.succ ?_
    simp only [r13_number.j0, Bool.false_eq_true, if_false]
    have := rnum_j1 s 1 (.inl rfl)
    rw [hq] at this
    exact this
  · rw [hq] at hlen
    have hz : 0 < s.size := by rw [← hlen]; simp
    obtain ⟨b, h1, h2⟩ := bt_data s 0 hz
    rw [hq] at h1
    obtain rfl : c = b := by simpa using h1
    have h2 : bt s 0 = (c.toNat : Int) := h2
    simp only [if_pos (show (s.size : Int) > 0 by omega), if_pos (show (0 : Int) < (s.size : Int) by omega), h2]
    refine Ev.succ ?_
    by_cases hc : c = 45
    · subst hc
      simp only [r13_number.j0, show (((45 : UInt8).toNat : Int) == 45) = true from rfl, if_true, if_pos (show (1 : Int) ≤ (s.size : Int) by omega)]
      have := rnum_j1 (s.extract 1 s.size) (-1) (.inr rfl)
      rw [data_extract, hq] at this
      refine this.to ?_
      unfold numberL
      rw [if_pos (show (45 :: r : List UInt8).head? = some 45 from rfl)]
      show (if okL r = true then -1 * magL r else 0) = if okL r = true then -magL r else 0
      by_cases h : okL r = true
      · rw [if_pos h, if_pos h]; omega
      · rw [if_neg h, if_neg h]
    · have hb : ((c.toNat : Int) == 45) = false := by
        have : ¬ c.toNat = 45 := fun h => hc (UInt8.toNat_inj.1 h)
        simp
        omega
      simp only [r13_number.j0, hb, Bool.false_eq_true, if_false]
      have := rnum_j1 s 1 (.inl rfl)
      rw [hq] at this
      refine this.to ?_
      unfold numberL
      rw [if_neg (show ¬ (c :: r : List UInt8).head? = some 45 by simp [hc])]
      by_cases h : okL (c :: r) = true
      · rw [if_pos h, if_pos h]; omega
      · rw [if_neg h, if_neg h]
theorem app_data (a b : List UInt8) : (⟨a.toArray⟩ ++ ⟨b.toArray⟩ : ByteArray) = ⟨(a ++ b).toArray⟩ := by
  apply ext_data
  rw [ByteArray.data_append]
  simp
theorem size_data (a : List UInt8) : (⟨a.toArray⟩ : ByteArray).size = a.length := by
  show a.toArray.size = a.length
  simp
theorem rfigs : ∀ (n : Nat), n < 18446744073709551616 → Ev (fun k => r13_figures.f k (n : Int)) (⟨(Lib.decDigits n).toArray⟩ : ByteArray) := by
  intro n
  induction n using Nat.strongRecOn with
  | _ n ih =>
    intro hn
    have h1 : Int.tmod (n : Int) 10 = ((n % 10 : Nat) : Int) := by rw [Int.tmod_eq_emod_of_nonneg (by omega)]; omega
    have h2 : IntKind.u64.wrap (48 + ((n % 10 : Nat) : Int)) % 256 = ((48 + n % 10 : Nat) : Int) := by rw [IntKind.wrap_u64]; omega
    have h3 : strOfNums [((48 + n % 10 : Nat) : Int)] = (⟨[UInt8.ofNat (48 + n % 10)].toArray⟩ : ByteArray) := by
      unfold strOfNums
      rw [List.map_cons, List.map_nil, Int.toNat_natCast]
    refine Ev.succ ?_
    simp only [r13_figures.f, h1, h2, Option.bind_some, h3]
    by_cases c : n < 10
    · simp only [if_pos (show (n : Int) < 10 by omega)]
      refine Ev.ret ?_
      rw [Lib.decDigits, dif_pos c, Nat.mod_eq_of_lt c]
    · simp only [if_neg (show ¬ (n : Int) < 10 by omega)]
      have h4 : IntKind.u64.wrap (Int.tdiv (n : Int) 10) = ((n / 10 : Nat) : Int) := by
        rw [Int.tdiv_eq_ediv_of_nonneg (by omega), IntKind.wrap_u64]; omega
      rw [h4]
      refine Ev.bind (ih (n / 10) (by omega) (by omega)) ?_
      have hl : (Lib.decDigits (n / 10)).length ≤ 20 := by rw [Lib.decDigits_length]; exact Lib.nDigits_le20 _ (by omega)
      rw [size_data, size_data]
      simp only [List.length_cons, List.length_nil]
      simp only [if_pos (show (Lib.decDigits (n / 10)).length + (0 + 1) ≤ 9223372036854775807 by omega)]
      refine Ev.ret ?_
      rw [app_data]
      conv => rhs; rw [Lib.decDigits, dif_neg c]
theorem rfigures (n : Int) (h : -9223372036854775808 ≤ n ∧ n ≤ 9223372036854775807) : Ev (fun k => r13_Figures.f k n) (itoaS n) := by
  unfold r13_Figures.f itoaS Lib.itoa
  by_cases c : n < 0
  · have h1 : IntKind.u64.wrap (-(IntKind.u64.wrap n)) = ((n.natAbs : Nat) : Int) := by rw [IntKind.wrap_u64, IntKind.wrap_u64]; omega
    simp only [if_pos c, h1]
    refine Ev.bind (rfigs _ (by omega)) ?_
    have hl : (Lib.decDigits n.natAbs).length ≤ 20 := by rw [Lib.decDigits_length]; exact Lib.nDigits_le20 _ (by omega)
    rw [size_data]
    simp only [if_pos (show 1 + (Lib.decDigits n.natAbs).length ≤ 9223372036854775807 by omega)]
    refine Ev.ret ?_
    exact app_data [45] _
  · have h1 : IntKind.u64.wrap n = ((n.toNat : Nat) : Int) := by rw [IntKind.wrap_u64]; omega
    simp only [if_neg c, h1]
    refine Ev.bind (rfigs _ (by omega)) ?_
    exact Ev.now _
theorem occ_take (l m : List UInt8) (i : Nat) : Lib.occAt l m i = true ↔ (l.drop i).take m.length = m := by
  unfold Lib.occAt
  rw [List.isPrefixOf_iff_prefix, List.prefix_iff_eq_take]
  exact eq_comm
theorem rfind_go (s t : ByteArray) (hs : s.size ≤ 140737488351232) (ht : t.size ≤ 140737488351232) : ∀ (n i : Nat), i + n = s.size + 1 → (∀ j, j < i → Lib.occAt s.data.toList t.data.toList j = false) →
    Ev (fun k => r13_find.l0 k s t (i : Int)) (Lib.index s.data.toList t.data.toList) := by
  have hls := data_length s
  have hlt := data_length t
  have far : ∀ i : Nat, s.size < i + t.size → (∀ j, j < i → Lib.occAt s.data.toList t.data.toList j = false) → Lib.index s.data.toList t.data.toList = -1 := fun i h hno => by
    refine Lib.index_none fun j hj => ?_
    by_cases c : j < i
    · exact hno j c
    · rcases hq : Lib.occAt s.data.toList t.data.toList j with _ | _
      · rfl
      · have h1 := congrArg List.length ((occ_take _ _ _).1 hq)
        rw [List.length_take, List.length_drop] at h1
        omega
  have last : ∀ i : Nat, i ≤ s.size + 1 → s.size < i + t.size → (∀ j, j < i → Lib.occAt s.data.toList t.data.toList j = false) → Ev (fun k => r13_find.l0 k s t (i : Int)) (Lib.index s.data.toList t.data.toList) := fun i hi h hno => by
    rw [far i h hno]
    refine Ev.succ ?_
    have hw : wrap64 ((i : Int) + (t.size : Int)) = (i : Int) + (t.size : Int) := wrap_id (by omega) (by omega)
    simp only [r13_find.l0, hw, if_neg (show ¬ (i : Int) + (t.size : Int) ≤ (s.size : Int) by omega)]
    exact Ev.now _
  intro n
  induction n with
  | zero => intro i hi hno; exact last i (by omega) (by omega) hno
  | succ n ih =>
    intro i hi hno
    by_cases c : i + t.size ≤ s.size
    · have hw : wrap64 ((i : Int) + (t.size : Int)) = ((i + t.size : Nat) : Int) := by rw [wrap_id (by omega) (by omega)]; omega
      have he : (s.extract i (i + t.size)).toList = t.toList ↔ Lib.occAt s.data.toList t.data.toList i = true := by
        rw [toList_data, toList_data, Lib.extract_data, occ_take, hlt, Nat.add_sub_cancel_left]
      refine Ev.succ ?_
      simp only [r13_find.l0, hw, if_pos (show ((i + t.size : Nat) : Int) ≤ (s.size : Int) by omega), if_pos (show (0 : Int) ≤ (i : Int) by omega), if_pos (show (i : Int) ≤ ((i + t.size : Nat) : Int) by omega), Int.toNat_natCast]
      by_cases h : (s.extract i (i + t.size)).toList = t.toList
      · simp only [if_pos h]
        refine Ev.ret ?_
        exact (Lib.index_first (by omega) (he.1 h) hno).symm
      · simp only [if_neg h, wrap_succ (i := i) (by omega)]
        refine ih (i + 1) (by omega) fun j hj => ?_
        by_cases d : j < i
        · exact hno j d
        · obtain rfl : j = i := by omega
          rcases hq : Lib.occAt s.data.toList t.data.toList j with _ | _
          · rfl
          · exact absurd (he.2 hq) h
    · exact last i (by omega) (by omega) hno
theorem rfind (s t : ByteArray) (hs : s.size ≤ 140737488351232) (ht : t.size ≤ 140737488351232) : Ev (fun k => r13_find.f k s t) (Lib.index s.data.toList t.data.toList) :=
  rfind_go s t hs ht (s.size + 1) 0 (by omega) (fun j hj => absurd hj (Nat.not_lt_zero _))
def unSv (x : XOps.Sv) : Bool × Int × ByteArray := (x.f0, x.f1, x.f2)
theorem ryes (b : Bool) : r13_yes.f b = some (false, (if b = true then 1 else 0), (⟨#[]⟩ : ByteArray)) := by cases b <;> rfl
theorem rreck (o : Int) (x y z : XOps.Sv) (hx : Fit x) (ho : o = 4 ∨ o = 5 ∨ o = 6 ∨ o = 7 ∨ o = 8 ∨ o = 14 ∨ o = 15 ∨ o = 16 ∨ o = 17) : Ev (fun k => r13_reckoned.f k o x.f0 x.f1 x.f2 y.f0 y.f1 y.f2 z.f0 z.f1 z.f2) (unSv (opV o x y z)) := by
  unfold r13_reckoned.f
  simp only [rdiv _ _ hx.num, Option.bind_some]
  rcases ho with rfl | rfl | rfl | rfl | rfl | rfl | rfl | rfl | rfl
  · exact Ev.const rfl
  · exact Ev.const rfl
  · exact Ev.const rfl
  · exact Ev.const rfl
  · exact Ev.const rfl
  · refine Ev.bind (rcompare x y) ?_
    rw [ryes]
    exact Ev.now _
  · refine Ev.bind (rcompare x y) ?_
    rw [ryes]
    exact Ev.now _
  · show Ev (fun k => r13_yes.f (x.f1 == 0)) _
    rw [ryes]
    exact Ev.now _
  · refine Ev.const ?_
    show (if x.f1 = 0 then some (z.f0, z.f1, z.f2) else some (y.f0, y.f1, y.f2)) = some (unSv (if x.f1 = 0 then z else y))
    by_cases c : x.f1 = 0
    · rw [if_pos c, if_pos c]; rfl
    · rw [if_neg c, if_neg c]; rfl
theorem rtexted (o : Int) (x y z : XOps.Sv) (hx : Fit x) (hy : Fit y) (ho : o = 9 ∨ o = 10 ∨ o = 11 ∨ o = 12 ∨ o = 13 ∨ o = 18 ∨ o = 19 ∨ o = 20 ∨ o = 21) : Ev (fun k => r13_texted.f k o x.f0 x.f1 x.f2 y.f0 y.f1 y.f2 z.f0 z.f1 z.f2) (unSv (opV o x y z)) := by
  have h1 := hx.size
  have h2 := hy.size
  unfold r13_texted.f
  rcases ho with rfl | rfl | rfl | rfl | rfl | rfl | rfl | rfl | rfl
  · refine Ev.const ?_
    show (if x.f2.size + y.f2.size ≤ 9223372036854775807 then _ else none) = _
    rw [if_pos (by omega), rtext]
    rfl
  · exact Ev.const rfl
  · refine Ev.const ?_
    show (r13_slice.f x.f2 y.f1 z.f1).bind _ = _
    rw [rslice _ _ _ h1, Option.bind_some, rtext]
    rfl
  · refine Ev.bind (rturn x.f2 97 (by decide) h1) ?_
    rw [rtext]
    exact Ev.now _
  · refine Ev.bind (rturn x.f2 65 (by decide) h1) ?_
    rw [rtext]
    exact Ev.now _
  · refine Ev.bind (rnumber x.f2) ?_
    exact Ev.now _
  · refine Ev.bind (rfigures x.f1 hx.num) ?_
    rw [rtext]
    exact Ev.now _
  · refine Ev.bind (rhash x.f2 h1) ?_
    exact Ev.now _
  · refine Ev.bind (rfind x.f2 y.f2 h1 h2) ?_
    exact Ev.now _
theorem op_list {o : Int} {ks : List Int} {t : Int} {f : Nat} (h : XOps.opFn o = some (ks, t, f)) : (o = 4 ∨ o = 5 ∨ o = 6 ∨ o = 7 ∨ o = 8 ∨ o = 14 ∨ o = 15 ∨ o = 16 ∨ o = 17) ∨ (o = 9 ∨ o = 10 ∨ o = 11 ∨ o = 12 ∨ o = 13 ∨ o = 18 ∨ o = 19 ∨ o = 20 ∨ o = 21) := by
  rcases op_cases o with rfl | rfl | rfl | rfl | rfl | rfl | rfl | rfl | rfl | rfl | rfl | rfl | rfl | rfl | rfl | rfl | rfl | rfl | hn
  case inr.inr.inr.inr.inr.inr.inr.inr.inr.inr.inr.inr.inr.inr.inr.inr.inr.inr => rw [op_none hn] at h; cases h
  all_goals omega
theorem rdo_j2 (o : Int) (x y z : XOps.Sv) (hx : Fit x) (hy : Fit y) {ks : List Int} {t : Int} {f : Nat} (h : XOps.opFn o = some (ks, t, f)) : Ev (fun k => r13_Do.j2 k o x.f0 x.f1 x.f2 y.f0 y.f1 y.f2 z.f0 z.f1 z.f2) ((opV o x y z).f0, (opV o x y z).f1, (opV o x y z).f2, 0) := by
  refine Ev.succ ?_
  rcases op_list h with ho | ho
  · have key : Ev (fun k => r13_Do.j3 k o true x.f0 x.f1 x.f2 y.f0 y.f1 y.f2 z.f0 z.f1 z.f2) ((opV o x y z).f0, (opV o x y z).f1, (opV o x y z).f2, 0) := by
      refine Ev.succ ?_
      simp only [r13_Do.j3, if_true]
      exact Ev.bind (rreck o x y z hx ho) (Ev.now _)
    by_cases c : o ≤ 8
    · simp only [r13_Do.j2, if_pos c]
      exact key
    · simp only [r13_Do.j2, if_neg c, if_pos (show o ≥ 14 by omega), decide_eq_true (show o ≤ 17 by omega)]
      exact key
  · have key : Ev (fun k => r13_Do.j3 k o false x.f0 x.f1 x.f2 y.f0 y.f1 y.f2 z.f0 z.f1 z.f2) ((opV o x y z).f0, (opV o x y z).f1, (opV o x y z).f2, 0) := by
      refine Ev.succ ?_
      simp only [r13_Do.j3, Bool.false_eq_true, if_false]
      exact Ev.bind (rtexted o x y z hx hy ho) (Ev.now _)
    have c : ¬ o ≤ 8 := by omega
    by_cases c2 : o ≥ 14
    · simp only [r13_Do.j2, if_neg c, if_pos c2, decide_eq_false (show ¬ o ≤ 17 by omega)]
      exact key
    · simp only [r13_Do.j2, if_neg c, if_neg c2]
      exact key
theorem rdo_end (o : Int) (l : List XOps.Sv) (hn : ∀ v ∈ l, -9223372036854775808 ≤ v.f1 ∧ v.f1 ≤ 9223372036854775807) (c1 : ¬ l.any (fun x => !XOps.isValB x) = true) :
    Ev (fun k => r13_Do.l0 k o l (l.map (·.f0)) (l.length : Int)) (doV o l) := by
  have hv := getD_val c1
  have hN := getD_num hn
  have fit : ∀ i, Fit (l.getD i XOps.zv) := fun i => ⟨by have := isVal_size (hv i); omega, hN i⟩
  refine Ev.succ ?_
  simp only [r13_Do.l0, if_neg (show ¬ (l.length : Int) < (l.length : Int) by omega)]
  refine Ev.bind (result_f o _) ?_
  by_cases c2 : (XOps.resultF o (l.map (·.f0))).2 ≠ 0
  · have hd : doV o l = (false, 0, (⟨#[]⟩ : ByteArray), (XOps.resultF o (l.map (·.f0))).2) := by
      unfold doV
      rw [if_neg c1, if_pos c2]
    rw [hd]
    simp only [if_neg c2]
    exact Ev.now _
  · have c4 : (XOps.resultF o (l.map (·.f0))).2 = 0 := by simpa using c2
    have c3 : XOps.resultF o (l.map (·.f0)) = ((XOps.resultF o (l.map (·.f0))).1, 0) := by rw [← c4]
    obtain ⟨ks, t, f, hof, hk, hk0, hk3⟩ := XOps.res_len c3
    rw [List.length_map] at hk
    have hd : doV o l = ((opV o (l.getD 0 XOps.zv) (l.getD 1 XOps.zv) (l.getD 2 XOps.zv)).f0, (opV o (l.getD 0 XOps.zv) (l.getD 1 XOps.zv) (l.getD 2 XOps.zv)).f1, (opV o (l.getD 0 XOps.zv) (l.getD 1 XOps.zv) (l.getD 2 XOps.zv)).f2, 0) := by
      unfold doV
      rw [if_neg c1, if_neg c2]
    rw [hd]
    simp only [c4, if_true]
    have hj2 := rdo_j2 o (l.getD 0 XOps.zv) (l.getD 1 XOps.zv) (l.getD 2 XOps.zv) (fit 0) (fit 1) hof
    have hl : l.length = 1 ∨ l.length = 2 ∨ l.length = 3 := by omega
    rcases hl with hl | hl | hl
    · rcases l with _ | ⟨x, _ | ⟨y, r⟩⟩ <;> simp at hl
      simp only [List.length_cons, List.length_nil, if_pos (show (0 : Int) < ((0 + 1 : Nat) : Int) by decide), if_neg (show ¬ ((0 + 1 : Nat) : Int) > 1 by decide)]
      refine Ev.succ ?_
      simp only [r13_Do.j1, List.length_cons, List.length_nil, if_neg (show ¬ ((0 + 1 : Nat) : Int) > 2 by decide)]
      exact hj2
    · rcases l with _ | ⟨x, _ | ⟨y, _ | ⟨z, r⟩⟩⟩ <;> simp at hl
      simp only [List.length_cons, List.length_nil, if_pos (show (0 : Int) < ((0 + 1 + 1 : Nat) : Int) by decide), if_pos (show ((0 + 1 + 1 : Nat) : Int) > 1 by decide), if_pos (show (1 : Int) < ((0 + 1 + 1 : Nat) : Int) by decide)]
      refine Ev.succ ?_
      simp only [r13_Do.j1, List.length_cons, List.length_nil, if_neg (show ¬ ((0 + 1 + 1 : Nat) : Int) > 2 by decide)]
      exact hj2
    · rcases l with _ | ⟨x, _ | ⟨y, _ | ⟨z, _ | ⟨q, r⟩⟩⟩⟩ <;> simp at hl
      simp only [List.length_cons, List.length_nil, if_pos (show (0 : Int) < ((0 + 1 + 1 + 1 : Nat) : Int) by decide), if_pos (show ((0 + 1 + 1 + 1 : Nat) : Int) > 1 by decide), if_pos (show (1 : Int) < ((0 + 1 + 1 + 1 : Nat) : Int) by decide)]
      refine Ev.succ ?_
      simp only [r13_Do.j1, List.length_cons, List.length_nil, if_pos (show ((0 + 1 + 1 + 1 : Nat) : Int) > 2 by decide), if_pos (show (2 : Int) < ((0 + 1 + 1 + 1 : Nat) : Int) by decide)]
      exact hj2
theorem rdo_go (o : Int) (l : List XOps.Sv) (hl : l.length ≤ 1000000) (hn : ∀ v ∈ l, -9223372036854775808 ≤ v.f1 ∧ v.f1 ≤ 9223372036854775807) : ∀ m i : Nat, i + m = l.length → (∀ j, j < i → XOps.isValB (l.getD j XOps.zv) = true) →
    Ev (fun k => r13_Do.l0 k o l ((l.take i).map (·.f0)) (i : Int)) (doV o l)
  | 0, i, hi, hg => by
    obtain rfl : i = l.length := by omega
    rw [List.take_length]
    refine rdo_end o l hn ?_
    rw [List.any_eq_true]
    rintro ⟨x, hx, hx2⟩
    obtain ⟨j, hj, rfl⟩ := List.getElem_of_mem hx
    have := hg j hj
    rw [List.getD_eq_getElem?_getD, List.getElem?_eq_getElem hj, Option.getD_some] at this
    rw [this] at hx2
    cases hx2
  | m + 1, i, hi, hg => by
    have hlt : i < l.length := by omega
    have hx : rd_T32 l (i : Int) = l.getD i XOps.zv := rfl
    by_cases hv : XOps.isValB (l.getD i XOps.zv) = true
    · have ih := rdo_go o l hl hn m (i + 1) (by omega) (fun j hj => by
        rcases Nat.lt_or_ge j i with h | h
        · exact hg j h
        · obtain rfl : j = i := by omega
          exact hv)
      have ht : (l.take (i + 1)).map (·.f0) = (l.take i).map (·.f0) ++ [(l.getD i XOps.zv).f0] := by
        rw [List.take_add_one, List.getElem?_eq_getElem hlt, List.map_append, List.getD_eq_getElem?_getD, List.getElem?_eq_getElem hlt]
        rfl
      rw [ht] at ih
      refine Ev.succ ?_
      simp only [r13_Do.l0, if_pos (show (i : Int) < (l.length : Int) by omega), if_pos (show (0 : Int) ≤ (i : Int) by omega), hx, is_, Option.bind_some, if_pos hv, if_pos (show ((l.take i).map (·.f0)).length < 140737488355328 by simp; omega), wrap_succ (i := i) (by omega)]
      exact ih
    · refine Ev.succ ?_
      simp only [r13_Do.l0, if_pos (show (i : Int) < (l.length : Int) by omega), if_pos (show (0 : Int) ≤ (i : Int) by omega), hx, is_, Option.bind_some, if_neg hv]
      refine Ev.ret ?_
      have c1 : l.any (fun x => !XOps.isValB x) = true := by
        refine List.any_eq_true.2 ⟨l[i], List.getElem_mem hlt, ?_⟩
        rw [List.getD_eq_getElem?_getD, List.getElem?_eq_getElem hlt] at hv
        simp only [Option.getD_some] at hv
        simp [hv]
      unfold doV
      rw [if_pos c1]
theorem rdo (o : Int) (l : List XOps.Sv) (hl : l.length ≤ 1000000) (hn : ∀ v ∈ l, -9223372036854775808 ≤ v.f1 ∧ v.f1 ≤ 9223372036854775807) : Ev (fun k => r13_Do.f k o l) (doV o l) :=
  rdo_go o l hl hn l.length 0 (by omega) (fun j hj => absurd hj (Nat.not_lt_zero _))
end Go.Proofs.YtnodgcakmolleaaGreatDoorL
namespace Go.Proofs.YtnodgcakmolleaaGreatDoorL
open Go.RowKit Go.Proofs Go.Proofs.YtnodgcakmolleaaGreatDoor Go.Proofs.YtnodgcakmolleaaGreatDoor.PX Go.Proofs.YtnodgcakmolleaaGreatDoorW.PrintWords
theorem clip_small {s : ByteArray} (h : s.size ≤ 1000) : clip s = s := by
  unfold clip
  have e : (mn (s.size : Int) 1000).toNat = s.size := by
    unfold mn
    split <;> omega
  rw [e]
  exact ByteArray.extract_zero_size
theorem doV_of {o : Int} {l : List XOps.Sv} {b : Bool} (h1 : ¬ l.any (fun x => !XOps.isValB x) = true) (h2 : XOps.resultF o (l.map (·.f0)) = (b, 0)) {r : XOps.Sv} (h3 : opV o (l.getD 0 XOps.zv) (l.getD 1 XOps.zv) (l.getD 2 XOps.zv) = r) : doV o l = (r.f0, r.f1, r.f2, 0) := by
  subst h3
  unfold doV
  rw [if_neg h1, h2, if_neg (by simp)]
end Go.Proofs.YtnodgcakmolleaaGreatDoorL
namespace Go.Proofs.YtnodgcakmolleaaGreatDoorL
open Go.RowKit Go.Proofs Go.Proofs.YtnodgcakmolleaaGreatDoor Go.Proofs.YtnodgcakmolleaaGreatDoor.PX Go.Proofs.YtnodgcakmolleaaGreatDoorW.PrintWords Go.Proofs.YtnodgcakmolleaaGreatDoorW.PrintMore Go.Proofs.YtnodgcakmolleaaGreatDoor.XCheck
abbrev Sv := XOps.Sv
def I64 (x : Int) : Prop := -9223372036854775808 ≤ x ∧ x ≤ 9223372036854775807
theorem i64_wrap (x : Int) : I64 (wrap64 x) := by unfold I64 wrap64; omega
theorem i64_0 : I64 0 := by unfold I64; omega
def Val1 (v : Sv) : Prop := XOps.isValB v = true ∧ I64 v.f1
theorem number_i64 (l : List UInt8) : I64 (numberL l) := by
  unfold numberL
  by_cases c : l.head? = some 45
  · rw [if_pos c]
    by_cases d : okL l.tail = true
    · rw [if_pos d]
      obtain ⟨_, h1, h2⟩ := ok_mag d
      unfold I64; omega
    · rw [if_neg d]; exact i64_0
  · rw [if_neg c]
    by_cases d : okL l = true
    · rw [if_pos d]
      obtain ⟨_, h1, h2⟩ := ok_mag d
      unfold I64; omega
    · rw [if_neg d]; exact i64_0
theorem yes_i64 (b : Bool) : I64 (yesV b).f1 := by
  cases b
  · exact i64_0
  · show I64 1; unfold I64; omega
theorem op_i64 (o : Int) (x y z : Sv) (hx : I64 x.f1) (hy : I64 y.f1) (hz : I64 z.f1) (hs : x.f2.size ≤ 1000) : I64 (opV o x y z).f1 := by
  unfold opV
  by_cases c4 : o = 4
  · rw [if_pos c4]; exact i64_wrap _
  rw [if_neg c4]
  by_cases c5 : o = 5
  · rw [if_pos c5]; exact i64_wrap _
  rw [if_neg c5]
  by_cases c6 : o = 6
  · rw [if_pos c6]; exact i64_wrap _
  rw [if_neg c6]
  by_cases c7 : o = 7
  · rw [if_pos c7]
    show I64 (if y.f1 = 0 then 0 else wrap64 (Int.tdiv x.f1 y.f1))
    split
    · exact i64_0
    · exact i64_wrap _
  rw [if_neg c7]
  by_cases c8 : o = 8
  · rw [if_pos c8]
    show I64 (if y.f1 = 0 then 0 else Int.tmod x.f1 y.f1)
    split
    · exact i64_0
    · have h1 := Int.natAbs_tmod x.f1 y.f1
      have h2 := Nat.mod_lt x.f1.natAbs (show y.f1.natAbs > 0 by omega)
      rw [← h1] at h2
      clear h1
      generalize x.f1.tmod y.f1 = w at h2 ⊢
      unfold I64 at hx hy ⊢
      omega
  rw [if_neg c8]
  by_cases c9 : o = 9
  · rw [if_pos c9]; exact i64_0
  rw [if_neg c9]
  by_cases c10 : o = 10
  · rw [if_pos c10]; show I64 (x.f2.size : Int); unfold I64; omega
  rw [if_neg c10]
  by_cases c11 : o = 11
  · rw [if_pos c11]; exact i64_0
  rw [if_neg c11]
  by_cases c12 : o = 12
  · rw [if_pos c12]; exact i64_0
  rw [if_neg c12]
  by_cases c13 : o = 13
  · rw [if_pos c13]; exact i64_0
  rw [if_neg c13]
  by_cases c14 : o = 14
  · rw [if_pos c14]; exact yes_i64 _
  rw [if_neg c14]
  by_cases c15 : o = 15
  · rw [if_pos c15]; exact yes_i64 _
  rw [if_neg c15]
  by_cases c16 : o = 16
  · rw [if_pos c16]; exact yes_i64 _
  rw [if_neg c16]
  by_cases c17 : o = 17
  · rw [if_pos c17]
    split
    · exact hz
    · exact hy
  rw [if_neg c17]
  by_cases c18 : o = 18
  · rw [if_pos c18]; exact number_i64 _
  rw [if_neg c18]
  by_cases c19 : o = 19
  · rw [if_pos c19]; exact i64_0
  rw [if_neg c19]
  by_cases c20 : o = 20
  · rw [if_pos c20]
    obtain ⟨_, h1, h2⟩ := hash_f x.f2 (by omega)
    show I64 (hashS x.f2)
    unfold I64; omega
  rw [if_neg c20]
  show I64 (Lib.index x.f2.data.toList y.f2.data.toList)
  have h1 := Lib.index_ge x.f2.data.toList y.f2.data.toList
  have h2 := Lib.index_le x.f2.data.toList y.f2.data.toList
  rw [data_length] at h2
  unfold I64
  omega
def picV (r : List ByteArray) (fold s : List Sv) (x : Ins) : Sv :=
  if x.f0 = 0 then numV x.f1 else if x.f0 = 1 then textV x.f2 else if x.f0 = 2 then (if (r.length : Int) ≤ x.f1 then textV ⟨#[]⟩ else textV (r.getD x.f1.toNat ByteArray.empty))
  else if x.f0 = 3 then numV (r.length : Int) else if x.f0 = 22 ∨ x.f0 = 23 then fold.getD (x.f0 - 22).toNat XOps.zv
  else opV x.f0 ((s.drop (s.length - (XOps.arityF x.f0).toNat)).getD 0 XOps.zv) ((s.drop (s.length - (XOps.arityF x.f0).toNat)).getD 1 XOps.zv) ((s.drop (s.length - (XOps.arityF x.f0).toNat)).getD 2 XOps.zv)
def runV (r : List ByteArray) (fold : List Sv) : List Ins → List Sv → Int → List Sv × Int × Int
  | [], s, u => (s, u, 0)
  | x :: p, s, u => if XEval.costP s x.f0 > u then (s, u, 12) else runV r fold p (s.take (s.length - (XOps.arityF x.f0).toNat) ++ [picV r fold s x]) (u - XEval.costP s x.f0)
theorem arity_mid {o : Int} (h0 : 0 ≤ o) (h : o ≤ 21) (ha : ¬ 0 < XOps.arityF o) : o ≤ 3 := by
  rcases op_cases o with rfl | rfl | rfl | rfl | rfl | rfl | rfl | rfl | rfl | rfl | rfl | rfl | rfl | rfl | rfl | rfl | rfl | rfl | hn
  all_goals first | exact absurd (by decide) ha | omega
theorem arity_low {o : Int} (h : o ≤ 3) : XOps.arityF o = 0 := by
  unfold XOps.arityF
  rw [op_none (by omega)]
theorem may_range {x : Ins} (h : May x = true) : 0 ≤ x.f0 ∧ x.f0 ≤ 23 := by
  have e := check_Stack.may_eq x
  rw [show check_Stack.may x = true from h] at e
  by_cases c : 0 ≤ x.f0 ∧ x.f0 ≤ 23
  · exact c
  · exfalso
    unfold code_May.f at e
    simp only [isOp_f, Option.bind_some, decide_eq_false c, if_neg (show ¬ x.f0 = 0 by omega), if_neg (show ¬ x.f0 = 1 by omega), if_neg (show ¬ x.f0 = 2 by omega), Bool.false_eq_true, if_false] at e
    simp at e
theorem may_field {x : Ins} (h : May x = true) (h2 : x.f0 = 2) : 0 ≤ x.f1 := by
  have e := check_Stack.may_eq x
  rw [show check_Stack.may x = true from h] at e
  unfold code_May.f at e
  rw [h2] at e
  simp only [isOp_f, Option.bind_some, if_neg (show ¬ (2 : Int) = 0 by decide), if_neg (show ¬ (2 : Int) = 1 by decide), if_true] at e
  by_cases c : x.f1 ≥ 0
  · exact c
  · rw [if_neg c] at e
    simp at e
theorem val_num {n : Int} (h : I64 n) : Val1 (numV n) := ⟨num_val n, h⟩
theorem val_text (s : ByteArray) : Val1 (textV s) := ⟨text_val s, i64_0⟩
theorem val_zv : Val1 XOps.zv := ⟨zv_val, i64_0⟩
theorem val_getD {l : List Sv} (h : ∀ v ∈ l, Val1 v) (i : Nat) : Val1 (l.getD i XOps.zv) := by
  by_cases hi : i < l.length
  · rw [List.getD_eq_getElem?_getD, List.getElem?_eq_getElem hi]
    exact h _ (List.getElem_mem hi)
  · rw [List.getD_eq_getElem?_getD, List.getElem?_eq_none (by omega)]
    exact val_zv
theorem kind_getD {l : List Sv} (i : Nat) (hi : i < l.length) : (l.getD i XOps.zv).f0 = (l.map (·.f0)).getD i false := by
  simp [List.getD_eq_getElem?_getD, List.getElem?_eq_getElem hi]
section
variable {TEXT : ByteArray → Option Sv} {DO : Nat → Int → List Sv → Option (Sv × Int)}
theorem one_step (hTX : ∀ x, TEXT x = some (textV x)) (hDO : ∀ o (l : List Sv), l.length ≤ 1000000 → (∀ v ∈ l, I64 v.f1) → Ev (fun k => DO k o l) ((⟨(doV o l).1, (doV o l).2.1, (doV o l).2.2.1⟩ : Sv), (doV o l).2.2.2))
    (r : List ByteArray) (hr : r.length ≤ 140737488351232) (fold : List Sv) (hf : fold.length = 0 ∨ fold.length = 2) (hfv : ∀ v ∈ fold, Val1 v) (s : List Sv) (hsv : ∀ v ∈ s, Val1 v) (hl : s.length ≤ 30) (x : Ins) (hx : May x = true) (hxn : I64 x.f1) (m : Int)
    (hstep : (stepP (fold.map (·.f0)) (s.map (·.f0), m) x.f0).2 = 0) :
    XOps.arityF x.f0 ≤ (s.length : Int) ∧ Val1 (picV r fold s x) ∧ (s.take (s.length - (XOps.arityF x.f0).toNat) ++ [picV r fold s x]).map (·.f0) = (stepP (fold.map (·.f0)) (s.map (·.f0), m) x.f0).1.1 ∧ Ev (fun k => XEval.pickP TEXT (DO k) r fold s x) (picV r fold s x) := by
  have hrange := may_range hx
  by_cases c : 22 ≤ x.f0
  · have h22 : x.f0 = 22 ∨ x.f0 = 23 := check_Stack.may_op x hx c
    have ha : XOps.arityF x.f0 = 0 := by rcases h22 with h | h <;> rw [h] <;> rfl
    rw [step_given c] at hstep ⊢
    unfold givenP at hstep ⊢
    by_cases c2 : (fold.map (·.f0)).length = 0
    · rw [if_pos c2] at hstep; cases hstep
    rw [if_neg c2] at hstep ⊢
    have hf2 : fold.length = 2 := by simp at c2; rcases hf with h | h; · rw [List.length_eq_zero_iff] at h; exact absurd h c2
                                     · exact h
    have hp : picV r fold s x = fold.getD (x.f0 - 22).toNat XOps.zv := by
      unfold picV
      rw [if_neg (by omega), if_neg (by omega), if_neg (by omega), if_neg (by omega), if_pos h22]
    rw [ha, hp]
    refine ⟨by omega, val_getD hfv _, ?_, ?_⟩
    · by_cases c3 : (s.map (·.f0)).length = 30
      · rw [push_full (x := (s.map (·.f0), m)) c3] at hstep; cases hstep
      · rw [push_ok (x := (s.map (·.f0), m)) c3]
        simp only [Int.toNat_zero, Nat.sub_zero, List.take_length, List.map_append, List.map_cons, List.map_nil]
        rw [kind_getD _ (by omega)]
    · unfold XEval.pickP
      simp only [if_neg (show ¬ x.f0 = 0 by omega), if_neg (show ¬ x.f0 = 1 by omega), if_neg (show ¬ x.f0 = 2 by omega), if_neg (show ¬ x.f0 = 3 by omega), if_pos h22, if_pos hf2]
      exact Ev.now _
  · by_cases c2 : 0 < XOps.arityF x.f0
    · have h4 : 4 ≤ x.f0 := by
        by_cases h : x.f0 ≤ 3
        · rw [arity_low h] at c2; omega
        · omega
      obtain ⟨a, ha⟩ : ∃ a : Nat, XOps.arityF x.f0 = a := ⟨(XOps.arityF x.f0).toNat, by omega⟩
      rw [step_done c c2] at hstep ⊢
      unfold doneP at hstep ⊢
      simp only [ha, Int.toNat_natCast, List.length_map] at hstep ⊢
      by_cases c3 : (s.length : Int) < (a : Int)
      · rw [if_pos c3] at hstep; cases hstep
      rw [if_neg c3] at hstep ⊢
      obtain ⟨l, hld⟩ : ∃ l, s.drop (s.length - a) = l := ⟨_, rfl⟩
      have hdm : (s.map (·.f0)).drop (s.length - a) = l.map (·.f0) := by rw [← hld, List.map_drop]
      rw [hdm] at hstep ⊢
      rcases hq : XOps.resultF x.f0 (l.map (·.f0)) with ⟨t, er⟩
      rw [hq] at hstep
      simp only at hstep
      by_cases c4 : er ≠ 0
      · rw [if_pos c4] at hstep; exact absurd hstep c4
      obtain rfl : er = 0 := by omega
      simp only [ne_eq, not_true, if_false] at hstep ⊢
      have hlv : ∀ v ∈ l, Val1 v := fun v hv => hsv v (List.mem_of_mem_drop (by rw [hld]; exact hv))
      have hany : ¬ l.any (fun x => !XOps.isValB x) = true := by
        intro h
        obtain ⟨v, hv, hb⟩ := List.any_eq_true.1 h
        rw [(hlv v hv).1] at hb
        cases hb
      have hp : picV r fold s x = opV x.f0 (l.getD 0 XOps.zv) (l.getD 1 XOps.zv) (l.getD 2 XOps.zv) := by
        unfold picV
        rw [if_neg (by omega), if_neg (by omega), if_neg (by omega), if_neg (by omega), if_neg (by omega), ha, Int.toNat_natCast, hld]
      obtain ⟨ks, tt, f, hof⟩ : ∃ ks tt f, XOps.opFn x.f0 = some (ks, tt, f) := by
        rcases ho : XOps.opFn x.f0 with _ | ⟨ks, tt, f⟩
        · exfalso; unfold XOps.arityF at ha c2; rw [ho] at ha c2; simp at c2
        · exact ⟨ks, tt, f, rfl⟩
      obtain ⟨ht1, ht2⟩ := op_total hof l (fun i => (val_getD hlv i).1) hq
      have hi := op_i64 x.f0 _ _ _ (val_getD hlv 0).2 (val_getD hlv 1).2 (val_getD hlv 2).2 (isVal_size (val_getD hlv 0).1)
      rw [hp]
      refine ⟨by omega, ⟨ht1, hi⟩, ?_, ?_⟩
      · rw [push_ok (by simp only [List.length_take, List.length_map]; omega)]
        simp only [List.map_append, List.map_take, List.map_cons, List.map_nil, ht2]
        simp [hq]
      · unfold XEval.pickP
        simp only [if_neg (show ¬ x.f0 = 0 by omega), if_neg (show ¬ x.f0 = 1 by omega), if_neg (show ¬ x.f0 = 2 by omega), if_neg (show ¬ x.f0 = 3 by omega), if_neg (show ¬ (x.f0 = 22 ∨ x.f0 = 23) by omega), ha, Int.toNat_natCast, hld]
        refine Ev.map _ (hDO x.f0 l (by rw [← hld, List.length_drop]; omega) fun v hv => (hlv v hv).2) ?_
        rw [doV_of hany hq rfl]
    · have h3 : x.f0 ≤ 3 := arity_mid hrange.1 (by omega) c2
      have ha : XOps.arityF x.f0 = 0 := arity_low h3
      rw [step_plain c c2] at hstep ⊢
      rw [ha]
      have key : ∀ v : Sv, picV r fold s x = v → Val1 v → v.f0 = (decide (x.f0 = 1) || decide (x.f0 = 2)) → Ev (fun k => XEval.pickP TEXT (DO k) r fold s x) v →
          (0 : Int) ≤ (s.length : Int) ∧ Val1 (picV r fold s x) ∧ (s.take (s.length - (0 : Int).toNat) ++ [picV r fold s x]).map (·.f0) = (pushP (s.map (·.f0), m) (decide (x.f0 = 1) || decide (x.f0 = 2))).1.1 ∧ Ev (fun k => XEval.pickP TEXT (DO k) r fold s x) (picV r fold s x) := fun v hv h1 h2 h4 => by
        rw [hv]
        refine ⟨by omega, h1, ?_, h4⟩
        by_cases c3 : (s.map (·.f0)).length = 30
        · rw [push_full (x := (s.map (·.f0), m)) c3] at hstep; cases hstep
        · rw [push_ok (x := (s.map (·.f0), m)) c3]
          simp only [Int.toNat_zero, Nat.sub_zero, List.take_length, List.map_append, List.map_cons, List.map_nil, h2]
      have pk : ∀ v, XEval.pickP TEXT (DO 0) r fold s x = some v → (∀ k, XEval.pickP TEXT (DO k) r fold s x = XEval.pickP TEXT (DO 0) r fold s x) → Ev (fun k => XEval.pickP TEXT (DO k) r fold s x) v := fun v h1 h2 => ⟨0, fun k _ => by show XEval.pickP TEXT (DO k) r fold s x = some v; rw [h2, h1]⟩
      rcases (show x.f0 = 0 ∨ x.f0 = 1 ∨ x.f0 = 2 ∨ x.f0 = 3 by omega) with h | h | h | h
      · refine key (numV x.f1) (by unfold picV; rw [if_pos h]) (val_num hxn) (by rw [h]; rfl) (pk _ (by unfold XEval.pickP; rw [if_pos h]; rfl) fun k => by unfold XEval.pickP; rw [if_pos h, if_pos h])
      · have h0 : ¬ x.f0 = 0 := by omega
        refine key (textV x.f2) (by unfold picV; rw [if_neg h0, if_pos h]) (val_text _) (by rw [h]; rfl) (pk _ (by unfold XEval.pickP; rw [if_neg h0, if_pos h, hTX]) fun k => by unfold XEval.pickP; rw [if_neg h0, if_pos h, if_neg h0, if_pos h])
      · have h0 : ¬ x.f0 = 0 := by omega
        have h1 : ¬ x.f0 = 1 := by omega
        have hf := may_field hx h
        by_cases d : (r.length : Int) ≤ x.f1
        · refine key (textV ⟨#[]⟩) (by unfold picV; rw [if_neg h0, if_neg h1, if_pos h, if_pos d]) (val_text _) (by rw [h]; rfl) (pk _ (by unfold XEval.pickP; rw [if_neg h0, if_neg h1, if_pos h, if_pos d, hTX]) fun k => by unfold XEval.pickP; rw [if_neg h0, if_neg h1, if_pos h, if_neg h0, if_neg h1, if_pos h])
        · refine key (textV (r.getD x.f1.toNat ByteArray.empty)) (by unfold picV; rw [if_neg h0, if_neg h1, if_pos h, if_neg d]) (val_text _) (by rw [h]; rfl) (pk _ (by unfold XEval.pickP; rw [if_neg h0, if_neg h1, if_pos h, if_neg d, if_pos hf, hTX]) fun k => by unfold XEval.pickP; rw [if_neg h0, if_neg h1, if_pos h, if_neg h0, if_neg h1, if_pos h])
      · have h0 : ¬ x.f0 = 0 := by omega
        have h1 : ¬ x.f0 = 1 := by omega
        have h2 : ¬ x.f0 = 2 := by omega
        refine key (numV (r.length : Int)) (by unfold picV; rw [if_neg h0, if_neg h1, if_neg h2, if_pos h]) (val_num (by unfold I64; omega)) (by rw [h]; rfl) (pk _ (by unfold XEval.pickP; rw [if_neg h0, if_neg h1, if_neg h2, if_pos h]; rfl) fun k => by unfold XEval.pickP; rw [if_neg h0, if_neg h1, if_neg h2, if_pos h, if_neg h0, if_neg h1, if_neg h2, if_pos h])
set_option maxHeartbeats 4000000 in
theorem run_ok (hTX : ∀ x, TEXT x = some (textV x)) (hDO : ∀ o (l : List Sv), l.length ≤ 1000000 → (∀ v ∈ l, I64 v.f1) → Ev (fun k => DO k o l) ((⟨(doV o l).1, (doV o l).2.1, (doV o l).2.2.1⟩ : Sv), (doV o l).2.2.2))
    (r : List ByteArray) (hr : r.length ≤ 140737488351232) (fold : List Sv) (hf : fold.length = 0 ∨ fold.length = 2) (hfv : ∀ v ∈ fold, Val1 v) :
    ∀ (p : List Ins) (i : Nat) (s : List Sv) (m u : Int), (∀ x ∈ p, I64 x.f1) → (∀ v ∈ s, Val1 v) → s.length ≤ 30 → (runP May (fold.map (·.f0)) p i (s.map (·.f0), m)).2.2 = 0 →
      Ev (fun k => XEval.runE TEXT (DO k) r fold p s u) (runV r fold p s u) ∧ ((runV r fold p s u).2.2 = 0 ∨ (runV r fold p s u).2.2 = 12) ∧
      ((runV r fold p s u).2.2 = 0 → (∀ v ∈ (runV r fold p s u).1, Val1 v) ∧ (runV r fold p s u).1.map (·.f0) = (runP May (fold.map (·.f0)) p i (s.map (·.f0), m)).1.1)
  | [], i, s, m, u, hp, hs, hl, h => ⟨Ev.now _, .inl rfl, fun _ => ⟨hs, rfl⟩⟩
  | x :: p, i, s, m, u, hp, hs, hl, h => by
    rcases hm : May x with _ | _
    · rw [run_no hm] at h; cases h
    by_cases h2 : (stepP (fold.map (·.f0)) (s.map (·.f0), m) x.f0).2 = 0
    · rw [run_go hm h2] at h ⊢
      obtain ⟨ha, hv, hk, he⟩ := one_step hTX hDO r hr fold hf hfv s hs hl x hm (hp x List.mem_cons_self) m h2
      have hlen := stepP_len (fold := fold.map (·.f0)) (x := (s.map (·.f0), m)) (o := x.f0) (by simpa using hl)
      rw [← hk, List.length_map] at hlen
      have hvs : ∀ v ∈ s.take (s.length - (XOps.arityF x.f0).toNat) ++ [picV r fold s x], Val1 v := fun v hv' => by
        rcases List.mem_append.1 hv' with h | h
        · exact hs v (List.mem_of_mem_take h)
        · rw [List.mem_singleton.1 h]; exact hv
      have e : (stepP (fold.map (·.f0)) (s.map (·.f0), m) x.f0).1 = ((s.take (s.length - (XOps.arityF x.f0).toNat) ++ [picV r fold s x]).map (·.f0), (stepP (fold.map (·.f0)) (s.map (·.f0), m) x.f0).1.2) := by rw [hk]
      rw [e] at h ⊢
      have ih := fun u' => run_ok hTX hDO r hr fold hf hfv p (i + 1) (s.take (s.length - (XOps.arityF x.f0).toNat) ++ [picV r fold s x]) (stepP (fold.map (·.f0)) (s.map (·.f0), m) x.f0).1.2 u' (fun y hy => hp y (List.mem_cons_of_mem _ hy)) hvs hlen h
      have hbig : ¬ ((s.length : Int) < XOps.arityF x.f0 ∨ s.any XEval.big = true) := by
        rintro (h | h)
        · omega
        · obtain ⟨v, hv, hb⟩ := List.any_eq_true.1 h
          have := isVal_size (hs v hv).1
          unfold XEval.big at hb
          have := of_decide_eq_true hb
          omega
      by_cases c : XEval.costP s x.f0 > u
      · have er : runV r fold (x :: p) s u = (s, u, 12) := by unfold runV; rw [if_pos c]
        rw [er]
        refine ⟨?_, .inr rfl, fun h => by cases h⟩
        simp only [XEval.runE, if_neg hbig, if_pos c]
        exact Ev.now _
      · have er : runV r fold (x :: p) s u = runV r fold p (s.take (s.length - (XOps.arityF x.f0).toNat) ++ [picV r fold s x]) (u - XEval.costP s x.f0) := by conv => lhs; unfold runV; rw [if_neg c]
        rw [er]
        obtain ⟨i1, i2, i3⟩ := ih (u - XEval.costP s x.f0)
        refine ⟨?_, i2, i3⟩
        simp only [XEval.runE, if_neg hbig, if_neg c]
        exact Ev.bind he i1
    · rw [run_bad hm h2] at h; exact absurd h h2
end
end Go.Proofs.YtnodgcakmolleaaGreatDoorL
namespace Go.Proofs.YtnodgcakmolleaaGreatDoorL
open Go.RowKit Go.Proofs Go.Proofs.YtnodgcakmolleaaGreatDoor Go.Proofs.YtnodgcakmolleaaGreatDoor.PX Go.Proofs.YtnodgcakmolleaaGreatDoorW.PrintWords Go.Proofs.YtnodgcakmolleaaGreatDoorW.PrintMore Go.Proofs.YtnodgcakmolleaaGreatDoor.XCheck
theorem TX_ (x : ByteArray) : eval_Run.TX x = some (textV x) := by unfold eval_Run.TX; rw [text_f]; rfl
theorem rTX_ (x : ByteArray) : r16_run.TX x = some (textV x) := by unfold r16_run.TX; rw [rtext]; rfl
theorem DO_ (o : Int) (l : List Sv) (hl : l.length ≤ 1000000) (hn : ∀ v ∈ l, I64 v.f1) : Ev (fun k => eval_Run.DO k o l) ((⟨(doV o l).1, (doV o l).2.1, (doV o l).2.2.1⟩ : Sv), (doV o l).2.2.2) := Ev.map _ (do_ o l hl hn) rfl
theorem rDO_ (o : Int) (l : List Sv) (hl : l.length ≤ 1000000) (hn : ∀ v ∈ l, I64 v.f1) : Ev (fun k => r16_run.DO k o l) ((⟨(doV o l).1, (doV o l).2.1, (doV o l).2.2.1⟩ : Sv), (doV o l).2.2.2) := Ev.map _ (rdo o l hl hn) rfl
theorem stack_go {p : List Ins} {fk : List Bool} (h : (stackP May p fk).2.2 = 0) : p.length ≤ 200 ∧ (fk.length = 0 ∨ fk.length = 2) ∧ (runP May fk p 0 ([], 0)).2.2 = 0 ∧ (stackP May p fk).1 = (runP May fk p 0 ([], 0)).1.1 := by
  unfold stackP at h ⊢
  by_cases c : fk.length ≠ 0 ∧ fk.length ≠ 2
  · rw [if_pos c] at h; cases h
  rw [if_neg c] at h ⊢
  by_cases d : 200 < p.length
  · rw [if_pos d] at h; cases h
  rw [if_neg d] at h ⊢
  exact ⟨by omega, by omega, h, rfl⟩
theorem run_may {fk : List Bool} : ∀ (p : List Ins) (i : Nat) (x : List Bool × Int), (runP May fk p i x).2.2 = 0 → ∀ y ∈ p, May y = true
  | [], i, x, h, y, hy => by cases hy
  | a :: p, i, x, h, y, hy => by
    rcases hm : May a with _ | _
    · rw [run_no hm] at h; cases h
    by_cases h2 : (stepP fk x a.f0).2 = 0
    · rw [run_go hm h2] at h
      rcases List.mem_cons.1 hy with rfl | hy
      · exact hm
      · exact run_may p _ _ h y hy
    · rw [run_bad hm h2] at h; exact absurd h h2
theorem all_good : ∀ (p : List Ins), (∀ x ∈ p, May x = true) → ∃ K, ∀ k, K ≤ k → p.all (r16_run.good k) = true
  | [], h => ⟨0, fun _ _ => rfl⟩
  | x :: p, h => by
    obtain ⟨K1, h1⟩ := all_good p fun y hy => h y (List.mem_cons_of_mem _ hy)
    obtain ⟨K2, h2⟩ := arity_f x.f0
    refine ⟨max K1 K2, fun k hk => ?_⟩
    have hx := (may_range (h x List.mem_cons_self)).2
    rw [List.all_cons, h1 k (by omega), Bool.and_true]
    unfold r16_run.good
    have e : r13_Arity.f k x.f0 = some (XOps.arityF x.f0) := h2 k (by omega)
    rw [e]
    simp [hx]
theorem rrun_f (p : List Ins) (r : List ByteArray) (fold : List Sv) (u : Int) (hp : ∀ x ∈ p, I64 x.f1) (hr : r.length ≤ 140737488351232) (hf : fold.length = 0 ∨ fold.length = 2) (hfv : ∀ v ∈ fold, Val1 v) (hu : I64 u) (hgo : (stackP May p (fold.map (·.f0))).2.2 = 0) :
    Ev (fun k => r16_run.f k p r fold u) (if (runV r fold p [] u).2.2 = 0 then ((runV r fold p [] u).1, (runV r fold p [] u).2.1, true) else ([], 0, false)) := by
  obtain ⟨h1, _, h3, _⟩ := stack_go hgo
  obtain ⟨K1, g1⟩ := all_good p (run_may p _ _ h3)
  obtain ⟨K2, g2⟩ := (run_ok rTX_ rDO_ r hr fold hf hfv p 0 [] 0 u hp (by simp) (by decide) h3).1
  refine ⟨max K1 K2, fun k hk => ?_⟩
  have e : XEval.runE r16_run.TX (r16_run.DO k) r fold p [] u = some (runV r fold p [] u) := g2 k (by omega)
  show r16_run.f k p r fold u = _
  unfold r16_run.f
  rw [if_pos (show p.all (r16_run.good k) = true ∧ p.length ≤ 10000 ∧ u ≤ 9223372036854775807 from ⟨g1 k (by omega), by omega, hu.2⟩), e]
  rfl
theorem few_ev (r : List ByteArray) (hr : r.length ≤ 140737488351232) : ∃ b, Ev (fun k => r01_Few.f k [r] 1 4000) b := by
  have hrd : rd_L1 [r] 0 = r := rfl
  have go : ∀ m i : Nat, i + m = r.length → ∀ x7 : Int, ∃ b, Ev (fun k => r01_Few.l1 k [r] 1 4000 x7 0 (i : Int)) b := fun m => by
    induction m with
    | zero =>
      intro i hi x7
      refine ⟨true, Ev.succ ?_⟩
      simp only [r01_Few.l1, if_pos (show (0 : Int) ≤ 0 by decide), if_pos (show (0 : Int) < (([r] : List (List ByteArray)).length : Int) by simp), hrd, if_neg (show ¬ (i : Int) < (r.length : Int) by omega)]
      refine Ev.succ ?_
      have hw : wrap64 (0 + 1) = 1 := by unfold wrap64; omega
      simp only [r01_Few.l0, hw, if_neg (show ¬ (1 : Int) < (([r] : List (List ByteArray)).length : Int) by simp)]
      exact Ev.ret (by simp)
    | succ m ih =>
      intro i hi x7
      by_cases c : wrap64 (wrap64 (x7 + 1) + ((rdOf ByteArray.empty r (i : Int)).size : Int)) > 4000
      · refine ⟨false, Ev.succ ?_⟩
        simp only [r01_Few.l1, if_pos (show (0 : Int) ≤ 0 by decide), if_pos (show (0 : Int) < (([r] : List (List ByteArray)).length : Int) by simp), hrd, if_pos (show (i : Int) < (r.length : Int) by omega), if_pos (show (0 : Int) ≤ (i : Int) by omega), if_pos c]
        exact Ev.now _
      · obtain ⟨b, hb⟩ := ih (i + 1) (by omega) (wrap64 (wrap64 (x7 + 1) + ((rdOf ByteArray.empty r (i : Int)).size : Int)))
        refine ⟨b, Ev.succ ?_⟩
        simp only [r01_Few.l1, if_pos (show (0 : Int) ≤ 0 by decide), if_pos (show (0 : Int) < (([r] : List (List ByteArray)).length : Int) by simp), hrd, if_pos (show (i : Int) < (r.length : Int) by omega), if_pos (show (0 : Int) ≤ (i : Int) by omega), if_neg c, wrap_succ (i := i) (by omega)]
        exact hb
  obtain ⟨b, hb⟩ := go r.length 0 (by omega) 0
  refine ⟨b, ?_⟩
  unfold r01_Few.f
  refine Ev.succ ?_
  simp only [r01_Few.l0, if_pos (show (0 : Int) < (([r] : List (List ByteArray)).length : Int) by simp)]
  exact hb
theorem small_ev (l : List Ins) (r : List ByteArray) (hr : r.length ≤ 140737488351232) : ∃ b, Ev (fun k => w16_small.f k l r) b := by
  have go : ∀ m i : Nat, i + m = 250 → i ≤ l.length → ∃ b, Ev (fun k => w16_small.l0 k l r (i : Int)) b := fun m => by
    induction m with
    | zero =>
      intro i hi hl
      by_cases h : i < l.length
      · refine ⟨false, Ev.succ ?_⟩
        simp only [w16_small.l0, if_pos (show (i : Int) < (l.length : Int) by omega), if_pos (show (i : Int) = 250 by omega)]
        exact Ev.now _
      · obtain ⟨b, hb⟩ := few_ev r hr
        refine ⟨b, Ev.succ ?_⟩
        simp only [w16_small.l0, if_neg (show ¬ (i : Int) < (l.length : Int) by omega)]
        exact Ev.bind hb (Ev.now _)
    | succ m ih =>
      intro i hi hl
      by_cases h : i < l.length
      · by_cases h2 : (((rd_T44 l (i : Int)).f2).size : Int) > 1100
        · refine ⟨false, Ev.succ ?_⟩
          simp only [w16_small.l0, if_pos (show (i : Int) < (l.length : Int) by omega), if_neg (show ¬ (i : Int) = 250 by omega), if_pos (show (0 : Int) ≤ (i : Int) by omega), if_pos h2]
          exact Ev.now _
        · obtain ⟨b, hb⟩ := ih (i + 1) (by omega) (by omega)
          refine ⟨b, Ev.succ ?_⟩
          simp only [w16_small.l0, if_pos (show (i : Int) < (l.length : Int) by omega), if_neg (show ¬ (i : Int) = 250 by omega), if_pos (show (0 : Int) ≤ (i : Int) by omega), if_neg h2, wrap_succ (i := i) (by omega)]
          exact hb
      · obtain ⟨b, hb⟩ := few_ev r hr
        refine ⟨b, Ev.succ ?_⟩
        simp only [w16_small.l0, if_neg (show ¬ (i : Int) < (l.length : Int) by omega)]
        exact Ev.bind hb (Ev.now _)
  exact go 250 0 rfl (Nat.zero_le _)
theorem alive16 : Ev (fun k => w16_alive.f k) true := Ev.at_k 40 (fun k => w16_alive.mono k) (by kernel_rfl)
end Go.Proofs.YtnodgcakmolleaaGreatDoorL
