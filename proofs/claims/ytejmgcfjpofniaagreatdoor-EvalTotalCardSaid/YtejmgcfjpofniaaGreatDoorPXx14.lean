/- Walked functions, by this session's program over the kit's print. -/
import Derived.Test.YtejmgcfjpofniaaGreatDoorXDo
import Derived.Test.YtejmgcfjpofniaaGreatDoorXEvalFns
import Derived.Test.YtejmgcfjpofniaaGreatDoorPXx0
import Derived.Test.YtejmgcfjpofniaaGreatDoorPXx9
import Derived.Test.YtejmgcfjpofniaaGreatDoorPXx12
import Derived.Test.YtejmgcfjpofniaaGreatDoorPXx13
/- Walked functions, by this session's program over the kit's print. -/
namespace Go.Proofs.YtejmgcfjpofniaaGreatDoor.PX
open Go.RowKit Go.Proofs.YtejmgcfjpofniaaGreatDoorW.PrintWords Go.Proofs.YtejmgcfjpofniaaGreatDoorW.PrintLast Go.Proofs.YtejmgcfjpofniaaGreatDoorW.PrintMore
attribute [local go_sem] xm_gtr max2_int min2_int max_two min_two max_three min_three max_four min_four   -- for this text's walks alone
set_option linter.unusedVariables false
set_option linter.unusedSimpArgs false

/-! ### value_Do: function 71 -/
def value_Do.D (k : Nat) (f : Nat) (x y z : XOps.Sv) : Option XOps.Sv :=
  if f = 81 then (value_val_add.f x.f0 x.f1 x.f2 y.f0 y.f1 y.f2 z.f0 z.f1 z.f2).map fun p => ⟨p.1, p.2.1, p.2.2⟩ else
  if f = 82 then (value_val_sub.f x.f0 x.f1 x.f2 y.f0 y.f1 y.f2 z.f0 z.f1 z.f2).map fun p => ⟨p.1, p.2.1, p.2.2⟩ else
  if f = 83 then (value_val_mul.f x.f0 x.f1 x.f2 y.f0 y.f1 y.f2 z.f0 z.f1 z.f2).map fun p => ⟨p.1, p.2.1, p.2.2⟩ else
  if f = 84 then (value_val_div.f x.f0 x.f1 x.f2 y.f0 y.f1 y.f2 z.f0 z.f1 z.f2).map fun p => ⟨p.1, p.2.1, p.2.2⟩ else
  if f = 85 then (value_val_mod.f x.f0 x.f1 x.f2 y.f0 y.f1 y.f2 z.f0 z.f1 z.f2).map fun p => ⟨p.1, p.2.1, p.2.2⟩ else
  if f = 86 then (value_val_join.f x.f0 x.f1 x.f2 y.f0 y.f1 y.f2 z.f0 z.f1 z.f2).map fun p => ⟨p.1, p.2.1, p.2.2⟩ else
  if f = 87 then (value_val_long.f x.f0 x.f1 x.f2 y.f0 y.f1 y.f2 z.f0 z.f1 z.f2).map fun p => ⟨p.1, p.2.1, p.2.2⟩ else
  if f = 88 then (value_val_slice.f x.f0 x.f1 x.f2 y.f0 y.f1 y.f2 z.f0 z.f1 z.f2).map fun p => ⟨p.1, p.2.1, p.2.2⟩ else
  if f = 89 then (value_val_upper.f x.f0 x.f1 x.f2 y.f0 y.f1 y.f2 z.f0 z.f1 z.f2).map fun p => ⟨p.1, p.2.1, p.2.2⟩ else
  if f = 90 then (value_val_lower.f x.f0 x.f1 x.f2 y.f0 y.f1 y.f2 z.f0 z.f1 z.f2).map fun p => ⟨p.1, p.2.1, p.2.2⟩ else
  if f = 91 then (value_val_eq.f k x.f0 x.f1 x.f2 y.f0 y.f1 y.f2 z.f0 z.f1 z.f2).map fun p => ⟨p.1, p.2.1, p.2.2⟩ else
  if f = 92 then (value_val_less.f k x.f0 x.f1 x.f2 y.f0 y.f1 y.f2 z.f0 z.f1 z.f2).map fun p => ⟨p.1, p.2.1, p.2.2⟩ else
  if f = 93 then (value_val_not.f x.f0 x.f1 x.f2 y.f0 y.f1 y.f2 z.f0 z.f1 z.f2).map fun p => ⟨p.1, p.2.1, p.2.2⟩ else
  if f = 94 then (value_val_choose.f x.f0 x.f1 x.f2 y.f0 y.f1 y.f2 z.f0 z.f1 z.f2).map fun p => ⟨p.1, p.2.1, p.2.2⟩ else
  if f = 95 then (value_val_number.f k x.f0 x.f1 x.f2 y.f0 y.f1 y.f2 z.f0 z.f1 z.f2).map fun p => ⟨p.1, p.2.1, p.2.2⟩ else
  if f = 96 then (value_val_text.f x.f0 x.f1 x.f2 y.f0 y.f1 y.f2 z.f0 z.f1 z.f2).map fun p => ⟨p.1, p.2.1, p.2.2⟩ else
  if f = 97 then (value_val_hash.f k x.f0 x.f1 x.f2 y.f0 y.f1 y.f2 z.f0 z.f1 z.f2).map fun p => ⟨p.1, p.2.1, p.2.2⟩ else
  if f = 98 then (value_val_find.f x.f0 x.f1 x.f2 y.f0 y.f1 y.f2 z.f0 z.f1 z.f2).map fun p => ⟨p.1, p.2.1, p.2.2⟩ else
  none
theorem value_Do.D_mono (k : Nat) (f : Nat) (x y z r : XOps.Sv) (h : value_Do.D k f x y z = some r) : value_Do.D (k + 1) f x y z = some r := by
  unfold value_Do.D at h ⊢
  by_cases e : f = 81
  · subst e
    rw [if_pos rfl] at h ⊢
    obtain ⟨p, h1, h2⟩ := Option.map_eq_some_iff.1 h
    exact Option.map_eq_some_iff.2 ⟨p, h1, h2⟩
  rw [if_neg e] at h ⊢
  clear e
  by_cases e : f = 82
  · subst e
    rw [if_pos rfl] at h ⊢
    obtain ⟨p, h1, h2⟩ := Option.map_eq_some_iff.1 h
    exact Option.map_eq_some_iff.2 ⟨p, h1, h2⟩
  rw [if_neg e] at h ⊢
  clear e
  by_cases e : f = 83
  · subst e
    rw [if_pos rfl] at h ⊢
    obtain ⟨p, h1, h2⟩ := Option.map_eq_some_iff.1 h
    exact Option.map_eq_some_iff.2 ⟨p, h1, h2⟩
  rw [if_neg e] at h ⊢
  clear e
  by_cases e : f = 84
  · subst e
    rw [if_pos rfl] at h ⊢
    obtain ⟨p, h1, h2⟩ := Option.map_eq_some_iff.1 h
    exact Option.map_eq_some_iff.2 ⟨p, h1, h2⟩
  rw [if_neg e] at h ⊢
  clear e
  by_cases e : f = 85
  · subst e
    rw [if_pos rfl] at h ⊢
    obtain ⟨p, h1, h2⟩ := Option.map_eq_some_iff.1 h
    exact Option.map_eq_some_iff.2 ⟨p, h1, h2⟩
  rw [if_neg e] at h ⊢
  clear e
  by_cases e : f = 86
  · subst e
    rw [if_pos rfl] at h ⊢
    obtain ⟨p, h1, h2⟩ := Option.map_eq_some_iff.1 h
    exact Option.map_eq_some_iff.2 ⟨p, h1, h2⟩
  rw [if_neg e] at h ⊢
  clear e
  by_cases e : f = 87
  · subst e
    rw [if_pos rfl] at h ⊢
    obtain ⟨p, h1, h2⟩ := Option.map_eq_some_iff.1 h
    exact Option.map_eq_some_iff.2 ⟨p, h1, h2⟩
  rw [if_neg e] at h ⊢
  clear e
  by_cases e : f = 88
  · subst e
    rw [if_pos rfl] at h ⊢
    obtain ⟨p, h1, h2⟩ := Option.map_eq_some_iff.1 h
    exact Option.map_eq_some_iff.2 ⟨p, h1, h2⟩
  rw [if_neg e] at h ⊢
  clear e
  by_cases e : f = 89
  · subst e
    rw [if_pos rfl] at h ⊢
    obtain ⟨p, h1, h2⟩ := Option.map_eq_some_iff.1 h
    exact Option.map_eq_some_iff.2 ⟨p, h1, h2⟩
  rw [if_neg e] at h ⊢
  clear e
  by_cases e : f = 90
  · subst e
    rw [if_pos rfl] at h ⊢
    obtain ⟨p, h1, h2⟩ := Option.map_eq_some_iff.1 h
    exact Option.map_eq_some_iff.2 ⟨p, h1, h2⟩
  rw [if_neg e] at h ⊢
  clear e
  by_cases e : f = 91
  · subst e
    rw [if_pos rfl] at h ⊢
    obtain ⟨p, h1, h2⟩ := Option.map_eq_some_iff.1 h
    exact Option.map_eq_some_iff.2 ⟨p, value_val_eq.mono _ _ _ _ _ _ _ _ _ k _ h1, h2⟩
  rw [if_neg e] at h ⊢
  clear e
  by_cases e : f = 92
  · subst e
    rw [if_pos rfl] at h ⊢
    obtain ⟨p, h1, h2⟩ := Option.map_eq_some_iff.1 h
    exact Option.map_eq_some_iff.2 ⟨p, value_val_less.mono _ _ _ _ _ _ _ _ _ k _ h1, h2⟩
  rw [if_neg e] at h ⊢
  clear e
  by_cases e : f = 93
  · subst e
    rw [if_pos rfl] at h ⊢
    obtain ⟨p, h1, h2⟩ := Option.map_eq_some_iff.1 h
    exact Option.map_eq_some_iff.2 ⟨p, h1, h2⟩
  rw [if_neg e] at h ⊢
  clear e
  by_cases e : f = 94
  · subst e
    rw [if_pos rfl] at h ⊢
    obtain ⟨p, h1, h2⟩ := Option.map_eq_some_iff.1 h
    exact Option.map_eq_some_iff.2 ⟨p, h1, h2⟩
  rw [if_neg e] at h ⊢
  clear e
  by_cases e : f = 95
  · subst e
    rw [if_pos rfl] at h ⊢
    obtain ⟨p, h1, h2⟩ := Option.map_eq_some_iff.1 h
    exact Option.map_eq_some_iff.2 ⟨p, value_val_number.mono _ _ _ _ _ _ _ _ _ k _ h1, h2⟩
  rw [if_neg e] at h ⊢
  clear e
  by_cases e : f = 96
  · subst e
    rw [if_pos rfl] at h ⊢
    obtain ⟨p, h1, h2⟩ := Option.map_eq_some_iff.1 h
    exact Option.map_eq_some_iff.2 ⟨p, h1, h2⟩
  rw [if_neg e] at h ⊢
  clear e
  by_cases e : f = 97
  · subst e
    rw [if_pos rfl] at h ⊢
    obtain ⟨p, h1, h2⟩ := Option.map_eq_some_iff.1 h
    exact Option.map_eq_some_iff.2 ⟨p, value_val_hash.mono _ _ _ _ _ _ _ _ _ k _ h1, h2⟩
  rw [if_neg e] at h ⊢
  clear e
  by_cases e : f = 98
  · subst e
    rw [if_pos rfl] at h ⊢
    obtain ⟨p, h1, h2⟩ := Option.map_eq_some_iff.1 h
    exact Option.map_eq_some_iff.2 ⟨p, h1, h2⟩
  rw [if_neg e] at h ⊢
  clear e
  cases h
theorem value_Do.D_calls (k : Nat) (f : Nat) (x y z r : XOps.Sv) (w : World) (hT : Tabs w) (h : value_Do.D k f x y z = some r) : Calls Tryz.prog f #[XOps.enV x, XOps.enV y, XOps.enV z] w fun e w' => e = .returned (XOps.enV r) ∧ Below w.heap.size w w' := by
  unfold value_Do.D at h
  by_cases e : f = 81
  · subst e
    rw [if_pos rfl] at h
    obtain ⟨⟨p1, p2, p3⟩, h1, rfl⟩ := Option.map_eq_some_iff.1 h
    exact value_val_add.calls _ _ _ _ _ _ _ _ _ _ _ _ w hT h1
  rw [if_neg e] at h
  clear e
  by_cases e : f = 82
  · subst e
    rw [if_pos rfl] at h
    obtain ⟨⟨p1, p2, p3⟩, h1, rfl⟩ := Option.map_eq_some_iff.1 h
    exact value_val_sub.calls _ _ _ _ _ _ _ _ _ _ _ _ w hT h1
  rw [if_neg e] at h
  clear e
  by_cases e : f = 83
  · subst e
    rw [if_pos rfl] at h
    obtain ⟨⟨p1, p2, p3⟩, h1, rfl⟩ := Option.map_eq_some_iff.1 h
    exact value_val_mul.calls _ _ _ _ _ _ _ _ _ _ _ _ w hT h1
  rw [if_neg e] at h
  clear e
  by_cases e : f = 84
  · subst e
    rw [if_pos rfl] at h
    obtain ⟨⟨p1, p2, p3⟩, h1, rfl⟩ := Option.map_eq_some_iff.1 h
    exact value_val_div.calls _ _ _ _ _ _ _ _ _ _ _ _ w hT h1
  rw [if_neg e] at h
  clear e
  by_cases e : f = 85
  · subst e
    rw [if_pos rfl] at h
    obtain ⟨⟨p1, p2, p3⟩, h1, rfl⟩ := Option.map_eq_some_iff.1 h
    exact value_val_mod.calls _ _ _ _ _ _ _ _ _ _ _ _ w hT h1
  rw [if_neg e] at h
  clear e
  by_cases e : f = 86
  · subst e
    rw [if_pos rfl] at h
    obtain ⟨⟨p1, p2, p3⟩, h1, rfl⟩ := Option.map_eq_some_iff.1 h
    exact value_val_join.calls _ _ _ _ _ _ _ _ _ _ _ _ w hT h1
  rw [if_neg e] at h
  clear e
  by_cases e : f = 87
  · subst e
    rw [if_pos rfl] at h
    obtain ⟨⟨p1, p2, p3⟩, h1, rfl⟩ := Option.map_eq_some_iff.1 h
    exact value_val_long.calls _ _ _ _ _ _ _ _ _ _ _ _ w hT h1
  rw [if_neg e] at h
  clear e
  by_cases e : f = 88
  · subst e
    rw [if_pos rfl] at h
    obtain ⟨⟨p1, p2, p3⟩, h1, rfl⟩ := Option.map_eq_some_iff.1 h
    exact value_val_slice.calls _ _ _ _ _ _ _ _ _ _ _ _ w hT h1
  rw [if_neg e] at h
  clear e
  by_cases e : f = 89
  · subst e
    rw [if_pos rfl] at h
    obtain ⟨⟨p1, p2, p3⟩, h1, rfl⟩ := Option.map_eq_some_iff.1 h
    exact value_val_upper.calls _ _ _ _ _ _ _ _ _ _ _ _ w hT h1
  rw [if_neg e] at h
  clear e
  by_cases e : f = 90
  · subst e
    rw [if_pos rfl] at h
    obtain ⟨⟨p1, p2, p3⟩, h1, rfl⟩ := Option.map_eq_some_iff.1 h
    exact value_val_lower.calls _ _ _ _ _ _ _ _ _ _ _ _ w hT h1
  rw [if_neg e] at h
  clear e
  by_cases e : f = 91
  · subst e
    rw [if_pos rfl] at h
    obtain ⟨⟨p1, p2, p3⟩, h1, rfl⟩ := Option.map_eq_some_iff.1 h
    exact value_val_eq.calls k _ _ _ _ _ _ _ _ _ _ _ _ w hT h1
  rw [if_neg e] at h
  clear e
  by_cases e : f = 92
  · subst e
    rw [if_pos rfl] at h
    obtain ⟨⟨p1, p2, p3⟩, h1, rfl⟩ := Option.map_eq_some_iff.1 h
    exact value_val_less.calls k _ _ _ _ _ _ _ _ _ _ _ _ w hT h1
  rw [if_neg e] at h
  clear e
  by_cases e : f = 93
  · subst e
    rw [if_pos rfl] at h
    obtain ⟨⟨p1, p2, p3⟩, h1, rfl⟩ := Option.map_eq_some_iff.1 h
    exact value_val_not.calls _ _ _ _ _ _ _ _ _ _ _ _ w hT h1
  rw [if_neg e] at h
  clear e
  by_cases e : f = 94
  · subst e
    rw [if_pos rfl] at h
    obtain ⟨⟨p1, p2, p3⟩, h1, rfl⟩ := Option.map_eq_some_iff.1 h
    exact value_val_choose.calls _ _ _ _ _ _ _ _ _ _ _ _ w hT h1
  rw [if_neg e] at h
  clear e
  by_cases e : f = 95
  · subst e
    rw [if_pos rfl] at h
    obtain ⟨⟨p1, p2, p3⟩, h1, rfl⟩ := Option.map_eq_some_iff.1 h
    exact value_val_number.calls k _ _ _ _ _ _ _ _ _ _ _ _ w hT h1
  rw [if_neg e] at h
  clear e
  by_cases e : f = 96
  · subst e
    rw [if_pos rfl] at h
    obtain ⟨⟨p1, p2, p3⟩, h1, rfl⟩ := Option.map_eq_some_iff.1 h
    exact value_val_text.calls _ _ _ _ _ _ _ _ _ _ _ _ w hT h1
  rw [if_neg e] at h
  clear e
  by_cases e : f = 97
  · subst e
    rw [if_pos rfl] at h
    obtain ⟨⟨p1, p2, p3⟩, h1, rfl⟩ := Option.map_eq_some_iff.1 h
    exact value_val_hash.calls k _ _ _ _ _ _ _ _ _ _ _ _ w hT h1
  rw [if_neg e] at h
  clear e
  by_cases e : f = 98
  · subst e
    rw [if_pos rfl] at h
    obtain ⟨⟨p1, p2, p3⟩, h1, rfl⟩ := Option.map_eq_some_iff.1 h
    exact value_val_find.calls _ _ _ _ _ _ _ _ _ _ _ _ w hT h1
  rw [if_neg e] at h
  clear e
  cases h
theorem value_Do.isVal (x : XOps.Sv) (w : World) (hT : Tabs w) : Calls Tryz.prog 99 #[XOps.enV x] w fun e w' => e = .returned (.bool (XOps.isValB x)) ∧ Below w.heap.size w w' := by
  refine value_isVal.calls x.f0 x.f1 x.f2 (XOps.isValB x) w hT ?_
  unfold value_isVal.f XOps.isValB
  by_cases h1 : x.f0 = true
  · rw [if_pos h1, if_pos h1]
    by_cases h2 : x.f1 = 0
    · rw [if_pos h2, decide_eq_true h2, Bool.true_and]
    · rw [if_neg h2, decide_eq_false h2, Bool.false_and]
  · rw [if_neg h1, if_neg h1]
def value_Do.f (k : Nat) (a0 : Int) (l1 : List (S44)) : Option (Bool × Int × ByteArray × Int) := if l1.length ≤ 1000000 then (XOps.doF (value_Do.D k) a0 l1).map fun p => (p.1.f0, p.1.f1, p.1.f2, p.2) else none
theorem value_Do.mono : ∀ a0 a1 k, LeO (value_Do.f k a0 a1) (value_Do.f (k + 1) a0 a1) := by
  intro a0 a1 k r h
  unfold value_Do.f at h ⊢
  by_cases hl : a1.length ≤ 1000000
  · rw [if_pos hl] at h ⊢
    obtain ⟨p, h1, h2⟩ := Option.map_eq_some_iff.1 h
    exact Option.map_eq_some_iff.2 ⟨p, XOps.doF_mono (value_Do.D_mono k) h1, h2⟩
  · rw [if_neg hl] at h
    cases h
theorem value_Do.calls (k : Nat) (a0 : Int) (A1 : Option Addr) (c1 : Nat) (l1 : List (S44)) (r1 : Bool) (r2 : Int) (r3 : ByteArray) (r4 : Int) (w : World) (hT : Tabs w) (hr1 : Kd.C k44 w A1 l1.length l1) (hc1 : l1.length ≤ c1) (h : value_Do.f k a0 l1 = some (r1, r2, r3, r4)) :
    Calls Tryz.prog 71 #[.int .i64 a0, .slice A1 l1.length c1] w fun e w' => e = .returned (.tuple #[.agg #[.bool r1, .int .i64 r2, .string r3], .int .i64 r4]) ∧ Below w.heap.size w w' := by
  unfold value_Do.f at h
  by_cases hl : l1.length ≤ 1000000
  · rw [if_pos hl] at h
    obtain ⟨⟨r, er⟩, h1, h2⟩ := Option.map_eq_some_iff.1 h
    simp only [Prod.mk.injEq] at h2
    obtain ⟨rfl, rfl, rfl, rfl⟩ := h2
    exact XOps.do_calls (T := Tabs) (fun w w' h hb => h.below hb) value_Do.isVal (value_Do.D k) (value_Do.D_calls k) a0 A1 c1 l1 r er w hT hr1 hc1 h1 (by omega)
  · rw [if_neg hl] at h
    cases h


/-! ### eval_Run: function 23 -/
def eval_Run.TX (x : ByteArray) : Option XEval.Sv := (value_Text.f x).map fun p => ⟨p.1, p.2.1, p.2.2⟩
def eval_Run.DO (k : Nat) (o : Int) (l : List XEval.Sv) : Option (XEval.Sv × Int) := (value_Do.f k o l).map fun p => (⟨p.1, p.2.1, p.2.2.1⟩, p.2.2.2)
theorem eval_Run.DO_mono (k : Nat) : ∀ o l y, eval_Run.DO k o l = some y → eval_Run.DO (k + 1) o l = some y := fun o l y h => by
  obtain ⟨p, h1, h2⟩ := Option.map_eq_some_iff.1 h
  exact Option.map_eq_some_iff.2 ⟨p, value_Do.mono _ _ _ _ h1, h2⟩
theorem eval_Run.env (k : Nat) : XEval.Env Tabs eval_Run.TX (eval_Run.DO k) where
  tb := fun w w' h hb => h.below hb
  num := fun n w hT => value_Num.calls n _ _ _ w hT rfl
  text := fun x y w hT h => by
    obtain ⟨⟨p1, p2, p3⟩, h1, rfl⟩ := Option.map_eq_some_iff.1 h
    exact value_Text.calls x _ _ _ w hT h1
  do_ := fun o l y er A c w hT hr hc h => by
    obtain ⟨⟨p1, p2, p3, p4⟩, h1, h2⟩ := Option.map_eq_some_iff.1 h
    simp only [Prod.mk.injEq] at h2
    obtain ⟨rfl, rfl⟩ := h2
    exact value_Do.calls k o A c l _ _ _ _ w hT hr hc h1
def eval_Run.f (k : Nat) (l0 : List (S48)) (l1 : List ByteArray) (a2 : Int) : Option ((List (S44)) × Int × Int) := (check_Stack.f l0 []).bind fun st =>
  if st.2.2 = 0 then (if l0.length ≤ 10000 ∧ a2 ≤ 9223372036854775807 then (XEval.runE eval_Run.TX (eval_Run.DO k) l1 [] l0 [] a2).map fun q => if q.2.2 = 0 then (q.1, q.2.1, q.2.2) else ([], 0, q.2.2) else none) else some ([], a2, st.2.2)
theorem eval_Run.mono : ∀ a0 a1 a2 k, LeO (eval_Run.f k a0 a1 a2) (eval_Run.f (k + 1) a0 a1 a2) := by
  intro a0 a1 a2 k r h
  unfold eval_Run.f at h ⊢
  obtain ⟨st, hst, h⟩ := Option.bind_eq_some_iff.1 h
  refine Option.bind_eq_some_iff.2 ⟨st, hst, ?_⟩
  by_cases c : st.2.2 = 0
  · rw [if_pos c] at h ⊢
    by_cases c2 : a0.length ≤ 10000 ∧ a2 ≤ 9223372036854775807
    · rw [if_pos c2] at h ⊢
      obtain ⟨q, hq, h⟩ := Option.map_eq_some_iff.1 h
      exact Option.map_eq_some_iff.2 ⟨q, XEval.runE_mono (eval_Run.DO_mono k) _ _ _ hq, h⟩
    · rw [if_neg c2] at h; cases h
  · rw [if_neg c] at h ⊢; exact h
theorem eval_Run.calls (k : Nat) (A0 : Option Addr) (c0 : Nat) (l0 : List (S48)) (A1 : Option Addr) (c1 : Nat) (l1 : List ByteArray) (a2 : Int) (r1 : List (S44)) (r2 : Int) (r3 : Int) (w : World) (hT : Tabs w) (hr0 : Kd.C k48 w A0 l0.length l0) (hc0 : l0.length ≤ c0) (hr1 : Kd.C Kd.string w A1 l1.length l1) (hc1 : l1.length ≤ c1) (h : eval_Run.f k l0 l1 a2 = some (r1, r2, r3)) :
    Calls Tryz.prog 23 #[.slice A0 l0.length c0, .slice A1 l1.length c1, .int .i64 a2] w fun e w' => ∃ v0_ : Value, e = .returned (.tuple #[v0_, .int .i64 r2, .int .i64 r3]) ∧ Kd.R k44 44 w' w.heap.size (fun _ => True) v0_ r1 ∧ Below w.heap.size w w' := by
  unfold eval_Run.f at h
  obtain ⟨⟨ks, ne, es⟩, hst, h⟩ := Option.bind_eq_some_iff.1 h
  have hS := (check_Stack.calls A0 c0 l0 none 0 [] ks ne es w hT hr0 hc0 (XEval.C_nilB w) (Nat.le_refl _) hst).mono fun e w' he => (⟨he.choose, he.choose_spec.1, he.choose_spec.2.2⟩ : ∃ v, e = Ending.returned (.tuple #[v, .int .i64 ne, .int .i64 es]) ∧ Below w.heap.size w w')
  dsimp only at h
  by_cases c : es = 0
  · rw [if_pos c] at h
    subst c
    by_cases c2 : l0.length ≤ 10000 ∧ a2 ≤ 9223372036854775807
    · rw [if_pos c2] at h
      obtain ⟨⟨s', u', er⟩, hq, h⟩ := Option.map_eq_some_iff.1 h
      have := XEval.Run_ok (eval_Run.env k) (rc := c1) hr1 hT A0 c0 l0 hr0 c2.1 c2.2 hS hq
      dsimp only at h
      by_cases c3 : er = 0
      · rw [if_pos c3] at h
        rw [if_pos c3, if_pos c3] at this
        simp only [Prod.mk.injEq] at h
        obtain ⟨rfl, rfl, rfl⟩ := h
        exact this
      · rw [if_neg c3] at h
        rw [if_neg c3, if_neg c3] at this
        simp only [Prod.mk.injEq] at h
        obtain ⟨rfl, rfl, rfl⟩ := h
        exact this
    · rw [if_neg c2] at h; cases h
  · rw [if_neg c] at h
    have h := Option.some.inj h
    simp only [Prod.mk.injEq] at h
    obtain ⟨rfl, rfl, rfl⟩ := h
    exact XEval.Run_err A0 c0 l0.length (.slice A1 l1.length c1) a2 c hS


/-! ### eval_One: function 27 -/
def eval_One.f (k : Nat) (l0 : List (S48)) (l1 : List ByteArray) (a2 : Int) : Option (Bool × Int × ByteArray × Int × Int) := (check_Stack.f l0 ([] : List Bool)).bind fun bt342 => (if bt342.2.2 = 0 then (if (bt342.1.length : Int) = 1 then ((eval_Run.f k l0 l1 a2).bind fun bt347 => (if bt347.2.2 = 0 then (if 0 < (bt347.1.length : Int) then (some ((rd_T44 bt347.1 0).f0, (rd_T44 bt347.1 0).f1, (rd_T44 bt347.1 0).f2, bt347.2.1, 0)) else (none)) else (some (false, 0, (⟨#[]⟩ : ByteArray), bt347.2.1, bt347.2.2)))) else (some (false, 0, (⟨#[]⟩ : ByteArray), a2, 11))) else (some (false, 0, (⟨#[]⟩ : ByteArray), a2, bt342.2.2)))
theorem eval_One.mono : ∀ a0 a1 a2 k, LeO (eval_One.f k a0 a1 a2) (eval_One.f (k + 1) a0 a1 a2) := by
  intro a0 a1 a2 k
  unfold eval_One.f
  repeat' first
      | (with_reducible exact eval_Run.mono _ _ _ _)
      | (with_reducible exact LeO.refl _)
      | (with_reducible exact LeO.none _)
      | (with_reducible refine LeO.ite ?_ ?_)
      | (with_reducible refine LeO.bind ?_ (fun _ => ?_))
      | exact eval_Run.mono _ _ _ _
      | exact LeO.none _
      | refine LeO.ite ?_ ?_
      | refine LeO.bind ?_ (fun _ => ?_)
set_option maxHeartbeats 8000000 in
set_option maxRecDepth 100000 in
theorem eval_One.calls (k : Nat) (A0 : Option Addr) (c0 : Nat) (l0 : List (S48)) (A1 : Option Addr) (c1 : Nat) (l1 : List ByteArray) (a2 : Int) (r1 : Bool) (r2 : Int) (r3 : ByteArray) (r4 : Int) (r5 : Int) (w : World) (hT : Tabs w) (hr0 : Kd.C k48 w A0 l0.length l0) (hc0 : l0.length ≤ c0) (hr1 : Kd.C Kd.string w A1 l1.length l1) (hc1 : l1.length ≤ c1) (h : eval_One.f k l0 l1 a2 = some (r1, r2, r3, r4, r5)) :
    Calls Tryz.prog 27 #[.slice A0 l0.length c0, .slice A1 l1.length c1, .int .i64 a2] w fun e w' => e = .returned (.tuple #[.agg #[.bool r1, .int .i64 r2, .string r3], .int .i64 r4, .int .i64 r5]) ∧ Below w.heap.size w w' := by
  have hu44 := Tryz.underlying44
  have HR0 := Aside0.mk hr0
  have HC0 := Aside0.mk hc0
  clear hr0 hc0
  have HR1 := Aside0.mk hr1
  have HC1 := Aside0.mk hc1
  clear hr1 hc1
  have HB := Aside0.mk (Below.refl w.heap.size w)
  have H : ((check_Stack.f l0 ([] : List Bool)).bind fun bt342 => (if bt342.2.2 = 0 then (if (bt342.1.length : Int) = 1 then ((eval_Run.f k l0 l1 a2).bind fun bt347 => (if bt347.2.2 = 0 then (if 0 < (bt347.1.length : Int) then (some ((rd_T44 bt347.1 0).f0, (rd_T44 bt347.1 0).f1, (rd_T44 bt347.1 0).f2, bt347.2.1, 0)) else (none)) else (some (false, 0, (⟨#[]⟩ : ByteArray), bt347.2.1, bt347.2.2)))) else (some (false, 0, (⟨#[]⟩ : ByteArray), a2, 11))) else (some (false, 0, (⟨#[]⟩ : ByteArray), a2, bt342.2.2)))) = some (r1, r2, r3, r4, r5) := h
  clear h
  replace H := Option.bind_eq_some_iff.mp H
  obtain ⟨⟨t342, t343, t344⟩, A40, H⟩ := H
  replace H : (if t344 = 0 then (if (t342.length : Int) = 1 then ((eval_Run.f k l0 l1 a2).bind fun bt347 => (if bt347.2.2 = 0 then (if 0 < (bt347.1.length : Int) then (some ((rd_T44 bt347.1 0).f0, (rd_T44 bt347.1 0).f1, (rd_T44 bt347.1 0).f2, bt347.2.1, 0)) else (none)) else (some (false, 0, (⟨#[]⟩ : ByteArray), bt347.2.1, bt347.2.2)))) else (some (false, 0, (⟨#[]⟩ : ByteArray), a2, 11))) else (some (false, 0, (⟨#[]⟩ : ByteArray), a2, t344))) = some (r1, r2, r3, r4, r5) := H
  have A4 := Aside0.mk A40
  clear A40
  by_cases c5 : t344 = 0
  · rw [if_pos c5] at H
    have c5b0 : (t344 == 0) = true := beq_iff_eq.mpr c5
    have c5b1 : (t344 != 0) = false := bne_eq_false_iff_eq.mpr c5
    clear c5
    by_cases c6 : (t342.length : Int) = 1
    · rw [if_pos c6] at H
      have c6b0 : ((t342.length : Int) == 1) = true := beq_iff_eq.mpr c6
      have c6b1 : ((t342.length : Int) != 1) = false := bne_eq_false_iff_eq.mpr c6
      clear c6
      replace H := Option.bind_eq_some_iff.mp H
      obtain ⟨⟨t347, t348, t349⟩, A70, H⟩ := H
      replace H : (if t349 = 0 then (if 0 < (t347.length : Int) then (some ((rd_T44 t347 0).f0, (rd_T44 t347 0).f1, (rd_T44 t347 0).f2, t348, 0)) else (none)) else (some (false, 0, (⟨#[]⟩ : ByteArray), t348, t349))) = some (r1, r2, r3, r4, r5) := H
      have A7 := Aside0.mk A70
      clear A70
      by_cases c8 : t349 = 0
      · rw [if_pos c8] at H
        have c8b0 : (t349 == 0) = true := beq_iff_eq.mpr c8
        have c8b1 : (t349 != 0) = false := bne_eq_false_iff_eq.mpr c8
        clear c8
        by_cases c9 : 0 < (t347.length : Int)
        · rw [if_pos c9] at H
          have c9b0 : decide (0 < (t347.length : Int)) = true := decide_eq_true c9
          have c9b1 : decide (0 < t347.length) = true := decide_eq_true (by omega)
          clear c9
          simp only [Option.some.injEq, Prod.mk.injEq] at H
          obtain ⟨rfl, rfl, rfl, rfl, rfl⟩ := H
          go_enter Tryz.func27, Tryz.ntmps27
          go_wp2_with (first | ((with_reducible refine gate_dst (N := 6) rfl ?_); refine box_event ?hg (N := 6) ?hd (cs := #[.bool false, .int .i64 0, .string (⟨#[]⟩ : ByteArray)]) (t := 44) ?hr ?_; (case hd => rfl); (case hg => rfl); (case hr => exact xh); intro gb341 hg w10 hbox hb; have n0_ := Aside0.mk (below_step xb hb); have n1_ := Aside0.mk (hbox); have n2_ := xs w hg; have n3_ := xs w hg; clear HB; have HB := n0_; have BK341 := n1_; have GW341 := n2_; have GE341 := n3_; clear n0_ n1_ n2_ n3_; clear hb hbox hg) | ((with_reducible refine gate_callee (f := 13) rfl ?_); refine goesL_ (some 16) rfl rfl Tryz.func13 (by kernel_rfl) rfl #[.slice A0 l0.length c0, .slice none 0 0] rfl xr ?_; (refine (check_Stack.calls _ _ l0 _ _ ([] : List Bool) t342 t343 t344 _ (Tabs.below hT xf) ?side1 ?side2 ?side3 ?side4 A4.out).mono ?_); (case side1 => exact Kd.C_below HR0.out xb); (case side2 => exact HC0.out); (case side3 => exact Kd.C_nil _ _); (case side4 => exact Nat.le_refl _); rintro e w11 ⟨v345, rfl, ho0, hb⟩; refine ⟨_, rfl, ?_⟩; have n0_ := Aside0.mk (Kd.R_lower ho0 (below_size xb)); have n1_ := xd BK341.out hb; have n2_ := Aside0.mk (below_step xb hb); clear BK341; clear HB; have HO346 := n0_; have BK341 := n1_; have HB := n2_; clear n0_ n1_ n2_; (try clear hb); (try clear hb2); (try clear hk); (try clear hi); (try clear ho0); obtain ⟨Ao12, co12, eo12⟩ := Kd.R_slice HO346.out; subst eo12) | ((with_reducible refine gate_callee (f := 23) rfl ?_); refine goesL_ (some 36) rfl rfl Tryz.func23 (by kernel_rfl) rfl #[.slice A0 l0.length c0, .slice A1 l1.length c1, .int .i64 a2] rfl xr ?_; (with_reducible refine (eval_Run.calls k _ _ l0 _ _ l1 a2 t347 t348 t349 _ (Tabs.below hT xf) ?side1 ?side2 ?side3 ?side4 A7.out).mono ?_); (case side1 => exact Kd.C_below HR0.out xb); (case side2 => exact HC0.out); (case side3 => exact Kd.C_below HR1.out xb); (case side4 => exact HC1.out); rintro e w13 ⟨v350, rfl, ho0, hb⟩; refine ⟨_, rfl, ?_⟩; have n0_ := Aside0.mk (Kd.R_below (xo HO346.out) hb); have n1_ := Aside0.mk (Kd.R_lower (Kd.R_newB ho0 (g := gb341) (o := .cells #[.bool false, .int .i64 0, .string (⟨#[]⟩ : ByteArray)] 44 (0, 0)) (xk BK341.out)) (below_size xb)); have n2_ := xd BK341.out hb; have n3_ := Aside0.mk (below_step xb hb); clear HO346; clear BK341; clear HB; have HO346 := n0_; have HO351 := n1_; have BK341 := n2_; have HB := n3_; clear n0_ n1_ n2_ n3_; (try clear hb); (try clear hb2); (try clear hk); (try clear hi); (try clear ho0); obtain ⟨Ao14, co14, eo14⟩ := Kd.R_slice HO351.out; subst eo14; have p352 : 0 ≤ (0 : Int) := (by omega); have q352 : 0 < (t347.length : Int) := of_decide_eq_true xa; obtain ⟨ad352, e352, hx352_0, hx352_1, hx352_2⟩ := at_T44 (Kd.R_reads' HO351.out).2.2 0 p352 q352; cases e352; have qi352 : (0 < t347.length) = True := eq_true (by omega); (try rw [show ((0 : Int)).toNat = 0 from rfl] at hx352_0); (try rw [show 0 * 3 = 0 from rfl] at hx352_0); (try rw [Addr.add_zero'] at hx352_0); (try rw [show ((0 : Int)).toNat = 0 from rfl] at hx352_1); (try rw [show 0 * 3 = 0 from rfl] at hx352_1); (try rw [Addr.add_zero'] at hx352_1); (try rw [show ((0 : Int)).toNat = 0 from rfl] at hx352_2); (try rw [show 0 * 3 = 0 from rfl] at hx352_2); (try rw [Addr.add_zero'] at hx352_2); replace p352 := eq_true p352; replace q352 := eq_true q352; have hcz15_0 : w13.cell? ⟨gb341, 0, none⟩ = some (.bool false) := (blk_cell BK341.out 0).trans rfl; have hcz15_1 : w13.cell? ⟨gb341, 1, none⟩ = some (.int .i64 0) := (blk_cell BK341.out 1).trans rfl; have hcz15_2 : w13.cell? ⟨gb341, 2, none⟩ = some (.string (⟨#[]⟩ : ByteArray)) := (blk_cell BK341.out 2).trans rfl; have hfz15_0 := blk_frozen BK341.out 0; have hfz15_1 := blk_frozen BK341.out 1; have hfz15_2 := blk_frozen BK341.out 2))
          refine bodyPost_ret (results_ctt rfl _ _ gb341 44 #[.bool ((rd_T44 t347 0).f0), .int .i64 ((rd_T44 t347 0).f1), .string ((rd_T44 t347 0).f2)] (0, 0) _ rfl (by (with_reducible repeat (first | refine blk_drewN ?_ _ | refine blk_drew ?_ | refine blk_alloc ?_ _)); refine blk_put (cs := #[.bool ((rd_T44 t347 0).f0), .int .i64 ((rd_T44 t347 0).f1), .string (⟨#[]⟩ : ByteArray)]) ?_ 2 _ rfl; (with_reducible repeat (first | refine blk_drewN ?_ _ | refine blk_drew ?_ | refine blk_alloc ?_ _)); refine blk_put (cs := #[.bool ((rd_T44 t347 0).f0), .int .i64 0, .string (⟨#[]⟩ : ByteArray)]) ?_ 1 _ rfl; (with_reducible repeat (first | refine blk_drewN ?_ _ | refine blk_drew ?_ | refine blk_alloc ?_ _)); refine blk_put (cs := #[.bool false, .int .i64 0, .string (⟨#[]⟩ : ByteArray)]) ?_ 0 _ rfl; (with_reducible repeat (first | refine blk_drewN ?_ _ | refine blk_drew ?_ | refine blk_alloc ?_ _)); exact BK341.out) Tryz.underlying44 rfl (by kernel_rfl)) rfl ?_
          exact ⟨xe, xb⟩
        · rw [if_neg c9] at H
          exact absurd H (by simp)
      · rw [if_neg c8] at H
        have c8b0 : (t349 == 0) = false := beq_eq_false_iff_ne.mpr c8
        have c8b1 : (t349 != 0) = true := bne_iff_ne.mpr c8
        simp only [Option.some.injEq, Prod.mk.injEq] at H
        obtain ⟨rfl, rfl, rfl, rfl, rfl⟩ := H
        go_enter Tryz.func27, Tryz.ntmps27
        go_wp2_with (first | ((with_reducible refine gate_dst (N := 6) rfl ?_); refine box_event ?hg (N := 6) ?hd (cs := #[.bool false, .int .i64 0, .string (⟨#[]⟩ : ByteArray)]) (t := 44) ?hr ?_; (case hd => rfl); (case hg => rfl); (case hr => exact xh); intro gb341 hg w16 hbox hb; have n0_ := Aside0.mk (below_step xb hb); have n1_ := Aside0.mk (hbox); have n2_ := xs w hg; have n3_ := xs w hg; clear HB; have HB := n0_; have BK341 := n1_; have GW341 := n2_; have GE341 := n3_; clear n0_ n1_ n2_ n3_; clear hb hbox hg) | ((with_reducible refine gate_callee (f := 13) rfl ?_); refine goesL_ (some 16) rfl rfl Tryz.func13 (by kernel_rfl) rfl #[.slice A0 l0.length c0, .slice none 0 0] rfl xr ?_; (refine (check_Stack.calls _ _ l0 _ _ ([] : List Bool) t342 t343 t344 _ (Tabs.below hT xf) ?side1 ?side2 ?side3 ?side4 A4.out).mono ?_); (case side1 => exact Kd.C_below HR0.out xb); (case side2 => exact HC0.out); (case side3 => exact Kd.C_nil _ _); (case side4 => exact Nat.le_refl _); rintro e w17 ⟨v345, rfl, ho0, hb⟩; refine ⟨_, rfl, ?_⟩; have n0_ := Aside0.mk (Kd.R_lower ho0 (below_size xb)); have n1_ := xd BK341.out hb; have n2_ := Aside0.mk (below_step xb hb); clear BK341; clear HB; have HO346 := n0_; have BK341 := n1_; have HB := n2_; clear n0_ n1_ n2_; (try clear hb); (try clear hb2); (try clear hk); (try clear hi); (try clear ho0); obtain ⟨Ao18, co18, eo18⟩ := Kd.R_slice HO346.out; subst eo18) | ((with_reducible refine gate_callee (f := 23) rfl ?_); refine goesL_ (some 36) rfl rfl Tryz.func23 (by kernel_rfl) rfl #[.slice A0 l0.length c0, .slice A1 l1.length c1, .int .i64 a2] rfl xr ?_; (with_reducible refine (eval_Run.calls k _ _ l0 _ _ l1 a2 t347 t348 t349 _ (Tabs.below hT xf) ?side1 ?side2 ?side3 ?side4 A7.out).mono ?_); (case side1 => exact Kd.C_below HR0.out xb); (case side2 => exact HC0.out); (case side3 => exact Kd.C_below HR1.out xb); (case side4 => exact HC1.out); rintro e w19 ⟨v350, rfl, ho0, hb⟩; refine ⟨_, rfl, ?_⟩; have n0_ := Aside0.mk (Kd.R_below (xo HO346.out) hb); have n1_ := Aside0.mk (Kd.R_lower (Kd.R_newB ho0 (g := gb341) (o := .cells #[.bool false, .int .i64 0, .string (⟨#[]⟩ : ByteArray)] 44 (0, 0)) (xk BK341.out)) (below_size xb)); have n2_ := xd BK341.out hb; have n3_ := Aside0.mk (below_step xb hb); clear HO346; clear BK341; clear HB; have HO346 := n0_; have HO351 := n1_; have BK341 := n2_; have HB := n3_; clear n0_ n1_ n2_ n3_; (try clear hb); (try clear hb2); (try clear hk); (try clear hi); (try clear ho0); have hcz20_0 : w19.cell? ⟨gb341, 0, none⟩ = some (.bool false) := (blk_cell BK341.out 0).trans rfl; have hcz20_1 : w19.cell? ⟨gb341, 1, none⟩ = some (.int .i64 0) := (blk_cell BK341.out 1).trans rfl; have hcz20_2 : w19.cell? ⟨gb341, 2, none⟩ = some (.string (⟨#[]⟩ : ByteArray)) := (blk_cell BK341.out 2).trans rfl; have hfz20_0 := blk_frozen BK341.out 0; have hfz20_1 := blk_frozen BK341.out 1; have hfz20_2 := blk_frozen BK341.out 2))
        refine bodyPost_ret (results_ctt rfl _ _ gb341 44 #[.bool false, .int .i64 0, .string (⟨#[]⟩ : ByteArray)] (0, 0) _ rfl (by (with_reducible repeat (first | refine blk_drewN ?_ _ | refine blk_drew ?_ | refine blk_alloc ?_ _)); refine blk_put (cs := #[.bool false, .int .i64 0, .string (⟨#[]⟩ : ByteArray)]) ?_ 2 _ rfl; (with_reducible repeat (first | refine blk_drewN ?_ _ | refine blk_drew ?_ | refine blk_alloc ?_ _)); refine blk_put (cs := #[.bool false, .int .i64 0, .string (⟨#[]⟩ : ByteArray)]) ?_ 1 _ rfl; (with_reducible repeat (first | refine blk_drewN ?_ _ | refine blk_drew ?_ | refine blk_alloc ?_ _)); refine blk_put (cs := #[.bool false, .int .i64 0, .string (⟨#[]⟩ : ByteArray)]) ?_ 0 _ rfl; (with_reducible repeat (first | refine blk_drewN ?_ _ | refine blk_drew ?_ | refine blk_alloc ?_ _)); exact BK341.out) Tryz.underlying44 rfl (by kernel_rfl)) rfl ?_
        exact ⟨xe, xb⟩
    · rw [if_neg c6] at H
      have c6b0 : ((t342.length : Int) == 1) = false := beq_eq_false_iff_ne.mpr c6
      have c6b1 : ((t342.length : Int) != 1) = true := bne_iff_ne.mpr c6
      simp only [Option.some.injEq, Prod.mk.injEq] at H
      obtain ⟨rfl, rfl, rfl, rfl, rfl⟩ := H
      go_enter Tryz.func27, Tryz.ntmps27
      go_wp2_with (first | ((with_reducible refine gate_dst (N := 6) rfl ?_); refine box_event ?hg (N := 6) ?hd (cs := #[.bool false, .int .i64 0, .string (⟨#[]⟩ : ByteArray)]) (t := 44) ?hr ?_; (case hd => rfl); (case hg => rfl); (case hr => exact xh); intro gb341 hg w21 hbox hb; have n0_ := Aside0.mk (below_step xb hb); have n1_ := Aside0.mk (hbox); have n2_ := xs w hg; have n3_ := xs w hg; clear HB; have HB := n0_; have BK341 := n1_; have GW341 := n2_; have GE341 := n3_; clear n0_ n1_ n2_ n3_; clear hb hbox hg) | ((with_reducible refine gate_callee (f := 13) rfl ?_); refine goesL_ (some 16) rfl rfl Tryz.func13 (by kernel_rfl) rfl #[.slice A0 l0.length c0, .slice none 0 0] rfl xr ?_; (refine (check_Stack.calls _ _ l0 _ _ ([] : List Bool) t342 t343 t344 _ (Tabs.below hT xf) ?side1 ?side2 ?side3 ?side4 A4.out).mono ?_); (case side1 => exact Kd.C_below HR0.out xb); (case side2 => exact HC0.out); (case side3 => exact Kd.C_nil _ _); (case side4 => exact Nat.le_refl _); rintro e w22 ⟨v345, rfl, ho0, hb⟩; refine ⟨_, rfl, ?_⟩; have n0_ := Aside0.mk (Kd.R_lower ho0 (below_size xb)); have n1_ := xd BK341.out hb; have n2_ := Aside0.mk (below_step xb hb); clear BK341; clear HB; have HO346 := n0_; have BK341 := n1_; have HB := n2_; clear n0_ n1_ n2_; (try clear hb); (try clear hb2); (try clear hk); (try clear hi); (try clear ho0); obtain ⟨Ao23, co23, eo23⟩ := Kd.R_slice HO346.out; subst eo23; have hcz24_0 : w22.cell? ⟨gb341, 0, none⟩ = some (.bool false) := (blk_cell BK341.out 0).trans rfl; have hcz24_1 : w22.cell? ⟨gb341, 1, none⟩ = some (.int .i64 0) := (blk_cell BK341.out 1).trans rfl; have hcz24_2 : w22.cell? ⟨gb341, 2, none⟩ = some (.string (⟨#[]⟩ : ByteArray)) := (blk_cell BK341.out 2).trans rfl; have hfz24_0 := blk_frozen BK341.out 0; have hfz24_1 := blk_frozen BK341.out 1; have hfz24_2 := blk_frozen BK341.out 2))
      refine bodyPost_ret (results_ctt rfl _ _ gb341 44 #[.bool false, .int .i64 0, .string (⟨#[]⟩ : ByteArray)] (0, 0) _ rfl (by (with_reducible repeat (first | refine blk_drewN ?_ _ | refine blk_drew ?_ | refine blk_alloc ?_ _)); refine blk_put (cs := #[.bool false, .int .i64 0, .string (⟨#[]⟩ : ByteArray)]) ?_ 2 _ rfl; (with_reducible repeat (first | refine blk_drewN ?_ _ | refine blk_drew ?_ | refine blk_alloc ?_ _)); refine blk_put (cs := #[.bool false, .int .i64 0, .string (⟨#[]⟩ : ByteArray)]) ?_ 1 _ rfl; (with_reducible repeat (first | refine blk_drewN ?_ _ | refine blk_drew ?_ | refine blk_alloc ?_ _)); refine blk_put (cs := #[.bool false, .int .i64 0, .string (⟨#[]⟩ : ByteArray)]) ?_ 0 _ rfl; (with_reducible repeat (first | refine blk_drewN ?_ _ | refine blk_drew ?_ | refine blk_alloc ?_ _)); exact BK341.out) Tryz.underlying44 rfl (by kernel_rfl)) rfl ?_
      exact ⟨xe, xb⟩
  · rw [if_neg c5] at H
    have c5b0 : (t344 == 0) = false := beq_eq_false_iff_ne.mpr c5
    have c5b1 : (t344 != 0) = true := bne_iff_ne.mpr c5
    simp only [Option.some.injEq, Prod.mk.injEq] at H
    obtain ⟨rfl, rfl, rfl, rfl, rfl⟩ := H
    go_enter Tryz.func27, Tryz.ntmps27
    go_wp2_with (first | ((with_reducible refine gate_dst (N := 6) rfl ?_); refine box_event ?hg (N := 6) ?hd (cs := #[.bool false, .int .i64 0, .string (⟨#[]⟩ : ByteArray)]) (t := 44) ?hr ?_; (case hd => rfl); (case hg => rfl); (case hr => exact xh); intro gb341 hg w25 hbox hb; have n0_ := Aside0.mk (below_step xb hb); have n1_ := Aside0.mk (hbox); have n2_ := xs w hg; have n3_ := xs w hg; clear HB; have HB := n0_; have BK341 := n1_; have GW341 := n2_; have GE341 := n3_; clear n0_ n1_ n2_ n3_; clear hb hbox hg) | ((with_reducible refine gate_callee (f := 13) rfl ?_); refine goesL_ (some 16) rfl rfl Tryz.func13 (by kernel_rfl) rfl #[.slice A0 l0.length c0, .slice none 0 0] rfl xr ?_; (refine (check_Stack.calls _ _ l0 _ _ ([] : List Bool) t342 t343 t344 _ (Tabs.below hT xf) ?side1 ?side2 ?side3 ?side4 A4.out).mono ?_); (case side1 => exact Kd.C_below HR0.out xb); (case side2 => exact HC0.out); (case side3 => exact Kd.C_nil _ _); (case side4 => exact Nat.le_refl _); rintro e w26 ⟨v345, rfl, ho0, hb⟩; refine ⟨_, rfl, ?_⟩; have n0_ := Aside0.mk (Kd.R_lower ho0 (below_size xb)); have n1_ := xd BK341.out hb; have n2_ := Aside0.mk (below_step xb hb); clear BK341; clear HB; have HO346 := n0_; have BK341 := n1_; have HB := n2_; clear n0_ n1_ n2_; (try clear hb); (try clear hb2); (try clear hk); (try clear hi); (try clear ho0); have hcz27_0 : w26.cell? ⟨gb341, 0, none⟩ = some (.bool false) := (blk_cell BK341.out 0).trans rfl; have hcz27_1 : w26.cell? ⟨gb341, 1, none⟩ = some (.int .i64 0) := (blk_cell BK341.out 1).trans rfl; have hcz27_2 : w26.cell? ⟨gb341, 2, none⟩ = some (.string (⟨#[]⟩ : ByteArray)) := (blk_cell BK341.out 2).trans rfl; have hfz27_0 := blk_frozen BK341.out 0; have hfz27_1 := blk_frozen BK341.out 1; have hfz27_2 := blk_frozen BK341.out 2))
    refine bodyPost_ret (results_ctt rfl _ _ gb341 44 #[.bool false, .int .i64 0, .string (⟨#[]⟩ : ByteArray)] (0, 0) _ rfl (by (with_reducible repeat (first | refine blk_drewN ?_ _ | refine blk_drew ?_ | refine blk_alloc ?_ _)); refine blk_put (cs := #[.bool false, .int .i64 0, .string (⟨#[]⟩ : ByteArray)]) ?_ 2 _ rfl; (with_reducible repeat (first | refine blk_drewN ?_ _ | refine blk_drew ?_ | refine blk_alloc ?_ _)); refine blk_put (cs := #[.bool false, .int .i64 0, .string (⟨#[]⟩ : ByteArray)]) ?_ 1 _ rfl; (with_reducible repeat (first | refine blk_drewN ?_ _ | refine blk_drew ?_ | refine blk_alloc ?_ _)); refine blk_put (cs := #[.bool false, .int .i64 0, .string (⟨#[]⟩ : ByteArray)]) ?_ 0 _ rfl; (with_reducible repeat (first | refine blk_drewN ?_ _ | refine blk_drew ?_ | refine blk_alloc ?_ _)); exact BK341.out) Tryz.underlying44 rfl (by kernel_rfl)) rfl ?_
    exact ⟨xe, xb⟩

end Go.Proofs.YtejmgcfjpofniaaGreatDoor.PX
/- Walked functions, by this session's program over the kit's print. -/
namespace Go.Proofs.YtejmgcfjpofniaaGreatDoor.PX
open Go.RowKit Go.Proofs.YtejmgcfjpofniaaGreatDoorW.PrintWords Go.Proofs.YtejmgcfjpofniaaGreatDoorW.PrintLast Go.Proofs.YtejmgcfjpofniaaGreatDoorW.PrintMore
attribute [local go_sem] xm_gtr max2_int min2_int max_two min_two max_three min_three max_four min_four   -- for this text's walks alone
set_option linter.unusedVariables false
set_option linter.unusedSimpArgs false

theorem eqA44 (d : Nat) (w : World) (x0 y0 : Bool) (x1 y1 : Int) (x2 y2 : ByteArray) :
    (Op.equalIn (d + 2) 44 (.agg #[.bool x0, .int .i64 x1, .string x2]) (.agg #[.bool y0, .int .i64 y1, .string y2])).run Tryz.prog w = .ok (x0 == y0 && (x1 == y1 && (x2.toList == y2.toList))) w := by
  refine eqA_of Tryz.underlying44 (by kernel_rfl) ?_
  refine eqf_cons (by rfl) (by go_simp; rfl) (by go_simp; rfl) (by go_simp) ?_
  refine eqf_cons (by rfl) (by go_simp; rfl) (by go_simp; rfl) (by go_simp) ?_
  exact eqf_last (by rfl) (by go_simp; rfl) (by go_simp; rfl) (by go_simp)
end Go.Proofs.YtejmgcfjpofniaaGreatDoor.PX
