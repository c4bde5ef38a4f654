/- Walked functions, by this session's program over the kit's print. -/
import Derived.Test.YtnodgcakmolleaaGreatDoorXDo
import Derived.Test.YtnodgcakmolleaaGreatDoorXEvalFns
import Derived.Test.YtnodgcakmolleaaGreatDoorPXx0
import Derived.Test.YtnodgcakmolleaaGreatDoorPXx3
import Derived.Test.YtnodgcakmolleaaGreatDoorPXx4
import Derived.Test.YtnodgcakmolleaaGreatDoorPXx7
namespace Go.Proofs.YtnodgcakmolleaaGreatDoor.PX
open Go.RowKit Go.Proofs.YtnodgcakmolleaaGreatDoorW.PrintWords Go.Proofs.YtnodgcakmolleaaGreatDoorW.PrintLast Go.Proofs.YtnodgcakmolleaaGreatDoorW.PrintMore
attribute [local go_sem] xm_gtr max2_int min2_int max_two min_two max_three min_three max_four min_four
set_option linter.unusedVariables false
set_option linter.unusedSimpArgs false
/- Walked functions, by this session's program over the kit's print. -/
def value_Do.D (k : Nat) (f : Nat) (x y z : XOps.Sv) : Option XOps.Sv :=
 if f = 70 then (value_val_add.f x.f0 x.f1 x.f2 y.f0 y.f1 y.f2 z.f0 z.f1 z.f2).map fun p => ⟨p.1, p.2.1, p.2.2⟩ else
 if f = 71 then (value_val_sub.f x.f0 x.f1 x.f2 y.f0 y.f1 y.f2 z.f0 z.f1 z.f2).map fun p => ⟨p.1, p.2.1, p.2.2⟩ else
 if f = 72 then (value_val_mul.f x.f0 x.f1 x.f2 y.f0 y.f1 y.f2 z.f0 z.f1 z.f2).map fun p => ⟨p.1, p.2.1, p.2.2⟩ else
 if f = 73 then (value_val_div.f x.f0 x.f1 x.f2 y.f0 y.f1 y.f2 z.f0 z.f1 z.f2).map fun p => ⟨p.1, p.2.1, p.2.2⟩ else
 if f = 74 then (value_val_mod.f x.f0 x.f1 x.f2 y.f0 y.f1 y.f2 z.f0 z.f1 z.f2).map fun p => ⟨p.1, p.2.1, p.2.2⟩ else
 if f = 75 then (value_val_join.f x.f0 x.f1 x.f2 y.f0 y.f1 y.f2 z.f0 z.f1 z.f2).map fun p => ⟨p.1, p.2.1, p.2.2⟩ else
 if f = 76 then (value_val_long.f x.f0 x.f1 x.f2 y.f0 y.f1 y.f2 z.f0 z.f1 z.f2).map fun p => ⟨p.1, p.2.1, p.2.2⟩ else
 if f = 77 then (value_val_slice.f x.f0 x.f1 x.f2 y.f0 y.f1 y.f2 z.f0 z.f1 z.f2).map fun p => ⟨p.1, p.2.1, p.2.2⟩ else
 if f = 78 then (value_val_upper.f x.f0 x.f1 x.f2 y.f0 y.f1 y.f2 z.f0 z.f1 z.f2).map fun p => ⟨p.1, p.2.1, p.2.2⟩ else
 if f = 79 then (value_val_lower.f x.f0 x.f1 x.f2 y.f0 y.f1 y.f2 z.f0 z.f1 z.f2).map fun p => ⟨p.1, p.2.1, p.2.2⟩ else
 if f = 80 then (value_val_eq.f k x.f0 x.f1 x.f2 y.f0 y.f1 y.f2 z.f0 z.f1 z.f2).map fun p => ⟨p.1, p.2.1, p.2.2⟩ else
 if f = 81 then (value_val_less.f k x.f0 x.f1 x.f2 y.f0 y.f1 y.f2 z.f0 z.f1 z.f2).map fun p => ⟨p.1, p.2.1, p.2.2⟩ else
 if f = 82 then (value_val_not.f x.f0 x.f1 x.f2 y.f0 y.f1 y.f2 z.f0 z.f1 z.f2).map fun p => ⟨p.1, p.2.1, p.2.2⟩ else
 if f = 83 then (value_val_choose.f x.f0 x.f1 x.f2 y.f0 y.f1 y.f2 z.f0 z.f1 z.f2).map fun p => ⟨p.1, p.2.1, p.2.2⟩ else
 if f = 84 then (value_val_number.f k x.f0 x.f1 x.f2 y.f0 y.f1 y.f2 z.f0 z.f1 z.f2).map fun p => ⟨p.1, p.2.1, p.2.2⟩ else
 if f = 85 then (value_val_text.f x.f0 x.f1 x.f2 y.f0 y.f1 y.f2 z.f0 z.f1 z.f2).map fun p => ⟨p.1, p.2.1, p.2.2⟩ else
 if f = 86 then (value_val_hash.f k x.f0 x.f1 x.f2 y.f0 y.f1 y.f2 z.f0 z.f1 z.f2).map fun p => ⟨p.1, p.2.1, p.2.2⟩ else
 if f = 87 then (value_val_find.f x.f0 x.f1 x.f2 y.f0 y.f1 y.f2 z.f0 z.f1 z.f2).map fun p => ⟨p.1, p.2.1, p.2.2⟩ else
 none
theorem value_Do.D_mono (k : Nat) (f : Nat) (x y z r : XOps.Sv) (h : value_Do.D k f x y z = some r) : value_Do.D (k + 1) f x y z = some r := by
 unfold value_Do.D at h ⊢
 by_cases e : f = 70
 ·subst e
  rw [if_pos rfl] at h ⊢
  obtain ⟨p, h1, h2⟩ := Option.map_eq_some_iff.1 h
  exact Option.map_eq_some_iff.2 ⟨p, h1, h2⟩
 rw [if_neg e] at h ⊢
 clear e
 by_cases e : f = 71
 ·subst e
  rw [if_pos rfl] at h ⊢
  obtain ⟨p, h1, h2⟩ := Option.map_eq_some_iff.1 h
  exact Option.map_eq_some_iff.2 ⟨p, h1, h2⟩
 rw [if_neg e] at h ⊢
 clear e
 by_cases e : f = 72
 ·subst e
  rw [if_pos rfl] at h ⊢
  obtain ⟨p, h1, h2⟩ := Option.map_eq_some_iff.1 h
  exact Option.map_eq_some_iff.2 ⟨p, h1, h2⟩
 rw [if_neg e] at h ⊢
 clear e
 by_cases e : f = 73
 ·subst e
  rw [if_pos rfl] at h ⊢
  obtain ⟨p, h1, h2⟩ := Option.map_eq_some_iff.1 h
  exact Option.map_eq_some_iff.2 ⟨p, h1, h2⟩
 rw [if_neg e] at h ⊢
 clear e
 by_cases e : f = 74
 ·subst e
  rw [if_pos rfl] at h ⊢
  obtain ⟨p, h1, h2⟩ := Option.map_eq_some_iff.1 h
  exact Option.map_eq_some_iff.2 ⟨p, h1, h2⟩
 rw [if_neg e] at h ⊢
 clear e
 by_cases e : f = 75
 ·subst e
  rw [if_pos rfl] at h ⊢
  obtain ⟨p, h1, h2⟩ := Option.map_eq_some_iff.1 h
  exact Option.map_eq_some_iff.2 ⟨p, h1, h2⟩
 rw [if_neg e] at h ⊢
 clear e
 by_cases e : f = 76
 ·subst e
  rw [if_pos rfl] at h ⊢
  obtain ⟨p, h1, h2⟩ := Option.map_eq_some_iff.1 h
  exact Option.map_eq_some_iff.2 ⟨p, h1, h2⟩
 rw [if_neg e] at h ⊢
 clear e
 by_cases e : f = 77
 ·subst e
  rw [if_pos rfl] at h ⊢
  obtain ⟨p, h1, h2⟩ := Option.map_eq_some_iff.1 h
  exact Option.map_eq_some_iff.2 ⟨p, h1, h2⟩
 rw [if_neg e] at h ⊢
 clear e
 by_cases e : f = 78
 ·subst e
  rw [if_pos rfl] at h ⊢
  obtain ⟨p, h1, h2⟩ := Option.map_eq_some_iff.1 h
  exact Option.map_eq_some_iff.2 ⟨p, h1, h2⟩
 rw [if_neg e] at h ⊢
 clear e
 by_cases e : f = 79
 ·subst e
  rw [if_pos rfl] at h ⊢
  obtain ⟨p, h1, h2⟩ := Option.map_eq_some_iff.1 h
  exact Option.map_eq_some_iff.2 ⟨p, h1, h2⟩
 rw [if_neg e] at h ⊢
 clear e
 by_cases e : f = 80
 ·subst e
  rw [if_pos rfl] at h ⊢
  obtain ⟨p, h1, h2⟩ := Option.map_eq_some_iff.1 h
  exact Option.map_eq_some_iff.2 ⟨p, value_val_eq.mono _ _ _ _ _ _ _ _ _ k _ h1, h2⟩
 rw [if_neg e] at h ⊢
 clear e
 by_cases e : f = 81
 ·subst e
  rw [if_pos rfl] at h ⊢
  obtain ⟨p, h1, h2⟩ := Option.map_eq_some_iff.1 h
  exact Option.map_eq_some_iff.2 ⟨p, value_val_less.mono _ _ _ _ _ _ _ _ _ k _ h1, h2⟩
 rw [if_neg e] at h ⊢
 clear e
 by_cases e : f = 82
 ·subst e
  rw [if_pos rfl] at h ⊢
  obtain ⟨p, h1, h2⟩ := Option.map_eq_some_iff.1 h
  exact Option.map_eq_some_iff.2 ⟨p, h1, h2⟩
 rw [if_neg e] at h ⊢
 clear e
 by_cases e : f = 83
 ·subst e
  rw [if_pos rfl] at h ⊢
  obtain ⟨p, h1, h2⟩ := Option.map_eq_some_iff.1 h
  exact Option.map_eq_some_iff.2 ⟨p, h1, h2⟩
 rw [if_neg e] at h ⊢
 clear e
 by_cases e : f = 84
 ·subst e
  rw [if_pos rfl] at h ⊢
  obtain ⟨p, h1, h2⟩ := Option.map_eq_some_iff.1 h
  exact Option.map_eq_some_iff.2 ⟨p, value_val_number.mono _ _ _ _ _ _ _ _ _ k _ h1, h2⟩
 rw [if_neg e] at h ⊢
 clear e
 by_cases e : f = 85
 ·subst e
  rw [if_pos rfl] at h ⊢
  obtain ⟨p, h1, h2⟩ := Option.map_eq_some_iff.1 h
  exact Option.map_eq_some_iff.2 ⟨p, h1, h2⟩
 rw [if_neg e] at h ⊢
 clear e
 by_cases e : f = 86
 ·subst e
  rw [if_pos rfl] at h ⊢
  obtain ⟨p, h1, h2⟩ := Option.map_eq_some_iff.1 h
  exact Option.map_eq_some_iff.2 ⟨p, value_val_hash.mono _ _ _ _ _ _ _ _ _ k _ h1, h2⟩
 rw [if_neg e] at h ⊢
 clear e
 by_cases e : f = 87
 ·subst e
  rw [if_pos rfl] at h ⊢
  obtain ⟨p, h1, h2⟩ := Option.map_eq_some_iff.1 h
  exact Option.map_eq_some_iff.2 ⟨p, h1, h2⟩
 rw [if_neg e] at h ⊢
 clear e
 cases h
theorem value_Do.D_calls (k : Nat) (f : Nat) (x y z r : XOps.Sv) (w : World) (hT : Tabs w) (h : value_Do.D k f x y z = some r) : Calls Tryz.prog f #[XOps.enV x, XOps.enV y, XOps.enV z] w fun e w' => e = .returned (XOps.enV r) ∧ Below w.heap.size w w' := by
 unfold value_Do.D at h
 by_cases e : f = 70
 ·subst e
  rw [if_pos rfl] at h
  obtain ⟨⟨p1, p2, p3⟩, h1, rfl⟩ := Option.map_eq_some_iff.1 h
  exact value_val_add.calls _ _ _ _ _ _ _ _ _ _ _ _ w hT h1
 rw [if_neg e] at h
 clear e
 by_cases e : f = 71
 ·subst e
  rw [if_pos rfl] at h
  obtain ⟨⟨p1, p2, p3⟩, h1, rfl⟩ := Option.map_eq_some_iff.1 h
  exact value_val_sub.calls _ _ _ _ _ _ _ _ _ _ _ _ w hT h1
 rw [if_neg e] at h
 clear e
 by_cases e : f = 72
 ·subst e
  rw [if_pos rfl] at h
  obtain ⟨⟨p1, p2, p3⟩, h1, rfl⟩ := Option.map_eq_some_iff.1 h
  exact value_val_mul.calls _ _ _ _ _ _ _ _ _ _ _ _ w hT h1
 rw [if_neg e] at h
 clear e
 by_cases e : f = 73
 ·subst e
  rw [if_pos rfl] at h
  obtain ⟨⟨p1, p2, p3⟩, h1, rfl⟩ := Option.map_eq_some_iff.1 h
  exact value_val_div.calls _ _ _ _ _ _ _ _ _ _ _ _ w hT h1
 rw [if_neg e] at h
 clear e
 by_cases e : f = 74
 ·subst e
  rw [if_pos rfl] at h
  obtain ⟨⟨p1, p2, p3⟩, h1, rfl⟩ := Option.map_eq_some_iff.1 h
  exact value_val_mod.calls _ _ _ _ _ _ _ _ _ _ _ _ w hT h1
 rw [if_neg e] at h
 clear e
 by_cases e : f = 75
 ·subst e
  rw [if_pos rfl] at h
  obtain ⟨⟨p1, p2, p3⟩, h1, rfl⟩ := Option.map_eq_some_iff.1 h
  exact value_val_join.calls _ _ _ _ _ _ _ _ _ _ _ _ w hT h1
 rw [if_neg e] at h
 clear e
 by_cases e : f = 76
 ·subst e
  rw [if_pos rfl] at h
  obtain ⟨⟨p1, p2, p3⟩, h1, rfl⟩ := Option.map_eq_some_iff.1 h
  exact value_val_long.calls _ _ _ _ _ _ _ _ _ _ _ _ w hT h1
 rw [if_neg e] at h
 clear e
 by_cases e : f = 77
 ·subst e
  rw [if_pos rfl] at h
  obtain ⟨⟨p1, p2, p3⟩, h1, rfl⟩ := Option.map_eq_some_iff.1 h
  exact value_val_slice.calls _ _ _ _ _ _ _ _ _ _ _ _ w hT h1
 rw [if_neg e] at h
 clear e
 by_cases e : f = 78
 ·subst e
  rw [if_pos rfl] at h
  obtain ⟨⟨p1, p2, p3⟩, h1, rfl⟩ := Option.map_eq_some_iff.1 h
  exact value_val_upper.calls _ _ _ _ _ _ _ _ _ _ _ _ w hT h1
 rw [if_neg e] at h
 clear e
 by_cases e : f = 79
 ·subst e
  rw [if_pos rfl] at h
  obtain ⟨⟨p1, p2, p3⟩, h1, rfl⟩ := Option.map_eq_some_iff.1 h
  exact value_val_lower.calls _ _ _ _ _ _ _ _ _ _ _ _ w hT h1
 rw [if_neg e] at h
 clear e
 by_cases e : f = 80
 ·subst e
  rw [if_pos rfl] at h
  obtain ⟨⟨p1, p2, p3⟩, h1, rfl⟩ := Option.map_eq_some_iff.1 h
  exact value_val_eq.calls k _ _ _ _ _ _ _ _ _ _ _ _ w hT h1
 rw [if_neg e] at h
 clear e
 by_cases e : f = 81
 ·subst e
  rw [if_pos rfl] at h
  obtain ⟨⟨p1, p2, p3⟩, h1, rfl⟩ := Option.map_eq_some_iff.1 h
  exact value_val_less.calls k _ _ _ _ _ _ _ _ _ _ _ _ w hT h1
 rw [if_neg e] at h
 clear e
 by_cases e : f = 82
 ·subst e
  rw [if_pos rfl] at h
  obtain ⟨⟨p1, p2, p3⟩, h1, rfl⟩ := Option.map_eq_some_iff.1 h
  exact value_val_not.calls _ _ _ _ _ _ _ _ _ _ _ _ w hT h1
 rw [if_neg e] at h
 clear e
 by_cases e : f = 83
 ·subst e
  rw [if_pos rfl] at h
  obtain ⟨⟨p1, p2, p3⟩, h1, rfl⟩ := Option.map_eq_some_iff.1 h
  exact value_val_choose.calls _ _ _ _ _ _ _ _ _ _ _ _ w hT h1
 rw [if_neg e] at h
 clear e
 by_cases e : f = 84
 ·subst e
  rw [if_pos rfl] at h
  obtain ⟨⟨p1, p2, p3⟩, h1, rfl⟩ := Option.map_eq_some_iff.1 h
  exact value_val_number.calls k _ _ _ _ _ _ _ _ _ _ _ _ w hT h1
 rw [if_neg e] at h
 clear e
 by_cases e : f = 85
 ·subst e
  rw [if_pos rfl] at h
  obtain ⟨⟨p1, p2, p3⟩, h1, rfl⟩ := Option.map_eq_some_iff.1 h
  exact value_val_text.calls _ _ _ _ _ _ _ _ _ _ _ _ w hT h1
 rw [if_neg e] at h
 clear e
 by_cases e : f = 86
 ·subst e
  rw [if_pos rfl] at h
  obtain ⟨⟨p1, p2, p3⟩, h1, rfl⟩ := Option.map_eq_some_iff.1 h
  exact value_val_hash.calls k _ _ _ _ _ _ _ _ _ _ _ _ w hT h1
 rw [if_neg e] at h
 clear e
 by_cases e : f = 87
 ·subst e
  rw [if_pos rfl] at h
  obtain ⟨⟨p1, p2, p3⟩, h1, rfl⟩ := Option.map_eq_some_iff.1 h
  exact value_val_find.calls _ _ _ _ _ _ _ _ _ _ _ _ w hT h1
 rw [if_neg e] at h
 clear e
 cases h
theorem value_Do.isVal (x : XOps.Sv) (w : World) (hT : Tabs w) : Calls Tryz.prog 88 #[XOps.enV x] w fun e w' => e = .returned (.bool (XOps.isValB x)) ∧ Below w.heap.size w w' := by
 refine value_isVal.calls x.f0 x.f1 x.f2 (XOps.isValB x) w hT ?_
 unfold value_isVal.f XOps.isValB
 by_cases h1 : x.f0 = true
 ·rw [if_pos h1, if_pos h1]
  by_cases h2 : x.f1 = 0
  ·rw [if_pos h2, decide_eq_true h2, Bool.true_and]
  ·rw [if_neg h2, decide_eq_false h2, Bool.false_and]
 ·rw [if_neg h1, if_neg h1]
def value_Do.f (k : Nat) (a0 : Int) (l1 : List (S32)) : Option (Bool × Int × ByteArray × Int) := if l1.length ≤ 1000000 then (XOps.doF (value_Do.D k) a0 l1).map fun p => (p.1.f0, p.1.f1, p.1.f2, p.2) else none
theorem value_Do.mono : ∀ a0 a1 k, LeO (value_Do.f k a0 a1) (value_Do.f (k + 1) a0 a1) := by
 intro a0 a1 k r h
 unfold value_Do.f at h ⊢
 by_cases hl : a1.length ≤ 1000000
 ·rw [if_pos hl] at h ⊢
  obtain ⟨p, h1, h2⟩ := Option.map_eq_some_iff.1 h
  exact Option.map_eq_some_iff.2 ⟨p, XOps.doF_mono (value_Do.D_mono k) h1, h2⟩
 ·rw [if_neg hl] at h
  cases h
theorem value_Do.calls (k : Nat) (a0 : Int) (A1 : Option Addr) (c1 : Nat) (l1 : List (S32)) (r1 : Bool) (r2 : Int) (r3 : ByteArray) (r4 : Int) (w : World) (hT : Tabs w) (hr1 : Kd.C k32 w A1 l1.length l1) (hc1 : l1.length ≤ c1) (h : value_Do.f k a0 l1 = some (r1, r2, r3, r4)) :
  Calls Tryz.prog 58 #[.int .i64 a0, .slice A1 l1.length c1] w fun e w' => e = .returned (.tuple #[.agg #[.bool r1, .int .i64 r2, .string r3], .int .i64 r4]) ∧ Below w.heap.size w w' := by
 unfold value_Do.f at h
 by_cases hl : l1.length ≤ 1000000
 ·rw [if_pos hl] at h
  obtain ⟨⟨r, er⟩, h1, h2⟩ := Option.map_eq_some_iff.1 h
  simp only [Prod.mk.injEq] at h2
  obtain ⟨rfl, rfl, rfl, rfl⟩ := h2
  exact XOps.do_calls (T := Tabs) (fun w w' h hb => h.below hb) value_Do.isVal (value_Do.D k) (value_Do.D_calls k) a0 A1 c1 l1 r er w hT hr1 hc1 h1 (by omega)
 ·rw [if_neg hl] at h
  cases h
def eval_Run.TX (x : ByteArray) : Option XEval.Sv := (value_Text.f x).map fun p => ⟨p.1, p.2.1, p.2.2⟩
def eval_Run.DO (k : Nat) (o : Int) (l : List XEval.Sv) : Option (XEval.Sv × Int) := (value_Do.f k o l).map fun p => (⟨p.1, p.2.1, p.2.2.1⟩, p.2.2.2)
theorem eval_Run.DO_mono (k : Nat) : ∀ o l y, eval_Run.DO k o l = some y → eval_Run.DO (k + 1) o l = some y := fun o l y h => by
 obtain ⟨p, h1, h2⟩ := Option.map_eq_some_iff.1 h
 exact Option.map_eq_some_iff.2 ⟨p, value_Do.mono _ _ _ _ h1, h2⟩
theorem eval_Run.env (k : Nat) : XEval.Env Tabs eval_Run.TX (eval_Run.DO k) where
 tb := fun w w' h hb => h.below hb
 num := fun n w hT => value_Num.calls n _ _ _ w hT rfl
 text := fun x y w hT h => by
  obtain ⟨⟨p1, p2, p3⟩, h1, rfl⟩ := Option.map_eq_some_iff.1 h
  exact value_Text.calls x _ _ _ w hT h1
 do_ := fun o l y er A c w hT hr hc h => by
  obtain ⟨⟨p1, p2, p3, p4⟩, h1, h2⟩ := Option.map_eq_some_iff.1 h
  simp only [Prod.mk.injEq] at h2
  obtain ⟨rfl, rfl⟩ := h2
  exact value_Do.calls k o A c l _ _ _ _ w hT hr hc h1
def eval_Run.f (k : Nat) (l0 : List (S44)) (l1 : List ByteArray) (a2 : Int) : Option ((List (S32)) × Int × Int) := (check_Stack.f l0 []).bind fun st =>
 if st.2.2 = 0 then (if l0.length ≤ 10000 ∧ a2 ≤ 9223372036854775807 then (XEval.runE eval_Run.TX (eval_Run.DO k) l1 [] l0 [] a2).map fun q => if q.2.2 = 0 then (q.1, q.2.1, q.2.2) else ([], 0, q.2.2) else none) else some ([], a2, st.2.2)
theorem eval_Run.mono : ∀ a0 a1 a2 k, LeO (eval_Run.f k a0 a1 a2) (eval_Run.f (k + 1) a0 a1 a2) := by
 intro a0 a1 a2 k r h
 unfold eval_Run.f at h ⊢
 obtain ⟨st, hst, h⟩ := Option.bind_eq_some_iff.1 h
 refine Option.bind_eq_some_iff.2 ⟨st, hst, ?_⟩
 by_cases c : st.2.2 = 0
 ·rw [if_pos c] at h ⊢
  by_cases c2 : a0.length ≤ 10000 ∧ a2 ≤ 9223372036854775807
  ·rw [if_pos c2] at h ⊢
   obtain ⟨q, hq, h⟩ := Option.map_eq_some_iff.1 h
   exact Option.map_eq_some_iff.2 ⟨q, XEval.runE_mono (eval_Run.DO_mono k) _ _ _ hq, h⟩
  ·rw [if_neg c2] at h; cases h
 ·rw [if_neg c] at h ⊢; exact h
theorem eval_Run.calls (k : Nat) (A0 : Option Addr) (c0 : Nat) (l0 : List (S44)) (A1 : Option Addr) (c1 : Nat) (l1 : List ByteArray) (a2 : Int) (r1 : List (S32)) (r2 : Int) (r3 : Int) (w : World) (hT : Tabs w) (hr0 : Kd.C k44 w A0 l0.length l0) (hc0 : l0.length ≤ c0) (hr1 : Kd.C Kd.string w A1 l1.length l1) (hc1 : l1.length ≤ c1) (h : eval_Run.f k l0 l1 a2 = some (r1, r2, r3)) :
  Calls Tryz.prog 7 #[.slice A0 l0.length c0, .slice A1 l1.length c1, .int .i64 a2] w fun e w' => ∃ v0_ : Value, e = .returned (.tuple #[v0_, .int .i64 r2, .int .i64 r3]) ∧ Kd.R k32 32 w' w.heap.size (fun _ => True) v0_ r1 ∧ Below w.heap.size w w' := by
 unfold eval_Run.f at h
 obtain ⟨⟨ks, ne, es⟩, hst, h⟩ := Option.bind_eq_some_iff.1 h
 have hS := (check_Stack.calls A0 c0 l0 none 0 [] ks ne es w hT hr0 hc0 (XEval.C_nilB w) (Nat.le_refl _) hst).mono fun e w' he => (⟨he.choose, he.choose_spec.1, he.choose_spec.2.2⟩ : ∃ v, e = Ending.returned (.tuple #[v, .int .i64 ne, .int .i64 es]) ∧ Below w.heap.size w w')
 dsimp only at h
 by_cases c : es = 0
 ·rw [if_pos c] at h
  subst c
  by_cases c2 : l0.length ≤ 10000 ∧ a2 ≤ 9223372036854775807
  ·rw [if_pos c2] at h
   obtain ⟨⟨s', u', er⟩, hq, h⟩ := Option.map_eq_some_iff.1 h
   have := XEval.Run_ok (eval_Run.env k) (rc := c1) hr1 hT A0 c0 l0 hr0 c2.1 c2.2 hS hq
   dsimp only at h
   by_cases c3 : er = 0
   ·rw [if_pos c3] at h
    rw [if_pos c3, if_pos c3] at this
    simp only [Prod.mk.injEq] at h
    obtain ⟨rfl, rfl, rfl⟩ := h
    exact this
   ·rw [if_neg c3] at h
    rw [if_neg c3, if_neg c3] at this
    simp only [Prod.mk.injEq] at h
    obtain ⟨rfl, rfl, rfl⟩ := h
    exact this
  ·rw [if_neg c2] at h; cases h
 ·rw [if_neg c] at h
  have h := Option.some.inj h
  simp only [Prod.mk.injEq] at h
  obtain ⟨rfl, rfl, rfl⟩ := h
  exact XEval.Run_err A0 c0 l0.length (.slice A1 l1.length c1) a2 c hS
def eval_One.f (k : Nat) (l0 : List (S44)) (l1 : List ByteArray) (a2 : Int) : Option (Bool × Int × ByteArray × Int × Int) := (check_Stack.f l0 ([] : List Bool)).bind fun bt296 => (if bt296.2.2 = 0 then (if (bt296.1.length : Int) = 1 then ((eval_Run.f k l0 l1 a2).bind fun bt301 => (if bt301.2.2 = 0 then (if 0 < (bt301.1.length : Int) then (some ((rd_T32 bt301.1 0).f0, (rd_T32 bt301.1 0).f1, (rd_T32 bt301.1 0).f2, bt301.2.1, 0)) else (none)) else (some (false, 0, (⟨#[]⟩ : ByteArray), bt301.2.1, bt301.2.2)))) else (some (false, 0, (⟨#[]⟩ : ByteArray), a2, 11))) else (some (false, 0, (⟨#[]⟩ : ByteArray), a2, bt296.2.2)))
theorem eval_One.mono : ∀ a0 a1 a2 k, LeO (eval_One.f k a0 a1 a2) (eval_One.f (k + 1) a0 a1 a2) := by
 intro a0 a1 a2 k
 unfold eval_One.f
 repeat' (with_reducible first | exact eval_Run.mono _ _ _ _ | exact LeO.refl _ | exact LeO.none _ | refine LeO.ite ?_ ?_ | refine LeO.bind ?_ (fun _ => ?_))
set_option maxHeartbeats 8000000 in
set_option maxRecDepth 100000 in
theorem eval_One.calls (k : Nat) (A0 : Option Addr) (c0 : Nat) (l0 : List (S44)) (A1 : Option Addr) (c1 : Nat) (l1 : List ByteArray) (a2 : Int) (r1 : Bool) (r2 : Int) (r3 : ByteArray) (r4 : Int) (r5 : Int) (w : World) (hT : Tabs w) (hr0 : Kd.C k44 w A0 l0.length l0) (hc0 : l0.length ≤ c0) (hr1 : Kd.C Kd.string w A1 l1.length l1) (hc1 : l1.length ≤ c1) (h : eval_One.f k l0 l1 a2 = some (r1, r2, r3, r4, r5)) :
  Calls Tryz.prog 9 #[.slice A0 l0.length c0, .slice A1 l1.length c1, .int .i64 a2] w fun e w' => e = .returned (.tuple #[.agg #[.bool r1, .int .i64 r2, .string r3], .int .i64 r4, .int .i64 r5]) ∧ Below w.heap.size w w' := by
 have hu32 := Tryz.underlying32
 have HR0 := xy hr0
 have HC0 := xy hc0
 clear hr0 hc0
 have HR1 := xy hr1
 have HC1 := xy hc1
 clear hr1 hc1
 have HB := xy (Below.refl w.heap.size w)
 unfold eval_One.f at h
 have H := h
 clear h
 replace H := xj H
 obtain ⟨⟨t296, t297, t298⟩, A40, H⟩ := H
 try dsimp only at H
 have A4 := xy A40
 clear A40
 by_cases c5 : t298 = 0
 ·rw [if_pos c5] at H
  have c5b0 : (t298 == 0) = true := beq_iff_eq.mpr c5
  have c5b1 : (t298 != 0) = false := bne_eq_false_iff_eq.mpr c5
  clear c5
  by_cases c6 : (t296.length : Int) = 1
  ·rw [if_pos c6] at H
   have c6b0 : ((t296.length : Int) == 1) = true := beq_iff_eq.mpr c6
   have c6b1 : ((t296.length : Int) != 1) = false := bne_eq_false_iff_eq.mpr c6
   clear c6
   replace H := xj H
   obtain ⟨⟨t301, t302, t303⟩, A70, H⟩ := H
   try dsimp only at H
   have A7 := xy A70
   clear A70
   by_cases c8 : t303 = 0
   ·rw [if_pos c8] at H
    have c8b0 : (t303 == 0) = true := beq_iff_eq.mpr c8
    have c8b1 : (t303 != 0) = false := bne_eq_false_iff_eq.mpr c8
    clear c8
    by_cases c9 : 0 < (t301.length : Int)
    ·rw [if_pos c9] at H
     have c9b0 : decide (0 < (t301.length : Int)) = true := decide_eq_true c9
     have c9b1 : decide (0 < t301.length) = true := decide_eq_true (by omega)
     clear c9
     simp only [Option.some.injEq, Prod.mk.injEq] at H
     obtain ⟨rfl, rfl, rfl, rfl, rfl⟩ := H
     go_enter Tryz.func9, Tryz.ntmps9
     go_wp2_with (first | ((with_reducible refine gate_dst (N := 6) rfl ?_); refine xq (N := 6) (cs := #[.bool false, .int .i64 0, .string (⟨#[]⟩ : ByteArray)]) (t := 32) ?_; intro gb295 hg w10 hbox hb; have BK295 := xy (hbox); have GW295 := xs w hg; have GE295 := xs w hg; replace HB := xy (below_step xb hb); clear hb hbox hg) | ((with_reducible refine gate_callee (f := 17) rfl ?_); refine goesL_ (some 16) rfl rfl Tryz.func17 (by kernel_rfl) rfl #[.slice A0 l0.length c0, .slice none 0 0] rfl xr ?_; (refine (check_Stack.calls _ _ l0 _ _ ([] : List Bool) t296 t297 t298 _ (Tabs.below hT xf) ?side1 ?side2 ?side3 ?side4 A4.out).mono ?_); (case side1 => exact Kd.C_below HR0.out xb); (case side2 => exact HC0.out); (case side3 => exact Kd.C_nil _ _); (case side4 => exact Nat.le_refl _); rintro e w11 ⟨v299, rfl, ho0, hb⟩; refine ⟨_, rfl, ?_⟩; have HO300 := xy (Kd.R_lower ho0 (below_size xb)); replace BK295 := xd BK295.out hb; replace HB := xy (below_step xb hb); (try clear hb); (try clear hb2); (try clear hk); (try clear hi); (try clear ho0); obtain ⟨Ao12, co12, eo12⟩ := Kd.R_slice HO300.out; subst eo12) | ((with_reducible refine gate_callee (f := 7) rfl ?_); refine goesL_ (some 36) rfl rfl Tryz.func7 (by kernel_rfl) rfl #[.slice A0 l0.length c0, .slice A1 l1.length c1, .int .i64 a2] rfl xr ?_; (with_reducible refine (eval_Run.calls k _ _ l0 _ _ l1 a2 t301 t302 t303 _ (Tabs.below hT xf) ?side1 ?side2 ?side3 ?side4 A7.out).mono ?_); (case side1 => exact Kd.C_below HR0.out xb); (case side2 => exact HC0.out); (case side3 => exact Kd.C_below HR1.out xb); (case side4 => exact HC1.out); rintro e w13 ⟨v304, rfl, ho0, hb⟩; refine ⟨_, rfl, ?_⟩; replace HO300 := xy (Kd.R_below (xo HO300.out) hb); have HO305 := xy (Kd.R_lower (Kd.R_newB ho0 (g := gb295) (o := .cells #[.bool false, .int .i64 0, .string (⟨#[]⟩ : ByteArray)] 32 (0, 0)) (xk BK295.out)) (below_size xb)); replace BK295 := xd BK295.out hb; replace HB := xy (below_step xb hb); (try clear hb); (try clear hb2); (try clear hk); (try clear hi); (try clear ho0); obtain ⟨Ao14, co14, eo14⟩ := Kd.R_slice HO305.out; subst eo14; have p306 : 0 ≤ (0 : Int) := (by omega); have q306 : 0 < (t301.length : Int) := xi; obtain ⟨ad306, e306, hx306_0, hx306_1, hx306_2⟩ := at_T32 (Kd.R_reads' HO305.out).2.2 0 p306 q306; cases e306; have qi306 : (0 < t301.length) = True := eq_true (by omega); (try rw [show ((0 : Int)).toNat = 0 from rfl] at hx306_0); (try rw [show 0 * 3 = 0 from rfl] at hx306_0); (try rw [Addr.add_zero'] at hx306_0); (try rw [show ((0 : Int)).toNat = 0 from rfl] at hx306_1); (try rw [show 0 * 3 = 0 from rfl] at hx306_1); (try rw [Addr.add_zero'] at hx306_1); (try rw [show ((0 : Int)).toNat = 0 from rfl] at hx306_2); (try rw [show 0 * 3 = 0 from rfl] at hx306_2); (try rw [Addr.add_zero'] at hx306_2); replace p306 := eq_true p306; replace q306 := eq_true q306; have hcz15_0 : w13.cell? ⟨gb295, 0, none⟩ = some (.bool false) := (kc BK295.out 0).trans rfl; have hcz15_1 : w13.cell? ⟨gb295, 1, none⟩ = some (.int .i64 0) := (kc BK295.out 1).trans rfl; have hcz15_2 : w13.cell? ⟨gb295, 2, none⟩ = some (.string (⟨#[]⟩ : ByteArray)) := (kc BK295.out 2).trans rfl; have hfz15_0 := kf BK295.out 0; have hfz15_1 := kf BK295.out 1; have hfz15_2 := kf BK295.out 2))
     refine bodyPost_ret (results_ctt rfl _ _ gb295 32 #[.bool ((rd_T32 t301 0).f0), .int .i64 ((rd_T32 t301 0).f1), .string ((rd_T32 t301 0).f2)] (0, 0) _ rfl (kp BK295.out) Tryz.underlying32 rfl (by kernel_rfl)) rfl ?_
     exact ⟨xe, xb⟩
    ·rw [if_neg c9] at H
     exact absurd H (by simp)
   ·rw [if_neg c8] at H
    have c8b0 : (t303 == 0) = false := beq_eq_false_iff_ne.mpr c8
    have c8b1 : (t303 != 0) = true := bne_iff_ne.mpr c8
    simp only [Option.some.injEq, Prod.mk.injEq] at H
    obtain ⟨rfl, rfl, rfl, rfl, rfl⟩ := H
    go_enter Tryz.func9, Tryz.ntmps9
    go_wp2_with (first | ((with_reducible refine gate_dst (N := 6) rfl ?_); refine xq (N := 6) (cs := #[.bool false, .int .i64 0, .string (⟨#[]⟩ : ByteArray)]) (t := 32) ?_; intro gb295 hg w16 hbox hb; have BK295 := xy (hbox); have GW295 := xs w hg; have GE295 := xs w hg; replace HB := xy (below_step xb hb); clear hb hbox hg) | ((with_reducible refine gate_callee (f := 17) rfl ?_); refine goesL_ (some 16) rfl rfl Tryz.func17 (by kernel_rfl) rfl #[.slice A0 l0.length c0, .slice none 0 0] rfl xr ?_; (refine (check_Stack.calls _ _ l0 _ _ ([] : List Bool) t296 t297 t298 _ (Tabs.below hT xf) ?side1 ?side2 ?side3 ?side4 A4.out).mono ?_); (case side1 => exact Kd.C_below HR0.out xb); (case side2 => exact HC0.out); (case side3 => exact Kd.C_nil _ _); (case side4 => exact Nat.le_refl _); rintro e w17 ⟨v299, rfl, ho0, hb⟩; refine ⟨_, rfl, ?_⟩; have HO300 := xy (Kd.R_lower ho0 (below_size xb)); replace BK295 := xd BK295.out hb; replace HB := xy (below_step xb hb); (try clear hb); (try clear hb2); (try clear hk); (try clear hi); (try clear ho0); obtain ⟨Ao18, co18, eo18⟩ := Kd.R_slice HO300.out; subst eo18) | ((with_reducible refine gate_callee (f := 7) rfl ?_); refine goesL_ (some 36) rfl rfl Tryz.func7 (by kernel_rfl) rfl #[.slice A0 l0.length c0, .slice A1 l1.length c1, .int .i64 a2] rfl xr ?_; (with_reducible refine (eval_Run.calls k _ _ l0 _ _ l1 a2 t301 t302 t303 _ (Tabs.below hT xf) ?side1 ?side2 ?side3 ?side4 A7.out).mono ?_); (case side1 => exact Kd.C_below HR0.out xb); (case side2 => exact HC0.out); (case side3 => exact Kd.C_below HR1.out xb); (case side4 => exact HC1.out); rintro e w19 ⟨v304, rfl, ho0, hb⟩; refine ⟨_, rfl, ?_⟩; replace HO300 := xy (Kd.R_below (xo HO300.out) hb); have HO305 := xy (Kd.R_lower (Kd.R_newB ho0 (g := gb295) (o := .cells #[.bool false, .int .i64 0, .string (⟨#[]⟩ : ByteArray)] 32 (0, 0)) (xk BK295.out)) (below_size xb)); replace BK295 := xd BK295.out hb; replace HB := xy (below_step xb hb); (try clear hb); (try clear hb2); (try clear hk); (try clear hi); (try clear ho0); have hcz20_0 : w19.cell? ⟨gb295, 0, none⟩ = some (.bool false) := (kc BK295.out 0).trans rfl; have hcz20_1 : w19.cell? ⟨gb295, 1, none⟩ = some (.int .i64 0) := (kc BK295.out 1).trans rfl; have hcz20_2 : w19.cell? ⟨gb295, 2, none⟩ = some (.string (⟨#[]⟩ : ByteArray)) := (kc BK295.out 2).trans rfl; have hfz20_0 := kf BK295.out 0; have hfz20_1 := kf BK295.out 1; have hfz20_2 := kf BK295.out 2))
    refine bodyPost_ret (results_ctt rfl _ _ gb295 32 #[.bool false, .int .i64 0, .string (⟨#[]⟩ : ByteArray)] (0, 0) _ rfl (kp BK295.out) Tryz.underlying32 rfl (by kernel_rfl)) rfl ?_
    exact ⟨xe, xb⟩
  ·rw [if_neg c6] at H
   have c6b0 : ((t296.length : Int) == 1) = false := beq_eq_false_iff_ne.mpr c6
   have c6b1 : ((t296.length : Int) != 1) = true := bne_iff_ne.mpr c6
   simp only [Option.some.injEq, Prod.mk.injEq] at H
   obtain ⟨rfl, rfl, rfl, rfl, rfl⟩ := H
   go_enter Tryz.func9, Tryz.ntmps9
   go_wp2_with (first | ((with_reducible refine gate_dst (N := 6) rfl ?_); refine xq (N := 6) (cs := #[.bool false, .int .i64 0, .string (⟨#[]⟩ : ByteArray)]) (t := 32) ?_; intro gb295 hg w21 hbox hb; have BK295 := xy (hbox); have GW295 := xs w hg; have GE295 := xs w hg; replace HB := xy (below_step xb hb); clear hb hbox hg) | ((with_reducible refine gate_callee (f := 17) rfl ?_); refine goesL_ (some 16) rfl rfl Tryz.func17 (by kernel_rfl) rfl #[.slice A0 l0.length c0, .slice none 0 0] rfl xr ?_; (refine (check_Stack.calls _ _ l0 _ _ ([] : List Bool) t296 t297 t298 _ (Tabs.below hT xf) ?side1 ?side2 ?side3 ?side4 A4.out).mono ?_); (case side1 => exact Kd.C_below HR0.out xb); (case side2 => exact HC0.out); (case side3 => exact Kd.C_nil _ _); (case side4 => exact Nat.le_refl _); rintro e w22 ⟨v299, rfl, ho0, hb⟩; refine ⟨_, rfl, ?_⟩; have HO300 := xy (Kd.R_lower ho0 (below_size xb)); replace BK295 := xd BK295.out hb; replace HB := xy (below_step xb hb); (try clear hb); (try clear hb2); (try clear hk); (try clear hi); (try clear ho0); obtain ⟨Ao23, co23, eo23⟩ := Kd.R_slice HO300.out; subst eo23; have hcz24_0 : w22.cell? ⟨gb295, 0, none⟩ = some (.bool false) := (kc BK295.out 0).trans rfl; have hcz24_1 : w22.cell? ⟨gb295, 1, none⟩ = some (.int .i64 0) := (kc BK295.out 1).trans rfl; have hcz24_2 : w22.cell? ⟨gb295, 2, none⟩ = some (.string (⟨#[]⟩ : ByteArray)) := (kc BK295.out 2).trans rfl; have hfz24_0 := kf BK295.out 0; have hfz24_1 := kf BK295.out 1; have hfz24_2 := kf BK295.out 2))
   refine bodyPost_ret (results_ctt rfl _ _ gb295 32 #[.bool false, .int .i64 0, .string (⟨#[]⟩ : ByteArray)] (0, 0) _ rfl (kp BK295.out) Tryz.underlying32 rfl (by kernel_rfl)) rfl ?_
   exact ⟨xe, xb⟩
 ·rw [if_neg c5] at H
  have c5b0 : (t298 == 0) = false := beq_eq_false_iff_ne.mpr c5
  have c5b1 : (t298 != 0) = true := bne_iff_ne.mpr c5
  simp only [Option.some.injEq, Prod.mk.injEq] at H
  obtain ⟨rfl, rfl, rfl, rfl, rfl⟩ := H
  go_enter Tryz.func9, Tryz.ntmps9
  go_wp2_with (first | ((with_reducible refine gate_dst (N := 6) rfl ?_); refine xq (N := 6) (cs := #[.bool false, .int .i64 0, .string (⟨#[]⟩ : ByteArray)]) (t := 32) ?_; intro gb295 hg w25 hbox hb; have BK295 := xy (hbox); have GW295 := xs w hg; have GE295 := xs w hg; replace HB := xy (below_step xb hb); clear hb hbox hg) | ((with_reducible refine gate_callee (f := 17) rfl ?_); refine goesL_ (some 16) rfl rfl Tryz.func17 (by kernel_rfl) rfl #[.slice A0 l0.length c0, .slice none 0 0] rfl xr ?_; (refine (check_Stack.calls _ _ l0 _ _ ([] : List Bool) t296 t297 t298 _ (Tabs.below hT xf) ?side1 ?side2 ?side3 ?side4 A4.out).mono ?_); (case side1 => exact Kd.C_below HR0.out xb); (case side2 => exact HC0.out); (case side3 => exact Kd.C_nil _ _); (case side4 => exact Nat.le_refl _); rintro e w26 ⟨v299, rfl, ho0, hb⟩; refine ⟨_, rfl, ?_⟩; have HO300 := xy (Kd.R_lower ho0 (below_size xb)); replace BK295 := xd BK295.out hb; replace HB := xy (below_step xb hb); (try clear hb); (try clear hb2); (try clear hk); (try clear hi); (try clear ho0); have hcz27_0 : w26.cell? ⟨gb295, 0, none⟩ = some (.bool false) := (kc BK295.out 0).trans rfl; have hcz27_1 : w26.cell? ⟨gb295, 1, none⟩ = some (.int .i64 0) := (kc BK295.out 1).trans rfl; have hcz27_2 : w26.cell? ⟨gb295, 2, none⟩ = some (.string (⟨#[]⟩ : ByteArray)) := (kc BK295.out 2).trans rfl; have hfz27_0 := kf BK295.out 0; have hfz27_1 := kf BK295.out 1; have hfz27_2 := kf BK295.out 2))
  refine bodyPost_ret (results_ctt rfl _ _ gb295 32 #[.bool false, .int .i64 0, .string (⟨#[]⟩ : ByteArray)] (0, 0) _ rfl (kp BK295.out) Tryz.underlying32 rfl (by kernel_rfl)) rfl ?_
  exact ⟨xe, xb⟩
/- Walked functions, by this session's program over the kit's print. -/
def w16_alive.f (k : Nat)  : Option (Bool) := (eval_One.f k (([(⟨2, 0, (⟨#[]⟩ : ByteArray)⟩ : S44), (⟨10, 0, (⟨#[]⟩ : ByteArray)⟩ : S44)] : List (S44))) (([(⟨#[97, 98, 99]⟩ : ByteArray)] : List ByteArray)) 5).bind fun bt313 => ((eval_One.f k (([(⟨2, 0, (⟨#[]⟩ : ByteArray)⟩ : S44)] : List (S44))) ([] : List ByteArray) 0).bind fun bt322 => (if bt313.2.1 = 3 then (if bt313.2.2.2.1 = 3 then (if bt313.2.2.2.2 = 0 then (some (bt322.2.2.2.2 == 12)) else (some false)) else (some false)) else (some false)))
theorem w16_alive.mono : ∀ k, LeO (w16_alive.f k ) (w16_alive.f (k + 1) ) := by
 intro  k
 unfold w16_alive.f
 repeat' (with_reducible first | exact eval_One.mono _ _ _ _ | exact LeO.refl _ | exact LeO.none _ | refine LeO.ite ?_ ?_ | refine LeO.bind ?_ (fun _ => ?_))
set_option maxHeartbeats 8000000 in
set_option maxRecDepth 100000 in
theorem w16_alive.calls (k : Nat)  (r : Bool) (w : World) (hT : Tabs w) (h : w16_alive.f k  = some r) :
  Calls Tryz.prog 6 #[] w fun e w' => e = .returned (.bool r) ∧ Below w.heap.size w w' := by
 have hu44 := Tryz.underlying44
 have hu32 := Tryz.underlying32
 have HB := xy (Below.refl w.heap.size w)
 unfold w16_alive.f at h
 have H := h
 clear h
 obtain ⟨y307, hy307⟩ : ∃ y_ : List (S44), y_ = (([(⟨2, 0, (⟨#[]⟩ : ByteArray)⟩ : S44), (⟨10, 0, (⟨#[]⟩ : ByteArray)⟩ : S44)] : List (S44))) := ⟨_, rfl⟩
 replace H : ((eval_One.f k y307 (([(⟨#[97, 98, 99]⟩ : ByteArray)] : List ByteArray)) 5).bind fun bt313 => ((eval_One.f k (([(⟨2, 0, (⟨#[]⟩ : ByteArray)⟩ : S44)] : List (S44))) ([] : List ByteArray) 0).bind fun bt322 => (if bt313.2.1 = 3 then (if bt313.2.2.2.1 = 3 then (if bt313.2.2.2.2 = 0 then (some (bt322.2.2.2.2 == 12)) else (some false)) else (some false)) else (some false)))) = some r := by first | (rw [hy307]; with_reducible exact H) | (have H2_ := (Option.bind_some _ _).symm.trans H; rw [hy307]; with_reducible exact H2_) | (have H2_ := (Option.bind_some _ _).symm.trans H; with_reducible exact H2_) | with_reducible exact H | (rw [hy307]; exact H) | exact H
 have Ny307 := xy hy307
 clear hy307
 obtain ⟨y310, hy310⟩ : ∃ y_ : List ByteArray, y_ = (([(⟨#[97, 98, 99]⟩ : ByteArray)] : List ByteArray)) := ⟨_, rfl⟩
 replace H : ((eval_One.f k y307 y310 5).bind fun bt313 => ((eval_One.f k (([(⟨2, 0, (⟨#[]⟩ : ByteArray)⟩ : S44)] : List (S44))) ([] : List ByteArray) 0).bind fun bt322 => (if bt313.2.1 = 3 then (if bt313.2.2.2.1 = 3 then (if bt313.2.2.2.2 = 0 then (some (bt322.2.2.2.2 == 12)) else (some false)) else (some false)) else (some false)))) = some r := by first | (rw [hy310]; with_reducible exact H) | (have H2_ := (Option.bind_some _ _).symm.trans H; rw [hy310]; with_reducible exact H2_) | (have H2_ := (Option.bind_some _ _).symm.trans H; with_reducible exact H2_) | with_reducible exact H | (rw [hy310]; exact H) | exact H
 have Ny310 := xy hy310
 clear hy310
 replace H := xj H
 obtain ⟨⟨t313, t314, t315, t316, t317⟩, A10, H⟩ := H
 try dsimp only at H
 have A1 := xy A10
 clear A10
 obtain ⟨y319, hy319⟩ : ∃ y_ : List (S44), y_ = (([(⟨2, 0, (⟨#[]⟩ : ByteArray)⟩ : S44)] : List (S44))) := ⟨_, rfl⟩
 replace H : ((eval_One.f k y319 ([] : List ByteArray) 0).bind fun bt322 => (if t314 = 3 then (if t316 = 3 then (if t317 = 0 then (some (bt322.2.2.2.2 == 12)) else (some false)) else (some false)) else (some false))) = some r := by first | (rw [hy319]; with_reducible exact H) | (have H2_ := (Option.bind_some _ _).symm.trans H; rw [hy319]; with_reducible exact H2_) | (have H2_ := (Option.bind_some _ _).symm.trans H; with_reducible exact H2_) | with_reducible exact H | (rw [hy319]; exact H) | exact H
 have Ny319 := xy hy319
 clear hy319
 replace H := xj H
 obtain ⟨⟨t322, t323, t324, t325, t326⟩, A20, H⟩ := H
 try dsimp only at H
 have A2 := xy A20
 clear A20
 by_cases c3 : t314 = 3
 ·rw [if_pos c3] at H
  have c3b0 : (t314 == 3) = true := beq_iff_eq.mpr c3
  have c3b1 : (t314 != 3) = false := bne_eq_false_iff_eq.mpr c3
  clear c3
  by_cases c4 : t316 = 3
  ·rw [if_pos c4] at H
   have c4b0 : (t316 == 3) = true := beq_iff_eq.mpr c4
   have c4b1 : (t316 != 3) = false := bne_eq_false_iff_eq.mpr c4
   clear c4
   by_cases c5 : t317 = 0
   ·rw [if_pos c5] at H
    have c5b0 : (t317 == 0) = true := beq_iff_eq.mpr c5
    have c5b1 : (t317 != 0) = false := bne_eq_false_iff_eq.mpr c5
    clear c5
    obtain rfl := Option.some.inj H
    go_enter Tryz.func6, Tryz.ntmps6
    go_wp2_with (first | ((with_reducible refine gate_dst (N := 10) rfl ?_); refine Kd.R_lit k44 _ 44 ?hg (N := 10) ?hd (xs := ([(⟨2, 0, (⟨#[]⟩ : ByteArray)⟩ : S44), (⟨10, 0, (⟨#[]⟩ : ByteArray)⟩ : S44)] : List (S44))) (inner := [.int .i64 2, .int .i64 0, .string (⟨#[]⟩ : ByteArray), .int .i64 10, .int .i64 0, .string (⟨#[]⟩ : ByteArray)]) (ok := fun _ => True) (okp := fun _ => True) ?hr ?hp (fun _ hk => hk) trivial (Below.refl _ _) (Nat.le_refl _) (by simp) ?_; (case hd => rfl); (case hg => rfl); (case hr => exact xh); (case hp => exact (Reps.c3 (show Kd.M k44 _ _ _ (⟨2, 0, (⟨#[]⟩ : ByteArray)⟩ : S44) [.int .i64 2, .int .i64 0, .string (⟨#[]⟩ : ByteArray)] from (k44_mkM _ _ _ (⟨2, 0, (⟨#[]⟩ : ByteArray)⟩ : S44) )) (Reps.c3 (show Kd.M k44 _ _ _ (⟨10, 0, (⟨#[]⟩ : ByteArray)⟩ : S44) [.int .i64 10, .int .i64 0, .string (⟨#[]⟩ : ByteArray)] from (k44_mkM _ _ _ (⟨10, 0, (⟨#[]⟩ : ByteArray)⟩ : S44) )) (Reps.none _ _)))); intro v308 w6 ho7 hb hg_ hnew_; clear hg_ hnew_; (first | rw [← Ny307.out] at ho7 | (simp only [Int.reduceToNat] at ho7; rw [← Ny307.out] at ho7)); have HO309 := xy (Kd.R_lower ho7 (below_size xb)); replace HB := xy (below_step xb hb); clear hb ho7) | ((with_reducible refine gate_dst (N := 11) rfl ?_); refine Kd.R_lit Kd.string _ 9 ?hg (N := 11) ?hd (xs := ([(⟨#[97, 98, 99]⟩ : ByteArray)] : List ByteArray)) (inner := [.string (⟨#[97, 98, 99]⟩ : ByteArray)]) (ok := fun _ => True) (okp := fun _ => True) ?hr ?hp (fun _ hk => hk) trivial (Below.refl _ _) (Nat.le_refl _) (by simp) ?_; (case hd => rfl); (case hg => rfl); (case hr => exact xh); (case hp => exact (Reps.one (show Kd.M Kd.string _ _ _ (⟨#[97, 98, 99]⟩ : ByteArray) [.string (⟨#[97, 98, 99]⟩ : ByteArray)] from rfl) (Reps.none _ _))); intro v311 w8 ho9 hb hg_ hnew_; clear hg_ hnew_; (first | rw [← Ny310.out] at ho9 | (simp only [Int.reduceToNat] at ho9; rw [← Ny310.out] at ho9)); replace HO309 := xy (Kd.R_below (xo HO309.out) hb); have HO312 := xy (Kd.R_lower ho9 (below_size xb)); replace HB := xy (below_step xb hb); clear hb ho9; obtain ⟨Ao10, co10, eo10⟩ := Kd.R_slice HO309.out; subst eo10; obtain ⟨Ao11, co11, eo11⟩ := Kd.R_slice HO312.out; subst eo11) | ((with_reducible refine gate_callee (f := 9) rfl ?_); refine goesL_ (some 12) rfl rfl Tryz.func9 (by kernel_rfl) rfl #[.slice Ao10 y307.length co10, .slice Ao11 y310.length co11, .int .i64 5] rfl xr ?_; (with_reducible refine (eval_One.calls k _ _ y307 _ _ y310 5 t313 t314 t315 t316 t317 _ (Tabs.below hT xf) ?side1 ?side2 ?side3 ?side4 A1.out).mono ?_); (case side1 => repeat (first | exact (Kd.R_reads' HO309.out).2.2 | (with_reducible refine Kd.C_alloc ?_ _) | (with_reducible refine Kd.C_drewN ?_ _) | (with_reducible refine Kd.C_drew ?_))); (case side2 => exact (Kd.R_reads' HO309.out).2.1); (case side3 => repeat (first | exact (Kd.R_reads' HO312.out).2.2 | (with_reducible refine Kd.C_alloc ?_ _) | (with_reducible refine Kd.C_drewN ?_ _) | (with_reducible refine Kd.C_drew ?_))); (case side4 => exact (Kd.R_reads' HO312.out).2.1); rintro e w12 ⟨rfl, hb⟩; refine ⟨_, rfl, ?_⟩; replace HO309 := xy (Kd.R_below (xo HO309.out) hb); replace HO312 := xy (Kd.R_below (xo HO312.out) hb); replace HB := xy (below_step xb hb); (try clear hb); (try clear hb2); (try clear hk); (try clear hi)) | ((with_reducible refine gate_dst (N := 1) rfl ?_); refine xq (N := 1) (cs := #[.bool false, .int .i64 0, .string (⟨#[]⟩ : ByteArray)]) (t := 32) ?_; intro gb318 hg w13 hbox hb; replace HO309 := xy (Kd.R_below (xo HO309.out) hb); replace HO312 := xy (Kd.R_below (xo HO312.out) hb); have BK318 := xy (hbox); have GW318 := xs w hg; have GE318 := xs w hg; replace HB := xy (below_step xb hb); clear hb hbox hg; have hcz14_0 : w13.cell? ⟨gb318, 0, none⟩ = some (.bool false) := (kc BK318.out 0).trans rfl; have hcz14_1 : w13.cell? ⟨gb318, 1, none⟩ = some (.int .i64 0) := (kc BK318.out 1).trans rfl; have hcz14_2 : w13.cell? ⟨gb318, 2, none⟩ = some (.string (⟨#[]⟩ : ByteArray)) := (kc BK318.out 2).trans rfl; have hfz14_0 := kf BK318.out 0; have hfz14_1 := kf BK318.out 1; have hfz14_2 := kf BK318.out 2) | ((with_reducible refine gate_dst (N := 18) rfl ?_); refine Kd.R_lit k44 _ 44 ?hg (N := 18) ?hd (xs := ([(⟨2, 0, (⟨#[]⟩ : ByteArray)⟩ : S44)] : List (S44))) (inner := [.int .i64 2, .int .i64 0, .string (⟨#[]⟩ : ByteArray)]) (ok := fun _ => True) (okp := fun _ => True) ?hr ?hp (fun _ hk => hk) trivial (Below.refl _ _) (Nat.le_refl _) (by simp) ?_; (case hd => rfl); (case hg => rfl); (case hr => exact xh); (case hp => exact (Reps.c3 (show Kd.M k44 _ _ _ (⟨2, 0, (⟨#[]⟩ : ByteArray)⟩ : S44) [.int .i64 2, .int .i64 0, .string (⟨#[]⟩ : ByteArray)] from (k44_mkM _ _ _ (⟨2, 0, (⟨#[]⟩ : ByteArray)⟩ : S44) )) (Reps.none _ _))); intro v320 w15 ho16 hb hg_ hnew_; clear hg_ hnew_; (first | rw [← Ny319.out] at ho16 | (simp only [Int.reduceToNat] at ho16; rw [← Ny319.out] at ho16)); replace HO312 := xy (Kd.R_below (by (with_reducible repeat (first | apply Kd.R_alloc | apply Kd.R_drewN | apply Kd.R_drew)); exact (Kd.R_mono (Kd.R_far (p := ⟨gb318, 2, none⟩) (Kd.R_far (p := ⟨gb318, 1, none⟩) (Kd.R_far (p := ⟨gb318, 0, none⟩) (Kd.R_types HO312.out BK318.out (by decide)) (fun _ hk => hk.2) (.bool t313)) (fun _ hk => hk.2) (.int .i64 t314)) (fun _ hk => hk.2) (.string t315)) (fun _ h_ => h_.1))) hb); have HO321 := xy (Kd.R_lower (Kd.R_new' ho16 (Kd.R_lt (by (with_reducible repeat (first | apply Kd.R_alloc | apply Kd.R_drewN | apply Kd.R_drew)); exact (Kd.R_mono (Kd.R_far (p := ⟨gb318, 2, none⟩) (Kd.R_far (p := ⟨gb318, 1, none⟩) (Kd.R_far (p := ⟨gb318, 0, none⟩) (Kd.R_types HO309.out BK318.out (by decide)) (fun _ hk => hk.2) (.bool t313)) (fun _ hk => hk.2) (.int .i64 t314)) (fun _ hk => hk.2) (.string t315)) (fun _ h_ => h_.1))))) (below_size xb)); replace HO309 := xy (Kd.R_elder' (by (with_reducible repeat (first | apply Kd.R_alloc | apply Kd.R_drewN | apply Kd.R_drew)); exact (Kd.R_mono (Kd.R_far (p := ⟨gb318, 2, none⟩) (Kd.R_far (p := ⟨gb318, 1, none⟩) (Kd.R_far (p := ⟨gb318, 0, none⟩) (Kd.R_types HO309.out BK318.out (by decide)) (fun _ hk => hk.2) (.bool t313)) (fun _ hk => hk.2) (.int .i64 t314)) (fun _ hk => hk.2) (.string t315)) (fun _ h_ => h_.1))) (Kd.R_base ho16) hb); replace BK318 := xy (blk_below (g := gb318) (o := .cells #[.bool t313, .int .i64 t314, .string t315] 32 (0, 0)) (kp BK318.out) hb); replace HB := xy (below_step xb hb); clear hb ho16; obtain ⟨Ao17, co17, eo17⟩ := Kd.R_slice HO321.out; subst eo17) | ((with_reducible refine gate_callee (f := 9) rfl ?_); refine goesL_ (some 19) rfl rfl Tryz.func9 (by kernel_rfl) rfl #[.slice Ao17 y319.length co17, .slice none 0 0, .int .i64 0] rfl xr ?_; (refine (eval_One.calls k _ _ y319 _ _ ([] : List ByteArray) 0 t322 t323 t324 t325 t326 _ (Tabs.below hT xf) ?side1 ?side2 ?side3 ?side4 A2.out).mono ?_); (case side1 => repeat (first | exact (Kd.R_reads' HO321.out).2.2 | (with_reducible refine Kd.C_alloc ?_ _) | (with_reducible refine Kd.C_drewN ?_ _) | (with_reducible refine Kd.C_drew ?_))); (case side2 => exact (Kd.R_reads' HO321.out).2.1); (case side3 => exact Kd.C_nil _ _); (case side4 => exact Nat.le_refl _); rintro e w18 ⟨rfl, hb⟩; refine ⟨_, rfl, ?_⟩; replace HO309 := xy (Kd.R_below (xo HO309.out) hb); replace HO312 := xy (Kd.R_below (xo HO312.out) hb); replace HO321 := xy (Kd.R_below (xo HO321.out) hb); replace BK318 := xd BK318.out hb; replace HB := xy (below_step xb hb); (try clear hb); (try clear hb2); (try clear hk); (try clear hi)) | ((with_reducible refine gate_dst (N := 4) rfl ?_); refine xq (N := 4) (cs := #[.bool false, .int .i64 0, .string (⟨#[]⟩ : ByteArray)]) (t := 32) ?_; intro gb327 hg w19 hbox hb; replace HO309 := xy (Kd.R_below (xo HO309.out) hb); replace HO312 := xy (Kd.R_below (xo HO312.out) hb); replace HO321 := xy (Kd.R_below (xo HO321.out) hb); have BK327 := xy (hbox); have GW327 := xs w hg; have GE327 := xs w hg; replace HB := xy (below_step xb hb); have NB318_327 := xn hg BK318.out; have NB327_318 := xp hg BK318.out; replace BK318 := xd BK318.out hb; clear hb hbox hg; have hnb20 := NB327_318.out; have hnc20 := NB318_327.out; have hcz21_0 : w19.cell? ⟨gb327, 0, none⟩ = some (.bool false) := (kc BK327.out 0).trans rfl; have hcz21_1 : w19.cell? ⟨gb327, 1, none⟩ = some (.int .i64 0) := (kc BK327.out 1).trans rfl; have hcz21_2 : w19.cell? ⟨gb327, 2, none⟩ = some (.string (⟨#[]⟩ : ByteArray)) := (kc BK327.out 2).trans rfl; have hfz21_0 := kf BK327.out 0; have hfz21_1 := kf BK327.out 1; have hfz21_2 := kf BK327.out 2; have hcz22_0 : w19.cell? ⟨gb318, 0, none⟩ = some (.bool t313) := (kc BK318.out 0).trans rfl; have hcz22_1 : w19.cell? ⟨gb318, 1, none⟩ = some (.int .i64 t314) := (kc BK318.out 1).trans rfl; have hcz22_2 : w19.cell? ⟨gb318, 2, none⟩ = some (.string t315) := (kc BK318.out 2).trans rfl; have hfz22_0 := kf BK318.out 0; have hfz22_1 := kf BK318.out 1; have hfz22_2 := kf BK318.out 2))
    go_ret
    exact ⟨xe, xb⟩
   ·rw [if_neg c5] at H
    have c5b0 : (t317 == 0) = false := beq_eq_false_iff_ne.mpr c5
    have c5b1 : (t317 != 0) = true := bne_iff_ne.mpr c5
    obtain rfl := Option.some.inj H
    go_enter Tryz.func6, Tryz.ntmps6
    go_wp2_with (first | ((with_reducible refine gate_dst (N := 10) rfl ?_); refine Kd.R_lit k44 _ 44 ?hg (N := 10) ?hd (xs := ([(⟨2, 0, (⟨#[]⟩ : ByteArray)⟩ : S44), (⟨10, 0, (⟨#[]⟩ : ByteArray)⟩ : S44)] : List (S44))) (inner := [.int .i64 2, .int .i64 0, .string (⟨#[]⟩ : ByteArray), .int .i64 10, .int .i64 0, .string (⟨#[]⟩ : ByteArray)]) (ok := fun _ => True) (okp := fun _ => True) ?hr ?hp (fun _ hk => hk) trivial (Below.refl _ _) (Nat.le_refl _) (by simp) ?_; (case hd => rfl); (case hg => rfl); (case hr => exact xh); (case hp => exact (Reps.c3 (show Kd.M k44 _ _ _ (⟨2, 0, (⟨#[]⟩ : ByteArray)⟩ : S44) [.int .i64 2, .int .i64 0, .string (⟨#[]⟩ : ByteArray)] from (k44_mkM _ _ _ (⟨2, 0, (⟨#[]⟩ : ByteArray)⟩ : S44) )) (Reps.c3 (show Kd.M k44 _ _ _ (⟨10, 0, (⟨#[]⟩ : ByteArray)⟩ : S44) [.int .i64 10, .int .i64 0, .string (⟨#[]⟩ : ByteArray)] from (k44_mkM _ _ _ (⟨10, 0, (⟨#[]⟩ : ByteArray)⟩ : S44) )) (Reps.none _ _)))); intro v308 w23 ho24 hb hg_ hnew_; clear hg_ hnew_; (first | rw [← Ny307.out] at ho24 | (simp only [Int.reduceToNat] at ho24; rw [← Ny307.out] at ho24)); have HO309 := xy (Kd.R_lower ho24 (below_size xb)); replace HB := xy (below_step xb hb); clear hb ho24) | ((with_reducible refine gate_dst (N := 11) rfl ?_); refine Kd.R_lit Kd.string _ 9 ?hg (N := 11) ?hd (xs := ([(⟨#[97, 98, 99]⟩ : ByteArray)] : List ByteArray)) (inner := [.string (⟨#[97, 98, 99]⟩ : ByteArray)]) (ok := fun _ => True) (okp := fun _ => True) ?hr ?hp (fun _ hk => hk) trivial (Below.refl _ _) (Nat.le_refl _) (by simp) ?_; (case hd => rfl); (case hg => rfl); (case hr => exact xh); (case hp => exact (Reps.one (show Kd.M Kd.string _ _ _ (⟨#[97, 98, 99]⟩ : ByteArray) [.string (⟨#[97, 98, 99]⟩ : ByteArray)] from rfl) (Reps.none _ _))); intro v311 w25 ho26 hb hg_ hnew_; clear hg_ hnew_; (first | rw [← Ny310.out] at ho26 | (simp only [Int.reduceToNat] at ho26; rw [← Ny310.out] at ho26)); replace HO309 := xy (Kd.R_below (xo HO309.out) hb); have HO312 := xy (Kd.R_lower ho26 (below_size xb)); replace HB := xy (below_step xb hb); clear hb ho26; obtain ⟨Ao27, co27, eo27⟩ := Kd.R_slice HO309.out; subst eo27; obtain ⟨Ao28, co28, eo28⟩ := Kd.R_slice HO312.out; subst eo28) | ((with_reducible refine gate_callee (f := 9) rfl ?_); refine goesL_ (some 12) rfl rfl Tryz.func9 (by kernel_rfl) rfl #[.slice Ao27 y307.length co27, .slice Ao28 y310.length co28, .int .i64 5] rfl xr ?_; (with_reducible refine (eval_One.calls k _ _ y307 _ _ y310 5 t313 t314 t315 t316 t317 _ (Tabs.below hT xf) ?side1 ?side2 ?side3 ?side4 A1.out).mono ?_); (case side1 => repeat (first | exact (Kd.R_reads' HO309.out).2.2 | (with_reducible refine Kd.C_alloc ?_ _) | (with_reducible refine Kd.C_drewN ?_ _) | (with_reducible refine Kd.C_drew ?_))); (case side2 => exact (Kd.R_reads' HO309.out).2.1); (case side3 => repeat (first | exact (Kd.R_reads' HO312.out).2.2 | (with_reducible refine Kd.C_alloc ?_ _) | (with_reducible refine Kd.C_drewN ?_ _) | (with_reducible refine Kd.C_drew ?_))); (case side4 => exact (Kd.R_reads' HO312.out).2.1); rintro e w29 ⟨rfl, hb⟩; refine ⟨_, rfl, ?_⟩; replace HO309 := xy (Kd.R_below (xo HO309.out) hb); replace HO312 := xy (Kd.R_below (xo HO312.out) hb); replace HB := xy (below_step xb hb); (try clear hb); (try clear hb2); (try clear hk); (try clear hi)) | ((with_reducible refine gate_dst (N := 1) rfl ?_); refine xq (N := 1) (cs := #[.bool false, .int .i64 0, .string (⟨#[]⟩ : ByteArray)]) (t := 32) ?_; intro gb318 hg w30 hbox hb; replace HO309 := xy (Kd.R_below (xo HO309.out) hb); replace HO312 := xy (Kd.R_below (xo HO312.out) hb); have BK318 := xy (hbox); have GW318 := xs w hg; have GE318 := xs w hg; replace HB := xy (below_step xb hb); clear hb hbox hg; have hcz31_0 : w30.cell? ⟨gb318, 0, none⟩ = some (.bool false) := (kc BK318.out 0).trans rfl; have hcz31_1 : w30.cell? ⟨gb318, 1, none⟩ = some (.int .i64 0) := (kc BK318.out 1).trans rfl; have hcz31_2 : w30.cell? ⟨gb318, 2, none⟩ = some (.string (⟨#[]⟩ : ByteArray)) := (kc BK318.out 2).trans rfl; have hfz31_0 := kf BK318.out 0; have hfz31_1 := kf BK318.out 1; have hfz31_2 := kf BK318.out 2) | ((with_reducible refine gate_dst (N := 18) rfl ?_); refine Kd.R_lit k44 _ 44 ?hg (N := 18) ?hd (xs := ([(⟨2, 0, (⟨#[]⟩ : ByteArray)⟩ : S44)] : List (S44))) (inner := [.int .i64 2, .int .i64 0, .string (⟨#[]⟩ : ByteArray)]) (ok := fun _ => True) (okp := fun _ => True) ?hr ?hp (fun _ hk => hk) trivial (Below.refl _ _) (Nat.le_refl _) (by simp) ?_; (case hd => rfl); (case hg => rfl); (case hr => exact xh); (case hp => exact (Reps.c3 (show Kd.M k44 _ _ _ (⟨2, 0, (⟨#[]⟩ : ByteArray)⟩ : S44) [.int .i64 2, .int .i64 0, .string (⟨#[]⟩ : ByteArray)] from (k44_mkM _ _ _ (⟨2, 0, (⟨#[]⟩ : ByteArray)⟩ : S44) )) (Reps.none _ _))); intro v320 w32 ho33 hb hg_ hnew_; clear hg_ hnew_; (first | rw [← Ny319.out] at ho33 | (simp only [Int.reduceToNat] at ho33; rw [← Ny319.out] at ho33)); replace HO312 := xy (Kd.R_below (by (with_reducible repeat (first | apply Kd.R_alloc | apply Kd.R_drewN | apply Kd.R_drew)); exact (Kd.R_mono (Kd.R_far (p := ⟨gb318, 2, none⟩) (Kd.R_far (p := ⟨gb318, 1, none⟩) (Kd.R_far (p := ⟨gb318, 0, none⟩) (Kd.R_types HO312.out BK318.out (by decide)) (fun _ hk => hk.2) (.bool t313)) (fun _ hk => hk.2) (.int .i64 t314)) (fun _ hk => hk.2) (.string t315)) (fun _ h_ => h_.1))) hb); have HO321 := xy (Kd.R_lower (Kd.R_new' ho33 (Kd.R_lt (by (with_reducible repeat (first | apply Kd.R_alloc | apply Kd.R_drewN | apply Kd.R_drew)); exact (Kd.R_mono (Kd.R_far (p := ⟨gb318, 2, none⟩) (Kd.R_far (p := ⟨gb318, 1, none⟩) (Kd.R_far (p := ⟨gb318, 0, none⟩) (Kd.R_types HO309.out BK318.out (by decide)) (fun _ hk => hk.2) (.bool t313)) (fun _ hk => hk.2) (.int .i64 t314)) (fun _ hk => hk.2) (.string t315)) (fun _ h_ => h_.1))))) (below_size xb)); replace HO309 := xy (Kd.R_elder' (by (with_reducible repeat (first | apply Kd.R_alloc | apply Kd.R_drewN | apply Kd.R_drew)); exact (Kd.R_mono (Kd.R_far (p := ⟨gb318, 2, none⟩) (Kd.R_far (p := ⟨gb318, 1, none⟩) (Kd.R_far (p := ⟨gb318, 0, none⟩) (Kd.R_types HO309.out BK318.out (by decide)) (fun _ hk => hk.2) (.bool t313)) (fun _ hk => hk.2) (.int .i64 t314)) (fun _ hk => hk.2) (.string t315)) (fun _ h_ => h_.1))) (Kd.R_base ho33) hb); replace BK318 := xy (blk_below (g := gb318) (o := .cells #[.bool t313, .int .i64 t314, .string t315] 32 (0, 0)) (kp BK318.out) hb); replace HB := xy (below_step xb hb); clear hb ho33; obtain ⟨Ao34, co34, eo34⟩ := Kd.R_slice HO321.out; subst eo34) | ((with_reducible refine gate_callee (f := 9) rfl ?_); refine goesL_ (some 19) rfl rfl Tryz.func9 (by kernel_rfl) rfl #[.slice Ao34 y319.length co34, .slice none 0 0, .int .i64 0] rfl xr ?_; (refine (eval_One.calls k _ _ y319 _ _ ([] : List ByteArray) 0 t322 t323 t324 t325 t326 _ (Tabs.below hT xf) ?side1 ?side2 ?side3 ?side4 A2.out).mono ?_); (case side1 => repeat (first | exact (Kd.R_reads' HO321.out).2.2 | (with_reducible refine Kd.C_alloc ?_ _) | (with_reducible refine Kd.C_drewN ?_ _) | (with_reducible refine Kd.C_drew ?_))); (case side2 => exact (Kd.R_reads' HO321.out).2.1); (case side3 => exact Kd.C_nil _ _); (case side4 => exact Nat.le_refl _); rintro e w35 ⟨rfl, hb⟩; refine ⟨_, rfl, ?_⟩; replace HO309 := xy (Kd.R_below (xo HO309.out) hb); replace HO312 := xy (Kd.R_below (xo HO312.out) hb); replace HO321 := xy (Kd.R_below (xo HO321.out) hb); replace BK318 := xd BK318.out hb; replace HB := xy (below_step xb hb); (try clear hb); (try clear hb2); (try clear hk); (try clear hi)) | ((with_reducible refine gate_dst (N := 4) rfl ?_); refine xq (N := 4) (cs := #[.bool false, .int .i64 0, .string (⟨#[]⟩ : ByteArray)]) (t := 32) ?_; intro gb327 hg w36 hbox hb; replace HO309 := xy (Kd.R_below (xo HO309.out) hb); replace HO312 := xy (Kd.R_below (xo HO312.out) hb); replace HO321 := xy (Kd.R_below (xo HO321.out) hb); have BK327 := xy (hbox); have GW327 := xs w hg; have GE327 := xs w hg; replace HB := xy (below_step xb hb); have NB318_327 := xn hg BK318.out; have NB327_318 := xp hg BK318.out; replace BK318 := xd BK318.out hb; clear hb hbox hg; have hnb37 := NB327_318.out; have hnc37 := NB318_327.out; have hcz38_0 : w36.cell? ⟨gb327, 0, none⟩ = some (.bool false) := (kc BK327.out 0).trans rfl; have hcz38_1 : w36.cell? ⟨gb327, 1, none⟩ = some (.int .i64 0) := (kc BK327.out 1).trans rfl; have hcz38_2 : w36.cell? ⟨gb327, 2, none⟩ = some (.string (⟨#[]⟩ : ByteArray)) := (kc BK327.out 2).trans rfl; have hfz38_0 := kf BK327.out 0; have hfz38_1 := kf BK327.out 1; have hfz38_2 := kf BK327.out 2; have hcz39_0 : w36.cell? ⟨gb318, 0, none⟩ = some (.bool t313) := (kc BK318.out 0).trans rfl; have hcz39_1 : w36.cell? ⟨gb318, 1, none⟩ = some (.int .i64 t314) := (kc BK318.out 1).trans rfl; have hcz39_2 : w36.cell? ⟨gb318, 2, none⟩ = some (.string t315) := (kc BK318.out 2).trans rfl; have hfz39_0 := kf BK318.out 0; have hfz39_1 := kf BK318.out 1; have hfz39_2 := kf BK318.out 2))
    go_ret
    exact ⟨xe, xb⟩
  ·rw [if_neg c4] at H
   have c4b0 : (t316 == 3) = false := beq_eq_false_iff_ne.mpr c4
   have c4b1 : (t316 != 3) = true := bne_iff_ne.mpr c4
   obtain rfl := Option.some.inj H
   go_enter Tryz.func6, Tryz.ntmps6
   go_wp2_with (first | ((with_reducible refine gate_dst (N := 10) rfl ?_); refine Kd.R_lit k44 _ 44 ?hg (N := 10) ?hd (xs := ([(⟨2, 0, (⟨#[]⟩ : ByteArray)⟩ : S44), (⟨10, 0, (⟨#[]⟩ : ByteArray)⟩ : S44)] : List (S44))) (inner := [.int .i64 2, .int .i64 0, .string (⟨#[]⟩ : ByteArray), .int .i64 10, .int .i64 0, .string (⟨#[]⟩ : ByteArray)]) (ok := fun _ => True) (okp := fun _ => True) ?hr ?hp (fun _ hk => hk) trivial (Below.refl _ _) (Nat.le_refl _) (by simp) ?_; (case hd => rfl); (case hg => rfl); (case hr => exact xh); (case hp => exact (Reps.c3 (show Kd.M k44 _ _ _ (⟨2, 0, (⟨#[]⟩ : ByteArray)⟩ : S44) [.int .i64 2, .int .i64 0, .string (⟨#[]⟩ : ByteArray)] from (k44_mkM _ _ _ (⟨2, 0, (⟨#[]⟩ : ByteArray)⟩ : S44) )) (Reps.c3 (show Kd.M k44 _ _ _ (⟨10, 0, (⟨#[]⟩ : ByteArray)⟩ : S44) [.int .i64 10, .int .i64 0, .string (⟨#[]⟩ : ByteArray)] from (k44_mkM _ _ _ (⟨10, 0, (⟨#[]⟩ : ByteArray)⟩ : S44) )) (Reps.none _ _)))); intro v308 w40 ho41 hb hg_ hnew_; clear hg_ hnew_; (first | rw [← Ny307.out] at ho41 | (simp only [Int.reduceToNat] at ho41; rw [← Ny307.out] at ho41)); have HO309 := xy (Kd.R_lower ho41 (below_size xb)); replace HB := xy (below_step xb hb); clear hb ho41) | ((with_reducible refine gate_dst (N := 11) rfl ?_); refine Kd.R_lit Kd.string _ 9 ?hg (N := 11) ?hd (xs := ([(⟨#[97, 98, 99]⟩ : ByteArray)] : List ByteArray)) (inner := [.string (⟨#[97, 98, 99]⟩ : ByteArray)]) (ok := fun _ => True) (okp := fun _ => True) ?hr ?hp (fun _ hk => hk) trivial (Below.refl _ _) (Nat.le_refl _) (by simp) ?_; (case hd => rfl); (case hg => rfl); (case hr => exact xh); (case hp => exact (Reps.one (show Kd.M Kd.string _ _ _ (⟨#[97, 98, 99]⟩ : ByteArray) [.string (⟨#[97, 98, 99]⟩ : ByteArray)] from rfl) (Reps.none _ _))); intro v311 w42 ho43 hb hg_ hnew_; clear hg_ hnew_; (first | rw [← Ny310.out] at ho43 | (simp only [Int.reduceToNat] at ho43; rw [← Ny310.out] at ho43)); replace HO309 := xy (Kd.R_below (xo HO309.out) hb); have HO312 := xy (Kd.R_lower ho43 (below_size xb)); replace HB := xy (below_step xb hb); clear hb ho43; obtain ⟨Ao44, co44, eo44⟩ := Kd.R_slice HO309.out; subst eo44; obtain ⟨Ao45, co45, eo45⟩ := Kd.R_slice HO312.out; subst eo45) | ((with_reducible refine gate_callee (f := 9) rfl ?_); refine goesL_ (some 12) rfl rfl Tryz.func9 (by kernel_rfl) rfl #[.slice Ao44 y307.length co44, .slice Ao45 y310.length co45, .int .i64 5] rfl xr ?_; (with_reducible refine (eval_One.calls k _ _ y307 _ _ y310 5 t313 t314 t315 t316 t317 _ (Tabs.below hT xf) ?side1 ?side2 ?side3 ?side4 A1.out).mono ?_); (case side1 => repeat (first | exact (Kd.R_reads' HO309.out).2.2 | (with_reducible refine Kd.C_alloc ?_ _) | (with_reducible refine Kd.C_drewN ?_ _) | (with_reducible refine Kd.C_drew ?_))); (case side2 => exact (Kd.R_reads' HO309.out).2.1); (case side3 => repeat (first | exact (Kd.R_reads' HO312.out).2.2 | (with_reducible refine Kd.C_alloc ?_ _) | (with_reducible refine Kd.C_drewN ?_ _) | (with_reducible refine Kd.C_drew ?_))); (case side4 => exact (Kd.R_reads' HO312.out).2.1); rintro e w46 ⟨rfl, hb⟩; refine ⟨_, rfl, ?_⟩; replace HO309 := xy (Kd.R_below (xo HO309.out) hb); replace HO312 := xy (Kd.R_below (xo HO312.out) hb); replace HB := xy (below_step xb hb); (try clear hb); (try clear hb2); (try clear hk); (try clear hi)) | ((with_reducible refine gate_dst (N := 1) rfl ?_); refine xq (N := 1) (cs := #[.bool false, .int .i64 0, .string (⟨#[]⟩ : ByteArray)]) (t := 32) ?_; intro gb318 hg w47 hbox hb; replace HO309 := xy (Kd.R_below (xo HO309.out) hb); replace HO312 := xy (Kd.R_below (xo HO312.out) hb); have BK318 := xy (hbox); have GW318 := xs w hg; have GE318 := xs w hg; replace HB := xy (below_step xb hb); clear hb hbox hg; have hcz48_0 : w47.cell? ⟨gb318, 0, none⟩ = some (.bool false) := (kc BK318.out 0).trans rfl; have hcz48_1 : w47.cell? ⟨gb318, 1, none⟩ = some (.int .i64 0) := (kc BK318.out 1).trans rfl; have hcz48_2 : w47.cell? ⟨gb318, 2, none⟩ = some (.string (⟨#[]⟩ : ByteArray)) := (kc BK318.out 2).trans rfl; have hfz48_0 := kf BK318.out 0; have hfz48_1 := kf BK318.out 1; have hfz48_2 := kf BK318.out 2) | ((with_reducible refine gate_dst (N := 18) rfl ?_); refine Kd.R_lit k44 _ 44 ?hg (N := 18) ?hd (xs := ([(⟨2, 0, (⟨#[]⟩ : ByteArray)⟩ : S44)] : List (S44))) (inner := [.int .i64 2, .int .i64 0, .string (⟨#[]⟩ : ByteArray)]) (ok := fun _ => True) (okp := fun _ => True) ?hr ?hp (fun _ hk => hk) trivial (Below.refl _ _) (Nat.le_refl _) (by simp) ?_; (case hd => rfl); (case hg => rfl); (case hr => exact xh); (case hp => exact (Reps.c3 (show Kd.M k44 _ _ _ (⟨2, 0, (⟨#[]⟩ : ByteArray)⟩ : S44) [.int .i64 2, .int .i64 0, .string (⟨#[]⟩ : ByteArray)] from (k44_mkM _ _ _ (⟨2, 0, (⟨#[]⟩ : ByteArray)⟩ : S44) )) (Reps.none _ _))); intro v320 w49 ho50 hb hg_ hnew_; clear hg_ hnew_; (first | rw [← Ny319.out] at ho50 | (simp only [Int.reduceToNat] at ho50; rw [← Ny319.out] at ho50)); replace HO312 := xy (Kd.R_below (by (with_reducible repeat (first | apply Kd.R_alloc | apply Kd.R_drewN | apply Kd.R_drew)); exact (Kd.R_mono (Kd.R_far (p := ⟨gb318, 2, none⟩) (Kd.R_far (p := ⟨gb318, 1, none⟩) (Kd.R_far (p := ⟨gb318, 0, none⟩) (Kd.R_types HO312.out BK318.out (by decide)) (fun _ hk => hk.2) (.bool t313)) (fun _ hk => hk.2) (.int .i64 t314)) (fun _ hk => hk.2) (.string t315)) (fun _ h_ => h_.1))) hb); have HO321 := xy (Kd.R_lower (Kd.R_new' ho50 (Kd.R_lt (by (with_reducible repeat (first | apply Kd.R_alloc | apply Kd.R_drewN | apply Kd.R_drew)); exact (Kd.R_mono (Kd.R_far (p := ⟨gb318, 2, none⟩) (Kd.R_far (p := ⟨gb318, 1, none⟩) (Kd.R_far (p := ⟨gb318, 0, none⟩) (Kd.R_types HO309.out BK318.out (by decide)) (fun _ hk => hk.2) (.bool t313)) (fun _ hk => hk.2) (.int .i64 t314)) (fun _ hk => hk.2) (.string t315)) (fun _ h_ => h_.1))))) (below_size xb)); replace HO309 := xy (Kd.R_elder' (by (with_reducible repeat (first | apply Kd.R_alloc | apply Kd.R_drewN | apply Kd.R_drew)); exact (Kd.R_mono (Kd.R_far (p := ⟨gb318, 2, none⟩) (Kd.R_far (p := ⟨gb318, 1, none⟩) (Kd.R_far (p := ⟨gb318, 0, none⟩) (Kd.R_types HO309.out BK318.out (by decide)) (fun _ hk => hk.2) (.bool t313)) (fun _ hk => hk.2) (.int .i64 t314)) (fun _ hk => hk.2) (.string t315)) (fun _ h_ => h_.1))) (Kd.R_base ho50) hb); replace BK318 := xy (blk_below (g := gb318) (o := .cells #[.bool t313, .int .i64 t314, .string t315] 32 (0, 0)) (kp BK318.out) hb); replace HB := xy (below_step xb hb); clear hb ho50; obtain ⟨Ao51, co51, eo51⟩ := Kd.R_slice HO321.out; subst eo51) | ((with_reducible refine gate_callee (f := 9) rfl ?_); refine goesL_ (some 19) rfl rfl Tryz.func9 (by kernel_rfl) rfl #[.slice Ao51 y319.length co51, .slice none 0 0, .int .i64 0] rfl xr ?_; (refine (eval_One.calls k _ _ y319 _ _ ([] : List ByteArray) 0 t322 t323 t324 t325 t326 _ (Tabs.below hT xf) ?side1 ?side2 ?side3 ?side4 A2.out).mono ?_); (case side1 => repeat (first | exact (Kd.R_reads' HO321.out).2.2 | (with_reducible refine Kd.C_alloc ?_ _) | (with_reducible refine Kd.C_drewN ?_ _) | (with_reducible refine Kd.C_drew ?_))); (case side2 => exact (Kd.R_reads' HO321.out).2.1); (case side3 => exact Kd.C_nil _ _); (case side4 => exact Nat.le_refl _); rintro e w52 ⟨rfl, hb⟩; refine ⟨_, rfl, ?_⟩; replace HO309 := xy (Kd.R_below (xo HO309.out) hb); replace HO312 := xy (Kd.R_below (xo HO312.out) hb); replace HO321 := xy (Kd.R_below (xo HO321.out) hb); replace BK318 := xd BK318.out hb; replace HB := xy (below_step xb hb); (try clear hb); (try clear hb2); (try clear hk); (try clear hi)) | ((with_reducible refine gate_dst (N := 4) rfl ?_); refine xq (N := 4) (cs := #[.bool false, .int .i64 0, .string (⟨#[]⟩ : ByteArray)]) (t := 32) ?_; intro gb327 hg w53 hbox hb; replace HO309 := xy (Kd.R_below (xo HO309.out) hb); replace HO312 := xy (Kd.R_below (xo HO312.out) hb); replace HO321 := xy (Kd.R_below (xo HO321.out) hb); have BK327 := xy (hbox); have GW327 := xs w hg; have GE327 := xs w hg; replace HB := xy (below_step xb hb); have NB318_327 := xn hg BK318.out; have NB327_318 := xp hg BK318.out; replace BK318 := xd BK318.out hb; clear hb hbox hg; have hnb54 := NB327_318.out; have hnc54 := NB318_327.out; have hcz55_0 : w53.cell? ⟨gb327, 0, none⟩ = some (.bool false) := (kc BK327.out 0).trans rfl; have hcz55_1 : w53.cell? ⟨gb327, 1, none⟩ = some (.int .i64 0) := (kc BK327.out 1).trans rfl; have hcz55_2 : w53.cell? ⟨gb327, 2, none⟩ = some (.string (⟨#[]⟩ : ByteArray)) := (kc BK327.out 2).trans rfl; have hfz55_0 := kf BK327.out 0; have hfz55_1 := kf BK327.out 1; have hfz55_2 := kf BK327.out 2; have hcz56_0 : w53.cell? ⟨gb318, 0, none⟩ = some (.bool t313) := (kc BK318.out 0).trans rfl; have hcz56_1 : w53.cell? ⟨gb318, 1, none⟩ = some (.int .i64 t314) := (kc BK318.out 1).trans rfl; have hcz56_2 : w53.cell? ⟨gb318, 2, none⟩ = some (.string t315) := (kc BK318.out 2).trans rfl; have hfz56_0 := kf BK318.out 0; have hfz56_1 := kf BK318.out 1; have hfz56_2 := kf BK318.out 2))
   go_ret
   exact ⟨xe, xb⟩
 ·rw [if_neg c3] at H
  have c3b0 : (t314 == 3) = false := beq_eq_false_iff_ne.mpr c3
  have c3b1 : (t314 != 3) = true := bne_iff_ne.mpr c3
  obtain rfl := Option.some.inj H
  go_enter Tryz.func6, Tryz.ntmps6
  go_wp2_with (first | ((with_reducible refine gate_dst (N := 10) rfl ?_); refine Kd.R_lit k44 _ 44 ?hg (N := 10) ?hd (xs := ([(⟨2, 0, (⟨#[]⟩ : ByteArray)⟩ : S44), (⟨10, 0, (⟨#[]⟩ : ByteArray)⟩ : S44)] : List (S44))) (inner := [.int .i64 2, .int .i64 0, .string (⟨#[]⟩ : ByteArray), .int .i64 10, .int .i64 0, .string (⟨#[]⟩ : ByteArray)]) (ok := fun _ => True) (okp := fun _ => True) ?hr ?hp (fun _ hk => hk) trivial (Below.refl _ _) (Nat.le_refl _) (by simp) ?_; (case hd => rfl); (case hg => rfl); (case hr => exact xh); (case hp => exact (Reps.c3 (show Kd.M k44 _ _ _ (⟨2, 0, (⟨#[]⟩ : ByteArray)⟩ : S44) [.int .i64 2, .int .i64 0, .string (⟨#[]⟩ : ByteArray)] from (k44_mkM _ _ _ (⟨2, 0, (⟨#[]⟩ : ByteArray)⟩ : S44) )) (Reps.c3 (show Kd.M k44 _ _ _ (⟨10, 0, (⟨#[]⟩ : ByteArray)⟩ : S44) [.int .i64 10, .int .i64 0, .string (⟨#[]⟩ : ByteArray)] from (k44_mkM _ _ _ (⟨10, 0, (⟨#[]⟩ : ByteArray)⟩ : S44) )) (Reps.none _ _)))); intro v308 w57 ho58 hb hg_ hnew_; clear hg_ hnew_; (first | rw [← Ny307.out] at ho58 | (simp only [Int.reduceToNat] at ho58; rw [← Ny307.out] at ho58)); have HO309 := xy (Kd.R_lower ho58 (below_size xb)); replace HB := xy (below_step xb hb); clear hb ho58) | ((with_reducible refine gate_dst (N := 11) rfl ?_); refine Kd.R_lit Kd.string _ 9 ?hg (N := 11) ?hd (xs := ([(⟨#[97, 98, 99]⟩ : ByteArray)] : List ByteArray)) (inner := [.string (⟨#[97, 98, 99]⟩ : ByteArray)]) (ok := fun _ => True) (okp := fun _ => True) ?hr ?hp (fun _ hk => hk) trivial (Below.refl _ _) (Nat.le_refl _) (by simp) ?_; (case hd => rfl); (case hg => rfl); (case hr => exact xh); (case hp => exact (Reps.one (show Kd.M Kd.string _ _ _ (⟨#[97, 98, 99]⟩ : ByteArray) [.string (⟨#[97, 98, 99]⟩ : ByteArray)] from rfl) (Reps.none _ _))); intro v311 w59 ho60 hb hg_ hnew_; clear hg_ hnew_; (first | rw [← Ny310.out] at ho60 | (simp only [Int.reduceToNat] at ho60; rw [← Ny310.out] at ho60)); replace HO309 := xy (Kd.R_below (xo HO309.out) hb); have HO312 := xy (Kd.R_lower ho60 (below_size xb)); replace HB := xy (below_step xb hb); clear hb ho60; obtain ⟨Ao61, co61, eo61⟩ := Kd.R_slice HO309.out; subst eo61; obtain ⟨Ao62, co62, eo62⟩ := Kd.R_slice HO312.out; subst eo62) | ((with_reducible refine gate_callee (f := 9) rfl ?_); refine goesL_ (some 12) rfl rfl Tryz.func9 (by kernel_rfl) rfl #[.slice Ao61 y307.length co61, .slice Ao62 y310.length co62, .int .i64 5] rfl xr ?_; (with_reducible refine (eval_One.calls k _ _ y307 _ _ y310 5 t313 t314 t315 t316 t317 _ (Tabs.below hT xf) ?side1 ?side2 ?side3 ?side4 A1.out).mono ?_); (case side1 => repeat (first | exact (Kd.R_reads' HO309.out).2.2 | (with_reducible refine Kd.C_alloc ?_ _) | (with_reducible refine Kd.C_drewN ?_ _) | (with_reducible refine Kd.C_drew ?_))); (case side2 => exact (Kd.R_reads' HO309.out).2.1); (case side3 => repeat (first | exact (Kd.R_reads' HO312.out).2.2 | (with_reducible refine Kd.C_alloc ?_ _) | (with_reducible refine Kd.C_drewN ?_ _) | (with_reducible refine Kd.C_drew ?_))); (case side4 => exact (Kd.R_reads' HO312.out).2.1); rintro e w63 ⟨rfl, hb⟩; refine ⟨_, rfl, ?_⟩; replace HO309 := xy (Kd.R_below (xo HO309.out) hb); replace HO312 := xy (Kd.R_below (xo HO312.out) hb); replace HB := xy (below_step xb hb); (try clear hb); (try clear hb2); (try clear hk); (try clear hi)) | ((with_reducible refine gate_dst (N := 1) rfl ?_); refine xq (N := 1) (cs := #[.bool false, .int .i64 0, .string (⟨#[]⟩ : ByteArray)]) (t := 32) ?_; intro gb318 hg w64 hbox hb; replace HO309 := xy (Kd.R_below (xo HO309.out) hb); replace HO312 := xy (Kd.R_below (xo HO312.out) hb); have BK318 := xy (hbox); have GW318 := xs w hg; have GE318 := xs w hg; replace HB := xy (below_step xb hb); clear hb hbox hg; have hcz65_0 : w64.cell? ⟨gb318, 0, none⟩ = some (.bool false) := (kc BK318.out 0).trans rfl; have hcz65_1 : w64.cell? ⟨gb318, 1, none⟩ = some (.int .i64 0) := (kc BK318.out 1).trans rfl; have hcz65_2 : w64.cell? ⟨gb318, 2, none⟩ = some (.string (⟨#[]⟩ : ByteArray)) := (kc BK318.out 2).trans rfl; have hfz65_0 := kf BK318.out 0; have hfz65_1 := kf BK318.out 1; have hfz65_2 := kf BK318.out 2) | ((with_reducible refine gate_dst (N := 18) rfl ?_); refine Kd.R_lit k44 _ 44 ?hg (N := 18) ?hd (xs := ([(⟨2, 0, (⟨#[]⟩ : ByteArray)⟩ : S44)] : List (S44))) (inner := [.int .i64 2, .int .i64 0, .string (⟨#[]⟩ : ByteArray)]) (ok := fun _ => True) (okp := fun _ => True) ?hr ?hp (fun _ hk => hk) trivial (Below.refl _ _) (Nat.le_refl _) (by simp) ?_; (case hd => rfl); (case hg => rfl); (case hr => exact xh); (case hp => exact (Reps.c3 (show Kd.M k44 _ _ _ (⟨2, 0, (⟨#[]⟩ : ByteArray)⟩ : S44) [.int .i64 2, .int .i64 0, .string (⟨#[]⟩ : ByteArray)] from (k44_mkM _ _ _ (⟨2, 0, (⟨#[]⟩ : ByteArray)⟩ : S44) )) (Reps.none _ _))); intro v320 w66 ho67 hb hg_ hnew_; clear hg_ hnew_; (first | rw [← Ny319.out] at ho67 | (simp only [Int.reduceToNat] at ho67; rw [← Ny319.out] at ho67)); replace HO312 := xy (Kd.R_below (by (with_reducible repeat (first | apply Kd.R_alloc | apply Kd.R_drewN | apply Kd.R_drew)); exact (Kd.R_mono (Kd.R_far (p := ⟨gb318, 2, none⟩) (Kd.R_far (p := ⟨gb318, 1, none⟩) (Kd.R_far (p := ⟨gb318, 0, none⟩) (Kd.R_types HO312.out BK318.out (by decide)) (fun _ hk => hk.2) (.bool t313)) (fun _ hk => hk.2) (.int .i64 t314)) (fun _ hk => hk.2) (.string t315)) (fun _ h_ => h_.1))) hb); have HO321 := xy (Kd.R_lower (Kd.R_new' ho67 (Kd.R_lt (by (with_reducible repeat (first | apply Kd.R_alloc | apply Kd.R_drewN | apply Kd.R_drew)); exact (Kd.R_mono (Kd.R_far (p := ⟨gb318, 2, none⟩) (Kd.R_far (p := ⟨gb318, 1, none⟩) (Kd.R_far (p := ⟨gb318, 0, none⟩) (Kd.R_types HO309.out BK318.out (by decide)) (fun _ hk => hk.2) (.bool t313)) (fun _ hk => hk.2) (.int .i64 t314)) (fun _ hk => hk.2) (.string t315)) (fun _ h_ => h_.1))))) (below_size xb)); replace HO309 := xy (Kd.R_elder' (by (with_reducible repeat (first | apply Kd.R_alloc | apply Kd.R_drewN | apply Kd.R_drew)); exact (Kd.R_mono (Kd.R_far (p := ⟨gb318, 2, none⟩) (Kd.R_far (p := ⟨gb318, 1, none⟩) (Kd.R_far (p := ⟨gb318, 0, none⟩) (Kd.R_types HO309.out BK318.out (by decide)) (fun _ hk => hk.2) (.bool t313)) (fun _ hk => hk.2) (.int .i64 t314)) (fun _ hk => hk.2) (.string t315)) (fun _ h_ => h_.1))) (Kd.R_base ho67) hb); replace BK318 := xy (blk_below (g := gb318) (o := .cells #[.bool t313, .int .i64 t314, .string t315] 32 (0, 0)) (kp BK318.out) hb); replace HB := xy (below_step xb hb); clear hb ho67; obtain ⟨Ao68, co68, eo68⟩ := Kd.R_slice HO321.out; subst eo68) | ((with_reducible refine gate_callee (f := 9) rfl ?_); refine goesL_ (some 19) rfl rfl Tryz.func9 (by kernel_rfl) rfl #[.slice Ao68 y319.length co68, .slice none 0 0, .int .i64 0] rfl xr ?_; (refine (eval_One.calls k _ _ y319 _ _ ([] : List ByteArray) 0 t322 t323 t324 t325 t326 _ (Tabs.below hT xf) ?side1 ?side2 ?side3 ?side4 A2.out).mono ?_); (case side1 => repeat (first | exact (Kd.R_reads' HO321.out).2.2 | (with_reducible refine Kd.C_alloc ?_ _) | (with_reducible refine Kd.C_drewN ?_ _) | (with_reducible refine Kd.C_drew ?_))); (case side2 => exact (Kd.R_reads' HO321.out).2.1); (case side3 => exact Kd.C_nil _ _); (case side4 => exact Nat.le_refl _); rintro e w69 ⟨rfl, hb⟩; refine ⟨_, rfl, ?_⟩; replace HO309 := xy (Kd.R_below (xo HO309.out) hb); replace HO312 := xy (Kd.R_below (xo HO312.out) hb); replace HO321 := xy (Kd.R_below (xo HO321.out) hb); replace BK318 := xd BK318.out hb; replace HB := xy (below_step xb hb); (try clear hb); (try clear hb2); (try clear hk); (try clear hi)) | ((with_reducible refine gate_dst (N := 4) rfl ?_); refine xq (N := 4) (cs := #[.bool false, .int .i64 0, .string (⟨#[]⟩ : ByteArray)]) (t := 32) ?_; intro gb327 hg w70 hbox hb; replace HO309 := xy (Kd.R_below (xo HO309.out) hb); replace HO312 := xy (Kd.R_below (xo HO312.out) hb); replace HO321 := xy (Kd.R_below (xo HO321.out) hb); have BK327 := xy (hbox); have GW327 := xs w hg; have GE327 := xs w hg; replace HB := xy (below_step xb hb); have NB318_327 := xn hg BK318.out; have NB327_318 := xp hg BK318.out; replace BK318 := xd BK318.out hb; clear hb hbox hg; have hnb71 := NB327_318.out; have hnc71 := NB318_327.out; have hcz72_0 : w70.cell? ⟨gb327, 0, none⟩ = some (.bool false) := (kc BK327.out 0).trans rfl; have hcz72_1 : w70.cell? ⟨gb327, 1, none⟩ = some (.int .i64 0) := (kc BK327.out 1).trans rfl; have hcz72_2 : w70.cell? ⟨gb327, 2, none⟩ = some (.string (⟨#[]⟩ : ByteArray)) := (kc BK327.out 2).trans rfl; have hfz72_0 := kf BK327.out 0; have hfz72_1 := kf BK327.out 1; have hfz72_2 := kf BK327.out 2; have hcz73_0 : w70.cell? ⟨gb318, 0, none⟩ = some (.bool t313) := (kc BK318.out 0).trans rfl; have hcz73_1 : w70.cell? ⟨gb318, 1, none⟩ = some (.int .i64 t314) := (kc BK318.out 1).trans rfl; have hcz73_2 : w70.cell? ⟨gb318, 2, none⟩ = some (.string t315) := (kc BK318.out 2).trans rfl; have hfz73_0 := kf BK318.out 0; have hfz73_1 := kf BK318.out 1; have hfz73_2 := kf BK318.out 2))
  go_ret
  exact ⟨xe, xb⟩
def slices_Equal_bool_bool.l0 : Nat → List Bool → List Bool → Int → Int → Option (Bool)
 | 0, _, _, _, _ => none
 | k + 1, x0, x1, x12, x13 => if x13 < x12 then (if 0 ≤ x13 then (if x13 < (x0.length : Int) then (if x13 < (x1.length : Int) then (if ((rdOf false x0 x13) != (rdOf false x1 x13)) = true then (some false) else (slices_Equal_bool_bool.l0 k x0 x1 x12 (wrap64 (x13 + 1)))) else (none)) else (none)) else (none)) else (some true)
def slices_Equal_bool_bool.f (k : Nat) (l0 : List Bool) (l1 : List Bool) : Option (Bool) := if (l0.length : Int) = (l1.length : Int) then (slices_Equal_bool_bool.l0 k l0 l1 (l0.length : Int) 0) else (some false)
theorem slices_Equal_bool_bool.mono_l : ∀ k, (∀ y0 y1 y2 y3, LeO (slices_Equal_bool_bool.l0 k y0 y1 y2 y3) (slices_Equal_bool_bool.l0 (k + 1) y0 y1 y2 y3))
 | 0 => fun _ _ _ _ r h => by simp [slices_Equal_bool_bool.l0] at h
 | k + 1 => by
  have ih0 := slices_Equal_bool_bool.mono_l k
  ·intro y0 y1 y2 y3
   unfold slices_Equal_bool_bool.l0
   repeat' (with_reducible first | exact ih0 _ _ _ _ | exact LeO.refl _ | exact LeO.none _ | refine LeO.ite ?_ ?_ | refine LeO.bind ?_ (fun _ => ?_))
theorem slices_Equal_bool_bool.mono : ∀ a0 a1 k, LeO (slices_Equal_bool_bool.f k a0 a1) (slices_Equal_bool_bool.f (k + 1) a0 a1) := by
 intro a0 a1 k
 have ih0 := slices_Equal_bool_bool.mono_l k
 unfold slices_Equal_bool_bool.f
 repeat' (with_reducible first | exact ih0 _ _ _ _ | exact LeO.refl _ | exact LeO.none _ | refine LeO.ite ?_ ?_ | refine LeO.bind ?_ (fun _ => ?_))
set_option maxHeartbeats 8000000 in
set_option maxRecDepth 100000 in
theorem slices_Equal_bool_bool.calls (k : Nat) (A0 : Option Addr) (c0 : Nat) (l0 : List Bool) (A1 : Option Addr) (c1 : Nat) (l1 : List Bool) (r : Bool) (w : World) (hT : Tabs w) (hr0 : Kd.C Kd.bool w A0 l0.length l0) (hc0 : l0.length ≤ c0) (hr1 : Kd.C Kd.bool w A1 l1.length l1) (hc1 : l1.length ≤ c1) (h : slices_Equal_bool_bool.f k l0 l1 = some r) :
  Calls Tryz.prog 34 #[.slice A0 l0.length c0, .slice A1 l1.length c1] w fun e w' => e = .returned (.bool r) ∧ Drawn0 w w' := by
 have HR0 := xy hr0
 have HC0 := xy hc0
 clear hr0 hc0
 have HR1 := xy hr1
 have HC1 := xy hc1
 clear hr1 hc1
 unfold slices_Equal_bool_bool.f at h
 have H := h
 clear h
 by_cases c3 : (l0.length : Int) = (l1.length : Int)
 ·rw [if_pos c3] at H
  have c3b0 : ((l0.length : Int) == (l1.length : Int)) = true := beq_iff_eq.mpr c3
  have c3b1 : ((l0.length : Int) != (l1.length : Int)) = false := bne_eq_false_iff_eq.mpr c3
  have c3b2 : (l0.length == l1.length) = true := by first | simpa using c3 | (simp at c3 ⊢; omega)
  clear c3
  have H' := xy H
  clear H
  go_enter Tryz.func34, Tryz.ntmps34
  go_wp2
  repeat (go_quiet (fail); try go_wp2)
  go_loopg [13] k (fun kq v13 w' => ∃ (x13_1 : Int), v13 = .int .i64 x13_1 ∧ Aside0 (slices_Equal_bool_bool.l0 kq l0 l1 (l0.length : Int) x13_1 = some r) ∧ Aside0 (kq ≤ k) ∧ Drawn0 w w')
  case atStart => exact ⟨(0), xg, H', ⟨Nat.le_refl _⟩, by repeat (first | exact Drawn0.refl _ | apply Drawn0.step)⟩
  case round =>
   clear H'
   try clear c1
   try clear p2
   try clear c3
   try clear c3b0
   try clear c3b1
   try clear c3b2
   obtain ⟨x13_1, rfl, HA, HK1, ⟨m1, rfl⟩⟩ := hrel
   cases gk with
   | zero => exact absurd HA.out (by simp [slices_Equal_bool_bool.l0])
   | succ k1 =>
    have H := HA.out
    clear HA
    simp only [slices_Equal_bool_bool.l0] at H
    by_cases c4 : x13_1 < (l0.length : Int)
    ·rw [if_pos c4] at H
     have c4b0 : decide (x13_1 < (l0.length : Int)) = true := decide_eq_true c4
     clear c4
     by_cases c5 : 0 ≤ x13_1
     ·rw [if_pos c5] at H
      have c5b0 : decide (0 ≤ x13_1) = true := decide_eq_true c5
      clear c5
      by_cases c6 : x13_1 < (l0.length : Int)
      ·rw [if_pos c6] at H
       have c6b0 : decide (x13_1 < (l0.length : Int)) = true := decide_eq_true c6
       clear c6
       by_cases c7 : x13_1 < (l1.length : Int)
       ·rw [if_pos c7] at H
        have c7b0 : decide (x13_1 < (l1.length : Int)) = true := decide_eq_true c7
        clear c7
        by_cases c8 : ((rdOf false l0 x13_1) != (rdOf false l1 x13_1)) = true
        ·rw [if_pos c8] at H
         have c8b0 : ((rdOf false l0 x13_1) != (rdOf false l1 x13_1)) = true := c8
         (try (have c8b1 : decide ((rdOf false l0 x13_1) = (rdOf false l1 x13_1)) = false := by simpa using c8))
         (try (have c8b2 : ((rdOf false l0 x13_1) == (rdOf false l1 x13_1)) = false := by simpa using c8))
         (try (have c8b3 : ¬ ((rdOf false l0 x13_1) = (rdOf false l1 x13_1)) := by simpa using c8))
         clear c8
         obtain rfl := Option.some.inj H
         have p328 : 0 ≤ (x13_1 : Int) := xi
         have q328 : x13_1 < (l0.length : Int) := xi
         obtain ⟨ad328, e328, hx328_0⟩ := Kd.at_bool HR0.out x13_1 p328 q328
         cases e328
         replace p328 := eq_true p328
         replace q328 := eq_true q328
         have p329 : 0 ≤ (x13_1 : Int) := xi
         have q329 : x13_1 < (l1.length : Int) := xi
         obtain ⟨ad329, e329, hx329_0⟩ := Kd.at_bool HR1.out x13_1 p329 q329
         cases e329
         replace p329 := eq_true p329
         replace q329 := eq_true q329
         go_wp2
         repeat (go_quiet (fail); try go_wp2)
         go_ret
         exact ⟨xg, xz⟩
        ·rw [if_neg c8] at H
         have c8b0 : ((rdOf false l0 x13_1) != (rdOf false l1 x13_1)) = false := by simpa using c8
         (try (have c8b1 : decide ((rdOf false l0 x13_1) = (rdOf false l1 x13_1)) = true := by simpa using c8))
         (try (have c8b2 : ((rdOf false l0 x13_1) == (rdOf false l1 x13_1)) = true := by simpa using c8))
         clear c8
         have H' := xy H
         clear H
         have p328 : 0 ≤ (x13_1 : Int) := xi
         have q328 : x13_1 < (l0.length : Int) := xi
         obtain ⟨ad328, e328, hx328_0⟩ := Kd.at_bool HR0.out x13_1 p328 q328
         cases e328
         replace p328 := eq_true p328
         replace q328 := eq_true q328
         have p329 : 0 ≤ (x13_1 : Int) := xi
         have q329 : x13_1 < (l1.length : Int) := xi
         obtain ⟨ad329, e329, hx329_0⟩ := Kd.at_bool HR1.out x13_1 p329 q329
         cases e329
         replace p329 := eq_true p329
         replace q329 := eq_true q329
         go_wp2
         repeat (go_quiet (fail); try go_wp2)
         go_roundg k1
         case measure => have := HK1.out; omega
         case rel => exact ⟨(wrap64 (x13_1 + 1)), xg, H', ⟨by have := HK1.out; omega⟩, by repeat (first | exact Drawn0.refl _ | apply Drawn0.step)⟩
       ·rw [if_neg c7] at H
        exact absurd H (by simp)
      ·rw [if_neg c6] at H
       exact absurd H (by simp)
     ·rw [if_neg c5] at H
      exact absurd H (by simp)
    ·rw [if_neg c4] at H
     have c4b0 : decide (x13_1 < (l0.length : Int)) = false := decide_eq_false c4
     clear c4
     obtain rfl := Option.some.inj H
     go_wp2
     repeat (go_quiet (fail); try go_wp2)
     go_ret
     exact ⟨xg, xz⟩
 ·rw [if_neg c3] at H
  have c3b0 : ((l0.length : Int) == (l1.length : Int)) = false := beq_eq_false_iff_ne.mpr c3
  have c3b1 : ((l0.length : Int) != (l1.length : Int)) = true := bne_iff_ne.mpr c3
  have c3b2 : (l0.length == l1.length) = false := by first | simpa using c3 | (simp at c3 ⊢; omega)
  obtain rfl := Option.some.inj H
  go_enter Tryz.func34, Tryz.ntmps34
  go_wp2
  repeat (go_quiet (fail); try go_wp2)
  go_ret
  exact ⟨xg, xz⟩
def check_Check.f (k : Nat) (l0 : List (S44)) (l1 : List Bool) (l2 : List Bool) : Option (Int) := (check_Stack.f l0 l1).bind fun bt330 => (if bt330.2.2 = 0 then ((slices_Equal_bool_bool.f k bt330.1 l2).bind fun t335 => (if t335 = true then (some bt330.2.2) else (some 11))) else (some bt330.2.2))
theorem check_Check.mono : ∀ a0 a1 a2 k, LeO (check_Check.f k a0 a1 a2) (check_Check.f (k + 1) a0 a1 a2) := by
 intro a0 a1 a2 k
 unfold check_Check.f
 repeat' (with_reducible first | exact slices_Equal_bool_bool.mono _ _ _ | exact LeO.refl _ | exact LeO.none _ | refine LeO.ite ?_ ?_ | refine LeO.bind ?_ (fun _ => ?_))
set_option maxHeartbeats 8000000 in
set_option maxRecDepth 100000 in
theorem check_Check.calls (k : Nat) (A0 : Option Addr) (c0 : Nat) (l0 : List (S44)) (A1 : Option Addr) (c1 : Nat) (l1 : List Bool) (A2 : Option Addr) (c2 : Nat) (l2 : List Bool) (r : Int) (w : World) (hT : Tabs w) (hr0 : Kd.C k44 w A0 l0.length l0) (hc0 : l0.length ≤ c0) (hr1 : Kd.C Kd.bool w A1 l1.length l1) (hc1 : l1.length ≤ c1) (hr2 : Kd.C Kd.bool w A2 l2.length l2) (hc2 : l2.length ≤ c2) (h : check_Check.f k l0 l1 l2 = some r) :
  Calls Tryz.prog 21 #[.slice A0 l0.length c0, .slice A1 l1.length c1, .slice A2 l2.length c2] w fun e w' => e = .returned (.int .i64 r) ∧ Below w.heap.size w w' := by
 have HR0 := xy hr0
 have HC0 := xy hc0
 clear hr0 hc0
 have HR1 := xy hr1
 have HC1 := xy hc1
 clear hr1 hc1
 have HR2 := xy hr2
 have HC2 := xy hc2
 clear hr2 hc2
 have HB := xy (Below.refl w.heap.size w)
 unfold check_Check.f at h
 have H := h
 clear h
 replace H := xj H
 obtain ⟨⟨t330, t331, t332⟩, A40, H⟩ := H
 try dsimp only at H
 have A4 := xy A40
 clear A40
 by_cases c5 : t332 = 0
 ·rw [if_pos c5] at H
  have c5b0 : (t332 == 0) = true := beq_iff_eq.mpr c5
  have c5b1 : (t332 != 0) = false := bne_eq_false_iff_eq.mpr c5
  clear c5
  replace H := xj H
  obtain ⟨t335, A60, H⟩ := H
  try dsimp only at H
  have A6 := xy A60
  clear A60
  by_cases c7 : t335 = true
  ·subst c7
   rw [if_pos rfl] at H
   obtain rfl := Option.some.inj H
   go_enter Tryz.func21, Tryz.ntmps21
   go_wp2_with (first | ((with_reducible refine gate_callee (f := 17) rfl ?_); refine goesL_ (some 13) rfl rfl Tryz.func17 (by kernel_rfl) rfl #[.slice A0 l0.length c0, .slice A1 l1.length c1] rfl xr ?_; (with_reducible refine (check_Stack.calls _ _ l0 _ _ l1 t330 t331 t332 _ (Tabs.below hT xf) ?side1 ?side2 ?side3 ?side4 A4.out).mono ?_); (case side1 => repeat (first | exact HR0.out | (with_reducible refine Kd.C_alloc ?_ _) | (with_reducible refine Kd.C_drewN ?_ _) | (with_reducible refine Kd.C_drew ?_))); (case side2 => exact HC0.out); (case side3 => repeat (first | exact HR1.out | (with_reducible refine Kd.C_alloc ?_ _) | (with_reducible refine Kd.C_drewN ?_ _) | (with_reducible refine Kd.C_drew ?_))); (case side4 => exact HC1.out); rintro e w8 ⟨v333, rfl, ho0, hb⟩; refine ⟨_, rfl, ?_⟩; have HO334 := xy (Kd.R_lower ho0 (below_size xb)); replace HB := xy (below_step xb hb); (try clear hb); (try clear hb2); (try clear hk); (try clear hi); (try clear ho0); obtain ⟨Ao9, co9, eo9⟩ := Kd.R_slice HO334.out; subst eo9) | (go_at_call 34; (with_reducible refine (slices_Equal_bool_bool.calls k _ _ t330 _ _ l2 true _ (Tabs.below hT xf) ?side1 ?side2 ?side3 ?side4 A6.out).mono ?_); (case side1 => repeat (first | exact (Kd.R_reads' HO334.out).2.2 | (with_reducible refine Kd.C_alloc ?_ _) | (with_reducible refine Kd.C_drewN ?_ _) | (with_reducible refine Kd.C_drew ?_))); (case side2 => exact (Kd.R_reads' HO334.out).2.1); (case side3 => exact Kd.C_below HR2.out xb); (case side4 => exact HC2.out); rintro e w' ⟨rfl, ⟨nd, rfl⟩⟩))
   go_ret
   exact ⟨xe, xb⟩
  ·replace c7 := Bool.eq_false_iff.mpr c7
   subst c7
   rw [if_neg (show ¬ (false = true) by decide)] at H
   obtain rfl := Option.some.inj H
   go_enter Tryz.func21, Tryz.ntmps21
   go_wp2_with (first | ((with_reducible refine gate_callee (f := 17) rfl ?_); refine goesL_ (some 13) rfl rfl Tryz.func17 (by kernel_rfl) rfl #[.slice A0 l0.length c0, .slice A1 l1.length c1] rfl xr ?_; (with_reducible refine (check_Stack.calls _ _ l0 _ _ l1 t330 t331 t332 _ (Tabs.below hT xf) ?side1 ?side2 ?side3 ?side4 A4.out).mono ?_); (case side1 => repeat (first | exact HR0.out | (with_reducible refine Kd.C_alloc ?_ _) | (with_reducible refine Kd.C_drewN ?_ _) | (with_reducible refine Kd.C_drew ?_))); (case side2 => exact HC0.out); (case side3 => repeat (first | exact HR1.out | (with_reducible refine Kd.C_alloc ?_ _) | (with_reducible refine Kd.C_drewN ?_ _) | (with_reducible refine Kd.C_drew ?_))); (case side4 => exact HC1.out); rintro e w10 ⟨v333, rfl, ho0, hb⟩; refine ⟨_, rfl, ?_⟩; have HO334 := xy (Kd.R_lower ho0 (below_size xb)); replace HB := xy (below_step xb hb); (try clear hb); (try clear hb2); (try clear hk); (try clear hi); (try clear ho0); obtain ⟨Ao11, co11, eo11⟩ := Kd.R_slice HO334.out; subst eo11) | (go_at_call 34; (with_reducible refine (slices_Equal_bool_bool.calls k _ _ t330 _ _ l2 false _ (Tabs.below hT xf) ?side1 ?side2 ?side3 ?side4 A6.out).mono ?_); (case side1 => repeat (first | exact (Kd.R_reads' HO334.out).2.2 | (with_reducible refine Kd.C_alloc ?_ _) | (with_reducible refine Kd.C_drewN ?_ _) | (with_reducible refine Kd.C_drew ?_))); (case side2 => exact (Kd.R_reads' HO334.out).2.1); (case side3 => exact Kd.C_below HR2.out xb); (case side4 => exact HC2.out); rintro e w' ⟨rfl, ⟨nd, rfl⟩⟩))
   go_ret
   exact ⟨xe, xb⟩
 ·rw [if_neg c5] at H
  have c5b0 : (t332 == 0) = false := beq_eq_false_iff_ne.mpr c5
  have c5b1 : (t332 != 0) = true := bne_iff_ne.mpr c5
  obtain rfl := Option.some.inj H
  go_enter Tryz.func21, Tryz.ntmps21
  go_wp2_with (((with_reducible refine gate_callee (f := 17) rfl ?_); refine goesL_ (some 13) rfl rfl Tryz.func17 (by kernel_rfl) rfl #[.slice A0 l0.length c0, .slice A1 l1.length c1] rfl xr ?_; (with_reducible refine (check_Stack.calls _ _ l0 _ _ l1 t330 t331 t332 _ (Tabs.below hT xf) ?side1 ?side2 ?side3 ?side4 A4.out).mono ?_); (case side1 => repeat (first | exact HR0.out | (with_reducible refine Kd.C_alloc ?_ _) | (with_reducible refine Kd.C_drewN ?_ _) | (with_reducible refine Kd.C_drew ?_))); (case side2 => exact HC0.out); (case side3 => repeat (first | exact HR1.out | (with_reducible refine Kd.C_alloc ?_ _) | (with_reducible refine Kd.C_drewN ?_ _) | (with_reducible refine Kd.C_drew ?_))); (case side4 => exact HC1.out); rintro e w12 ⟨v333, rfl, ho0, hb⟩; refine ⟨_, rfl, ?_⟩; have HO334 := xy (Kd.R_lower ho0 (below_size xb)); replace HB := xy (below_step xb hb); (try clear hb); (try clear hb2); (try clear hk); (try clear hi); (try clear ho0)))
  go_ret
  exact ⟨xe, xb⟩
end Go.Proofs.YtnodgcakmolleaaGreatDoor.PX
