/- eval: Run, Fold. -/
import Derived.Test.YtnodgcakmolleaaGreatDoorProg
import Derived.Test.YtnodgcakmolleaaGreatDoorXEvalLoop
import Derived.Test.YtnodgcakmolleaaGreatDoorXLine
set_option linter.unusedVariables false
set_option linter.unusedSimpArgs false
namespace Go.Proofs.YtnodgcakmolleaaGreatDoor.XEval
open Go.RowKit Go.Proofs Go.Proofs.YtnodgcakmolleaaGreatDoorW.PrintWords Go.Proofs.YtnodgcakmolleaaGreatDoorW.PrintLast Go.Proofs.YtnodgcakmolleaaGreatDoorW.PrintMore Go.Proofs.YtnodgcakmolleaaGreatDoor.PX Go.Proofs.YtnodgcakmolleaaGreatDoor.XCheck
variable {w0 W : World} {B : Nat} {s : List Sv} {fuel : Int}
variable {T : World → Prop} {TEXT : ByteArray → Option Sv} {DO : Int → List Sv → Option (Sv × Int)}
theorem pick_mono {DO' : Int → List Sv → Option (Sv × Int)} (h : ∀ o l y, DO o l = some y → DO' o l = some y) {r : List ByteArray} {fold s : List Sv} {x : Ins} {y : Sv} (hp : pickP TEXT DO r fold s x = some y) : pickP TEXT DO' r fold s x = some y := by
 unfold pickP at hp ⊢
 by_cases c0 : x.f0 = 0
 ·rw [if_pos c0] at hp ⊢; exact hp
 rw [if_neg c0] at hp ⊢
 by_cases c1 : x.f0 = 1
 ·rw [if_pos c1] at hp ⊢; exact hp
 rw [if_neg c1] at hp ⊢
 by_cases c2 : x.f0 = 2
 ·rw [if_pos c2] at hp ⊢; exact hp
 rw [if_neg c2] at hp ⊢
 by_cases c3 : x.f0 = 3
 ·rw [if_pos c3] at hp ⊢; exact hp
 rw [if_neg c3] at hp ⊢
 by_cases c4 : x.f0 = 22 ∨ x.f0 = 23
 ·rw [if_pos c4] at hp ⊢; exact hp
 rw [if_neg c4] at hp ⊢
 obtain ⟨p, h1, h2⟩ := Option.map_eq_some_iff.1 hp
 exact Option.map_eq_some_iff.2 ⟨p, h _ _ _ h1, h2⟩
theorem runE_mono {DO' : Int → List Sv → Option (Sv × Int)} (h : ∀ o l y, DO o l = some y → DO' o l = some y) {r : List ByteArray} {fold : List Sv} {q : List Sv × Int × Int} : ∀ (p : List Ins) (s : List Sv) (u : Int), runE TEXT DO r fold p s u = some q → runE TEXT DO' r fold p s u = some q
 | [], s, u, hr => hr
 | x :: p, s, u, hr => by
  unfold runE at hr ⊢
  by_cases c1 : (s.length : Int) < XOps.arityF x.f0 ∨ s.any big = true
  ·rw [if_pos c1] at hr; cases hr
  rw [if_neg c1] at hr ⊢
  by_cases c2 : costP s x.f0 > u
  ·rw [if_pos c2] at hr ⊢; exact hr
  rw [if_neg c2] at hr ⊢
  obtain ⟨y, hy, hr⟩ := Option.bind_eq_some_iff.1 hr
  exact Option.bind_eq_some_iff.2 ⟨y, pick_mono h hy, runE_mono h p _ _ hr⟩
theorem C_nilB (W : World) : Kd.C Kd.bool W none 0 [] := ⟨rfl, by omega, fun h => absurd h (by omega)⟩
theorem C_nilV (W : World) : Kd.C k32 W none 0 [] := ⟨rfl, by omega, fun h => absurd h (by omega)⟩
def machC (Rv F : Value) (fuel : Int) : Obj := .cells #[.slice none 0 0, Rv, F, .int .i64 fuel] 52
theorem Mch.start (W : World) (Rv F : Value) (fuel : Int) : Mch W W.heap.size Rv F (.slice none 0 0) [] fuel (W.alloc (machC Rv F fuel)) :=
 ⟨heap_alloc_new W _, Kd.R_nil _ _ _ _ _, below_alloc (Below.refl _ _) _, Nat.le_refl _⟩
set_option maxHeartbeats 8000000 in
set_option maxRecDepth 100000 in
theorem Run_err (A : Option Addr) (c : Nat) (n : Nat) (Rv : Value) (fuel : Int) {ne er : Int} (her : er ≠ 0)
  (hStack : Calls Tryz.prog 17 #[.slice A n c, .slice none 0 0] w0 fun e w' => ∃ v, e = .returned (.tuple #[v, .int .i64 ne, .int .i64 er]) ∧ Below w0.heap.size w0 w') :
  Calls Tryz.prog 7 #[.slice A n c, Rv, .int .i64 fuel] w0 fun e w' => ∃ v, e = .returned (.tuple #[v, .int .i64 fuel, .int .i64 er]) ∧ Kd.R k32 32 w' w0.heap.size (fun _ => True) v [] ∧ Below w0.heap.size w0 w' := by
 have h1 : (er == 0) = false := by simp [her]
 have h2 : (er != 0) = true := by simp [her]
 clear her
 go_enter Tryz.func7, Tryz.ntmps7
 go_wp2_with (go_at_call 17; refine hStack.mono ?_; rintro e W1 ⟨v, rfl, hb⟩)
 go_ret3
 exact ⟨_, rfl, Kd.R_nil _ _ _ _ _, hb⟩
set_option maxHeartbeats 8000000 in
set_option maxRecDepth 100000 in
theorem Run_ok (E : Env T TEXT DO) {Ar : Option Addr} {rc : Nat} {r : List ByteArray} (hR : Kd.C Kd.string w0 Ar r.length r) (hT : T w0) (A : Option Addr) (c : Nat) (p : List Ins) (hp : Kd.C k44 w0 A p.length p) (hpl : p.length ≤ 10000) (hfu : fuel ≤ 9223372036854775807) {ne : Int}
  (hStack : Calls Tryz.prog 17 #[.slice A p.length c, .slice none 0 0] w0 fun e w' => ∃ v, e = .returned (.tuple #[v, .int .i64 ne, .int .i64 0]) ∧ Below w0.heap.size w0 w')
  {s' : List Sv} {u' er : Int} (hrun : runE TEXT DO r [] p [] fuel = some (s', u', er)) :
  Calls Tryz.prog 7 #[.slice A p.length c, .slice Ar r.length rc, .int .i64 fuel] w0 fun e w' => ∃ v, e = .returned (.tuple #[v, .int .i64 (if er = 0 then u' else 0), .int .i64 er]) ∧ Kd.R k32 32 w' w0.heap.size (fun _ => True) v (if er = 0 then s' else []) ∧ Below w0.heap.size w0 w' := by
 have hu1 := Tryz.underlying52
 have hRun := fun W1 (hb : Below w0.heap.size w0 W1) => run_calls (fold := []) (Af := none) (cf := 0) (rc := rc) E (Mch.start W1 (.slice Ar r.length rc) (.slice none 0 0) fuel) (Kd.C_below hR hb) (C_nilV W1) (E.tb _ _ hT hb) A c p (Kd.C_below hp hb) hpl rfl hfu hrun
 unfold machC at hRun
 by_cases her : er = 0
 ·subst her
  clear hp hR hrun
  go_enter Tryz.func7, Tryz.ntmps7
  go_wp2_with (first
   | (go_at_call 17; refine hStack.mono ?_; rintro e W1 ⟨v, rfl, hb⟩)
   | (go_at_call 18; refine (hRun _ hb).mono ?_; rintro e W2 ⟨v2, rfl, hM⟩))
  have cS := hM.getS
  have cU := hM.getU
  go_region_held3 (fun w' => w'.cell? ⟨W1.heap.size, 0, none⟩ = some v2 ∧ w'.cell? ⟨W1.heap.size, 3, none⟩ = some (.int .i64 u'))
   (first
    | exact ⟨cS, cU⟩
    | go_keep)
   ((first
    | fail))
  go_wp2
  go_ret3
  exact ⟨_, rfl, Kd.R_drew (Kd.R_lower (Kd.R_mono hM.own (fun _ _ => trivial)) hb.size), below_drew1 (below_then hb hb.size hM.below)⟩
 ·have h1 : (er == 0) = false := by simp [her]
  have h2 : (er != 0) = true := by simp [her]
  rw [if_neg her, if_neg her]
  clear her hp hR hrun
  go_enter Tryz.func7, Tryz.ntmps7
  go_wp2_with (first
   | (go_at_call 17; refine hStack.mono ?_; rintro e W1 ⟨v, rfl, hb⟩)
   | (go_at_call 18; refine (hRun _ hb).mono ?_; rintro e W2 ⟨v2, rfl, hM⟩))
  go_ret3
  exact ⟨_, rfl, Kd.R_nil _ _ _ _ _, below_then hb hb.size hM.below⟩
variable {isB : Sv → Bool}
end Go.Proofs.YtnodgcakmolleaaGreatDoor.XEval
