/- eval: Run, Fold. -/
import Derived.Test.YtnodgcakmolleaaGreatDoorProg
import Derived.Test.YtnodgcakmolleaaGreatDoorXEvalLoop
import Derived.Test.YtnodgcakmolleaaGreatDoorXLine
set_option linter.unusedVariables false
set_option linter.unusedSimpArgs false
namespace Go.Proofs.YtnodgcakmolleaaGreatDoor.XEval
open Go.RowKit Go.Proofs Go.Proofs.YtnodgcakmolleaaGreatDoorW.PrintWords Go.Proofs.YtnodgcakmolleaaGreatDoorW.PrintLast Go.Proofs.YtnodgcakmolleaaGreatDoorW.PrintMore Go.Proofs.YtnodgcakmolleaaGreatDoor.PX Go.Proofs.YtnodgcakmolleaaGreatDoor.XCheck
variable {w0 W : World} {B : Nat} {s : List Sv} {fuel : Int}
variable {T : World → Prop} {TEXT : ByteArray → Option Sv} {DO : Int → List Sv → Option (Sv × Int)}
theorem pick_mono {DO' : Int → List Sv → Option (Sv × Int)} (h : ∀ o l y, DO o l = some y → DO' o l = some y) {r : List ByteArray} {fold s : List Sv} {x : Ins} {y : Sv} (hp : pickP TEXT DO r fold s x = some y) : pickP TEXT DO' r fold s x = some y := by
 unfold pickP at hp ⊢
 by_cases c0 : x.f0 = 0
 ·rw [if_pos c0] at hp ⊢; exact hp
 rw [if_neg c0] at hp ⊢
 by_cases c1 : x.f0 = 1
 ·rw [if_pos c1] at hp ⊢; exact hp
 rw [if_neg c1] at hp ⊢
 by_cases c2 : x.f0 = 2
 ·rw [if_pos c2] at hp ⊢; exact hp
 rw [if_neg c2] at hp ⊢
 by_cases c3 : x.f0 = 3
 ·rw [if_pos c3] at hp ⊢; exact hp
 rw [if_neg c3] at hp ⊢
 by_cases c4 : x.f0 = 22 ∨ x.f0 = 23
 ·rw [if_pos c4] at hp ⊢; exact hp
 rw [if_neg c4] at hp ⊢
 obtain ⟨p, h1, h2⟩ := Option.map_eq_some_iff.1 hp
 exact Option.map_eq_some_iff.2 ⟨p, h _ _ _ h1, h2⟩
theorem runE_mono {DO' : Int → List Sv → Option (Sv × Int)} (h : ∀ o l y, DO o l = some y → DO' o l = some y) {r : List ByteArray} {fold : List Sv} {q : List Sv × Int × Int} : ∀ (p : List Ins) (s : List Sv) (u : Int), runE TEXT DO r fold p s u = some q → runE TEXT DO' r fold p s u = some q
 | [], s, u, hr => hr
 | x :: p, s, u, hr => by
  unfold runE at hr ⊢
  by_cases c1 : (s.length : Int) < XOps.arityF x.f0 ∨ s.any big = true
  ·rw [if_pos c1] at hr; cases hr
  rw [if_neg c1] at hr ⊢
  by_cases c2 : costP s x.f0 > u
  ·rw [if_pos c2] at hr ⊢; exact hr
  rw [if_neg c2] at hr ⊢
  obtain ⟨y, hy, hr⟩ := Option.bind_eq_some_iff.1 hr
  exact Option.bind_eq_some_iff.2 ⟨y, pick_mono h hy, runE_mono h p _ _ hr⟩
theorem C_nilB (W : World) : Kd.C Kd.bool W none 0 [] := ⟨rfl, by omega, fun h => absurd h (by omega)⟩
theorem C_nilV (W : World) : Kd.C k32 W none 0 [] := ⟨rfl, by omega, fun h => absurd h (by omega)⟩
def machC (Rv F : Value) (fuel : Int) : Obj := .cells #[.slice none 0 0, Rv, F, .int .i64 fuel] 52
theorem Mch.start (W : World) (Rv F : Value) (fuel : Int) : Mch W W.heap.size Rv F (.slice none 0 0) [] fuel (W.alloc (machC Rv F fuel)) :=
 ⟨heap_alloc_new W _, Kd.R_nil _ _ _ _ _, below_alloc (Below.refl _ _) _, Nat.le_refl _⟩
set_option maxHeartbeats 8000000 in
set_option maxRecDepth 100000 in
theorem Run_err (A : Option Addr) (c : Nat) (n : Nat) (Rv : Value) (fuel : Int) {ne er : Int} (her : er ≠ 0)
  (hStack : Calls Tryz.prog 17 #[.slice A n c, .slice none 0 0] w0 fun e w' => ∃ v, e = .returned (.tuple #[v, .int .i64 ne, .int .i64 er]) ∧ Below w0.heap.size w0 w') :
  Calls Tryz.prog 7 #[.slice A n c, Rv, .int .i64 fuel] w0 fun e w' => ∃ v, e = .returned (.tuple #[v, .int .i64 fuel, .int .i64 er]) ∧ Kd.R k32 32 w' w0.heap.size (fun _ => True) v [] ∧ Below w0.heap.size w0 w' := by
 have h1 : (er == 0) = false := by simp [her]
 have h2 : (er != 0) = true := by simp [her]
 clear her
 go_enter Tryz.func7, Tryz.ntmps7
 go_wp2_with (go_at_call 17; refine hStack.mono ?_; rintro e W1 ⟨v, rfl, hb⟩)
 go_ret3
 exact ⟨_, rfl, Kd.R_nil _ _ _ _ _, hb⟩
set_option maxHeartbeats 8000000 in
set_option maxRecDepth 100000 in
theorem Run_ok (E : Env T TEXT DO) {Ar : Option Addr} {rc : Nat} {r : List ByteArray} (hR : Kd.C Kd.string w0 Ar r.length r) (hT : T w0) (A : Option Addr) (c : Nat) (p : List Ins) (hp : Kd.C k44 w0 A p.length p) (hpl : p.length ≤ 10000) (hfu : fuel ≤ 9223372036854775807) {ne : Int}
  (hStack : Calls Tryz.prog 17 #[.slice A p.length c, .slice none 0 0] w0 fun e w' => ∃ v, e = .returned (.tuple #[v, .int .i64 ne, .int .i64 0]) ∧ Below w0.heap.size w0 w')
  {s' : List Sv} {u' er : Int} (hrun : runE TEXT DO r [] p [] fuel = some (s', u', er)) :
  Calls Tryz.prog 7 #[.slice A p.length c, .slice Ar r.length rc, .int .i64 fuel] w0 fun e w' => ∃ v, e = .returned (.tuple #[v, .int .i64 (if er = 0 then u' else 0), .int .i64 er]) ∧ Kd.R k32 32 w' w0.heap.size (fun _ => True) v (if er = 0 then s' else []) ∧ Below w0.heap.size w0 w' := by
 have hu1 := Tryz.underlying52
 have hRun := fun W1 (hb : Below w0.heap.size w0 W1) => run_calls (fold := []) (Af := none) (cf := 0) (rc := rc) E (Mch.start W1 (.slice Ar r.length rc) (.slice none 0 0) fuel) (Kd.C_below hR hb) (C_nilV W1) (E.tb _ _ hT hb) A c p (Kd.C_below hp hb) hpl rfl hfu hrun
 unfold machC at hRun
 by_cases her : er = 0
 ·subst her
  clear hp hR hrun
  go_enter Tryz.func7, Tryz.ntmps7
  go_wp2_with (first
   | (go_at_call 17; refine hStack.mono ?_; rintro e W1 ⟨v, rfl, hb⟩)
   | (go_at_call 18; refine (hRun _ hb).mono ?_; rintro e W2 ⟨v2, rfl, hM⟩))
  have cS := hM.getS
  have cU := hM.getU
  go_region_held3 (fun w' => w'.cell? ⟨W1.heap.size, 0, none⟩ = some v2 ∧ w'.cell? ⟨W1.heap.size, 3, none⟩ = some (.int .i64 u'))
   (first
    | exact ⟨cS, cU⟩
    | go_keep)
   ((first
    | fail))
  go_wp2
  go_ret3
  exact ⟨_, rfl, Kd.R_drew (Kd.R_lower (Kd.R_mono hM.own (fun _ _ => trivial)) hb.size), below_drew1 (below_then hb hb.size hM.below)⟩
 ·have h1 : (er == 0) = false := by simp [her]
  have h2 : (er != 0) = true := by simp [her]
  rw [if_neg her, if_neg her]
  clear her hp hR hrun
  go_enter Tryz.func7, Tryz.ntmps7
  go_wp2_with (first
   | (go_at_call 17; refine hStack.mono ?_; rintro e W1 ⟨v, rfl, hb⟩)
   | (go_at_call 18; refine (hRun _ hb).mono ?_; rintro e W2 ⟨v2, rfl, hM⟩))
  go_ret3
  exact ⟨_, rfl, Kd.R_nil _ _ _ _ _, below_then hb hb.size hM.below⟩
def valC (x : Sv) : Obj := .cells #[.bool x.f0, .int .i64 x.f1, .string x.f2] 32
theorem boxes (w0 : World) (a b : Sv) : ∀ W1, ((w0.alloc (valC a)).alloc (valC b)).alloc zC = W1 → Below w0.heap.size w0 W1 ∧ w0.heap.size + 2 < W1.heap.size ∧ ∀ W', Below W1.heap.size W1 W' →
  (W'.cell? ⟨w0.heap.size, 0, none⟩ = some (.bool a.f0) ∧ W'.cell? ⟨w0.heap.size, 1, none⟩ = some (.int .i64 a.f1) ∧ W'.cell? ⟨w0.heap.size, 2, none⟩ = some (.string a.f2)) ∧
  (W'.cell? ⟨w0.heap.size + 1, 0, none⟩ = some (.bool b.f0) ∧ W'.cell? ⟨w0.heap.size + 1, 1, none⟩ = some (.int .i64 b.f1) ∧ W'.cell? ⟨w0.heap.size + 1, 2, none⟩ = some (.string b.f2)) ∧
  W'.heap[w0.heap.size + 2]? = some (.cells #[.bool false, .int .i64 0, .string (⟨#[]⟩ : ByteArray)] 32 (0, 0)) := by
 rintro W1 rfl
 refine ⟨below_alloc (below_alloc (below_alloc (Below.refl _ _) _) _) _, by simp, fun W' hb => ?_⟩
 have ha := heap_alloc_new w0 (valC a)
 have ha2 := (heap_alloc_old (w0.alloc (valC a)) (valC b) (blk_lt ha)).trans ha
 have ha3 := (heap_alloc_old ((w0.alloc (valC a)).alloc (valC b)) zC (blk_lt ha2)).trans ha2
 have hb1 := heap_alloc_new (w0.alloc (valC a)) (valC b)
 have hb2 := (heap_alloc_old ((w0.alloc (valC a)).alloc (valC b)) zC (blk_lt hb1)).trans hb1
 have hc := heap_alloc_new ((w0.alloc (valC a)).alloc (valC b)) zC
 rw [XOps.size_alloc] at hb2
 rw [XOps.size_alloc, XOps.size_alloc] at hc
 have ka := (hb.block _ (blk_lt ha3)).trans ha3
 have kb := (hb.block _ (blk_lt hb2)).trans hb2
 have kc := (hb.block _ (blk_lt hc)).trans hc
 exact ⟨⟨(blk_cell ka 0).trans rfl, (blk_cell ka 1).trans rfl, (blk_cell ka 2).trans rfl⟩, ⟨(blk_cell kb 0).trans rfl, (blk_cell kb 1).trans rfl, (blk_cell kb 2).trans rfl⟩, kc⟩
theorem C_bool1 {g : Nat} {a : Bool} (hg : W.heap[g]? = some (.cells #[.bool a] 4 (0, 0))) : Kd.C Kd.bool W (some ⟨g, 0, none⟩) 1 [a] := by
 refine Kd.C_of_reads (enc := Value.bool) (d := false) ⟨rfl, by omega, fun _ => ⟨_, rfl, fun j hj => ?_⟩⟩
 rw [Addr.add_mid, Nat.zero_add, blk_cell hg]
 match j with
 | 0 => rfl
 | j + 1 => omega
theorem C_bool2 {g : Nat} {a b : Bool} (hg : W.heap[g]? = some (.cells #[.bool a, .bool b] 4 (0, 0))) : Kd.C Kd.bool W (some ⟨g, 0, none⟩) 2 [a, b] := by
 refine Kd.C_of_reads (enc := Value.bool) (d := false) ⟨rfl, by omega, fun _ => ⟨_, rfl, fun j hj => ?_⟩⟩
 rw [Addr.add_mid, Nat.zero_add, blk_cell hg]
 match j with
 | 0 => rfl
 | 1 => rfl
 | j + 2 => omega
structure EnvF (T : World → Prop) (isB : Sv → Bool) : Prop where
 is_ : ∀ (x : Sv) (w : World), T w → Calls Tryz.prog 22 #[XOps.enV x] w fun e w' => e = .returned (.bool (isB x)) ∧ Below w.heap.size w w'
variable {isB : Sv → Bool}
set_option maxHeartbeats 8000000 in
set_option maxRecDepth 100000 in
theorem Fold_bad (hTb : ∀ w w', T w → Below w.heap.size w w' → T w') (EF : EnvF T isB) (hT : T w0) (P : Value) (a b : Sv) (hab : isB a = false ∨ isB b = false) (fuel : Int) :
  Calls Tryz.prog 14 #[P, XOps.enV a, XOps.enV b, .int .i64 fuel] w0 fun e w' => e = .returned (.tuple #[.agg #[.bool false, .int .i64 0, .string (⟨#[]⟩ : ByteArray)], .int .i64 fuel, .int .i64 1]) ∧ Below w0.heap.size w0 w' := by
 have hu := Tryz.underlying32
 have hb := boxes w0 a b
 have hA := EF.is_ a
 have hB := EF.is_ b
 unfold XOps.enV at hA hB ⊢
 unfold valC zC at hb
 by_cases h1 : isB a = false
 ·rw [h1] at hA
  clear hab hB
  go_enter Tryz.func14, Tryz.ntmps14
  go_upto_region 1 with fail
  generalize hW1 : ((w0.alloc (.cells #[.bool a.f0, .int .i64 a.f1, .string a.f2] 32)).alloc (.cells #[.bool b.f0, .int .i64 b.f1, .string b.f2] 32)).alloc (.cells #[.bool false, .int .i64 0, .string (⟨#[]⟩ : ByteArray)] 32) = W1
  obtain ⟨b01, z1, hbx⟩ := hb W1 hW1
  clear hb hW1
  obtain ⟨⟨a0, a1, a2⟩, ⟨b0, b1, b2⟩, _⟩ := hbx W1 (Below.refl _ _)
  have hT1 := hTb _ _ hT b01
  go_wp2_with (go_at_call 22; refine (hA _ hT1).mono ?_; rintro e W2 ⟨rfl, hb2⟩; obtain ⟨_, _, r2⟩ := hbx W2 hb2; have c0 := (blk_cell r2 0).trans rfl; have c1 := (blk_cell r2 1).trans rfl; have c2 := (blk_cell r2 2).trans rfl; have f0 := blk_frozen r2 0; have f1 := blk_frozen r2 1; have f2 := blk_frozen r2 2)
  refine bodyPost_ret (results_ctt rfl _ _ (w0.heap.size + 2) 32 #[.bool false, .int .i64 0, .string (⟨#[]⟩ : ByteArray)] (0, 0) _ rfl (blk_set (blk_set (blk_set r2 0 _) 1 _) 2 _) Tryz.underlying32 rfl (by kernel_rfl)) rfl ?_
  exact ⟨rfl, set3 (below_then b01 b01.size hb2) (by omega)⟩
 ·have h1 : isB a = true := by simpa using h1
  have h2 : isB b = false := by
   rcases hab with h | h
   ·rw [h1] at h; cases h
   ·exact h
  rw [h1] at hA
  rw [h2] at hB
  clear hab
  go_enter Tryz.func14, Tryz.ntmps14
  go_upto_region 1 with fail
  generalize hW1 : ((w0.alloc (.cells #[.bool a.f0, .int .i64 a.f1, .string a.f2] 32)).alloc (.cells #[.bool b.f0, .int .i64 b.f1, .string b.f2] 32)).alloc (.cells #[.bool false, .int .i64 0, .string (⟨#[]⟩ : ByteArray)] 32) = W1
  obtain ⟨b01, z1, hbx⟩ := hb W1 hW1
  clear hb hW1
  obtain ⟨⟨a0, a1, a2⟩, _, _⟩ := hbx W1 (Below.refl _ _)
  have hT1 := hTb _ _ hT b01
  go_wp2_with (go_at_call 22; (with_reducible refine Calls.mono (hA _ hT1) ?_); rintro e W2 ⟨rfl, hb2⟩; obtain ⟨_, ⟨b0, b1, b2⟩, _⟩ := hbx W2 hb2; have hT2 := hTb _ _ hT1 hb2)
  go_wp2_with (go_at_call 22; (with_reducible refine Calls.mono (hB _ hT2) ?_); rintro e W3 ⟨rfl, hb3⟩; have b13 := below_then hb2 hb2.size hb3; obtain ⟨_, _, r2⟩ := hbx W3 b13; have c0 := (blk_cell r2 0).trans rfl; have c1 := (blk_cell r2 1).trans rfl; have c2 := (blk_cell r2 2).trans rfl; have f0 := blk_frozen r2 0; have f1 := blk_frozen r2 1; have f2 := blk_frozen r2 2)
  refine bodyPost_ret (results_ctt rfl _ _ (w0.heap.size + 2) 32 #[.bool false, .int .i64 0, .string (⟨#[]⟩ : ByteArray)] (0, 0) _ rfl (blk_set (blk_set (blk_set r2 0 _) 1 _) 2 _) Tryz.underlying32 rfl (by kernel_rfl)) rfl ?_
  exact ⟨rfl, set3 (below_then b01 b01.size b13) (by omega)⟩
set_option maxHeartbeats 8000000 in
set_option maxRecDepth 100000 in
theorem Fold_err (EF : EnvF T isB) (hTb : ∀ w w', T w → Below w.heap.size w w' → T w') (hT : T w0) (A : Option Addr) (c : Nat) (p : List Ins) (fuel : Int) (a b : Sv) (ha : isB a = true) (hb : isB b = true) {er : Int} (hec : er ≠ 0)
  (hChk : ∀ (W : World) (g1 g2 : Nat), T W → Below w0.heap.size w0 W → Kd.C Kd.bool W (some ⟨g1, 0, none⟩) 2 [a.f0, b.f0] → Kd.C Kd.bool W (some ⟨g2, 0, none⟩) 1 [a.f0] → Calls Tryz.prog 21 #[.slice A p.length c, .slice (some ⟨g1, 0, none⟩) 2 2, .slice (some ⟨g2, 0, none⟩) 1 1] W fun e w' => e = .returned (.int .i64 er) ∧ Below W.heap.size W w') :
  Calls Tryz.prog 14 #[.slice A p.length c, XOps.enV a, XOps.enV b, .int .i64 fuel] w0 fun e w' => e = .returned (.tuple #[.agg #[.bool false, .int .i64 0, .string (⟨#[]⟩ : ByteArray)], .int .i64 fuel, .int .i64 er]) ∧ Below w0.heap.size w0 w' := by
 have hu := Tryz.underlying32
 have hu1 := Tryz.underlying52
 have hu2 := Tryz.underlying27
 have hu3 := Tryz.underlying47
 have hbx := boxes w0 a b
 have hA := EF.is_ a
 have hB := EF.is_ b
 rw [ha] at hA
 rw [hb] at hB
 unfold XOps.enV at hA hB ⊢
 unfold valC zC at hbx
 clear ha hb
 have hchk : ∀ (W : World), T W → Below w0.heap.size w0 W → Calls Tryz.prog 21 #[.slice A p.length c, .slice (some ⟨W.heap.size, 0, none⟩) 2 2, .slice (some ⟨W.heap.size + 1, 0, none⟩) 1 1] ((W.alloc (.cells #[.bool a.f0, .bool b.f0] 4)).alloc (.cells #[.bool a.f0] 4)) fun e w' => e = .returned (.int .i64 er) ∧ Below W.heap.size W w' := fun W hTW hB => by
  have h1 := heap_alloc_new W (.cells #[.bool a.f0, .bool b.f0] 4)
  have h2 := (heap_alloc_old (W.alloc (.cells #[.bool a.f0, .bool b.f0] 4)) (.cells #[.bool a.f0] 4) (blk_lt h1)).trans h1
  have h3 := heap_alloc_new (W.alloc (.cells #[.bool a.f0, .bool b.f0] 4)) (.cells #[.bool a.f0] 4)
  rw [XOps.size_alloc] at h3
  have hbb := two_below W (.cells #[.bool a.f0, .bool b.f0] 4) (.cells #[.bool a.f0] 4)
  exact (hChk _ W.heap.size (W.heap.size + 1) (hTb _ _ hTW hbb) (below_then hB hB.size hbb) (C_bool2 h2) (C_bool1 h3)).mono fun e w' he => ⟨he.1, below_then hbb hbb.size he.2⟩
 clear hChk
 have e1 : (er == 0) = false := by simp [hec]
 have e2 : (er != 0) = true := by simp [hec]
 clear hec
 go_enter Tryz.func14, Tryz.ntmps14
 go_upto_region 1 with fail
 generalize hW1 : ((w0.alloc (.cells #[.bool a.f0, .int .i64 a.f1, .string a.f2] 32)).alloc (.cells #[.bool b.f0, .int .i64 b.f1, .string b.f2] 32)).alloc (.cells #[.bool false, .int .i64 0, .string (⟨#[]⟩ : ByteArray)] 32) = W1
 obtain ⟨b01, z1, hbx⟩ := hbx W1 hW1
 clear hW1
 obtain ⟨⟨a0, a1, a2⟩, _, _⟩ := hbx W1 (Below.refl _ _)
 have hT1 := hTb _ _ hT b01
 go_wp2_with (go_at_call 22; (with_reducible refine Calls.mono (hA _ hT1) ?_); rintro e W2 ⟨rfl, hb2⟩; obtain ⟨_, ⟨b0, b1, b2⟩, _⟩ := hbx W2 hb2; have hT2 := hTb _ _ hT1 hb2)
 go_wp2_with (go_at_call 22; (with_reducible refine Calls.mono (hB _ hT2) ?_); rintro e W3 ⟨rfl, hb3⟩; have b13 := below_then hb2 hb2.size hb3; obtain ⟨⟨p0, p1, p2⟩, ⟨q0, q1, q2⟩, _⟩ := hbx W3 b13; have hT3 := hTb _ _ hT2 hb3; have p0' := cell_keep0 (below_alloc (Below.refl _ _) (.cells #[.bool a.f0, .bool b.f0] 4)) p0)
 go_wp2_with (go_at_call 21; refine (hchk _ hT3 (below_then b01 b01.size b13)).mono ?_; rintro e W4 ⟨rfl, hb4⟩; have b14 := below_then b13 b13.size hb4; obtain ⟨_, _, r2⟩ := hbx W4 b14; have c0 := (blk_cell r2 0).trans rfl; have c1 := (blk_cell r2 1).trans rfl; have c2 := (blk_cell r2 2).trans rfl; have f0 := blk_frozen r2 0; have f1 := blk_frozen r2 1; have f2 := blk_frozen r2 2)
 refine bodyPost_ret (results_ctt rfl _ _ (w0.heap.size + 2) 32 #[.bool false, .int .i64 0, .string (⟨#[]⟩ : ByteArray)] (0, 0) _ rfl (blk_set (blk_set (blk_set r2 0 _) 1 _) 2 _) Tryz.underlying32 rfl (by kernel_rfl)) rfl ?_
 exact ⟨rfl, set3 (below_then b01 b01.size b14) (by omega)⟩
set_option maxHeartbeats 8000000 in
set_option maxRecDepth 100000 in
theorem Fold_go (E : Env T TEXT DO) (EF : EnvF T isB) (hT : T w0) (A : Option Addr) (c : Nat) (p : List Ins) (hp : Kd.C k44 w0 A p.length p) (hpl : p.length ≤ 10000) (hfu : fuel ≤ 9223372036854775807) (a b : Sv) (ha : isB a = true) (hb : isB b = true) {ec : Int}
  (hChk : ∀ (W : World) (g1 g2 : Nat), T W → Below w0.heap.size w0 W → Kd.C Kd.bool W (some ⟨g1, 0, none⟩) 2 [a.f0, b.f0] → Kd.C Kd.bool W (some ⟨g2, 0, none⟩) 1 [a.f0] → Calls Tryz.prog 21 #[.slice A p.length c, .slice (some ⟨g1, 0, none⟩) 2 2, .slice (some ⟨g2, 0, none⟩) 1 1] W fun e w' => e = .returned (.int .i64 ec) ∧ Below W.heap.size W w')
  {y : Sv} {u' er : Int} (hrun : if ec = 0 then ∃ s' uu, runE TEXT DO [] [a, b] p [] fuel = some (s', uu, er) ∧ (if er = 0 then (∃ t, s' = y :: t) ∧ u' = uu else y = XOps.zv ∧ u' = 0) else y = XOps.zv ∧ u' = fuel ∧ er = ec) :
  Calls Tryz.prog 14 #[.slice A p.length c, XOps.enV a, XOps.enV b, .int .i64 fuel] w0 fun e w' => e = .returned (.tuple #[.agg #[.bool y.f0, .int .i64 y.f1, .string y.f2], .int .i64 u', .int .i64 er]) ∧ Below w0.heap.size w0 w' := by
 have hu := Tryz.underlying32
 have hu1 := Tryz.underlying52
 have hu2 := Tryz.underlying27
 have hu3 := Tryz.underlying47
 have hbx := boxes w0 a b
 have hA := EF.is_ a
 have hB := EF.is_ b
 rw [ha] at hA
 rw [hb] at hB
 unfold XOps.enV at hA hB ⊢
 unfold valC zC at hbx
 clear ha hb
 have hchk : ∀ (W : World), T W → Below w0.heap.size w0 W → Calls Tryz.prog 21 #[.slice A p.length c, .slice (some ⟨W.heap.size, 0, none⟩) 2 2, .slice (some ⟨W.heap.size + 1, 0, none⟩) 1 1] ((W.alloc (.cells #[.bool a.f0, .bool b.f0] 4)).alloc (.cells #[.bool a.f0] 4)) fun e w' => e = .returned (.int .i64 ec) ∧ Below W.heap.size W w' := fun W hTW hB => by
  have h1 := heap_alloc_new W (.cells #[.bool a.f0, .bool b.f0] 4)
  have h2 := (heap_alloc_old (W.alloc (.cells #[.bool a.f0, .bool b.f0] 4)) (.cells #[.bool a.f0] 4) (blk_lt h1)).trans h1
  have h3 := heap_alloc_new (W.alloc (.cells #[.bool a.f0, .bool b.f0] 4)) (.cells #[.bool a.f0] 4)
  rw [XOps.size_alloc] at h3
  have hbb := two_below W (.cells #[.bool a.f0, .bool b.f0] 4) (.cells #[.bool a.f0] 4)
  exact (hChk _ W.heap.size (W.heap.size + 1) (E.tb _ _ hTW hbb) (below_then hB hB.size hbb) (C_bool2 h2) (C_bool1 h3)).mono fun e w' he => ⟨he.1, below_then hbb hbb.size he.2⟩
 clear hChk
 by_cases hec : ec = 0
 ·subst hec
  rw [if_pos rfl] at hrun
  obtain ⟨s', uu, hrun, hres⟩ := hrun
  have hRun := fun W5 (hB5 : Below w0.heap.size w0 W5) (hF : Kd.C k32 W5 (some ⟨W5.heap.size - 1, 0, none⟩) 2 [a, b]) => run_calls (r := []) (fold := [a, b]) (Ar := none) (rc := 0) (Af := some ⟨W5.heap.size - 1, 0, none⟩) (cf := 2) E (Mch.start W5 (.slice none 0 0) (.slice (some ⟨W5.heap.size - 1, 0, none⟩) 2 2) fuel) (⟨rfl, by simp, fun h => absurd h (by simp)⟩ : Kd.C Kd.string W5 none 0 []) hF (E.tb _ _ hT hB5) A c p (Kd.C_below hp hB5) hpl rfl hfu hrun
  have hRun4 : ∀ W4, Below w0.heap.size w0 W4 → Calls Tryz.prog 18 #[.pointer (some ⟨W4.heap.size + 1, 0, none⟩), .slice A p.length c] ((W4.alloc (.cells #[.bool a.f0, .int .i64 a.f1, .string a.f2, .bool b.f0, .int .i64 b.f1, .string b.f2] 32)).alloc (.cells #[.slice none 0 0, .slice none 0 0, .slice (some ⟨W4.heap.size, 0, none⟩) 2 2, .int .i64 fuel] 52)) fun e W' => ∃ v', e = .returned (.int .i64 er) ∧ Mch (W4.alloc (.cells #[.bool a.f0, .int .i64 a.f1, .string a.f2, .bool b.f0, .int .i64 b.f1, .string b.f2] 32)) (W4.heap.size + 1) (.slice none 0 0) (.slice (some ⟨W4.heap.size, 0, none⟩) 2 2) v' s' uu W' := fun W4 hB4 => by
   have := hRun (W4.alloc (.cells #[.bool a.f0, .int .i64 a.f1, .string a.f2, .bool b.f0, .int .i64 b.f1, .string b.f2] 32)) (below_alloc hB4 _) (by
    have h := XLine.lit2 W4 a b
    rw [XOps.size_alloc, Nat.add_sub_cancel]
    exact h)
   unfold machC at this
   rw [XOps.size_alloc, Nat.add_sub_cancel] at this
   exact this
  clear hRun hrun hp
  by_cases her : er = 0
  ·subst her
   rw [if_pos rfl] at hres
   obtain ⟨⟨t, rfl⟩, rfl⟩ := hres
   go_enter Tryz.func14, Tryz.ntmps14
   go_upto_region 1 with fail
   generalize hW1 : ((w0.alloc (.cells #[.bool a.f0, .int .i64 a.f1, .string a.f2] 32)).alloc (.cells #[.bool b.f0, .int .i64 b.f1, .string b.f2] 32)).alloc (.cells #[.bool false, .int .i64 0, .string (⟨#[]⟩ : ByteArray)] 32) = W1
   obtain ⟨b01, z1, hbx⟩ := hbx W1 hW1
   clear hW1
   obtain ⟨⟨a0, a1, a2⟩, _, _⟩ := hbx W1 (Below.refl _ _)
   have hT1 := E.tb _ _ hT b01
   go_wp2_with (go_at_call 22; (with_reducible refine Calls.mono (hA _ hT1) ?_); rintro e W2 ⟨rfl, hb2⟩; obtain ⟨_, ⟨b0, b1, b2⟩, _⟩ := hbx W2 hb2; have hT2 := E.tb _ _ hT1 hb2)
   go_wp2_with (go_at_call 22; (with_reducible refine Calls.mono (hB _ hT2) ?_); rintro e W3 ⟨rfl, hb3⟩; have b13 := below_then hb2 hb2.size hb3; obtain ⟨⟨p0, p1, p2⟩, ⟨q0, q1, q2⟩, _⟩ := hbx W3 b13; have hT3 := E.tb _ _ hT2 hb3; have p0' := cell_keep0 (below_alloc (Below.refl _ _) (.cells #[.bool a.f0, .bool b.f0] 4)) p0)
   go_wp2_with (go_at_call 21; refine (hchk _ hT3 (below_then b01 b01.size b13)).mono ?_; rintro e W4 ⟨rfl, hb4⟩; have b14 := below_then b13 b13.size hb4; have b04 := below_then b01 b01.size b14; obtain ⟨⟨s0, s1, s2⟩, ⟨t0, t1, t2⟩, _⟩ := hbx W4 b14)
   go_upto_region 10 with (go_at_call 18; refine (hRun4 _ b04).mono ?_; rintro e W6 ⟨v6, rfl, hM⟩)
   have b46 := below_then (below_alloc (Below.refl W4.heap.size W4) (.cells #[.bool a.f0, .int .i64 a.f1, .string a.f2, .bool b.f0, .int .i64 b.f1, .string b.f2] 32)) (below_alloc (Below.refl W4.heap.size W4) (.cells #[.bool a.f0, .int .i64 a.f1, .string a.f2, .bool b.f0, .int .i64 b.f1, .string b.f2] 32)).size hM.below
   have b16 := below_then b14 b14.size b46
   obtain ⟨_, _, r2⟩ := hbx W6 b16
   obtain ⟨Am, cm, hv6, hlm, hCm⟩ := hM.reads
   obtain ⟨hok, inner, hown, hrr⟩ := hM.own
   have hgg : ∃ g, Am = some ⟨g, 0, none⟩ ∧ W4.heap.size ≤ g := by
    rcases hown.2 with ⟨h1, h2⟩ | ⟨g, cap, cur, h1, h2, _⟩
    ·simp at h2
    ·rw [hv6] at h1
     injection h1 with h1
     have h3 : W4.heap.size ≤ (W4.alloc (.cells #[.bool a.f0, .int .i64 a.f1, .string a.f2, .bool b.f0, .int .i64 b.f1, .string b.f2] 32)).heap.size := by simp
     exact ⟨g, h1, Nat.le_trans h3 h2⟩
   obtain ⟨g, rfl, hg4⟩ := hgg
   subst hv6
   obtain ⟨ad, had, y0, y1, y2⟩ := at_T32 hCm (0 : Int) (by decide) (by first | (simp; done) | (simp; omega))
   injection had with had
   subst had
   have y0 : W6.cell? ⟨g, 0, none⟩ = some (.bool y.f0) := y0
   have y1 : W6.cell? ⟨g, 1, none⟩ = some (.int .i64 y.f1) := y1
   have y2 : W6.cell? ⟨g, 2, none⟩ = some (.string y.f2) := y2
   have cS := hM.getS
   have cU := hM.getU
   have hz4 := b14.size
   have c0 := (blk_cell r2 0).trans rfl
   have c1 := (blk_cell r2 1).trans rfl
   have c2 := (blk_cell r2 2).trans rfl
   have f0 := blk_frozen r2 0
   have f1 := blk_frozen r2 1
   have f2 := blk_frozen r2 2
   have n1 : W4.heap.size + 1 ≠ w0.heap.size + 2 := by omega
   have n2 : g ≠ w0.heap.size + 2 := by omega
   have hlen : (0 : Int) < (((y :: t).length : Nat) : Int) := by first | (simp; done) | (simp; omega)
   generalize (y :: t).length = N at *
   have hlen2 : (0 : Int) < (N : Int) := hlen
   have hlen3 : 0 < N := by omega
   clear hM hrr hown hCm hok hbx hA hB hchk hRun4
   go_region_held3 (fun w' => w'.cell? ⟨W4.heap.size + 1, 0, none⟩ = some (.slice (some ⟨g, 0, none⟩) N cm) ∧ w'.cell? ⟨W4.heap.size + 1, 3, none⟩ = some (.int .i64 u') ∧ w'.cell? ⟨g, 0, none⟩ = some (.bool y.f0) ∧ w'.cell? ⟨g, 1, none⟩ = some (.int .i64 y.f1) ∧ w'.cell? ⟨g, 2, none⟩ = some (.string y.f2))
    (first
     | exact ⟨cS, cU, y0, y1, y2⟩
     | exact ⟨far3d n1 cS, far3d n1 cU, far3d n2 y0, far3d n2 y1, far3d n2 y2⟩
     | go_keep)
    ((first
     | fail))
   go_wp2
   refine bodyPost_ret (results_ctt rfl _ _ (w0.heap.size + 2) 32 #[.bool y.f0, .int .i64 y.f1, .string y.f2] (0, 0) _ rfl (blk_set (blk_set (blk_set (show W6.drew.heap[w0.heap.size + 2]? = _ from r2) 0 _) 1 _) 2 _) Tryz.underlying32 rfl (by kernel_rfl)) rfl ?_
   exact ⟨rfl, set3 (below_drew1 (below_then b01 b01.size b16)) (by omega)⟩
  ·rw [if_neg her] at hres
   obtain ⟨rfl, rfl⟩ := hres
   have e1 : (er == 0) = false := by simp [her]
   have e2 : (er != 0) = true := by simp [her]
   clear her
   go_enter Tryz.func14, Tryz.ntmps14
   go_upto_region 1 with fail
   generalize hW1 : ((w0.alloc (.cells #[.bool a.f0, .int .i64 a.f1, .string a.f2] 32)).alloc (.cells #[.bool b.f0, .int .i64 b.f1, .string b.f2] 32)).alloc (.cells #[.bool false, .int .i64 0, .string (⟨#[]⟩ : ByteArray)] 32) = W1
   obtain ⟨b01, z1, hbx⟩ := hbx W1 hW1
   clear hW1
   obtain ⟨⟨a0, a1, a2⟩, _, _⟩ := hbx W1 (Below.refl _ _)
   have hT1 := E.tb _ _ hT b01
   go_wp2_with (go_at_call 22; (with_reducible refine Calls.mono (hA _ hT1) ?_); rintro e W2 ⟨rfl, hb2⟩; obtain ⟨_, ⟨b0, b1, b2⟩, _⟩ := hbx W2 hb2; have hT2 := E.tb _ _ hT1 hb2)
   go_wp2_with (go_at_call 22; (with_reducible refine Calls.mono (hB _ hT2) ?_); rintro e W3 ⟨rfl, hb3⟩; have b13 := below_then hb2 hb2.size hb3; obtain ⟨⟨p0, p1, p2⟩, ⟨q0, q1, q2⟩, _⟩ := hbx W3 b13; have hT3 := E.tb _ _ hT2 hb3; have p0' := cell_keep0 (below_alloc (Below.refl _ _) (.cells #[.bool a.f0, .bool b.f0] 4)) p0)
   go_wp2_with (go_at_call 21; refine (hchk _ hT3 (below_then b01 b01.size b13)).mono ?_; rintro e W4 ⟨rfl, hb4⟩; have b14 := below_then b13 b13.size hb4; have b04 := below_then b01 b01.size b14; obtain ⟨⟨s0, s1, s2⟩, ⟨t0, t1, t2⟩, _⟩ := hbx W4 b14)
   go_wp2_with (go_at_call 18; refine (hRun4 _ b04).mono ?_; rintro e W6 ⟨v6, rfl, hM⟩; have b46 := below_then (below_alloc (Below.refl W4.heap.size W4) (.cells #[.bool a.f0, .int .i64 a.f1, .string a.f2, .bool b.f0, .int .i64 b.f1, .string b.f2] 32)) (below_alloc (Below.refl W4.heap.size W4) (.cells #[.bool a.f0, .int .i64 a.f1, .string a.f2, .bool b.f0, .int .i64 b.f1, .string b.f2] 32)).size hM.below; have b16 := below_then b14 b14.size b46; obtain ⟨_, _, r2⟩ := hbx W6 b16; have c0 := (blk_cell r2 0).trans rfl; have c1 := (blk_cell r2 1).trans rfl; have c2 := (blk_cell r2 2).trans rfl; have f0 := blk_frozen r2 0; have f1 := blk_frozen r2 1; have f2 := blk_frozen r2 2; have cU := hM.getU)
   refine bodyPost_ret (results_ctt rfl _ _ (w0.heap.size + 2) 32 #[.bool false, .int .i64 0, .string (⟨#[]⟩ : ByteArray)] (0, 0) _ rfl (blk_set (blk_set (blk_set r2 0 _) 1 _) 2 _) Tryz.underlying32 rfl (by kernel_rfl)) rfl ?_
   exact ⟨rfl, set3 (below_then b01 b01.size b16) (by omega)⟩
 ·rw [if_neg hec] at hrun
  obtain ⟨rfl, rfl, rfl⟩ := hrun
  have e1 : (er == 0) = false := by simp [hec]
  have e2 : (er != 0) = true := by simp [hec]
  clear hec hp
  go_enter Tryz.func14, Tryz.ntmps14
  go_upto_region 1 with fail
  generalize hW1 : ((w0.alloc (.cells #[.bool a.f0, .int .i64 a.f1, .string a.f2] 32)).alloc (.cells #[.bool b.f0, .int .i64 b.f1, .string b.f2] 32)).alloc (.cells #[.bool false, .int .i64 0, .string (⟨#[]⟩ : ByteArray)] 32) = W1
  obtain ⟨b01, z1, hbx⟩ := hbx W1 hW1
  clear hW1
  obtain ⟨⟨a0, a1, a2⟩, _, _⟩ := hbx W1 (Below.refl _ _)
  have hT1 := E.tb _ _ hT b01
  go_wp2_with (go_at_call 22; (with_reducible refine Calls.mono (hA _ hT1) ?_); rintro e W2 ⟨rfl, hb2⟩; obtain ⟨_, ⟨b0, b1, b2⟩, _⟩ := hbx W2 hb2; have hT2 := E.tb _ _ hT1 hb2)
  go_wp2_with (go_at_call 22; (with_reducible refine Calls.mono (hB _ hT2) ?_); rintro e W3 ⟨rfl, hb3⟩; have b13 := below_then hb2 hb2.size hb3; obtain ⟨⟨p0, p1, p2⟩, ⟨q0, q1, q2⟩, _⟩ := hbx W3 b13; have hT3 := E.tb _ _ hT2 hb3; have p0' := cell_keep0 (below_alloc (Below.refl _ _) (.cells #[.bool a.f0, .bool b.f0] 4)) p0)
  go_wp2_with (go_at_call 21; refine (hchk _ hT3 (below_then b01 b01.size b13)).mono ?_; rintro e W4 ⟨rfl, hb4⟩; have b14 := below_then b13 b13.size hb4; obtain ⟨_, _, r2⟩ := hbx W4 b14; have c0 := (blk_cell r2 0).trans rfl; have c1 := (blk_cell r2 1).trans rfl; have c2 := (blk_cell r2 2).trans rfl; have f0 := blk_frozen r2 0; have f1 := blk_frozen r2 1; have f2 := blk_frozen r2 2)
  refine bodyPost_ret (results_ctt rfl _ _ (w0.heap.size + 2) 32 #[.bool false, .int .i64 0, .string (⟨#[]⟩ : ByteArray)] (0, 0) _ rfl (blk_set (blk_set (blk_set r2 0 _) 1 _) 2 _) Tryz.underlying32 rfl (by kernel_rfl)) rfl ?_
  exact ⟨rfl, set3 (below_then b01 b01.size b14) (by omega)⟩
end Go.Proofs.YtnodgcakmolleaaGreatDoor.XEval
