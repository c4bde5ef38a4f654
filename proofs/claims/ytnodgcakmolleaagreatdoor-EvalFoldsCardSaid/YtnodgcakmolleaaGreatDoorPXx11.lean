/- Walked functions, by this session's program over the kit's print. -/
import Derived.Test.YtnodgcakmolleaaGreatDoorXEvalFns
import Derived.Test.YtnodgcakmolleaaGreatDoorPXx0
import Derived.Test.YtnodgcakmolleaaGreatDoorPXx1
import Derived.Test.YtnodgcakmolleaaGreatDoorPXx3
import Derived.Test.YtnodgcakmolleaaGreatDoorPXx9
namespace Go.Proofs.YtnodgcakmolleaaGreatDoor.PX
open Go.RowKit Go.Proofs.YtnodgcakmolleaaGreatDoorW.PrintWords Go.Proofs.YtnodgcakmolleaaGreatDoorW.PrintLast Go.Proofs.YtnodgcakmolleaaGreatDoorW.PrintMore
attribute [local go_sem] xm_gtr max2_int min2_int max_two min_two max_three min_three max_four min_four
set_option linter.unusedVariables false
set_option linter.unusedSimpArgs false
section
/- Walked functions, by this session's program over the kit's print. -/
attribute [local go_sem high] eqA32
def eval_isVal.f (a0_0 : Bool) (a0_1 : Int) (a0_2 : ByteArray) : Option (Bool) := if a0_0 = true then ((value_Text.f a0_2).bind fun bt337 => (some (a0_0 == bt337.1 && (a0_1 == bt337.2.1 && (a0_2.toList == bt337.2.2.toList))))) else ((value_Num.f a0_1).bind fun bt340 => (some (a0_0 == bt340.1 && (a0_1 == bt340.2.1 && (a0_2.toList == bt340.2.2.toList)))))
set_option maxHeartbeats 8000000 in
set_option maxRecDepth 100000 in
theorem eval_isVal.calls (a0_0 : Bool) (a0_1 : Int) (a0_2 : ByteArray) (r : Bool) (w : World) (hT : Tabs w) (h : eval_isVal.f a0_0 a0_1 a0_2 = some r) :
  Calls Tryz.prog 22 #[.agg #[.bool a0_0, .int .i64 a0_1, .string a0_2]] w fun e w' => e = .returned (.bool r) ∧ Below w.heap.size w w' := by
 have hu32 := Tryz.underlying32
 have HB := xy (Below.refl w.heap.size w)
 unfold eval_isVal.f at h
 have H := h
 clear h
 by_cases c2 : a0_0 = true
 ·subst c2
  rw [if_pos rfl] at H
  replace H := xj H
  obtain ⟨⟨t337, t338, t339⟩, A30, H⟩ := H
  try dsimp only at H
  have A3 := xy A30
  clear A30
  obtain rfl := Option.some.inj H
  go_enter Tryz.func22, Tryz.ntmps22
  try go_wp2_with (((with_reducible refine gate_dst (N := 1) rfl ?_); refine xq (N := 1) (cs := #[.bool true, .int .i64 a0_1, .string a0_2]) (t := 32) ?_; intro gb336 hg w4 hbox hb; have BK336 := xy (hbox); have GW336 := xs w hg; have GE336 := xs w hg; replace HB := xy (below_step xb hb); clear hb hbox hg; have hcz5_0 : w4.cell? ⟨gb336, 0, none⟩ = some (.bool true) := (kc BK336.out 0).trans rfl; have hcz5_1 : w4.cell? ⟨gb336, 1, none⟩ = some (.int .i64 a0_1) := (kc BK336.out 1).trans rfl; have hcz5_2 : w4.cell? ⟨gb336, 2, none⟩ = some (.string a0_2) := (kc BK336.out 2).trans rfl; have hfz5_0 := kf BK336.out 0; have hfz5_1 := kf BK336.out 1; have hfz5_2 := kf BK336.out 2))
  replace BK336 := xy (blk_drew BK336.out)
  replace HB := xy (below_drew1 HB.out)
  refine start_ (n := 6) (S := fun w' => w'.cell? ⟨gb336, 0, none⟩ = some (.bool true) ∧ w'.cell? ⟨gb336, 1, none⟩ = some (.int .i64 a0_1) ∧ w'.cell? ⟨gb336, 2, none⟩ = some (.string a0_2)) (ds := []) #[false, false, false, false, false, false] (by kernel_rfl) rfl rfl ⟨(kc BK336.out 0).trans rfl, (kc BK336.out 1).trans rfl, (kc BK336.out 2).trans rfl⟩ (fun hHeld => ?_)
  generalize w4.drew = w6 at BK336 HB hHeld ⊢
  refine pure_ (i := 1) (N := some 6) (v := ?_) (a' := ?_) #[false, true, false, false, false, false] rfl rfl (by kernel_rfl) (fun _ _ _ h => h) (Or.inl ⟨by rfl, ?_⟩) ?_ ?_
  rotate_left
  ·intro w'
   go_simp
   with_reducible rfl
  rotate_left
  ·simp only [Act.put, List.setIfInBounds_toArray, List.set_cons_zero, List.set_cons_succ, i64_w, i32_w]
   rfl
  refine take_ (i := 0) (N := some 5) (v := ?_) (a' := ?_) #[true, true, false, false, false, false] rfl rfl (by kernel_rfl) (fun _ _ _ h => h) (Or.inl ⟨by rfl, ?_⟩) hHeld ?_ ?_
  rotate_left
  ·rintro w' ⟨s0, s1, s2⟩
   go_simp
   with_reducible rfl
  rotate_left
  ·simp only [Act.put, List.setIfInBounds_toArray, List.set_cons_zero, List.set_cons_succ, i64_w, i32_w]
   rfl
  refine take_ (i := 2) (N := some 7) (v := ?_) (a' := ?_) #[true, true, true, false, false, false] rfl rfl (by kernel_rfl) (fun _ _ _ h => h) (Or.inl ⟨by rfl, ?_⟩) hHeld ?_ ?_
  rotate_left
  ·rintro w' ⟨s0, s1, s2⟩
   go_simp
   with_reducible rfl
  rotate_left
  ·simp only [Act.put, List.setIfInBounds_toArray, List.set_cons_zero, List.set_cons_succ, i64_w, i32_w]
   rfl
  refine one_ (i := 3) (N := some 8) #[true, true, true, true, false, false] rfl rfl (by kernel_rfl) (by decide) (fun K hK => ?_)
  refine goes_ Tryz.func35 (by kernel_rfl) rfl #[.string a0_2] (by rfl) rfl rfl xr ?_
  with_reducible refine (value_Text.calls a0_2 t337 t338 t339 _ (Tabs.below hT xf) A3.out).mono ?_
  rintro e w7 ⟨rfl, hb⟩
  refine ⟨_, rfl, ?_⟩
  replace BK336 := xd BK336.out hb
  replace HB := xy (below_step xb hb)
  (try clear hb)
  (try clear hb2)
  (try clear hk)
  (try clear hi)
  refine hK.out _ _ ⟨(kc BK336.out 0).trans rfl, (kc BK336.out 1).trans rfl, (kc BK336.out 2).trans rfl⟩ (fun hHeld => ?_)
  clear hK K
  refine norm_ (a' := ?_) ?_ ?_
  rotate_left
  ·show Act.put _ (some 8) _ = _
   simp only [Act.put, List.setIfInBounds_toArray, List.set_cons_zero, List.set_cons_succ, i64_w, i32_w]
   rfl
  refine pure_ (i := 4) (N := some 9) (v := ?_) (a' := ?_) #[true, true, true, true, true, false] rfl rfl (by kernel_rfl) (fun _ _ _ h => h) (Or.inl ⟨by rfl, ?_⟩) ?_ ?_
  rotate_left
  ·intro w'
   go_simp
   with_reducible rfl
  rotate_left
  ·simp only [Act.put, List.setIfInBounds_toArray, List.set_cons_zero, List.set_cons_succ, i64_w, i32_w]
   rfl
  refine pure_ (i := 5) (N := some 2) (v := ?_) (a' := ?_) #[true, true, true, true, true, true] rfl rfl (by kernel_rfl) (fun _ _ _ h => h) (Or.inl ⟨by rfl, ?_⟩) ?_ ?_
  rotate_left
  ·intro w'
   go_simp
   with_reducible rfl
  rotate_left
  ·simp only [Act.put, List.setIfInBounds_toArray, List.set_cons_zero, List.set_cons_succ, i64_w, i32_w]
   rfl
  refine done_ (by kernel_rfl) ?_
  try go_wp2
  go_ret
  exact ⟨xe, xb⟩
 ·replace c2 := Bool.eq_false_iff.mpr c2
  subst c2
  rw [if_neg (show ¬ (false = true) by decide)] at H
  replace H := xj H
  obtain ⟨⟨t340, t341, t342⟩, A80, H⟩ := H
  try dsimp only at H
  have A8 := xy A80
  clear A80
  obtain rfl := Option.some.inj H
  go_enter Tryz.func22, Tryz.ntmps22
  try go_wp2_with (((with_reducible refine gate_dst (N := 1) rfl ?_); refine xq (N := 1) (cs := #[.bool false, .int .i64 a0_1, .string a0_2]) (t := 32) ?_; intro gb336 hg w9 hbox hb; have BK336 := xy (hbox); have GW336 := xs w hg; have GE336 := xs w hg; replace HB := xy (below_step xb hb); clear hb hbox hg; have hcz10_0 : w9.cell? ⟨gb336, 0, none⟩ = some (.bool false) := (kc BK336.out 0).trans rfl; have hcz10_1 : w9.cell? ⟨gb336, 1, none⟩ = some (.int .i64 a0_1) := (kc BK336.out 1).trans rfl; have hcz10_2 : w9.cell? ⟨gb336, 2, none⟩ = some (.string a0_2) := (kc BK336.out 2).trans rfl; have hfz10_0 := kf BK336.out 0; have hfz10_1 := kf BK336.out 1; have hfz10_2 := kf BK336.out 2))
  replace BK336 := xy (blk_drew BK336.out)
  replace HB := xy (below_drew1 HB.out)
  refine start_ (n := 6) (S := fun w' => w'.cell? ⟨gb336, 0, none⟩ = some (.bool false) ∧ w'.cell? ⟨gb336, 1, none⟩ = some (.int .i64 a0_1) ∧ w'.cell? ⟨gb336, 2, none⟩ = some (.string a0_2)) (ds := []) #[false, false, false, false, false, false] (by kernel_rfl) rfl rfl ⟨(kc BK336.out 0).trans rfl, (kc BK336.out 1).trans rfl, (kc BK336.out 2).trans rfl⟩ (fun hHeld => ?_)
  generalize w9.drew = w11 at BK336 HB hHeld ⊢
  refine pure_ (i := 1) (N := some 11) (v := ?_) (a' := ?_) #[false, true, false, false, false, false] rfl rfl (by kernel_rfl) (fun _ _ _ h => h) (Or.inl ⟨by rfl, ?_⟩) ?_ ?_
  rotate_left
  ·intro w'
   go_simp
   with_reducible rfl
  rotate_left
  ·simp only [Act.put, List.setIfInBounds_toArray, List.set_cons_zero, List.set_cons_succ, i64_w, i32_w]
   rfl
  refine take_ (i := 0) (N := some 10) (v := ?_) (a' := ?_) #[true, true, false, false, false, false] rfl rfl (by kernel_rfl) (fun _ _ _ h => h) (Or.inl ⟨by rfl, ?_⟩) hHeld ?_ ?_
  rotate_left
  ·rintro w' ⟨s0, s1, s2⟩
   go_simp
   with_reducible rfl
  rotate_left
  ·simp only [Act.put, List.setIfInBounds_toArray, List.set_cons_zero, List.set_cons_succ, i64_w, i32_w]
   rfl
  refine take_ (i := 2) (N := some 12) (v := ?_) (a' := ?_) #[true, true, true, false, false, false] rfl rfl (by kernel_rfl) (fun _ _ _ h => h) (Or.inl ⟨by rfl, ?_⟩) hHeld ?_ ?_
  rotate_left
  ·rintro w' ⟨s0, s1, s2⟩
   go_simp
   with_reducible rfl
  rotate_left
  ·simp only [Act.put, List.setIfInBounds_toArray, List.set_cons_zero, List.set_cons_succ, i64_w, i32_w]
   rfl
  refine one_ (i := 3) (N := some 13) #[true, true, true, true, false, false] rfl rfl (by kernel_rfl) (by decide) (fun K hK => ?_)
  refine goes_ Tryz.func36 (by kernel_rfl) rfl #[.int .i64 a0_1] (by rfl) rfl rfl xr ?_
  with_reducible refine (value_Num.calls a0_1 t340 t341 t342 _ (Tabs.below hT xf) A8.out).mono ?_
  rintro e w12 ⟨rfl, hb⟩
  refine ⟨_, rfl, ?_⟩
  replace BK336 := xd BK336.out hb
  replace HB := xy (below_step xb hb)
  (try clear hb)
  (try clear hb2)
  (try clear hk)
  (try clear hi)
  refine hK.out _ _ ⟨(kc BK336.out 0).trans rfl, (kc BK336.out 1).trans rfl, (kc BK336.out 2).trans rfl⟩ (fun hHeld => ?_)
  clear hK K
  refine norm_ (a' := ?_) ?_ ?_
  rotate_left
  ·show Act.put _ (some 13) _ = _
   simp only [Act.put, List.setIfInBounds_toArray, List.set_cons_zero, List.set_cons_succ, i64_w, i32_w]
   rfl
  refine pure_ (i := 4) (N := some 14) (v := ?_) (a' := ?_) #[true, true, true, true, true, false] rfl rfl (by kernel_rfl) (fun _ _ _ h => h) (Or.inl ⟨by rfl, ?_⟩) ?_ ?_
  rotate_left
  ·intro w'
   go_simp
   with_reducible rfl
  rotate_left
  ·simp only [Act.put, List.setIfInBounds_toArray, List.set_cons_zero, List.set_cons_succ, i64_w, i32_w]
   rfl
  refine pure_ (i := 5) (N := some 2) (v := ?_) (a' := ?_) #[true, true, true, true, true, true] rfl rfl (by kernel_rfl) (fun _ _ _ h => h) (Or.inl ⟨by rfl, ?_⟩) ?_ ?_
  rotate_left
  ·intro w'
   go_simp
   with_reducible rfl
  rotate_left
  ·simp only [Act.put, List.setIfInBounds_toArray, List.set_cons_zero, List.set_cons_succ, i64_w, i32_w]
   rfl
  refine done_ (by kernel_rfl) ?_
  try go_wp2
  go_ret
  exact ⟨xe, xb⟩
def eval_Fold.isB (x : XEval.Sv) : Bool := (eval_isVal.f x.f0 x.f1 x.f2).getD false
def eval_Fold.isS (x : XEval.Sv) : Bool := (eval_isVal.f x.f0 x.f1 x.f2).isSome
theorem eval_Fold.is_all (x : XEval.Sv) : eval_isVal.f x.f0 x.f1 x.f2 = some (eval_Fold.isB x) := by
 have hs : ∃ b, eval_isVal.f x.f0 x.f1 x.f2 = some b := by
  unfold eval_isVal.f
  have ht : ∃ p, value_Text.f x.f2 = some p := by
   unfold value_Text.f
   have h1 : mn (x.f2.size : Int) 1000 ≤ (x.f2.size : Int) := by unfold mn; split <;> omega
   have h0 : 0 ≤ mn (x.f2.size : Int) 1000 := by unfold mn; split <;> omega
   rw [if_pos h0, if_pos h1]
   exact ⟨_, rfl⟩
  obtain ⟨p, hp⟩ := ht
  rw [hp]
  by_cases c : x.f0 = true
  ·rw [if_pos c]; exact ⟨_, rfl⟩
  ·rw [if_neg c]; exact ⟨_, rfl⟩
 obtain ⟨b, hb⟩ := hs
 unfold eval_Fold.isB
 rw [hb]
 rfl
theorem eval_Fold.envF : XEval.EnvF Tabs eval_Fold.isB := ⟨fun x w hT => eval_isVal.calls x.f0 x.f1 x.f2 (eval_Fold.isB x) w hT (eval_Fold.is_all x)⟩
def eval_Fold.g (k : Nat) (p : List XCheck.Ins) (a b : XEval.Sv) (u : Int) : Option (XEval.Sv × Int × Int) :=
 if eval_Fold.isB a = false ∨ eval_Fold.isB b = false then some (XOps.zv, u, 1) else
 (check_Check.f k p [a.f0, b.f0] [a.f0]).bind fun ec =>
 if ec = 0 then (if p.length ≤ 10000 ∧ u ≤ 9223372036854775807 then (XEval.runE eval_Run.TX (eval_Run.DO k) [] [a, b] p [] u).bind fun q => if q.2.2 = 0 then (match q.1 with | [] => none | y :: _ => some (y, q.2.1, 0)) else some (XOps.zv, 0, q.2.2) else none) else some (XOps.zv, u, ec)
theorem eval_Fold.g_mono {k : Nat} {p : List XCheck.Ins} {a b : XEval.Sv} {u : Int} {r : XEval.Sv × Int × Int} (h : eval_Fold.g k p a b u = some r) : eval_Fold.g (k + 1) p a b u = some r := by
 unfold eval_Fold.g at h ⊢
 by_cases c : eval_Fold.isB a = false ∨ eval_Fold.isB b = false
 ·rw [if_pos c] at h ⊢; exact h
 rw [if_neg c] at h ⊢
 obtain ⟨ec, hc, h⟩ := Option.bind_eq_some_iff.1 h
 refine Option.bind_eq_some_iff.2 ⟨ec, check_Check.mono _ _ _ _ _ hc, ?_⟩
 by_cases c1 : ec = 0
 ·rw [if_pos c1] at h ⊢
  by_cases c2 : p.length ≤ 10000 ∧ u ≤ 9223372036854775807
  ·rw [if_pos c2] at h ⊢
   obtain ⟨q, hq, h⟩ := Option.bind_eq_some_iff.1 h
   exact Option.bind_eq_some_iff.2 ⟨q, XEval.runE_mono (eval_Run.DO_mono k) _ _ _ hq, h⟩
  ·rw [if_neg c2] at h; cases h
 ·rw [if_neg c1] at h ⊢; exact h
def eval_Fold.f (k : Nat) (l0 : List (S44)) (a1_0 : Bool) (a1_1 : Int) (a1_2 : ByteArray) (a2_0 : Bool) (a2_1 : Int) (a2_2 : ByteArray) (a3 : Int) : Option (Bool × Int × ByteArray × Int × Int) := (eval_Fold.g k l0 ⟨a1_0, a1_1, a1_2⟩ ⟨a2_0, a2_1, a2_2⟩ a3).map fun q => (q.1.f0, q.1.f1, q.1.f2, q.2.1, q.2.2)
theorem eval_Fold.mono : ∀ a0 a1 a2 a3 a4 a5 a6 a7 k, LeO (eval_Fold.f k a0 a1 a2 a3 a4 a5 a6 a7) (eval_Fold.f (k + 1) a0 a1 a2 a3 a4 a5 a6 a7) := by
 intro a0 a1 a2 a3 a4 a5 a6 a7 k r h
 obtain ⟨q, hq, h⟩ := Option.map_eq_some_iff.1 h
 exact Option.map_eq_some_iff.2 ⟨q, eval_Fold.g_mono hq, h⟩
theorem eval_Fold.calls (k : Nat) (A0 : Option Addr) (c0 : Nat) (l0 : List (S44)) (a1_0 : Bool) (a1_1 : Int) (a1_2 : ByteArray) (a2_0 : Bool) (a2_1 : Int) (a2_2 : ByteArray) (a3 : Int) (r1 : Bool) (r2 : Int) (r3 : ByteArray) (r4 : Int) (r5 : Int) (w : World) (hT : Tabs w) (hr0 : Kd.C k44 w A0 l0.length l0) (hc0 : l0.length ≤ c0) (h : eval_Fold.f k l0 a1_0 a1_1 a1_2 a2_0 a2_1 a2_2 a3 = some (r1, r2, r3, r4, r5)) :
  Calls Tryz.prog 14 #[.slice A0 l0.length c0, .agg #[.bool a1_0, .int .i64 a1_1, .string a1_2], .agg #[.bool a2_0, .int .i64 a2_1, .string a2_2], .int .i64 a3] w fun e w' => e = .returned (.tuple #[.agg #[.bool r1, .int .i64 r2, .string r3], .int .i64 r4, .int .i64 r5]) ∧ Below w.heap.size w w' := by
 obtain ⟨⟨y, u', er⟩, h', h2⟩ := Option.map_eq_some_iff.1 h
 clear h
 have h := h'
 clear h'
 simp only [Prod.mk.injEq] at h2
 obtain ⟨rfl, rfl, rfl, rfl, rfl⟩ := h2
 unfold eval_Fold.g at h
 by_cases c : eval_Fold.isB ⟨a1_0, a1_1, a1_2⟩ = false ∨ eval_Fold.isB ⟨a2_0, a2_1, a2_2⟩ = false
 ·rw [if_pos c] at h
  have h := Option.some.inj h
  simp only [Prod.mk.injEq] at h
  obtain ⟨rfl, rfl, rfl⟩ := h
  exact XEval.Fold_bad (T := Tabs) (fun w w' h hb => h.below hb) eval_Fold.envF hT _ ⟨a1_0, a1_1, a1_2⟩ ⟨a2_0, a2_1, a2_2⟩ c a3
 rw [if_neg c] at h
 have c1 : eval_Fold.isB ⟨a1_0, a1_1, a1_2⟩ = true := by simpa using fun e => c (.inl e)
 have c2 : eval_Fold.isB ⟨a2_0, a2_1, a2_2⟩ = true := by simpa using fun e => c (.inr e)
 obtain ⟨ec, hc, h⟩ := Option.bind_eq_some_iff.1 h
 have hChk : ∀ (W : World) (g1 g2 : Nat), Tabs W → Below w.heap.size w W → Kd.C Kd.bool W (some ⟨g1, 0, none⟩) 2 [a1_0, a2_0] → Kd.C Kd.bool W (some ⟨g2, 0, none⟩) 1 [a1_0] → Calls Tryz.prog 21 #[.slice A0 l0.length c0, .slice (some ⟨g1, 0, none⟩) 2 2, .slice (some ⟨g2, 0, none⟩) 1 1] W fun e w' => e = .returned (.int .i64 ec) ∧ Below W.heap.size W w' := fun W g1 g2 hTW hB h1 h2 =>
  check_Check.calls k A0 c0 l0 (some ⟨g1, 0, none⟩) 2 [a1_0, a2_0] (some ⟨g2, 0, none⟩) 1 [a1_0] ec W hTW (Kd.C_below hr0 hB) hc0 h1 (Nat.le_refl _) h2 (Nat.le_refl _) hc
 by_cases c3 : l0.length ≤ 10000 ∧ a3 ≤ 9223372036854775807
 ·refine XEval.Fold_go (eval_Run.env k) eval_Fold.envF hT A0 c0 l0 hr0 c3.1 c3.2 ⟨a1_0, a1_1, a1_2⟩ ⟨a2_0, a2_1, a2_2⟩ c1 c2 hChk ?_
  by_cases c4 : ec = 0
  ·rw [if_pos c4] at h ⊢
   rw [if_pos c3] at h
   obtain ⟨⟨s', uu, e2⟩, hq, h⟩ := Option.bind_eq_some_iff.1 h
   dsimp only at h
   by_cases c5 : e2 = 0
   ·rw [if_pos c5] at h
    subst c5
    cases s' with
    | nil => cases h
    | cons z t =>
     have h := Option.some.inj h
     simp only [Prod.mk.injEq] at h
     obtain ⟨rfl, rfl, rfl⟩ := h
     exact ⟨_, _, hq, by rw [if_pos rfl]; exact ⟨⟨t, rfl⟩, rfl⟩⟩
   ·rw [if_neg c5] at h
    have h := Option.some.inj h
    simp only [Prod.mk.injEq] at h
    obtain ⟨rfl, rfl, rfl⟩ := h
    exact ⟨_, _, hq, by rw [if_neg c5]; exact ⟨rfl, rfl⟩⟩
  ·rw [if_neg c4] at h ⊢
   have h := Option.some.inj h
   simp only [Prod.mk.injEq] at h
   obtain ⟨rfl, rfl, rfl⟩ := h
   exact ⟨rfl, rfl, rfl⟩
 ·by_cases c4 : ec = 0
  ·rw [if_pos c4, if_neg c3] at h; cases h
  ·rw [if_neg c4] at h
   have h := Option.some.inj h
   simp only [Prod.mk.injEq] at h
   obtain ⟨rfl, rfl, rfl⟩ := h
   exact XEval.Fold_err (T := Tabs) eval_Fold.envF (fun w w' h hb => h.below hb) hT A0 c0 l0 a3 ⟨a1_0, a1_1, a1_2⟩ ⟨a2_0, a2_1, a2_2⟩ c1 c2 c4 hChk
end
/- Walked functions, by this session's program over the kit's print. -/
mutual
def r13_kinds.j0 : Nat → Int → Bool → Option (ByteArray × ByteArray)
 | 0, _, _ => none
 | k + 1, x4, x5 => if x5 = true then (some ((⟨#[110, 110]⟩ : ByteArray), (⟨#[110]⟩ : ByteArray))) else (if x4 = 9 then (some ((⟨#[116, 116]⟩ : ByteArray), (⟨#[116]⟩ : ByteArray))) else (if x4 = 10 then (r13_kinds.j1 k x4 (x4 == 10)) else (if x4 = 18 then (r13_kinds.j1 k x4 (x4 == 18)) else (r13_kinds.j1 k x4 (x4 == 20)))))
def r13_kinds.j1 : Nat → Int → Bool → Option (ByteArray × ByteArray)
 | 0, _, _ => none
 | k + 1, x4, x13 => if x13 = true then (some ((⟨#[116]⟩ : ByteArray), (⟨#[110]⟩ : ByteArray))) else (if x4 = 11 then (some ((⟨#[116, 110, 110]⟩ : ByteArray), (⟨#[116]⟩ : ByteArray))) else (if x4 = 12 then (r13_kinds.j2 k x4 (x4 == 12)) else (r13_kinds.j2 k x4 (x4 == 13))))
def r13_kinds.j2 : Nat → Int → Bool → Option (ByteArray × ByteArray)
 | 0, _, _ => none
 | k + 1, x4, x19 => if x19 = true then (some ((⟨#[116]⟩ : ByteArray), (⟨#[116]⟩ : ByteArray))) else (if x4 = 14 then (r13_kinds.j3 k x4 (x4 == 14)) else (r13_kinds.j3 k x4 (x4 == 15)))
def r13_kinds.j3 : Nat → Int → Bool → Option (ByteArray × ByteArray)
 | 0, _, _ => none
 | k + 1, x4, x22 => if x22 = true then (some ((⟨#[97, 97]⟩ : ByteArray), (⟨#[110]⟩ : ByteArray))) else (if x4 = 16 then (some ((⟨#[110]⟩ : ByteArray), (⟨#[110]⟩ : ByteArray))) else (if x4 = 17 then (some ((⟨#[110, 97, 97]⟩ : ByteArray), (⟨#[97]⟩ : ByteArray))) else (if x4 = 19 then (some ((⟨#[110]⟩ : ByteArray), (⟨#[116]⟩ : ByteArray))) else (if x4 = 21 then (some ((⟨#[116, 116]⟩ : ByteArray), (⟨#[110]⟩ : ByteArray))) else (some ((⟨#[]⟩ : ByteArray), (⟨#[]⟩ : ByteArray)))))))
end
def r13_kinds.f (k : Nat) (a0 : Int) : Option (ByteArray × ByteArray) := if a0 = 4 then (r13_kinds.j0 k a0 (a0 == 4)) else (if a0 = 5 then (r13_kinds.j0 k a0 (a0 == 5)) else (if a0 = 6 then (r13_kinds.j0 k a0 (a0 == 6)) else (if a0 = 7 then (r13_kinds.j0 k a0 (a0 == 7)) else (r13_kinds.j0 k a0 (a0 == 8)))))
theorem r13_kinds.mono_l : ∀ k, (∀ y0 y1, LeO (r13_kinds.j0 k y0 y1) (r13_kinds.j0 (k + 1) y0 y1)) ∧ (∀ y0 y1, LeO (r13_kinds.j1 k y0 y1) (r13_kinds.j1 (k + 1) y0 y1)) ∧ (∀ y0 y1, LeO (r13_kinds.j2 k y0 y1) (r13_kinds.j2 (k + 1) y0 y1)) ∧ (∀ y0 y1, LeO (r13_kinds.j3 k y0 y1) (r13_kinds.j3 (k + 1) y0 y1))
 | 0 => ⟨fun _ _ r h => by simp [r13_kinds.j0] at h, fun _ _ r h => by simp [r13_kinds.j1] at h, fun _ _ r h => by simp [r13_kinds.j2] at h, fun _ _ r h => by simp [r13_kinds.j3] at h⟩
 | k + 1 => by
  obtain ⟨ih0, ih1, ih2, ih3⟩ := r13_kinds.mono_l k
  refine ⟨?_, ?_, ?_, ?_⟩
  ·intro y0 y1
   unfold r13_kinds.j0
   repeat' (with_reducible first | exact ih0 _ _ | exact ih1 _ _ | exact ih2 _ _ | exact ih3 _ _ | exact LeO.refl _ | exact LeO.none _ | refine LeO.ite ?_ ?_ | refine LeO.bind ?_ (fun _ => ?_))
  ·intro y0 y1
   unfold r13_kinds.j1
   repeat' (with_reducible first | exact ih0 _ _ | exact ih1 _ _ | exact ih2 _ _ | exact ih3 _ _ | exact LeO.refl _ | exact LeO.none _ | refine LeO.ite ?_ ?_ | refine LeO.bind ?_ (fun _ => ?_))
  ·intro y0 y1
   unfold r13_kinds.j2
   repeat' (with_reducible first | exact ih0 _ _ | exact ih1 _ _ | exact ih2 _ _ | exact ih3 _ _ | exact LeO.refl _ | exact LeO.none _ | refine LeO.ite ?_ ?_ | refine LeO.bind ?_ (fun _ => ?_))
  ·intro y0 y1
   unfold r13_kinds.j3
   repeat' (with_reducible first | exact ih0 _ _ | exact ih1 _ _ | exact ih2 _ _ | exact ih3 _ _ | exact LeO.refl _ | exact LeO.none _ | refine LeO.ite ?_ ?_ | refine LeO.bind ?_ (fun _ => ?_))
theorem r13_kinds.mono : ∀ a0 k, LeO (r13_kinds.f k a0) (r13_kinds.f (k + 1) a0) := by
 intro a0 k
 obtain ⟨ih0, ih1, ih2, ih3⟩ := r13_kinds.mono_l k
 unfold r13_kinds.f
 repeat' (with_reducible first | exact ih0 _ _ | exact ih1 _ _ | exact ih2 _ _ | exact ih3 _ _ | exact LeO.refl _ | exact LeO.none _ | refine LeO.ite ?_ ?_ | refine LeO.bind ?_ (fun _ => ?_))
set_option maxHeartbeats 8000000 in
set_option maxRecDepth 100000 in
theorem r13_kinds.calls (k : Nat) (a0 : Int) (r1 : ByteArray) (r2 : ByteArray) (w : World) (hT : Tabs w) (h : r13_kinds.f k a0 = some (r1, r2)) :
  Calls Tryz.prog 49 #[.int .i64 a0] w fun e w' => e = .returned (.tuple #[.string r1, .string r2]) ∧ Drawn0 w w' := by
 unfold r13_kinds.f at h
 have H := h
 clear h
 have HC2 := xy H
 clear H
 go_enter Tryz.func49, Tryz.ntmps49
 go_upto_if 5 with (fail)
 go_cut [5] (fun v5 wc => ∃ (kq : Nat) (x5_1 : Bool), v5 = .bool x5_1 ∧ Aside0 (r13_kinds.j0 kq a0 x5_1 = some (r1, r2)) ∧ Aside0 (kq ≤ k) ∧ Drawn0 w wc)
 case first =>
  have H := HC2.out
  clear HC2
  by_cases c3 : a0 = 4
  ·rw [if_pos c3] at H
   have c3b0 : (a0 == 4) = true := beq_iff_eq.mpr c3
   have c3b1 : (a0 != 4) = false := bne_eq_false_iff_eq.mpr c3
   clear c3
   (first | rw [c3b0] | (simp only [i64_w, i32_w]; rw [c3b0]) | skip)
   have H' := xy H
   clear H
   go_wp2
   go_meet
   case rel => exact ⟨_, ((a0 == 4)), xg, H', ⟨by first | omega | exact Nat.le_refl _⟩, by repeat (first | exact Drawn0.refl _ | apply Drawn0.step)⟩
  ·rw [if_neg c3] at H
   have c3b0 : (a0 == 4) = false := beq_eq_false_iff_ne.mpr c3
   have c3b1 : (a0 != 4) = true := bne_iff_ne.mpr c3
   (first | rw [c3b0] | (simp only [i64_w, i32_w]; rw [c3b0]) | skip)
   by_cases c4 : a0 = 5
   ·rw [if_pos c4] at H
    have c4b0 : (a0 == 5) = true := beq_iff_eq.mpr c4
    have c4b1 : (a0 != 5) = false := bne_eq_false_iff_eq.mpr c4
    clear c4
    have H' := xy H
    clear H
    go_wp2
    go_meet
    case rel => exact ⟨_, ((a0 == 5)), xg, H', ⟨by first | omega | exact Nat.le_refl _⟩, by repeat (first | exact Drawn0.refl _ | apply Drawn0.step)⟩
   ·rw [if_neg c4] at H
    have c4b0 : (a0 == 5) = false := beq_eq_false_iff_ne.mpr c4
    have c4b1 : (a0 != 5) = true := bne_iff_ne.mpr c4
    by_cases c5 : a0 = 6
    ·rw [if_pos c5] at H
     have c5b0 : (a0 == 6) = true := beq_iff_eq.mpr c5
     have c5b1 : (a0 != 6) = false := bne_eq_false_iff_eq.mpr c5
     clear c5
     have H' := xy H
     clear H
     go_wp2
     go_meet
     case rel => exact ⟨_, ((a0 == 6)), xg, H', ⟨by first | omega | exact Nat.le_refl _⟩, by repeat (first | exact Drawn0.refl _ | apply Drawn0.step)⟩
    ·rw [if_neg c5] at H
     have c5b0 : (a0 == 6) = false := beq_eq_false_iff_ne.mpr c5
     have c5b1 : (a0 != 6) = true := bne_iff_ne.mpr c5
     by_cases c6 : a0 = 7
     ·rw [if_pos c6] at H
      have c6b0 : (a0 == 7) = true := beq_iff_eq.mpr c6
      have c6b1 : (a0 != 7) = false := bne_eq_false_iff_eq.mpr c6
      clear c6
      have H' := xy H
      clear H
      go_wp2
      go_meet
      case rel => exact ⟨_, ((a0 == 7)), xg, H', ⟨by first | omega | exact Nat.le_refl _⟩, by repeat (first | exact Drawn0.refl _ | apply Drawn0.step)⟩
     ·rw [if_neg c6] at H
      have c6b0 : (a0 == 7) = false := beq_eq_false_iff_ne.mpr c6
      have c6b1 : (a0 != 7) = true := bne_iff_ne.mpr c6
      have H' := xy H
      clear H
      go_wp2
      go_meet
      case rel => exact ⟨_, ((a0 == 8)), xg, H', ⟨by first | omega | exact Nat.le_refl _⟩, by repeat (first | exact Drawn0.refl _ | apply Drawn0.step)⟩
 case rest =>
  clear HC2
  try clear p2
  try clear c3
  try clear c3b0
  try clear c3b1
  try clear c4
  try clear c4b0
  try clear c4b1
  try clear c5
  try clear c5b0
  try clear c5b1
  try clear c6
  try clear c6b0
  try clear c6b1
  obtain ⟨kq, x5_1, rfl, HA, HJ1, ⟨mc1, rfl⟩⟩ := hcut
  cases kq with
  | zero => exact absurd HA.out (by simp [r13_kinds.j0])
  | succ kj1 =>
   have H := HA.out
   clear HA
   simp only [r13_kinds.j0] at H
   by_cases c7 : x5_1 = true
   ·subst c7
    rw [if_pos rfl] at H
    simp only [Option.some.injEq, Prod.mk.injEq] at H
    obtain ⟨rfl, rfl⟩ := H
    go_wp2
    go_ret2
    exact ⟨xg, xz⟩
   ·replace c7 := Bool.eq_false_iff.mpr c7
    subst c7
    rw [if_neg (show ¬ (false = true) by decide)] at H
    by_cases c8 : a0 = 9
    ·rw [if_pos c8] at H
     have c8b0 : (a0 == 9) = true := beq_iff_eq.mpr c8
     have c8b1 : (a0 != 9) = false := bne_eq_false_iff_eq.mpr c8
     clear c8
     simp only [Option.some.injEq, Prod.mk.injEq] at H
     obtain ⟨rfl, rfl⟩ := H
     go_wp2
     go_ret2
     exact ⟨xg, xz⟩
    ·rw [if_neg c8] at H
     have c8b0 : (a0 == 9) = false := beq_eq_false_iff_ne.mpr c8
     have c8b1 : (a0 != 9) = true := bne_iff_ne.mpr c8
     have HC9 := xy H
     clear H
     go_upto_if 13 with (fail)
     go_cut [13] (fun v13 wc => ∃ (kq : Nat) (x13_8 : Bool), v13 = .bool x13_8 ∧ Aside0 (r13_kinds.j1 kq a0 x13_8 = some (r1, r2)) ∧ Aside0 (kq ≤ kj1) ∧ Drawn0 w wc)
     case first =>
      have H := HC9.out
      clear HC9
      by_cases c10 : a0 = 10
      ·rw [if_pos c10] at H
       have c10b0 : (a0 == 10) = true := beq_iff_eq.mpr c10
       have c10b1 : (a0 != 10) = false := bne_eq_false_iff_eq.mpr c10
       clear c10
       (first | rw [c10b0] | (simp only [i64_w, i32_w]; rw [c10b0]) | skip)
       have H' := xy H
       clear H
       go_wp2
       go_meet
       case rel => exact ⟨_, ((a0 == 10)), xg, H', ⟨by have := HJ1.out; first | omega | exact Nat.le_refl _⟩, by repeat (first | exact Drawn0.refl _ | apply Drawn0.step)⟩
      ·rw [if_neg c10] at H
       have c10b0 : (a0 == 10) = false := beq_eq_false_iff_ne.mpr c10
       have c10b1 : (a0 != 10) = true := bne_iff_ne.mpr c10
       (first | rw [c10b0] | (simp only [i64_w, i32_w]; rw [c10b0]) | skip)
       by_cases c11 : a0 = 18
       ·rw [if_pos c11] at H
        have c11b0 : (a0 == 18) = true := beq_iff_eq.mpr c11
        have c11b1 : (a0 != 18) = false := bne_eq_false_iff_eq.mpr c11
        clear c11
        have H' := xy H
        clear H
        go_wp2
        go_meet
        case rel => exact ⟨_, ((a0 == 18)), xg, H', ⟨by have := HJ1.out; first | omega | exact Nat.le_refl _⟩, by repeat (first | exact Drawn0.refl _ | apply Drawn0.step)⟩
       ·rw [if_neg c11] at H
        have c11b0 : (a0 == 18) = false := beq_eq_false_iff_ne.mpr c11
        have c11b1 : (a0 != 18) = true := bne_iff_ne.mpr c11
        have H' := xy H
        clear H
        go_wp2
        go_meet
        case rel => exact ⟨_, ((a0 == 20)), xg, H', ⟨by have := HJ1.out; first | omega | exact Nat.le_refl _⟩, by repeat (first | exact Drawn0.refl _ | apply Drawn0.step)⟩
     case rest =>
      clear HC9
      try clear c1
      try clear p2
      try clear c3
      try clear c3b0
      try clear c3b1
      try clear c4
      try clear c4b0
      try clear c4b1
      try clear c5
      try clear c5b0
      try clear c5b1
      try clear c6
      try clear c6b0
      try clear c6b1
      try clear c7
      try clear c8
      try clear c8b0
      try clear c8b1
      try clear c10
      try clear c10b0
      try clear c10b1
      try clear c11
      try clear c11b0
      try clear c11b1
      try clear p2
      obtain ⟨kq, x13_8, rfl, HA, HJ8, ⟨mc8, rfl⟩⟩ := hcut
      cases kq with
      | zero => exact absurd HA.out (by simp [r13_kinds.j1])
      | succ kj8 =>
       have H := HA.out
       clear HA
       simp only [r13_kinds.j1] at H
       by_cases c12 : x13_8 = true
       ·subst c12
        rw [if_pos rfl] at H
        simp only [Option.some.injEq, Prod.mk.injEq] at H
        obtain ⟨rfl, rfl⟩ := H
        go_wp2
        go_ret2
        exact ⟨xg, xz⟩
       ·replace c12 := Bool.eq_false_iff.mpr c12
        subst c12
        rw [if_neg (show ¬ (false = true) by decide)] at H
        by_cases c13 : a0 = 11
        ·rw [if_pos c13] at H
         have c13b0 : (a0 == 11) = true := beq_iff_eq.mpr c13
         have c13b1 : (a0 != 11) = false := bne_eq_false_iff_eq.mpr c13
         clear c13
         simp only [Option.some.injEq, Prod.mk.injEq] at H
         obtain ⟨rfl, rfl⟩ := H
         go_wp2
         go_ret2
         exact ⟨xg, xz⟩
        ·rw [if_neg c13] at H
         have c13b0 : (a0 == 11) = false := beq_eq_false_iff_ne.mpr c13
         have c13b1 : (a0 != 11) = true := bne_iff_ne.mpr c13
         have HC14 := xy H
         clear H
         go_upto_if 19 with (fail)
         go_cut [19] (fun v19 wc => ∃ (kq : Nat) (x19_13 : Bool), v19 = .bool x19_13 ∧ Aside0 (r13_kinds.j2 kq a0 x19_13 = some (r1, r2)) ∧ Aside0 (kq ≤ kj8) ∧ Drawn0 w wc)
         case first =>
          have H := HC14.out
          clear HC14
          by_cases c15 : a0 = 12
          ·rw [if_pos c15] at H
           have c15b0 : (a0 == 12) = true := beq_iff_eq.mpr c15
           have c15b1 : (a0 != 12) = false := bne_eq_false_iff_eq.mpr c15
           clear c15
           (first | rw [c15b0] | (simp only [i64_w, i32_w]; rw [c15b0]) | skip)
           have H' := xy H
           clear H
           go_wp2
           go_meet
           case rel => exact ⟨_, ((a0 == 12)), xg, H', ⟨by have := HJ1.out; have := HJ8.out; first | omega | exact Nat.le_refl _⟩, by repeat (first | exact Drawn0.refl _ | apply Drawn0.step)⟩
          ·rw [if_neg c15] at H
           have c15b0 : (a0 == 12) = false := beq_eq_false_iff_ne.mpr c15
           have c15b1 : (a0 != 12) = true := bne_iff_ne.mpr c15
           (first | rw [c15b0] | (simp only [i64_w, i32_w]; rw [c15b0]) | skip)
           have H' := xy H
           clear H
           go_wp2
           go_meet
           case rel => exact ⟨_, ((a0 == 13)), xg, H', ⟨by have := HJ1.out; have := HJ8.out; first | omega | exact Nat.le_refl _⟩, by repeat (first | exact Drawn0.refl _ | apply Drawn0.step)⟩
         case rest =>
          clear HC14
          try clear c1
          try clear p2
          try clear c3
          try clear c3b0
          try clear c3b1
          try clear c4
          try clear c4b0
          try clear c4b1
          try clear c5
          try clear c5b0
          try clear c5b1
          try clear c6
          try clear c6b0
          try clear c6b1
          try clear c7
          try clear c8
          try clear c8b0
          try clear c8b1
          try clear c10
          try clear c10b0
          try clear c10b1
          try clear c11
          try clear c11b0
          try clear c11b1
          try clear c12
          try clear c13
          try clear c13b0
          try clear c13b1
          try clear c15
          try clear c15b0
          try clear c15b1
          try clear p2
          obtain ⟨kq, x19_13, rfl, HA, HJ13, ⟨mc13, rfl⟩⟩ := hcut
          cases kq with
          | zero => exact absurd HA.out (by simp [r13_kinds.j2])
          | succ kj13 =>
           have H := HA.out
           clear HA
           simp only [r13_kinds.j2] at H
           by_cases c16 : x19_13 = true
           ·subst c16
            rw [if_pos rfl] at H
            simp only [Option.some.injEq, Prod.mk.injEq] at H
            obtain ⟨rfl, rfl⟩ := H
            go_wp2
            go_ret2
            exact ⟨xg, xz⟩
           ·replace c16 := Bool.eq_false_iff.mpr c16
            subst c16
            rw [if_neg (show ¬ (false = true) by decide)] at H
            have HC17 := xy H
            clear H
            go_upto_if 22 with (fail)
            go_cut [22] (fun v22 wc => ∃ (kq : Nat) (x22_16 : Bool), v22 = .bool x22_16 ∧ Aside0 (r13_kinds.j3 kq a0 x22_16 = some (r1, r2)) ∧ Aside0 (kq ≤ kj13) ∧ Drawn0 w wc)
            case first =>
             have H := HC17.out
             clear HC17
             by_cases c18 : a0 = 14
             ·rw [if_pos c18] at H
              have c18b0 : (a0 == 14) = true := beq_iff_eq.mpr c18
              have c18b1 : (a0 != 14) = false := bne_eq_false_iff_eq.mpr c18
              clear c18
              (first | rw [c18b0] | (simp only [i64_w, i32_w]; rw [c18b0]) | skip)
              have H' := xy H
              clear H
              go_wp2
              go_meet
              case rel => exact ⟨_, ((a0 == 14)), xg, H', ⟨by have := HJ1.out; have := HJ8.out; have := HJ13.out; first | omega | exact Nat.le_refl _⟩, by repeat (first | exact Drawn0.refl _ | apply Drawn0.step)⟩
             ·rw [if_neg c18] at H
              have c18b0 : (a0 == 14) = false := beq_eq_false_iff_ne.mpr c18
              have c18b1 : (a0 != 14) = true := bne_iff_ne.mpr c18
              (first | rw [c18b0] | (simp only [i64_w, i32_w]; rw [c18b0]) | skip)
              have H' := xy H
              clear H
              go_wp2
              go_meet
              case rel => exact ⟨_, ((a0 == 15)), xg, H', ⟨by have := HJ1.out; have := HJ8.out; have := HJ13.out; first | omega | exact Nat.le_refl _⟩, by repeat (first | exact Drawn0.refl _ | apply Drawn0.step)⟩
            case rest =>
             clear HC17
             try clear c1
             try clear p2
             try clear c3
             try clear c3b0
             try clear c3b1
             try clear c4
             try clear c4b0
             try clear c4b1
             try clear c5
             try clear c5b0
             try clear c5b1
             try clear c6
             try clear c6b0
             try clear c6b1
             try clear c7
             try clear c8
             try clear c8b0
             try clear c8b1
             try clear c10
             try clear c10b0
             try clear c10b1
             try clear c11
             try clear c11b0
             try clear c11b1
             try clear c12
             try clear c13
             try clear c13b0
             try clear c13b1
             try clear c15
             try clear c15b0
             try clear c15b1
             try clear c16
             try clear c18
             try clear c18b0
             try clear c18b1
             try clear p2
             obtain ⟨kq, x22_16, rfl, HA, HJ16, ⟨mc16, rfl⟩⟩ := hcut
             cases kq with
             | zero => exact absurd HA.out (by simp [r13_kinds.j3])
             | succ kj16 =>
              have H := HA.out
              clear HA
              simp only [r13_kinds.j3] at H
              by_cases c19 : x22_16 = true
              ·subst c19
               rw [if_pos rfl] at H
               simp only [Option.some.injEq, Prod.mk.injEq] at H
               obtain ⟨rfl, rfl⟩ := H
               go_wp2
               go_ret2
               exact ⟨xg, xz⟩
              ·replace c19 := Bool.eq_false_iff.mpr c19
               subst c19
               rw [if_neg (show ¬ (false = true) by decide)] at H
               by_cases c20 : a0 = 16
               ·rw [if_pos c20] at H
                have c20b0 : (a0 == 16) = true := beq_iff_eq.mpr c20
                have c20b1 : (a0 != 16) = false := bne_eq_false_iff_eq.mpr c20
                clear c20
                simp only [Option.some.injEq, Prod.mk.injEq] at H
                obtain ⟨rfl, rfl⟩ := H
                go_wp2
                go_ret2
                exact ⟨xg, xz⟩
               ·rw [if_neg c20] at H
                have c20b0 : (a0 == 16) = false := beq_eq_false_iff_ne.mpr c20
                have c20b1 : (a0 != 16) = true := bne_iff_ne.mpr c20
                by_cases c21 : a0 = 17
                ·rw [if_pos c21] at H
                 have c21b0 : (a0 == 17) = true := beq_iff_eq.mpr c21
                 have c21b1 : (a0 != 17) = false := bne_eq_false_iff_eq.mpr c21
                 clear c21
                 simp only [Option.some.injEq, Prod.mk.injEq] at H
                 obtain ⟨rfl, rfl⟩ := H
                 go_wp2
                 go_ret2
                 exact ⟨xg, xz⟩
                ·rw [if_neg c21] at H
                 have c21b0 : (a0 == 17) = false := beq_eq_false_iff_ne.mpr c21
                 have c21b1 : (a0 != 17) = true := bne_iff_ne.mpr c21
                 by_cases c22 : a0 = 19
                 ·rw [if_pos c22] at H
                  have c22b0 : (a0 == 19) = true := beq_iff_eq.mpr c22
                  have c22b1 : (a0 != 19) = false := bne_eq_false_iff_eq.mpr c22
                  clear c22
                  simp only [Option.some.injEq, Prod.mk.injEq] at H
                  obtain ⟨rfl, rfl⟩ := H
                  go_wp2
                  go_ret2
                  exact ⟨xg, xz⟩
                 ·rw [if_neg c22] at H
                  have c22b0 : (a0 == 19) = false := beq_eq_false_iff_ne.mpr c22
                  have c22b1 : (a0 != 19) = true := bne_iff_ne.mpr c22
                  by_cases c23 : a0 = 21
                  ·rw [if_pos c23] at H
                   have c23b0 : (a0 == 21) = true := beq_iff_eq.mpr c23
                   have c23b1 : (a0 != 21) = false := bne_eq_false_iff_eq.mpr c23
                   clear c23
                   simp only [Option.some.injEq, Prod.mk.injEq] at H
                   obtain ⟨rfl, rfl⟩ := H
                   go_wp2
                   go_ret2
                   exact ⟨xg, xz⟩
                  ·rw [if_neg c23] at H
                   have c23b0 : (a0 == 21) = false := beq_eq_false_iff_ne.mpr c23
                   have c23b1 : (a0 != 21) = true := bne_iff_ne.mpr c23
                   simp only [Option.some.injEq, Prod.mk.injEq] at H
                   obtain ⟨rfl, rfl⟩ := H
                   go_wp2
                   go_ret2
                   exact ⟨xg, xz⟩
/- Walked functions, by this session's program over the kit's print. -/
def r13_Arity.f (k : Nat) (a0 : Int) : Option (Int) := (r13_kinds.f k a0).bind fun bt343 => (some (bt343.1.size : Int))
theorem r13_Arity.mono : ∀ a0 k, LeO (r13_Arity.f k a0) (r13_Arity.f (k + 1) a0) := by
 intro a0 k
 unfold r13_Arity.f
 repeat' (with_reducible first | exact r13_kinds.mono _ _ | exact LeO.refl _ | exact LeO.none _ | refine LeO.ite ?_ ?_ | refine LeO.bind ?_ (fun _ => ?_))
set_option maxHeartbeats 8000000 in
set_option maxRecDepth 100000 in
theorem r13_Arity.calls (k : Nat) (a0 : Int) (r : Int) (w : World) (hT : Tabs w) (h : r13_Arity.f k a0 = some r) :
  Calls Tryz.prog 30 #[.int .i64 a0] w fun e w' => e = .returned (.int .i64 r) ∧ Drawn0 w w' := by
 unfold r13_Arity.f at h
 have H := h
 clear h
 replace H := xj H
 obtain ⟨⟨t343, t344⟩, A20, H⟩ := H
 try dsimp only at H
 have A2 := xy A20
 clear A20
 obtain rfl := Option.some.inj H
 go_enter Tryz.func30, Tryz.ntmps30
 go_wp2_with (((with_reducible refine gate_callee (f := 49) rfl ?_); refine goesL_ (some 7) rfl rfl Tryz.func49 (by kernel_rfl) rfl #[.int .i64 a0] rfl xr ?_; (with_reducible refine (r13_kinds.calls k a0 t343 t344 _ (Tabs.below hT xf) A2.out).mono ?_); rintro e w' ⟨rfl, ⟨nd, rfl⟩⟩; refine ⟨_, rfl, ?_⟩))
 go_ret
 exact ⟨xg, xz⟩
def r13_Num.f (a0 : Int) : Option (Bool × Int × ByteArray) := some (false, a0, (⟨#[]⟩ : ByteArray))
set_option maxHeartbeats 8000000 in
set_option maxRecDepth 100000 in
theorem r13_Num.calls (a0 : Int) (r1 : Bool) (r2 : Int) (r3 : ByteArray) (w : World) (hT : Tabs w) (h : r13_Num.f a0 = some (r1, r2, r3)) :
  Calls Tryz.prog 31 #[.int .i64 a0] w fun e w' => e = .returned (.agg #[.bool r1, .int .i64 r2, .string r3]) ∧ Below w.heap.size w w' := by
 have hu32 := Tryz.underlying32
 have HB := xy (Below.refl w.heap.size w)
 unfold r13_Num.f at h
 have H := h
 clear h
 simp only [Option.some.injEq, Prod.mk.injEq] at H
 obtain ⟨rfl, rfl, rfl⟩ := H
 go_enter Tryz.func31, Tryz.ntmps31
 go_wp2_with (((with_reducible refine gate_dst (N := 2) rfl ?_); refine xq (N := 2) (cs := #[.bool false, .int .i64 0, .string (⟨#[]⟩ : ByteArray)]) (t := 32) ?_; intro gb345 hg w2 hbox hb; have BK345 := xy (hbox); have GW345 := xs w hg; have GE345 := xs w hg; replace HB := xy (below_step xb hb); clear hb hbox hg; have hcz3_0 : w2.cell? ⟨gb345, 0, none⟩ = some (.bool false) := (kc BK345.out 0).trans rfl; have hcz3_1 : w2.cell? ⟨gb345, 1, none⟩ = some (.int .i64 0) := (kc BK345.out 1).trans rfl; have hcz3_2 : w2.cell? ⟨gb345, 2, none⟩ = some (.string (⟨#[]⟩ : ByteArray)) := (kc BK345.out 2).trans rfl; have hfz3_0 := kf BK345.out 0; have hfz3_1 := kf BK345.out 1; have hfz3_2 := kf BK345.out 2))
 refine bodyPost_ret (results_cell_row rfl _ _ gb345 32 #[.bool false, .int .i64 a0, .string (⟨#[]⟩ : ByteArray)] (0, 0) _ rfl (kp BK345.out) Tryz.underlying32 rfl (by kernel_rfl)) rfl ?_
 exact ⟨xe, xb⟩
def r13_clip.f (a0 : ByteArray) : Option (ByteArray) := if 0 ≤ (mn (a0.size : Int) 1000) then (if (mn (a0.size : Int) 1000) ≤ (a0.size : Int) then (some (a0.extract 0 ((mn (a0.size : Int) 1000) : Int).toNat)) else (none)) else (none)
set_option maxHeartbeats 8000000 in
set_option maxRecDepth 100000 in
theorem r13_clip.calls (a0 : ByteArray) (r : ByteArray) (w : World) (hT : Tabs w) (h : r13_clip.f a0 = some r) :
  Calls Tryz.prog 50 #[.string a0] w fun e w' => e = .returned (.string r) ∧ Below w.heap.size w w' := by
 have HB := xy (Below.refl w.heap.size w)
 unfold r13_clip.f at h
 have H := h
 clear h
 obtain ⟨ji2, hji2⟩ : ∃ j_ : Int, (mn (a0.size : Int) 1000) = j_ := ⟨_, rfl⟩
 replace H : (if 0 ≤ (ji2) then (if (ji2) ≤ (a0.size : Int) then (some (a0.extract 0 ((ji2) : Int).toNat)) else (none)) else (none)) = some r := by first | (rw [hji2] at H; exact H) | (simp only [hji2] at H ⊢; exact H)
 (try (have hji2h : ji2 ≤ 1000 := by (rw [← hji2]; unfold mn; (repeat' split) <;> omega)))
 (try (have hji2g : ji2 ≤ 64 := by omega))
 (try (have hji2l : 0 ≤ ji2 := by (rw [← hji2]; unfold mn; (repeat' split) <;> omega)))
 (try (have hji2m : 0 ≤ ji2 := by omega))
 have hji2_ : (if 1000 < (a0.size : Int) then 1000 else (a0.size : Int)) = ji2 := hji2
 by_cases c3 : 0 ≤ (ji2)
 ·rw [if_pos c3] at H
  have c3b0 := eq_true c3
  have c3b1 : decide (0 ≤ (ji2)) = true := decide_eq_true c3
  clear c3
  by_cases c4 : (ji2) ≤ (a0.size : Int)
  ·rw [if_pos c4] at H
   have c4b0 := eq_true c4
   have c4b1 : decide ((ji2) ≤ (a0.size : Int)) = true := decide_eq_true c4
   clear c4
   obtain rfl := Option.some.inj H
   go_enter Tryz.func50, Tryz.ntmps50
   go_wp2
   go_ret
   exact ⟨by first | rfl | (simp [errW_none, errW_some] <;> rfl) | (simp only [← hji2]; first | rfl | (simp [errW_none, errW_some] <;> rfl)) | (simp [*, errW_none, errW_some] <;> rfl), xb⟩
  ·rw [if_neg c4] at H
   exact absurd H (by simp)
 ·rw [if_neg c3] at H
  exact absurd H (by simp)
def r13_Text.f (a0 : ByteArray) : Option (Bool × Int × ByteArray) := (r13_clip.f a0).bind fun t347 => (some (true, 0, t347))
set_option maxHeartbeats 8000000 in
set_option maxRecDepth 100000 in
theorem r13_Text.calls (a0 : ByteArray) (r1 : Bool) (r2 : Int) (r3 : ByteArray) (w : World) (hT : Tabs w) (h : r13_Text.f a0 = some (r1, r2, r3)) :
  Calls Tryz.prog 32 #[.string a0] w fun e w' => e = .returned (.agg #[.bool r1, .int .i64 r2, .string r3]) ∧ Below w.heap.size w w' := by
 have hu32 := Tryz.underlying32
 have HB := xy (Below.refl w.heap.size w)
 unfold r13_Text.f at h
 have H := h
 clear h
 replace H := xj H
 obtain ⟨t347, A20, H⟩ := H
 try dsimp only at H
 have A2 := xy A20
 clear A20
 simp only [Option.some.injEq, Prod.mk.injEq] at H
 obtain ⟨rfl, rfl, rfl⟩ := H
 go_enter Tryz.func32, Tryz.ntmps32
 go_wp2_with (first | ((with_reducible refine gate_dst (N := 2) rfl ?_); refine xq (N := 2) (cs := #[.bool false, .int .i64 0, .string (⟨#[]⟩ : ByteArray)]) (t := 32) ?_; intro gb346 hg w3 hbox hb; have BK346 := xy (hbox); have GW346 := xs w hg; have GE346 := xs w hg; replace HB := xy (below_step xb hb); clear hb hbox hg) | ((with_reducible refine gate_callee (f := 50) rfl ?_); refine goesL_ (some 4) rfl rfl Tryz.func50 (by kernel_rfl) rfl #[.string a0] rfl xr ?_; (with_reducible refine (r13_clip.calls a0 t347 _ (Tabs.below hT xf) A2.out).mono ?_); rintro e w4 ⟨rfl, hb⟩; refine ⟨_, rfl, ?_⟩; replace BK346 := xd BK346.out hb; replace HB := xy (below_step xb hb); (try clear hb); (try clear hb2); (try clear hk); (try clear hi); have hcz5_0 : w4.cell? ⟨gb346, 0, none⟩ = some (.bool false) := (kc BK346.out 0).trans rfl; have hcz5_1 : w4.cell? ⟨gb346, 1, none⟩ = some (.int .i64 0) := (kc BK346.out 1).trans rfl; have hcz5_2 : w4.cell? ⟨gb346, 2, none⟩ = some (.string (⟨#[]⟩ : ByteArray)) := (kc BK346.out 2).trans rfl; have hfz5_0 := kf BK346.out 0; have hfz5_1 := kf BK346.out 1; have hfz5_2 := kf BK346.out 2))
 refine bodyPost_ret (results_cell_row rfl _ _ gb346 32 #[.bool true, .int .i64 0, .string t347] (0, 0) _ rfl (kp BK346.out) Tryz.underlying32 rfl (by kernel_rfl)) rfl ?_
 exact ⟨xe, xb⟩
def r13_Is.f (a0_0 : Bool) (a0_1 : Int) (a0_2 : ByteArray) : Option (Bool) := if a0_0 = true then (if a0_1 = 0 then (some (decide ((a0_2.size : Int) ≤ 1000))) else (some false)) else (some (a0_2.toList == ([] : List UInt8)))
set_option maxHeartbeats 8000000 in
set_option maxRecDepth 100000 in
theorem r13_Is.calls (a0_0 : Bool) (a0_1 : Int) (a0_2 : ByteArray) (r : Bool) (w : World) (hT : Tabs w) (h : r13_Is.f a0_0 a0_1 a0_2 = some r) :
  Calls Tryz.prog 23 #[.agg #[.bool a0_0, .int .i64 a0_1, .string a0_2]] w fun e w' => e = .returned (.bool r) ∧ Below w.heap.size w w' := by
 have hu32 := Tryz.underlying32
 have HB := xy (Below.refl w.heap.size w)
 unfold r13_Is.f at h
 have H := h
 clear h
 by_cases c2 : a0_0 = true
 ·subst c2
  rw [if_pos rfl] at H
  by_cases c3 : a0_1 = 0
  ·rw [if_pos c3] at H
   have c3b0 : (a0_1 == 0) = true := beq_iff_eq.mpr c3
   have c3b1 : (a0_1 != 0) = false := bne_eq_false_iff_eq.mpr c3
   clear c3
   obtain rfl := Option.some.inj H
   go_enter Tryz.func23, Tryz.ntmps23
   go_wp2_with (((with_reducible refine gate_dst (N := 1) rfl ?_); (try (refine gate_guard (by rfl) ?_; dsimp only)); refine xq (N := 1) (cs := #[.bool true, .int .i64 a0_1, .string a0_2]) (t := 32) ?_; intro gb348 hg w4 hbox hb; have BK348 := xy (hbox); have GW348 := xs w hg; have GE348 := xs w hg; replace HB := xy (below_step xb hb); clear hb hbox hg; have hcz5_0 : w4.cell? ⟨gb348, 0, none⟩ = some (.bool true) := (kc BK348.out 0).trans rfl; have hcz5_1 : w4.cell? ⟨gb348, 1, none⟩ = some (.int .i64 a0_1) := (kc BK348.out 1).trans rfl; have hcz5_2 : w4.cell? ⟨gb348, 2, none⟩ = some (.string a0_2) := (kc BK348.out 2).trans rfl; have hfz5_0 := kf BK348.out 0; have hfz5_1 := kf BK348.out 1; have hfz5_2 := kf BK348.out 2))
   go_ret
   exact ⟨xe, xb⟩
  ·rw [if_neg c3] at H
   have c3b0 : (a0_1 == 0) = false := beq_eq_false_iff_ne.mpr c3
   have c3b1 : (a0_1 != 0) = true := bne_iff_ne.mpr c3
   obtain rfl := Option.some.inj H
   go_enter Tryz.func23, Tryz.ntmps23
   go_wp2_with (((with_reducible refine gate_dst (N := 1) rfl ?_); (try (refine gate_guard (by rfl) ?_; dsimp only)); refine xq (N := 1) (cs := #[.bool true, .int .i64 a0_1, .string a0_2]) (t := 32) ?_; intro gb348 hg w6 hbox hb; have BK348 := xy (hbox); have GW348 := xs w hg; have GE348 := xs w hg; replace HB := xy (below_step xb hb); clear hb hbox hg; have hcz7_0 : w6.cell? ⟨gb348, 0, none⟩ = some (.bool true) := (kc BK348.out 0).trans rfl; have hcz7_1 : w6.cell? ⟨gb348, 1, none⟩ = some (.int .i64 a0_1) := (kc BK348.out 1).trans rfl; have hcz7_2 : w6.cell? ⟨gb348, 2, none⟩ = some (.string a0_2) := (kc BK348.out 2).trans rfl; have hfz7_0 := kf BK348.out 0; have hfz7_1 := kf BK348.out 1; have hfz7_2 := kf BK348.out 2))
   go_ret
   exact ⟨xe, xb⟩
 ·replace c2 := Bool.eq_false_iff.mpr c2
  subst c2
  rw [if_neg (show ¬ (false = true) by decide)] at H
  obtain rfl := Option.some.inj H
  go_enter Tryz.func23, Tryz.ntmps23
  go_wp2_with (((with_reducible refine gate_dst (N := 1) rfl ?_); (try (refine gate_guard (by rfl) ?_; dsimp only)); refine xq (N := 1) (cs := #[.bool false, .int .i64 a0_1, .string a0_2]) (t := 32) ?_; intro gb348 hg w8 hbox hb; have BK348 := xy (hbox); have GW348 := xs w hg; have GE348 := xs w hg; replace HB := xy (below_step xb hb); clear hb hbox hg; have hcz9_0 : w8.cell? ⟨gb348, 0, none⟩ = some (.bool false) := (kc BK348.out 0).trans rfl; have hcz9_1 : w8.cell? ⟨gb348, 1, none⟩ = some (.int .i64 a0_1) := (kc BK348.out 1).trans rfl; have hcz9_2 : w8.cell? ⟨gb348, 2, none⟩ = some (.string a0_2) := (kc BK348.out 2).trans rfl; have hfz9_0 := kf BK348.out 0; have hfz9_1 := kf BK348.out 1; have hfz9_2 := kf BK348.out 2))
  go_ret
  exact ⟨xe, xb⟩
/- Walked functions, by this session's program over the kit's print. -/
mutual
def r13_Result.l0 : Nat → List Bool → ByteArray → ByteArray → Int → Int → Option (Bool × Int)
 | 0, _, _, _, _, _ => none
 | k + 1, x1, x6, x7, x8, x9 => if x9 < (x6.size : Int) then (if 0 ≤ x9 then (if (bt x6 x9) = 110 then (if x9 < (x1.length : Int) then (if rdOf false x1 x9 = true then (r13_Result.j1 k x1 x6 x7 x8 x9 true) else (if (bt x6 x9) = 116 then (r13_Result.j1 k x1 x6 x7 x8 x9 (!(rdOf false x1 x9))) else (r13_Result.j1 k x1 x6 x7 x8 x9 false))) else (none)) else (if (bt x6 x9) = 116 then (if x9 < (x1.length : Int) then (r13_Result.j1 k x1 x6 x7 x8 x9 (!(rdOf false x1 x9))) else (none)) else (r13_Result.j1 k x1 x6 x7 x8 x9 false))) else (none)) else (if x7.toList = ([97] : List UInt8) then (if 0 ≤ x8 then (if x8 < (x1.length : Int) then (some (rdOf false x1 x8, 0)) else (none)) else (none)) else (some ((x7.toList == ([116] : List UInt8)), 0)))
def r13_Result.j1 : Nat → List Bool → ByteArray → ByteArray → Int → Int → Bool → Option (Bool × Int)
 | 0, _, _, _, _, _, _ => none
 | k + 1, x1, x6, x7, x8, x9, x50 => if x50 = true then (some (false, 11)) else (if 0 ≤ x9 then (if x9 < (x6.size : Int) then (if (bt x6 x9) = 97 then (if x8 ≥ 0 then (if x9 < (x1.length : Int) then (if 0 ≤ x8 then (if x8 < (x1.length : Int) then (r13_Result.j2 k x1 x6 x7 x8 x9 ((rdOf false x1 x9) != (rdOf false x1 x8))) else (none)) else (none)) else (none)) else (r13_Result.j2 k x1 x6 x7 x8 x9 false)) else (r13_Result.j2 k x1 x6 x7 x8 x9 false)) else (none)) else (none))
def r13_Result.j2 : Nat → List Bool → ByteArray → ByteArray → Int → Int → Bool → Option (Bool × Int)
 | 0, _, _, _, _, _, _ => none
 | k + 1, x1, x6, x7, x8, x9, x69 => if x69 = true then (some (false, 11)) else (if 0 ≤ x9 then (if x9 < (x6.size : Int) then (if (bt x6 x9) = 97 then (r13_Result.l0 k x1 x6 x7 x9 (wrap64 (x9 + 1))) else (r13_Result.l0 k x1 x6 x7 x8 (wrap64 (x9 + 1)))) else (none)) else (none))
end
def r13_Result.f (k : Nat) (a0 : Int) (l1 : List Bool) : Option (Bool × Int) := (r13_kinds.f k a0).bind fun bt349 => (if bt349.1.toList = ([] : List UInt8) then (some (false, 1)) else (if (l1.length : Int) = (bt349.1.size : Int) then (r13_Result.l0 k l1 bt349.1 bt349.2 (-1) 0) else (some (false, 11))))
theorem r13_Result.mono_l : ∀ k, (∀ y0 y1 y2 y3 y4, LeO (r13_Result.l0 k y0 y1 y2 y3 y4) (r13_Result.l0 (k + 1) y0 y1 y2 y3 y4)) ∧ (∀ y0 y1 y2 y3 y4 y5, LeO (r13_Result.j1 k y0 y1 y2 y3 y4 y5) (r13_Result.j1 (k + 1) y0 y1 y2 y3 y4 y5)) ∧ (∀ y0 y1 y2 y3 y4 y5, LeO (r13_Result.j2 k y0 y1 y2 y3 y4 y5) (r13_Result.j2 (k + 1) y0 y1 y2 y3 y4 y5))
 | 0 => ⟨fun _ _ _ _ _ r h => by simp [r13_Result.l0] at h, fun _ _ _ _ _ _ r h => by simp [r13_Result.j1] at h, fun _ _ _ _ _ _ r h => by simp [r13_Result.j2] at h⟩
 | k + 1 => by
  obtain ⟨ih0, ih1, ih2⟩ := r13_Result.mono_l k
  refine ⟨?_, ?_, ?_⟩
  ·intro y0 y1 y2 y3 y4
   unfold r13_Result.l0
   repeat' (with_reducible first | exact ih0 _ _ _ _ _ | exact ih1 _ _ _ _ _ _ | exact ih2 _ _ _ _ _ _ | exact r13_kinds.mono _ _ | exact LeO.refl _ | exact LeO.none _ | refine LeO.ite ?_ ?_ | refine LeO.bind ?_ (fun _ => ?_))
  ·intro y0 y1 y2 y3 y4 y5
   unfold r13_Result.j1
   repeat' (with_reducible first | exact ih0 _ _ _ _ _ | exact ih1 _ _ _ _ _ _ | exact ih2 _ _ _ _ _ _ | exact r13_kinds.mono _ _ | exact LeO.refl _ | exact LeO.none _ | refine LeO.ite ?_ ?_ | refine LeO.bind ?_ (fun _ => ?_))
  ·intro y0 y1 y2 y3 y4 y5
   unfold r13_Result.j2
   repeat' (with_reducible first | exact ih0 _ _ _ _ _ | exact ih1 _ _ _ _ _ _ | exact ih2 _ _ _ _ _ _ | exact r13_kinds.mono _ _ | exact LeO.refl _ | exact LeO.none _ | refine LeO.ite ?_ ?_ | refine LeO.bind ?_ (fun _ => ?_))
theorem r13_Result.mono : ∀ a0 a1 k, LeO (r13_Result.f k a0 a1) (r13_Result.f (k + 1) a0 a1) := by
 intro a0 a1 k
 obtain ⟨ih0, ih1, ih2⟩ := r13_Result.mono_l k
 unfold r13_Result.f
 repeat' (with_reducible first | exact ih0 _ _ _ _ _ | exact ih1 _ _ _ _ _ _ | exact ih2 _ _ _ _ _ _ | exact r13_kinds.mono _ _ | exact LeO.refl _ | exact LeO.none _ | refine LeO.ite ?_ ?_ | refine LeO.bind ?_ (fun _ => ?_))
set_option maxHeartbeats 8000000 in
set_option maxRecDepth 100000 in
theorem r13_Result.calls (k : Nat) (a0 : Int) (A1 : Option Addr) (c1 : Nat) (l1 : List Bool) (r1 : Bool) (r2 : Int) (w : World) (hT : Tabs w) (hr1 : Kd.C Kd.bool w A1 l1.length l1) (hc1 : l1.length ≤ c1) (h : r13_Result.f k a0 l1 = some (r1, r2)) :
  Calls Tryz.prog 48 #[.int .i64 a0, .slice A1 l1.length c1] w fun e w' => e = .returned (.tuple #[.bool r1, .int .i64 r2]) ∧ Drawn0 w w' := by
 have HR1 := xy hr1
 have HC1 := xy hc1
 clear hr1 hc1
 unfold r13_Result.f at h
 have H := h
 clear h
 replace H := xj H
 obtain ⟨⟨t349, t350⟩, A30, H⟩ := H
 try dsimp only at H
 have A3 := xy A30
 clear A30
 by_cases c4 : t349.toList = ([] : List UInt8)
 ·rw [if_pos c4] at H
  have c4b0 : (t349.toList == ([] : List UInt8)) = true := beq_iff_eq.mpr c4
  have c4b1 : (t349.toList != ([] : List UInt8)) = false := bne_eq_false_iff_eq.mpr c4
  clear c4
  simp only [Option.some.injEq, Prod.mk.injEq] at H
  obtain ⟨rfl, rfl⟩ := H
  go_enter Tryz.func48, Tryz.ntmps48
  go_wp2_with ((go_at_call 49; (with_reducible refine (r13_kinds.calls k a0 t349 t350 _ (Tabs.below hT xf) A3.out).mono ?_); rintro e w' ⟨rfl, ⟨nd, rfl⟩⟩; (try first | exact ⟨rfl, _, World.drewN_drewN _ _ _⟩ | exact ⟨rfl, _, Eq.trans (World.drewN_drewN _ _ _) (congrArg (World.drewN _) (Nat.add_assoc _ _ _))⟩)))
  repeat (go_quiet (fail); try go_wp2_with (fail))
  go_ret2
  exact ⟨xg, xz⟩
 ·rw [if_neg c4] at H
  have c4b0 : (t349.toList == ([] : List UInt8)) = false := beq_eq_false_iff_ne.mpr c4
  have c4b1 : (t349.toList != ([] : List UInt8)) = true := bne_iff_ne.mpr c4
  by_cases c5 : (l1.length : Int) = (t349.size : Int)
  ·rw [if_pos c5] at H
   have c5b0 : ((l1.length : Int) == (t349.size : Int)) = true := beq_iff_eq.mpr c5
   have c5b1 : ((l1.length : Int) != (t349.size : Int)) = false := bne_eq_false_iff_eq.mpr c5
   have c5b2 : (l1.length == t349.size) = true := by first | simpa using c5 | (simp at c5 ⊢; omega)
   clear c5
   have H' := xy H
   clear H
   go_enter Tryz.func48, Tryz.ntmps48
   go_wp2_with ((go_at_call 49; (with_reducible refine (r13_kinds.calls k a0 t349 t350 _ (Tabs.below hT xf) A3.out).mono ?_); rintro e w' ⟨rfl, ⟨nd, rfl⟩⟩; (try first | exact ⟨rfl, _, World.drewN_drewN _ _ _⟩ | exact ⟨rfl, _, Eq.trans (World.drewN_drewN _ _ _) (congrArg (World.drewN _) (Nat.add_assoc _ _ _))⟩)))
   repeat (go_quiet (fail); try go_wp2_with (fail))
   go_loopg [8, 9] k (fun kq v8 v9 w' => ∃ (x8_1 : Int) (x9_1 : Int), v8 = .int .i64 x8_1 ∧ v9 = .int .i64 x9_1 ∧ Aside0 (r13_Result.l0 kq l1 t349 t350 x8_1 x9_1 = some (r1, r2)) ∧ Aside0 (kq ≤ k) ∧ Drawn0 w w')
   case atStart => exact ⟨((-1)), (0), xg, xg, H', ⟨Nat.le_refl _⟩, by repeat (first | exact Drawn0.refl _ | apply Drawn0.step)⟩
   case round =>
    clear H'
    try clear c1
    try clear p2
    try clear c4
    try clear c4b0
    try clear c4b1
    try clear c5
    try clear c5b0
    try clear c5b1
    try clear c5b2
    obtain ⟨x8_1, x9_1, rfl, rfl, HA, HK1, ⟨m1, rfl⟩⟩ := hrel
    cases gk with
    | zero => exact absurd HA.out (by simp [r13_Result.l0])
    | succ k1 =>
     have H := HA.out
     clear HA
     simp only [r13_Result.l0] at H
     by_cases c6 : x9_1 < (t349.size : Int)
     ·rw [if_pos c6] at H
      have c6b0 : decide (x9_1 < (t349.size : Int)) = true := decide_eq_true c6
      clear c6
      have HC7 := xy H
      clear H
      go_upto_region 10 with (fail)
      repeat (go_quiet (fail); go_upto_region 10 with (fail))
      go_cut [50] (fun v50 wc => ∃ (kq : Nat) (x50_6 : Bool), v50 = .bool x50_6 ∧ Aside0 (r13_Result.j1 kq l1 t349 t350 x8_1 x9_1 x50_6 = some (r1, r2)) ∧ Aside0 (kq ≤ k1) ∧ Drawn0 w wc)
      case first =>
       have H := HC7.out
       clear HC7
       by_cases c8 : 0 ≤ x9_1
       ·rw [if_pos c8] at H
        have c8b0 : decide (0 ≤ x9_1) = true := decide_eq_true c8
        clear c8
        (first | rw [c8b0] | (simp only [i64_w, i32_w]; rw [c8b0]) | skip)
        by_cases c10 : (bt t349 x9_1) = 110
        ·rw [if_pos c10] at H
         have c10b0 : ((bt t349 x9_1) == 110) = true := beq_iff_eq.mpr c10
         have c10b1 : ((bt t349 x9_1) != 110) = false := bne_eq_false_iff_eq.mpr c10
         clear c10
         by_cases c11 : x9_1 < (l1.length : Int)
         ·rw [if_pos c11] at H
          have c11b0 : decide (x9_1 < (l1.length : Int)) = true := decide_eq_true c11
          clear c11
          obtain ⟨bq12, hbq12⟩ : ∃ b_ : Bool, b_ = (rdOf false l1 x9_1) := ⟨_, rfl⟩
          replace H : (if bq12 = true then (r13_Result.j1 k1 l1 t349 t350 x8_1 x9_1 true) else (if (bt t349 x9_1) = 116 then (r13_Result.j1 k1 l1 t349 t350 x8_1 x9_1 (!(bq12))) else (r13_Result.j1 k1 l1 t349 t350 x8_1 x9_1 false))) = some (r1, r2) := by rw [← hbq12] at H; exact H
          have Nbq12 := xy hbq12
          clear hbq12
          by_cases c13 : bq12 = true
          ·subst c13
           rw [if_pos rfl] at H
           have H' := xy H
           clear H
           have p9 : 0 ≤ (x9_1 : Int) := xi
           have q9 : x9_1 < (t349.size : Int) := xi
           have hx9 := bt_at t349 x9_1
           replace p9 := eq_true p9
           replace q9 := eq_true q9
           have p352 : 0 ≤ (x9_1 : Int) := xi
           have q352 : x9_1 < (l1.length : Int) := xi
           obtain ⟨ad352, e352, hx352_0⟩ := Kd.at_bool HR1.out x9_1 p352 q352
           (try rw [← Nbq12.out] at hx352_0)
           cases e352
           replace p352 := eq_true p352
           replace q352 := eq_true q352
           go_wp2
           repeat (go_quiet (fail); try go_wp2)
           go_meet
           case rel => exact ⟨_, (true), xg, H', ⟨by have := HK1.out; first | omega | exact Nat.le_refl _⟩, by repeat (first | exact Drawn0.refl _ | apply Drawn0.step)⟩
          ·replace c13 := Bool.eq_false_iff.mpr c13
           subst c13
           rw [if_neg (show ¬ (false = true) by decide)] at H
           by_cases c15 : (bt t349 x9_1) = 116
           ·rw [if_pos c15] at H
            have c15b0 : ((bt t349 x9_1) == 116) = true := beq_iff_eq.mpr c15
            have c15b1 : ((bt t349 x9_1) != 116) = false := bne_eq_false_iff_eq.mpr c15
            clear c15
            have H' := xy H
            clear H
            have p9 : 0 ≤ (x9_1 : Int) := xi
            have q9 : x9_1 < (t349.size : Int) := xi
            have hx9 := bt_at t349 x9_1
            replace p9 := eq_true p9
            replace q9 := eq_true q9
            have p352 : 0 ≤ (x9_1 : Int) := xi
            have q352 : x9_1 < (l1.length : Int) := xi
            obtain ⟨ad352, e352, hx352_0⟩ := Kd.at_bool HR1.out x9_1 p352 q352
            (try rw [← Nbq12.out] at hx352_0)
            cases e352
            replace p352 := eq_true p352
            replace q352 := eq_true q352
            have p14 : 0 ≤ (x9_1 : Int) := xi
            have q14 : x9_1 < (t349.size : Int) := xi
            have hx14 := bt_at t349 x9_1
            replace p14 := eq_true p14
            replace q14 := eq_true q14
            have p353 : 0 ≤ (x9_1 : Int) := xi
            have q353 : x9_1 < (l1.length : Int) := xi
            obtain ⟨ad353, e353, hx353_0⟩ := Kd.at_bool HR1.out x9_1 p353 q353
            (try rw [← Nbq12.out] at hx353_0)
            obtain rfl : ad352 = ad353 := (by injection e353)
            replace p353 := eq_true p353
            replace q353 := eq_true q353
            go_wp2
            repeat (go_quiet (fail); try go_wp2)
            go_meet
            case rel => exact ⟨_, (!(false)), xg, H', ⟨by have := HK1.out; first | omega | exact Nat.le_refl _⟩, by repeat (first | exact Drawn0.refl _ | apply Drawn0.step)⟩
           ·rw [if_neg c15] at H
            have c15b0 : ((bt t349 x9_1) == 116) = false := beq_eq_false_iff_ne.mpr c15
            have c15b1 : ((bt t349 x9_1) != 116) = true := bne_iff_ne.mpr c15
            have H' := xy H
            clear H
            have p9 : 0 ≤ (x9_1 : Int) := xi
            have q9 : x9_1 < (t349.size : Int) := xi
            have hx9 := bt_at t349 x9_1
            replace p9 := eq_true p9
            replace q9 := eq_true q9
            have p352 : 0 ≤ (x9_1 : Int) := xi
            have q352 : x9_1 < (l1.length : Int) := xi
            obtain ⟨ad352, e352, hx352_0⟩ := Kd.at_bool HR1.out x9_1 p352 q352
            (try rw [← Nbq12.out] at hx352_0)
            cases e352
            replace p352 := eq_true p352
            replace q352 := eq_true q352
            have p14 : 0 ≤ (x9_1 : Int) := xi
            have q14 : x9_1 < (t349.size : Int) := xi
            have hx14 := bt_at t349 x9_1
            replace p14 := eq_true p14
            replace q14 := eq_true q14
            go_wp2
            repeat (go_quiet (fail); try go_wp2)
            go_meet
            case rel => exact ⟨_, (false), xg, H', ⟨by have := HK1.out; first | omega | exact Nat.le_refl _⟩, by repeat (first | exact Drawn0.refl _ | apply Drawn0.step)⟩
         ·rw [if_neg c11] at H
          exact absurd H (by simp)
        ·rw [if_neg c10] at H
         have c10b0 : ((bt t349 x9_1) == 110) = false := beq_eq_false_iff_ne.mpr c10
         have c10b1 : ((bt t349 x9_1) != 110) = true := bne_iff_ne.mpr c10
         by_cases c17 : (bt t349 x9_1) = 116
         ·rw [if_pos c17] at H
          have c17b0 : ((bt t349 x9_1) == 116) = true := beq_iff_eq.mpr c17
          have c17b1 : ((bt t349 x9_1) != 116) = false := bne_eq_false_iff_eq.mpr c17
          clear c17
          by_cases c18 : x9_1 < (l1.length : Int)
          ·rw [if_pos c18] at H
           have c18b0 : decide (x9_1 < (l1.length : Int)) = true := decide_eq_true c18
           clear c18
           have H' := xy H
           clear H
           have p9 : 0 ≤ (x9_1 : Int) := xi
           have q9 : x9_1 < (t349.size : Int) := xi
           have hx9 := bt_at t349 x9_1
           replace p9 := eq_true p9
           replace q9 := eq_true q9
           have p16 : 0 ≤ (x9_1 : Int) := xi
           have q16 : x9_1 < (t349.size : Int) := xi
           have hx16 := bt_at t349 x9_1
           replace p16 := eq_true p16
           replace q16 := eq_true q16
           have p354 : 0 ≤ (x9_1 : Int) := xi
           have q354 : x9_1 < (l1.length : Int) := xi
           obtain ⟨ad354, e354, hx354_0⟩ := Kd.at_bool HR1.out x9_1 p354 q354
           cases e354
           replace p354 := eq_true p354
           replace q354 := eq_true q354
           go_wp2
           repeat (go_quiet (fail); try go_wp2)
           go_meet
           case rel => exact ⟨_, (!(rdOf false l1 x9_1)), xg, H', ⟨by have := HK1.out; first | omega | exact Nat.le_refl _⟩, by repeat (first | exact Drawn0.refl _ | apply Drawn0.step)⟩
          ·rw [if_neg c18] at H
           exact absurd H (by simp)
         ·rw [if_neg c17] at H
          have c17b0 : ((bt t349 x9_1) == 116) = false := beq_eq_false_iff_ne.mpr c17
          have c17b1 : ((bt t349 x9_1) != 116) = true := bne_iff_ne.mpr c17
          have H' := xy H
          clear H
          have p9 : 0 ≤ (x9_1 : Int) := xi
          have q9 : x9_1 < (t349.size : Int) := xi
          have hx9 := bt_at t349 x9_1
          replace p9 := eq_true p9
          replace q9 := eq_true q9
          have p16 : 0 ≤ (x9_1 : Int) := xi
          have q16 : x9_1 < (t349.size : Int) := xi
          have hx16 := bt_at t349 x9_1
          replace p16 := eq_true p16
          replace q16 := eq_true q16
          go_wp2
          repeat (go_quiet (fail); try go_wp2)
          go_meet
          case rel => exact ⟨_, (false), xg, H', ⟨by have := HK1.out; first | omega | exact Nat.le_refl _⟩, by repeat (first | exact Drawn0.refl _ | apply Drawn0.step)⟩
       ·rw [if_neg c8] at H
        exact absurd H (by simp)
      case rest =>
       clear HC7
       try clear c1
       try clear p1
       try clear q1
       try clear hx1
       try clear p2
       try clear p3
       try clear q3
       try clear hx3
       try clear c4
       try clear c4b0
       try clear c4b1
       try clear c5
       try clear c5b0
       try clear c5b1
       try clear c5b2
       try clear c6
       try clear c6b0
       try clear c8
       try clear c8b0
       try clear p9
       try clear q9
       try clear hx9
       try clear c10
       try clear c10b0
       try clear c10b1
       try clear c11
       try clear c11b0
       try clear q12
       try clear c13
       try clear p14
       try clear q14
       try clear hx14
       try clear c15
       try clear c15b0
       try clear c15b1
       try clear p16
       try clear q16
       try clear hx16
       try clear c17
       try clear c17b0
       try clear c17b1
       try clear c18
       try clear c18b0
       try clear hx352_0
       try clear hx353_0
       try clear hx354_0
       try clear p14
       try clear p16
       try clear p2
       try clear p352
       try clear p353
       try clear p354
       try clear p9
       try clear q14
       try clear q16
       try clear q352
       try clear q353
       try clear q354
       try clear q9
       obtain ⟨kq, x50_6, rfl, HA, HJ6, ⟨mc6, rfl⟩⟩ := hcut
       cases kq with
       | zero => exact absurd HA.out (by simp [r13_Result.j1])
       | succ kj6 =>
        have H := HA.out
        clear HA
        simp only [r13_Result.j1] at H
        by_cases c19 : x50_6 = true
        ·subst c19
         rw [if_pos rfl] at H
         simp only [Option.some.injEq, Prod.mk.injEq] at H
         obtain ⟨rfl, rfl⟩ := H
         go_wp2
         repeat (go_quiet (fail); try go_wp2)
         go_ret2
         exact ⟨xg, xz⟩
        ·replace c19 := Bool.eq_false_iff.mpr c19
         subst c19
         rw [if_neg (show ¬ (false = true) by decide)] at H
         have HC20 := xy H
         clear H
         go_upto_region 12 with (fail)
         repeat (go_quiet (fail); go_upto_region 12 with (fail))
         go_cut [69] (fun v69 wc => ∃ (kq : Nat) (x69_19 : Bool), v69 = .bool x69_19 ∧ Aside0 (r13_Result.j2 kq l1 t349 t350 x8_1 x9_1 x69_19 = some (r1, r2)) ∧ Aside0 (kq ≤ kj6) ∧ Drawn0 w wc)
         case first =>
          have H := HC20.out
          clear HC20
          by_cases c21 : 0 ≤ x9_1
          ·rw [if_pos c21] at H
           have c21b0 : decide (0 ≤ x9_1) = true := decide_eq_true c21
           clear c21
           (first | rw [c21b0] | (simp only [i64_w, i32_w]; rw [c21b0]) | skip)
           by_cases c22 : x9_1 < (t349.size : Int)
           ·rw [if_pos c22] at H
            have c22b0 : decide (x9_1 < (t349.size : Int)) = true := decide_eq_true c22
            clear c22
            by_cases c24 : (bt t349 x9_1) = 97
            ·rw [if_pos c24] at H
             have c24b0 : ((bt t349 x9_1) == 97) = true := beq_iff_eq.mpr c24
             have c24b1 : ((bt t349 x9_1) != 97) = false := bne_eq_false_iff_eq.mpr c24
             clear c24
             by_cases c25 : x8_1 ≥ 0
             ·rw [if_pos c25] at H
              have c25b0 : decide (0 ≤ x8_1) = true := decide_eq_true c25
              clear c25
              by_cases c26 : x9_1 < (l1.length : Int)
              ·rw [if_pos c26] at H
               have c26b0 : decide (x9_1 < (l1.length : Int)) = true := decide_eq_true c26
               clear c26
               by_cases c27 : 0 ≤ x8_1
               ·rw [if_pos c27] at H
                have c27b0 : decide (0 ≤ x8_1) = true := decide_eq_true c27
                clear c27
                by_cases c28 : x8_1 < (l1.length : Int)
                ·rw [if_pos c28] at H
                 have c28b0 : decide (x8_1 < (l1.length : Int)) = true := decide_eq_true c28
                 clear c28
                 have H' := xy H
                 clear H
                 have p23 : 0 ≤ (x9_1 : Int) := xi
                 have q23 : x9_1 < (t349.size : Int) := xi
                 have hx23 := bt_at t349 x9_1
                 replace p23 := eq_true p23
                 replace q23 := eq_true q23
                 have p355 : 0 ≤ (x9_1 : Int) := xi
                 have q355 : x9_1 < (l1.length : Int) := xi
                 obtain ⟨ad355, e355, hx355_0⟩ := Kd.at_bool HR1.out x9_1 p355 q355
                 cases e355
                 replace p355 := eq_true p355
                 replace q355 := eq_true q355
                 have p356 : 0 ≤ (x8_1 : Int) := xi
                 have q356 : x8_1 < (l1.length : Int) := xi
                 obtain ⟨ad356, e356, hx356_0⟩ := Kd.at_bool HR1.out x8_1 p356 q356
                 obtain rfl : ad355 = ad356 := (by injection e356)
                 replace p356 := eq_true p356
                 replace q356 := eq_true q356
                 go_wp2
                 repeat (go_quiet (fail); try go_wp2)
                 go_meet
                 case rel => exact ⟨_, (((rdOf false l1 x9_1) != (rdOf false l1 x8_1))), xg, H', ⟨by have := HK1.out; have := HJ6.out; first | omega | exact Nat.le_refl _⟩, by repeat (first | exact Drawn0.refl _ | apply Drawn0.step)⟩
                ·rw [if_neg c28] at H
                 exact absurd H (by simp)
               ·rw [if_neg c27] at H
                exact absurd H (by simp)
              ·rw [if_neg c26] at H
               exact absurd H (by simp)
             ·rw [if_neg c25] at H
              have c25b0 : decide (0 ≤ x8_1) = false := decide_eq_false c25
              clear c25
              have H' := xy H
              clear H
              have p23 : 0 ≤ (x9_1 : Int) := xi
              have q23 : x9_1 < (t349.size : Int) := xi
              have hx23 := bt_at t349 x9_1
              replace p23 := eq_true p23
              replace q23 := eq_true q23
              go_wp2
              repeat (go_quiet (fail); try go_wp2)
              go_meet
              case rel => exact ⟨_, (false), xg, H', ⟨by have := HK1.out; have := HJ6.out; first | omega | exact Nat.le_refl _⟩, by repeat (first | exact Drawn0.refl _ | apply Drawn0.step)⟩
            ·rw [if_neg c24] at H
             have c24b0 : ((bt t349 x9_1) == 97) = false := beq_eq_false_iff_ne.mpr c24
             have c24b1 : ((bt t349 x9_1) != 97) = true := bne_iff_ne.mpr c24
             have H' := xy H
             clear H
             have p23 : 0 ≤ (x9_1 : Int) := xi
             have q23 : x9_1 < (t349.size : Int) := xi
             have hx23 := bt_at t349 x9_1
             replace p23 := eq_true p23
             replace q23 := eq_true q23
             go_wp2
             repeat (go_quiet (fail); try go_wp2)
             go_meet
             case rel => exact ⟨_, (false), xg, H', ⟨by have := HK1.out; have := HJ6.out; first | omega | exact Nat.le_refl _⟩, by repeat (first | exact Drawn0.refl _ | apply Drawn0.step)⟩
           ·rw [if_neg c22] at H
            exact absurd H (by simp)
          ·rw [if_neg c21] at H
           exact absurd H (by simp)
         case rest =>
          clear HC20
          try clear c1
          try clear p1
          try clear q1
          try clear hx1
          try clear c2
          try clear p2
          try clear q2
          try clear hx2
          try clear p3
          try clear q3
          try clear hx3
          try clear c4
          try clear c4b0
          try clear c4b1
          try clear c5
          try clear c5b0
          try clear c5b1
          try clear c5b2
          try clear c6
          try clear c6b0
          try clear c8
          try clear c8b0
          try clear p9
          try clear q9
          try clear hx9
          try clear c10
          try clear c10b0
          try clear c10b1
          try clear c11
          try clear c11b0
          try clear q12
          try clear c13
          try clear p14
          try clear q14
          try clear hx14
          try clear c15
          try clear c15b0
          try clear c15b1
          try clear p16
          try clear q16
          try clear hx16
          try clear c17
          try clear c17b0
          try clear c17b1
          try clear c18
          try clear c18b0
          try clear c19
          try clear c21
          try clear c21b0
          try clear c22
          try clear c22b0
          try clear p23
          try clear q23
          try clear hx23
          try clear c24
          try clear c24b0
          try clear c24b1
          try clear c25
          try clear c25b0
          try clear c26
          try clear c26b0
          try clear c27
          try clear c27b0
          try clear c28
          try clear c28b0
          try clear hx352_0
          try clear hx353_0
          try clear hx354_0
          try clear hx355_0
          try clear hx356_0
          try clear p1
          try clear p14
          try clear p16
          try clear p2
          try clear p23
          try clear p3
          try clear p352
          try clear p353
          try clear p354
          try clear p355
          try clear p356
          try clear p9
          try clear q1
          try clear q12
          try clear q14
          try clear q16
          try clear q23
          try clear q3
          try clear q352
          try clear q353
          try clear q354
          try clear q355
          try clear q356
          try clear q9
          obtain ⟨kq, x69_19, rfl, HA, HJ19, ⟨mc19, rfl⟩⟩ := hcut
          cases kq with
          | zero => exact absurd HA.out (by simp [r13_Result.j2])
          | succ kj19 =>
           have H := HA.out
           clear HA
           simp only [r13_Result.j2] at H
           by_cases c29 : x69_19 = true
           ·subst c29
            rw [if_pos rfl] at H
            simp only [Option.some.injEq, Prod.mk.injEq] at H
            obtain ⟨rfl, rfl⟩ := H
            go_wp2
            repeat (go_quiet (fail); try go_wp2)
            go_ret2
            exact ⟨xg, xz⟩
           ·replace c29 := Bool.eq_false_iff.mpr c29
            subst c29
            rw [if_neg (show ¬ (false = true) by decide)] at H
            by_cases c30 : 0 ≤ x9_1
            ·rw [if_pos c30] at H
             have c30b0 : decide (0 ≤ x9_1) = true := decide_eq_true c30
             clear c30
             by_cases c31 : x9_1 < (t349.size : Int)
             ·rw [if_pos c31] at H
              have c31b0 : decide (x9_1 < (t349.size : Int)) = true := decide_eq_true c31
              clear c31
              by_cases c33 : (bt t349 x9_1) = 97
              ·rw [if_pos c33] at H
               have c33b0 : ((bt t349 x9_1) == 97) = true := beq_iff_eq.mpr c33
               have c33b1 : ((bt t349 x9_1) != 97) = false := bne_eq_false_iff_eq.mpr c33
               clear c33
               have H' := xy H
               clear H
               have p32 : 0 ≤ (x9_1 : Int) := xi
               have q32 : x9_1 < (t349.size : Int) := xi
               have hx32 := bt_at t349 x9_1
               replace p32 := eq_true p32
               replace q32 := eq_true q32
               go_wp2
               repeat (go_quiet (fail); try go_wp2)
               go_roundg kj19
               case measure => have := HK1.out; have := HJ6.out; have := HJ19.out; omega
               case rel => exact ⟨(x9_1), (wrap64 (x9_1 + 1)), xg, xg, H', ⟨by have := HK1.out; have := HJ6.out; have := HJ19.out; omega⟩, by repeat (first | exact Drawn0.refl _ | apply Drawn0.step)⟩
              ·rw [if_neg c33] at H
               have c33b0 : ((bt t349 x9_1) == 97) = false := beq_eq_false_iff_ne.mpr c33
               have c33b1 : ((bt t349 x9_1) != 97) = true := bne_iff_ne.mpr c33
               have H' := xy H
               clear H
               have p32 : 0 ≤ (x9_1 : Int) := xi
               have q32 : x9_1 < (t349.size : Int) := xi
               have hx32 := bt_at t349 x9_1
               replace p32 := eq_true p32
               replace q32 := eq_true q32
               go_wp2
               repeat (go_quiet (fail); try go_wp2)
               go_roundg kj19
               case measure => have := HK1.out; have := HJ6.out; have := HJ19.out; omega
               case rel => exact ⟨(x8_1), (wrap64 (x9_1 + 1)), xg, xg, H', ⟨by have := HK1.out; have := HJ6.out; have := HJ19.out; omega⟩, by repeat (first | exact Drawn0.refl _ | apply Drawn0.step)⟩
             ·rw [if_neg c31] at H
              exact absurd H (by simp)
            ·rw [if_neg c30] at H
             exact absurd H (by simp)
     ·rw [if_neg c6] at H
      have c6b0 : decide (x9_1 < (t349.size : Int)) = false := decide_eq_false c6
      clear c6
      by_cases c34 : t350.toList = ([97] : List UInt8)
      ·rw [if_pos c34] at H
       have c34b0 : (t350.toList == ([97] : List UInt8)) = true := beq_iff_eq.mpr c34
       have c34b1 : (t350.toList != ([97] : List UInt8)) = false := bne_eq_false_iff_eq.mpr c34
       clear c34
       by_cases c35 : 0 ≤ x8_1
       ·rw [if_pos c35] at H
        have c35b0 : decide (0 ≤ x8_1) = true := decide_eq_true c35
        clear c35
        by_cases c36 : x8_1 < (l1.length : Int)
        ·rw [if_pos c36] at H
         have c36b0 : decide (x8_1 < (l1.length : Int)) = true := decide_eq_true c36
         clear c36
         simp only [Option.some.injEq, Prod.mk.injEq] at H
         obtain ⟨rfl, rfl⟩ := H
         have p351 : 0 ≤ (x8_1 : Int) := xi
         have q351 : x8_1 < (l1.length : Int) := xi
         obtain ⟨ad351, e351, hx351_0⟩ := Kd.at_bool HR1.out x8_1 p351 q351
         cases e351
         replace p351 := eq_true p351
         replace q351 := eq_true q351
         go_wp2
         repeat (go_quiet (fail); try go_wp2)
         go_ret2
         exact ⟨xg, xz⟩
        ·rw [if_neg c36] at H
         exact absurd H (by simp)
       ·rw [if_neg c35] at H
        exact absurd H (by simp)
      ·rw [if_neg c34] at H
       have c34b0 : (t350.toList == ([97] : List UInt8)) = false := beq_eq_false_iff_ne.mpr c34
       have c34b1 : (t350.toList != ([97] : List UInt8)) = true := bne_iff_ne.mpr c34
       simp only [Option.some.injEq, Prod.mk.injEq] at H
       obtain ⟨rfl, rfl⟩ := H
       go_wp2
       repeat (go_quiet (fail); try go_wp2)
       go_ret2
       exact ⟨xg, xz⟩
  ·rw [if_neg c5] at H
   have c5b0 : ((l1.length : Int) == (t349.size : Int)) = false := beq_eq_false_iff_ne.mpr c5
   have c5b1 : ((l1.length : Int) != (t349.size : Int)) = true := bne_iff_ne.mpr c5
   have c5b2 : (l1.length == t349.size) = false := by first | simpa using c5 | (simp at c5 ⊢; omega)
   simp only [Option.some.injEq, Prod.mk.injEq] at H
   obtain ⟨rfl, rfl⟩ := H
   go_enter Tryz.func48, Tryz.ntmps48
   go_wp2_with ((go_at_call 49; (with_reducible refine (r13_kinds.calls k a0 t349 t350 _ (Tabs.below hT xf) A3.out).mono ?_); rintro e w' ⟨rfl, ⟨nd, rfl⟩⟩; (try first | exact ⟨rfl, _, World.drewN_drewN _ _ _⟩ | exact ⟨rfl, _, Eq.trans (World.drewN_drewN _ _ _) (congrArg (World.drewN _) (Nat.add_assoc _ _ _))⟩)))
   repeat (go_quiet (fail); try go_wp2_with (fail))
   go_ret2
   exact ⟨xg, xz⟩
end Go.Proofs.YtnodgcakmolleaaGreatDoor.PX
