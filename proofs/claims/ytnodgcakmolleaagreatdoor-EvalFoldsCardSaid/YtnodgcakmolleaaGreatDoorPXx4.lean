/- Walked functions, by this session's program over the kit's print. -/
import Derived.Test.YtnodgcakmolleaaGreatDoorXTurn
import Derived.Test.YtnodgcakmolleaaGreatDoorPXx0
import Derived.Test.YtnodgcakmolleaaGreatDoorPXx3
namespace Go.Proofs.YtnodgcakmolleaaGreatDoor.PX
open Go.RowKit Go.Proofs.YtnodgcakmolleaaGreatDoorW.PrintWords Go.Proofs.YtnodgcakmolleaaGreatDoorW.PrintLast Go.Proofs.YtnodgcakmolleaaGreatDoorW.PrintMore
attribute [local go_sem] xm_gtr max2_int min2_int max_two min_two max_three min_three max_four min_four
set_option linter.unusedVariables false
set_option linter.unusedSimpArgs false
/- Walked functions, by this session's program over the kit's print. -/
def value_val_join.f (a0_0 : Bool) (a0_1 : Int) (a0_2 : ByteArray) (a1_0 : Bool) (a1_1 : Int) (a1_2 : ByteArray) (a2_0 : Bool) (a2_1 : Int) (a2_2 : ByteArray) : Option (Bool × Int × ByteArray) := if a0_2.size + a1_2.size ≤ 9223372036854775807 then ((value_Text.f (a0_2 ++ a1_2)).bind fun bt164 => (some (bt164.1, bt164.2.1, bt164.2.2))) else (none)
set_option maxHeartbeats 8000000 in
set_option maxRecDepth 100000 in
theorem value_val_join.calls (a0_0 : Bool) (a0_1 : Int) (a0_2 : ByteArray) (a1_0 : Bool) (a1_1 : Int) (a1_2 : ByteArray) (a2_0 : Bool) (a2_1 : Int) (a2_2 : ByteArray) (r1 : Bool) (r2 : Int) (r3 : ByteArray) (w : World) (hT : Tabs w) (h : value_val_join.f a0_0 a0_1 a0_2 a1_0 a1_1 a1_2 a2_0 a2_1 a2_2 = some (r1, r2, r3)) :
  Calls Tryz.prog 75 #[.agg #[.bool a0_0, .int .i64 a0_1, .string a0_2], .agg #[.bool a1_0, .int .i64 a1_1, .string a1_2], .agg #[.bool a2_0, .int .i64 a2_1, .string a2_2]] w fun e w' => e = .returned (.agg #[.bool r1, .int .i64 r2, .string r3]) ∧ Below w.heap.size w w' := by
 have hu104 := Tryz.underlying104
 have hu32 := Tryz.underlying32
 have HB := xy (Below.refl w.heap.size w)
 unfold value_val_join.f at h
 have H := h
 clear h
 by_cases c4 : a0_2.size + a1_2.size ≤ 9223372036854775807
 ·rw [if_pos c4] at H
  have c4b0 := eq_true c4
  have c4b1 : decide (a0_2.size + a1_2.size ≤ 9223372036854775807) = true := decide_eq_true c4
  try have c4b2 : (9223372036854775807 < a0_2.size + a1_2.size) = False := eq_false (Nat.not_lt.2 c4)
  replace H := xj H
  obtain ⟨⟨t164, t165, t166⟩, A50, H⟩ := H
  try dsimp only at H
  have A5 := xy A50
  clear A50
  simp only [Option.some.injEq, Prod.mk.injEq] at H
  obtain ⟨rfl, rfl, rfl⟩ := H
  go_enter Tryz.func75, Tryz.ntmps75
  go_wp2_with (first | ((with_reducible refine gate_dst (N := 3) rfl ?_); refine xq (N := 3) (cs := #[.bool a0_0, .int .i64 a0_1, .string a0_2]) (t := 104) ?_; intro gb160 hg w6 hbox hb; have BK160 := xy (hbox); have GW160 := xs w hg; have GE160 := xs w hg; replace HB := xy (below_step xb hb); clear hb hbox hg) | ((with_reducible refine gate_dst (N := 4) rfl ?_); refine xq (N := 4) (cs := #[.bool a1_0, .int .i64 a1_1, .string a1_2]) (t := 104) ?_; intro gb161 hg w7 hbox hb; have BK161 := xy (hbox); have GW161 := xs w hg; have GE161 := xs w hg; replace HB := xy (below_step xb hb); have NB160_161 := xn hg BK160.out; have NB161_160 := xp hg BK160.out; replace BK160 := xd BK160.out hb; clear hb hbox hg) | ((with_reducible refine gate_dst (N := 5) rfl ?_); refine xq (N := 5) (cs := #[.bool a2_0, .int .i64 a2_1, .string a2_2]) (t := 104) ?_; intro gb162 hg w8 hbox hb; have BK162 := xy (hbox); have GW162 := xs w hg; have GE162 := xs w hg; replace HB := xy (below_step xb hb); have NB160_162 := xn hg BK160.out; have NB162_160 := xp hg BK160.out; replace BK160 := xd BK160.out hb; have NB161_162 := xn hg BK161.out; have NB162_161 := xp hg BK161.out; replace BK161 := xd BK161.out hb; clear hb hbox hg) | ((with_reducible refine gate_dst (N := 6) rfl ?_); refine xq (N := 6) (cs := #[.bool false, .int .i64 0, .string (⟨#[]⟩ : ByteArray)]) (t := 32) ?_; intro gb163 hg w9 hbox hb; have BK163 := xy (hbox); have GW163 := xs w hg; have GE163 := xs w hg; replace HB := xy (below_step xb hb); have NB160_163 := xn hg BK160.out; have NB163_160 := xp hg BK160.out; replace BK160 := xd BK160.out hb; have NB161_163 := xn hg BK161.out; have NB163_161 := xp hg BK161.out; replace BK161 := xd BK161.out hb; have NB162_163 := xn hg BK162.out; have NB163_162 := xp hg BK162.out; replace BK162 := xd BK162.out hb; clear hb hbox hg; have hnb10 := NB160_161.out; have hnc10 := NB161_160.out; have hnb11 := NB160_162.out; have hnc11 := NB162_160.out; have hnb12 := NB160_163.out; have hnc12 := NB163_160.out; have hcz13_0 : w9.cell? ⟨gb160, 0, none⟩ = some (.bool a0_0) := (kc BK160.out 0).trans rfl; have hcz13_1 : w9.cell? ⟨gb160, 1, none⟩ = some (.int .i64 a0_1) := (kc BK160.out 1).trans rfl; have hcz13_2 : w9.cell? ⟨gb160, 2, none⟩ = some (.string a0_2) := (kc BK160.out 2).trans rfl; have hfz13_0 := kf BK160.out 0; have hfz13_1 := kf BK160.out 1; have hfz13_2 := kf BK160.out 2; have hnb14 := NB161_162.out; have hnc14 := NB162_161.out; have hnb15 := NB161_163.out; have hnc15 := NB163_161.out; have hcz16_0 : w9.cell? ⟨gb161, 0, none⟩ = some (.bool a1_0) := (kc BK161.out 0).trans rfl; have hcz16_1 : w9.cell? ⟨gb161, 1, none⟩ = some (.int .i64 a1_1) := (kc BK161.out 1).trans rfl; have hcz16_2 : w9.cell? ⟨gb161, 2, none⟩ = some (.string a1_2) := (kc BK161.out 2).trans rfl; have hfz16_0 := kf BK161.out 0; have hfz16_1 := kf BK161.out 1; have hfz16_2 := kf BK161.out 2) | ((with_reducible refine gate_callee (f := 35) rfl ?_); refine goesL_ (some 12) rfl rfl Tryz.func35 (by kernel_rfl) rfl #[.string (a0_2 ++ a1_2)] rfl xr ?_; (with_reducible refine (value_Text.calls (a0_2 ++ a1_2) t164 t165 t166 _ (Tabs.below hT xf) A5.out).mono ?_); rintro e w17 ⟨rfl, hb⟩; refine ⟨_, rfl, ?_⟩; replace BK160 := xd BK160.out hb; replace BK161 := xd BK161.out hb; replace BK162 := xd BK162.out hb; replace BK163 := xd BK163.out hb; replace HB := xy (below_step xb hb); (try clear hb); (try clear hb2); (try clear hk); (try clear hi); have hnb18 := NB163_162.out; have hnc18 := NB162_163.out; have hcz19_0 : w17.cell? ⟨gb163, 0, none⟩ = some (.bool false) := (kc BK163.out 0).trans rfl; have hcz19_1 : w17.cell? ⟨gb163, 1, none⟩ = some (.int .i64 0) := (kc BK163.out 1).trans rfl; have hcz19_2 : w17.cell? ⟨gb163, 2, none⟩ = some (.string (⟨#[]⟩ : ByteArray)) := (kc BK163.out 2).trans rfl; have hfz19_0 := kf BK163.out 0; have hfz19_1 := kf BK163.out 1; have hfz19_2 := kf BK163.out 2))
  refine bodyPost_ret (results_cell_row rfl _ _ gb163 32 #[.bool t164, .int .i64 t165, .string t166] (0, 0) _ rfl (kp BK163.out) Tryz.underlying32 rfl (by kernel_rfl)) rfl ?_
  exact ⟨xe, xb⟩
 ·rw [if_neg c4] at H
  exact absurd H (by simp)
def value_val_long.f (a0_0 : Bool) (a0_1 : Int) (a0_2 : ByteArray) (a1_0 : Bool) (a1_1 : Int) (a1_2 : ByteArray) (a2_0 : Bool) (a2_1 : Int) (a2_2 : ByteArray) : Option (Bool × Int × ByteArray) := (value_Num.f (a0_2.size : Int)).bind fun bt171 => (some (bt171.1, bt171.2.1, bt171.2.2))
set_option maxHeartbeats 8000000 in
set_option maxRecDepth 100000 in
theorem value_val_long.calls (a0_0 : Bool) (a0_1 : Int) (a0_2 : ByteArray) (a1_0 : Bool) (a1_1 : Int) (a1_2 : ByteArray) (a2_0 : Bool) (a2_1 : Int) (a2_2 : ByteArray) (r1 : Bool) (r2 : Int) (r3 : ByteArray) (w : World) (hT : Tabs w) (h : value_val_long.f a0_0 a0_1 a0_2 a1_0 a1_1 a1_2 a2_0 a2_1 a2_2 = some (r1, r2, r3)) :
  Calls Tryz.prog 76 #[.agg #[.bool a0_0, .int .i64 a0_1, .string a0_2], .agg #[.bool a1_0, .int .i64 a1_1, .string a1_2], .agg #[.bool a2_0, .int .i64 a2_1, .string a2_2]] w fun e w' => e = .returned (.agg #[.bool r1, .int .i64 r2, .string r3]) ∧ Below w.heap.size w w' := by
 have hu104 := Tryz.underlying104
 have hu32 := Tryz.underlying32
 have HB := xy (Below.refl w.heap.size w)
 unfold value_val_long.f at h
 have H := h
 clear h
 replace H := xj H
 obtain ⟨⟨t171, t172, t173⟩, A40, H⟩ := H
 try dsimp only at H
 have A4 := xy A40
 clear A40
 simp only [Option.some.injEq, Prod.mk.injEq] at H
 obtain ⟨rfl, rfl, rfl⟩ := H
 go_enter Tryz.func76, Tryz.ntmps76
 go_wp2_with (first | ((with_reducible refine gate_dst (N := 3) rfl ?_); refine xq (N := 3) (cs := #[.bool a0_0, .int .i64 a0_1, .string a0_2]) (t := 104) ?_; intro gb167 hg w5 hbox hb; have BK167 := xy (hbox); have GW167 := xs w hg; have GE167 := xs w hg; replace HB := xy (below_step xb hb); clear hb hbox hg) | ((with_reducible refine gate_dst (N := 4) rfl ?_); refine xq (N := 4) (cs := #[.bool a1_0, .int .i64 a1_1, .string a1_2]) (t := 104) ?_; intro gb168 hg w6 hbox hb; have BK168 := xy (hbox); have GW168 := xs w hg; have GE168 := xs w hg; replace HB := xy (below_step xb hb); have NB167_168 := xn hg BK167.out; have NB168_167 := xp hg BK167.out; replace BK167 := xd BK167.out hb; clear hb hbox hg) | ((with_reducible refine gate_dst (N := 5) rfl ?_); refine xq (N := 5) (cs := #[.bool a2_0, .int .i64 a2_1, .string a2_2]) (t := 104) ?_; intro gb169 hg w7 hbox hb; have BK169 := xy (hbox); have GW169 := xs w hg; have GE169 := xs w hg; replace HB := xy (below_step xb hb); have NB167_169 := xn hg BK167.out; have NB169_167 := xp hg BK167.out; replace BK167 := xd BK167.out hb; have NB168_169 := xn hg BK168.out; have NB169_168 := xp hg BK168.out; replace BK168 := xd BK168.out hb; clear hb hbox hg) | ((with_reducible refine gate_dst (N := 6) rfl ?_); refine xq (N := 6) (cs := #[.bool false, .int .i64 0, .string (⟨#[]⟩ : ByteArray)]) (t := 32) ?_; intro gb170 hg w8 hbox hb; have BK170 := xy (hbox); have GW170 := xs w hg; have GE170 := xs w hg; replace HB := xy (below_step xb hb); have NB167_170 := xn hg BK167.out; have NB170_167 := xp hg BK167.out; replace BK167 := xd BK167.out hb; have NB168_170 := xn hg BK168.out; have NB170_168 := xp hg BK168.out; replace BK168 := xd BK168.out hb; have NB169_170 := xn hg BK169.out; have NB170_169 := xp hg BK169.out; replace BK169 := xd BK169.out hb; clear hb hbox hg; have hnb9 := NB167_168.out; have hnc9 := NB168_167.out; have hnb10 := NB167_169.out; have hnc10 := NB169_167.out; have hnb11 := NB167_170.out; have hnc11 := NB170_167.out; have hcz12_0 : w8.cell? ⟨gb167, 0, none⟩ = some (.bool a0_0) := (kc BK167.out 0).trans rfl; have hcz12_1 : w8.cell? ⟨gb167, 1, none⟩ = some (.int .i64 a0_1) := (kc BK167.out 1).trans rfl; have hcz12_2 : w8.cell? ⟨gb167, 2, none⟩ = some (.string a0_2) := (kc BK167.out 2).trans rfl; have hfz12_0 := kf BK167.out 0; have hfz12_1 := kf BK167.out 1; have hfz12_2 := kf BK167.out 2) | ((with_reducible refine gate_callee (f := 36) rfl ?_); refine goesL_ (some 10) rfl rfl Tryz.func36 (by kernel_rfl) rfl #[.int .i64 (a0_2.size : Int)] rfl xr ?_; (with_reducible refine (value_Num.calls (a0_2.size : Int) t171 t172 t173 _ (Tabs.below hT xf) A4.out).mono ?_); rintro e w13 ⟨rfl, hb⟩; refine ⟨_, rfl, ?_⟩; replace BK167 := xd BK167.out hb; replace BK168 := xd BK168.out hb; replace BK169 := xd BK169.out hb; replace BK170 := xd BK170.out hb; replace HB := xy (below_step xb hb); (try clear hb); (try clear hb2); (try clear hk); (try clear hi); have hnb14 := NB170_168.out; have hnc14 := NB168_170.out; have hnb15 := NB170_169.out; have hnc15 := NB169_170.out; have hcz16_0 : w13.cell? ⟨gb170, 0, none⟩ = some (.bool false) := (kc BK170.out 0).trans rfl; have hcz16_1 : w13.cell? ⟨gb170, 1, none⟩ = some (.int .i64 0) := (kc BK170.out 1).trans rfl; have hcz16_2 : w13.cell? ⟨gb170, 2, none⟩ = some (.string (⟨#[]⟩ : ByteArray)) := (kc BK170.out 2).trans rfl; have hfz16_0 := kf BK170.out 0; have hfz16_1 := kf BK170.out 1; have hfz16_2 := kf BK170.out 2))
 refine bodyPost_ret (results_cell_row rfl _ _ gb170 32 #[.bool t171, .int .i64 t172, .string t173] (0, 0) _ rfl (kp BK170.out) Tryz.underlying32 rfl (by kernel_rfl)) rfl ?_
 exact ⟨xe, xb⟩
def value_val_slice.f (a0_0 : Bool) (a0_1 : Int) (a0_2 : ByteArray) (a1_0 : Bool) (a1_1 : Int) (a1_2 : ByteArray) (a2_0 : Bool) (a2_1 : Int) (a2_2 : ByteArray) : Option (Bool × Int × ByteArray) := if 0 ≤ (mn (mx a1_1 0) (a0_2.size : Int)) then (if (mn (mx a1_1 0) (a0_2.size : Int)) ≤ (a0_2.size : Int) then (if 0 ≤ (mn (mx a2_1 0) ((a0_2.extract ((mn (mx a1_1 0) (a0_2.size : Int)) : Int).toNat a0_2.size).size : Int)) then (if (mn (mx a2_1 0) ((a0_2.extract ((mn (mx a1_1 0) (a0_2.size : Int)) : Int).toNat a0_2.size).size : Int)) ≤ ((a0_2.extract ((mn (mx a1_1 0) (a0_2.size : Int)) : Int).toNat a0_2.size).size : Int) then ((value_Text.f ((a0_2.extract ((mn (mx a1_1 0) (a0_2.size : Int)) : Int).toNat a0_2.size).extract 0 ((mn (mx a2_1 0) ((a0_2.extract ((mn (mx a1_1 0) (a0_2.size : Int)) : Int).toNat a0_2.size).size : Int)) : Int).toNat)).bind fun bt178 => (some (bt178.1, bt178.2.1, bt178.2.2))) else (none)) else (none)) else (none)) else (none)
set_option maxHeartbeats 8000000 in
set_option maxRecDepth 100000 in
theorem value_val_slice.calls (a0_0 : Bool) (a0_1 : Int) (a0_2 : ByteArray) (a1_0 : Bool) (a1_1 : Int) (a1_2 : ByteArray) (a2_0 : Bool) (a2_1 : Int) (a2_2 : ByteArray) (r1 : Bool) (r2 : Int) (r3 : ByteArray) (w : World) (hT : Tabs w) (h : value_val_slice.f a0_0 a0_1 a0_2 a1_0 a1_1 a1_2 a2_0 a2_1 a2_2 = some (r1, r2, r3)) :
  Calls Tryz.prog 77 #[.agg #[.bool a0_0, .int .i64 a0_1, .string a0_2], .agg #[.bool a1_0, .int .i64 a1_1, .string a1_2], .agg #[.bool a2_0, .int .i64 a2_1, .string a2_2]] w fun e w' => e = .returned (.agg #[.bool r1, .int .i64 r2, .string r3]) ∧ Below w.heap.size w w' := by
 have hu104 := Tryz.underlying104
 have hu32 := Tryz.underlying32
 have HB := xy (Below.refl w.heap.size w)
 unfold value_val_slice.f at h
 have H := h
 clear h
 obtain ⟨ji4, hji4⟩ : ∃ j_ : Int, (mx a1_1 0) = j_ := ⟨_, rfl⟩
 replace H : (if 0 ≤ (mn (ji4) (a0_2.size : Int)) then (if (mn (ji4) (a0_2.size : Int)) ≤ (a0_2.size : Int) then (if 0 ≤ (mn (mx a2_1 0) ((a0_2.extract ((mn (ji4) (a0_2.size : Int)) : Int).toNat a0_2.size).size : Int)) then (if (mn (mx a2_1 0) ((a0_2.extract ((mn (ji4) (a0_2.size : Int)) : Int).toNat a0_2.size).size : Int)) ≤ ((a0_2.extract ((mn (ji4) (a0_2.size : Int)) : Int).toNat a0_2.size).size : Int) then ((value_Text.f ((a0_2.extract ((mn (ji4) (a0_2.size : Int)) : Int).toNat a0_2.size).extract 0 ((mn (mx a2_1 0) ((a0_2.extract ((mn (ji4) (a0_2.size : Int)) : Int).toNat a0_2.size).size : Int)) : Int).toNat)).bind fun bt178 => (some (bt178.1, bt178.2.1, bt178.2.2))) else (none)) else (none)) else (none)) else (none)) = some (r1, r2, r3) := by first | (rw [hji4] at H; exact H) | (simp only [hji4] at H ⊢; exact H)
 (try (have hji4l : 0 ≤ ji4 := by (rw [← hji4]; unfold mx; (repeat' split) <;> omega)))
 (try (have hji4m : 0 ≤ ji4 := by omega))
 have hji4_ : (if a1_1 < 0 then 0 else a1_1) = ji4 := hji4
 obtain ⟨ji5, hji5⟩ : ∃ j_ : Int, (mn (ji4) (a0_2.size : Int)) = j_ := ⟨_, rfl⟩
 replace H : (if 0 ≤ (ji5) then (if (ji5) ≤ (a0_2.size : Int) then (if 0 ≤ (mn (mx a2_1 0) ((a0_2.extract ((ji5) : Int).toNat a0_2.size).size : Int)) then (if (mn (mx a2_1 0) ((a0_2.extract ((ji5) : Int).toNat a0_2.size).size : Int)) ≤ ((a0_2.extract ((ji5) : Int).toNat a0_2.size).size : Int) then ((value_Text.f ((a0_2.extract ((ji5) : Int).toNat a0_2.size).extract 0 ((mn (mx a2_1 0) ((a0_2.extract ((ji5) : Int).toNat a0_2.size).size : Int)) : Int).toNat)).bind fun bt178 => (some (bt178.1, bt178.2.1, bt178.2.2))) else (none)) else (none)) else (none)) else (none)) = some (r1, r2, r3) := by first | (rw [hji5] at H; exact H) | (simp only [hji5] at H ⊢; exact H)
 have hji5_ : (if (a0_2.size : Int) < (ji4) then (a0_2.size : Int) else (ji4)) = ji5 := hji5
 by_cases c6 : 0 ≤ (ji5)
 ·rw [if_pos c6] at H
  have c6b0 := eq_true c6
  have c6b1 : decide (0 ≤ (ji5)) = true := decide_eq_true c6
  clear c6
  by_cases c7 : (ji5) ≤ (a0_2.size : Int)
  ·rw [if_pos c7] at H
   have c7b0 := eq_true c7
   have c7b1 : decide ((ji5) ≤ (a0_2.size : Int)) = true := decide_eq_true c7
   clear c7
   obtain ⟨ji8, hji8⟩ : ∃ j_ : Int, (mx a2_1 0) = j_ := ⟨_, rfl⟩
   replace H : (if 0 ≤ (mn (ji8) ((a0_2.extract ((ji5) : Int).toNat a0_2.size).size : Int)) then (if (mn (ji8) ((a0_2.extract ((ji5) : Int).toNat a0_2.size).size : Int)) ≤ ((a0_2.extract ((ji5) : Int).toNat a0_2.size).size : Int) then ((value_Text.f ((a0_2.extract ((ji5) : Int).toNat a0_2.size).extract 0 ((mn (ji8) ((a0_2.extract ((ji5) : Int).toNat a0_2.size).size : Int)) : Int).toNat)).bind fun bt178 => (some (bt178.1, bt178.2.1, bt178.2.2))) else (none)) else (none)) = some (r1, r2, r3) := by first | (rw [hji8] at H; exact H) | (simp only [hji8] at H ⊢; exact H)
   (try (have hji8l : 0 ≤ ji8 := by (rw [← hji8]; unfold mx; (repeat' split) <;> omega)))
   (try (have hji8m : 0 ≤ ji8 := by omega))
   have hji8_ : (if a2_1 < 0 then 0 else a2_1) = ji8 := hji8
   obtain ⟨ji9, hji9⟩ : ∃ j_ : Int, (mn (ji8) ((a0_2.extract ((ji5) : Int).toNat a0_2.size).size : Int)) = j_ := ⟨_, rfl⟩
   replace H : (if 0 ≤ (ji9) then (if (ji9) ≤ ((a0_2.extract ((ji5) : Int).toNat a0_2.size).size : Int) then ((value_Text.f ((a0_2.extract ((ji5) : Int).toNat a0_2.size).extract 0 ((ji9) : Int).toNat)).bind fun bt178 => (some (bt178.1, bt178.2.1, bt178.2.2))) else (none)) else (none)) = some (r1, r2, r3) := by first | (rw [hji9] at H; exact H) | (simp only [hji9] at H ⊢; exact H)
   have hji9_ : (if ((a0_2.extract ((ji5) : Int).toNat a0_2.size).size : Int) < (ji8) then ((a0_2.extract ((ji5) : Int).toNat a0_2.size).size : Int) else (ji8)) = ji9 := hji9
   (try (have hji9_s := hji9_; simp only [ByteArray.size_extract, Nat.min_self] at hji9_s))
   by_cases c10 : 0 ≤ (ji9)
   ·rw [if_pos c10] at H
    have c10b0 := eq_true c10
    have c10b1 : decide (0 ≤ (ji9)) = true := decide_eq_true c10
    clear c10
    by_cases c11 : (ji9) ≤ ((a0_2.extract ((ji5) : Int).toNat a0_2.size).size : Int)
    ·rw [if_pos c11] at H
     have c11b0 := eq_true c11
     have c11b1 : decide ((ji9) ≤ ((a0_2.extract ((ji5) : Int).toNat a0_2.size).size : Int)) = true := decide_eq_true c11
     (try (have c11b1s := c11b1; simp only [ByteArray.size_extract, Nat.min_self] at c11b1s))
     clear c11
     replace H := xj H
     obtain ⟨⟨t178, t179, t180⟩, A120, H⟩ := H
     try dsimp only at H
     have A12 := xy A120
     clear A120
     simp only [Option.some.injEq, Prod.mk.injEq] at H
     obtain ⟨rfl, rfl, rfl⟩ := H
     go_enter Tryz.func77, Tryz.ntmps77
     go_wp2_with (first | ((with_reducible refine gate_dst (N := 3) rfl ?_); refine xq (N := 3) (cs := #[.bool a0_0, .int .i64 a0_1, .string a0_2]) (t := 104) ?_; intro gb174 hg w13 hbox hb; have BK174 := xy (hbox); have GW174 := xs w hg; have GE174 := xs w hg; replace HB := xy (below_step xb hb); clear hb hbox hg) | ((with_reducible refine gate_dst (N := 4) rfl ?_); refine xq (N := 4) (cs := #[.bool a1_0, .int .i64 a1_1, .string a1_2]) (t := 104) ?_; intro gb175 hg w14 hbox hb; have BK175 := xy (hbox); have GW175 := xs w hg; have GE175 := xs w hg; replace HB := xy (below_step xb hb); have NB174_175 := xn hg BK174.out; have NB175_174 := xp hg BK174.out; replace BK174 := xd BK174.out hb; clear hb hbox hg) | ((with_reducible refine gate_dst (N := 5) rfl ?_); refine xq (N := 5) (cs := #[.bool a2_0, .int .i64 a2_1, .string a2_2]) (t := 104) ?_; intro gb176 hg w15 hbox hb; have BK176 := xy (hbox); have GW176 := xs w hg; have GE176 := xs w hg; replace HB := xy (below_step xb hb); have NB174_176 := xn hg BK174.out; have NB176_174 := xp hg BK174.out; replace BK174 := xd BK174.out hb; have NB175_176 := xn hg BK175.out; have NB176_175 := xp hg BK175.out; replace BK175 := xd BK175.out hb; clear hb hbox hg) | ((with_reducible refine gate_dst (N := 6) rfl ?_); refine xq (N := 6) (cs := #[.bool false, .int .i64 0, .string (⟨#[]⟩ : ByteArray)]) (t := 32) ?_; intro gb177 hg w16 hbox hb; have BK177 := xy (hbox); have GW177 := xs w hg; have GE177 := xs w hg; replace HB := xy (below_step xb hb); have NB174_177 := xn hg BK174.out; have NB177_174 := xp hg BK174.out; replace BK174 := xd BK174.out hb; have NB175_177 := xn hg BK175.out; have NB177_175 := xp hg BK175.out; replace BK175 := xd BK175.out hb; have NB176_177 := xn hg BK176.out; have NB177_176 := xp hg BK176.out; replace BK176 := xd BK176.out hb; clear hb hbox hg; have hnb17 := NB174_175.out; have hnc17 := NB175_174.out; have hnb18 := NB174_176.out; have hnc18 := NB176_174.out; have hnb19 := NB174_177.out; have hnc19 := NB177_174.out; have hcz20_0 : w16.cell? ⟨gb174, 0, none⟩ = some (.bool a0_0) := (kc BK174.out 0).trans rfl; have hcz20_1 : w16.cell? ⟨gb174, 1, none⟩ = some (.int .i64 a0_1) := (kc BK174.out 1).trans rfl; have hcz20_2 : w16.cell? ⟨gb174, 2, none⟩ = some (.string a0_2) := (kc BK174.out 2).trans rfl; have hfz20_0 := kf BK174.out 0; have hfz20_1 := kf BK174.out 1; have hfz20_2 := kf BK174.out 2; have hnb21 := NB175_176.out; have hnc21 := NB176_175.out; have hnb22 := NB175_177.out; have hnc22 := NB177_175.out; have hcz23_0 : w16.cell? ⟨gb175, 0, none⟩ = some (.bool a1_0) := (kc BK175.out 0).trans rfl; have hcz23_1 : w16.cell? ⟨gb175, 1, none⟩ = some (.int .i64 a1_1) := (kc BK175.out 1).trans rfl; have hcz23_2 : w16.cell? ⟨gb175, 2, none⟩ = some (.string a1_2) := (kc BK175.out 2).trans rfl; have hfz23_0 := kf BK175.out 0; have hfz23_1 := kf BK175.out 1; have hfz23_2 := kf BK175.out 2; have hnb24 := NB176_177.out; have hnc24 := NB177_176.out; have hcz25_0 : w16.cell? ⟨gb176, 0, none⟩ = some (.bool a2_0) := (kc BK176.out 0).trans rfl; have hcz25_1 : w16.cell? ⟨gb176, 1, none⟩ = some (.int .i64 a2_1) := (kc BK176.out 1).trans rfl; have hcz25_2 : w16.cell? ⟨gb176, 2, none⟩ = some (.string a2_2) := (kc BK176.out 2).trans rfl; have hfz25_0 := kf BK176.out 0; have hfz25_1 := kf BK176.out 1; have hfz25_2 := kf BK176.out 2) | ((with_reducible refine gate_callee (f := 35) rfl ?_); refine goesL_ (some 26) rfl rfl Tryz.func35 (by kernel_rfl) rfl #[.string ((a0_2.extract ((ji5) : Int).toNat a0_2.size).extract 0 ((ji9) : Int).toNat)] rfl (by (try simp only [List.map_toArray, List.map_cons, List.map_nil]); first | done | (simp only [hji5, hji9]; rfl) | rfl | (simp only [List.length_drop, List.length_take]; rfl)) ?_; (with_reducible refine (value_Text.calls ((a0_2.extract ((ji5) : Int).toNat a0_2.size).extract 0 ((ji9) : Int).toNat) t178 t179 t180 _ (Tabs.below hT xf) A12.out).mono ?_); rintro e w26 ⟨rfl, hb⟩; refine ⟨_, rfl, ?_⟩; replace BK174 := xd BK174.out hb; replace BK175 := xd BK175.out hb; replace BK176 := xd BK176.out hb; replace BK177 := xd BK177.out hb; replace HB := xy (below_step xb hb); (try clear hb); (try clear hb2); (try clear hk); (try clear hi); have hcz27_0 : w26.cell? ⟨gb177, 0, none⟩ = some (.bool false) := (kc BK177.out 0).trans rfl; have hcz27_1 : w26.cell? ⟨gb177, 1, none⟩ = some (.int .i64 0) := (kc BK177.out 1).trans rfl; have hcz27_2 : w26.cell? ⟨gb177, 2, none⟩ = some (.string (⟨#[]⟩ : ByteArray)) := (kc BK177.out 2).trans rfl; have hfz27_0 := kf BK177.out 0; have hfz27_1 := kf BK177.out 1; have hfz27_2 := kf BK177.out 2))
     refine bodyPost_ret (results_cell_row rfl _ _ gb177 32 #[.bool t178, .int .i64 t179, .string t180] (0, 0) _ rfl (kp BK177.out) Tryz.underlying32 rfl (by kernel_rfl)) rfl ?_
     exact ⟨by first | rfl | (simp [errW_none, errW_some] <;> rfl) | (simp only [← hji4, ← hji5, ← hji8, ← hji9]; first | rfl | (simp [errW_none, errW_some] <;> rfl)) | (simp [*, errW_none, errW_some] <;> rfl), xb⟩
    ·rw [if_neg c11] at H
     exact absurd H (by simp)
   ·rw [if_neg c10] at H
    exact absurd H (by simp)
  ·rw [if_neg c7] at H
   exact absurd H (by simp)
 ·rw [if_neg c6] at H
  exact absurd H (by simp)
def value_turn.f (a0 : ByteArray) (a1 : Int) : Option (Bool × Int × ByteArray) := if 0 ≤ a1 ∧ a1 ≤ 200 ∧ a0.size ≤ 140737488355328 then value_Text.f (strOfNums (XTurn.turnL a1 (bytesOf a0))) else none
theorem value_turn.calls (a0 : ByteArray) (a1 : Int) (r1 : Bool) (r2 : Int) (r3 : ByteArray) (w : World) (hT : Tabs w) (h : value_turn.f a0 a1 = some (r1, r2, r3)) :
  Calls Tryz.prog 90 #[.string a0, .int .u8 a1] w fun e w' => e = .returned (.agg #[.bool r1, .int .i64 r2, .string r3]) ∧ Below w.heap.size w w' := by
 unfold value_turn.f at h
 by_cases hq : 0 ≤ a1 ∧ a1 ≤ 200 ∧ a0.size ≤ 140737488355328
 ·rw [if_pos hq] at h
  exact XTurn.calls (T := Tabs) (fun w w' h hb => h.below hb) a0 a1 r1 r2 r3 ⟨hq.1, hq.2.1⟩ hq.2.2 (fun w hT => value_Text.calls _ _ _ _ w hT h) w hT
 ·rw [if_neg hq] at h
  cases h
def value_val_upper.f (a0_0 : Bool) (a0_1 : Int) (a0_2 : ByteArray) (a1_0 : Bool) (a1_1 : Int) (a1_2 : ByteArray) (a2_0 : Bool) (a2_1 : Int) (a2_2 : ByteArray) : Option (Bool × Int × ByteArray) := (value_turn.f a0_2 97).bind fun bt185 => (some (bt185.1, bt185.2.1, bt185.2.2))
set_option maxHeartbeats 8000000 in
set_option maxRecDepth 100000 in
theorem value_val_upper.calls (a0_0 : Bool) (a0_1 : Int) (a0_2 : ByteArray) (a1_0 : Bool) (a1_1 : Int) (a1_2 : ByteArray) (a2_0 : Bool) (a2_1 : Int) (a2_2 : ByteArray) (r1 : Bool) (r2 : Int) (r3 : ByteArray) (w : World) (hT : Tabs w) (h : value_val_upper.f a0_0 a0_1 a0_2 a1_0 a1_1 a1_2 a2_0 a2_1 a2_2 = some (r1, r2, r3)) :
  Calls Tryz.prog 78 #[.agg #[.bool a0_0, .int .i64 a0_1, .string a0_2], .agg #[.bool a1_0, .int .i64 a1_1, .string a1_2], .agg #[.bool a2_0, .int .i64 a2_1, .string a2_2]] w fun e w' => e = .returned (.agg #[.bool r1, .int .i64 r2, .string r3]) ∧ Below w.heap.size w w' := by
 have hu104 := Tryz.underlying104
 have hu32 := Tryz.underlying32
 have HB := xy (Below.refl w.heap.size w)
 unfold value_val_upper.f at h
 have H := h
 clear h
 replace H := xj H
 obtain ⟨⟨t185, t186, t187⟩, A40, H⟩ := H
 try dsimp only at H
 have A4 := xy A40
 clear A40
 simp only [Option.some.injEq, Prod.mk.injEq] at H
 obtain ⟨rfl, rfl, rfl⟩ := H
 go_enter Tryz.func78, Tryz.ntmps78
 go_wp2_with (first | ((with_reducible refine gate_dst (N := 3) rfl ?_); refine xq (N := 3) (cs := #[.bool a0_0, .int .i64 a0_1, .string a0_2]) (t := 104) ?_; intro gb181 hg w5 hbox hb; have BK181 := xy (hbox); have GW181 := xs w hg; have GE181 := xs w hg; replace HB := xy (below_step xb hb); clear hb hbox hg) | ((with_reducible refine gate_dst (N := 4) rfl ?_); refine xq (N := 4) (cs := #[.bool a1_0, .int .i64 a1_1, .string a1_2]) (t := 104) ?_; intro gb182 hg w6 hbox hb; have BK182 := xy (hbox); have GW182 := xs w hg; have GE182 := xs w hg; replace HB := xy (below_step xb hb); have NB181_182 := xn hg BK181.out; have NB182_181 := xp hg BK181.out; replace BK181 := xd BK181.out hb; clear hb hbox hg) | ((with_reducible refine gate_dst (N := 5) rfl ?_); refine xq (N := 5) (cs := #[.bool a2_0, .int .i64 a2_1, .string a2_2]) (t := 104) ?_; intro gb183 hg w7 hbox hb; have BK183 := xy (hbox); have GW183 := xs w hg; have GE183 := xs w hg; replace HB := xy (below_step xb hb); have NB181_183 := xn hg BK181.out; have NB183_181 := xp hg BK181.out; replace BK181 := xd BK181.out hb; have NB182_183 := xn hg BK182.out; have NB183_182 := xp hg BK182.out; replace BK182 := xd BK182.out hb; clear hb hbox hg) | ((with_reducible refine gate_dst (N := 6) rfl ?_); refine xq (N := 6) (cs := #[.bool false, .int .i64 0, .string (⟨#[]⟩ : ByteArray)]) (t := 32) ?_; intro gb184 hg w8 hbox hb; have BK184 := xy (hbox); have GW184 := xs w hg; have GE184 := xs w hg; replace HB := xy (below_step xb hb); have NB181_184 := xn hg BK181.out; have NB184_181 := xp hg BK181.out; replace BK181 := xd BK181.out hb; have NB182_184 := xn hg BK182.out; have NB184_182 := xp hg BK182.out; replace BK182 := xd BK182.out hb; have NB183_184 := xn hg BK183.out; have NB184_183 := xp hg BK183.out; replace BK183 := xd BK183.out hb; clear hb hbox hg; have hnb9 := NB181_182.out; have hnc9 := NB182_181.out; have hnb10 := NB181_183.out; have hnc10 := NB183_181.out; have hnb11 := NB181_184.out; have hnc11 := NB184_181.out; have hcz12_0 : w8.cell? ⟨gb181, 0, none⟩ = some (.bool a0_0) := (kc BK181.out 0).trans rfl; have hcz12_1 : w8.cell? ⟨gb181, 1, none⟩ = some (.int .i64 a0_1) := (kc BK181.out 1).trans rfl; have hcz12_2 : w8.cell? ⟨gb181, 2, none⟩ = some (.string a0_2) := (kc BK181.out 2).trans rfl; have hfz12_0 := kf BK181.out 0; have hfz12_1 := kf BK181.out 1; have hfz12_2 := kf BK181.out 2) | ((with_reducible refine gate_callee (f := 90) rfl ?_); refine goesL_ (some 9) rfl rfl Tryz.func90 (by kernel_rfl) rfl #[.string a0_2, .int .u8 97] rfl xr ?_; (with_reducible refine (value_turn.calls a0_2 97 t185 t186 t187 _ (Tabs.below hT xf) A4.out).mono ?_); rintro e w13 ⟨rfl, hb⟩; refine ⟨_, rfl, ?_⟩; replace BK181 := xd BK181.out hb; replace BK182 := xd BK182.out hb; replace BK183 := xd BK183.out hb; replace BK184 := xd BK184.out hb; replace HB := xy (below_step xb hb); (try clear hb); (try clear hb2); (try clear hk); (try clear hi); have hnb14 := NB184_182.out; have hnc14 := NB182_184.out; have hnb15 := NB184_183.out; have hnc15 := NB183_184.out; have hcz16_0 : w13.cell? ⟨gb184, 0, none⟩ = some (.bool false) := (kc BK184.out 0).trans rfl; have hcz16_1 : w13.cell? ⟨gb184, 1, none⟩ = some (.int .i64 0) := (kc BK184.out 1).trans rfl; have hcz16_2 : w13.cell? ⟨gb184, 2, none⟩ = some (.string (⟨#[]⟩ : ByteArray)) := (kc BK184.out 2).trans rfl; have hfz16_0 := kf BK184.out 0; have hfz16_1 := kf BK184.out 1; have hfz16_2 := kf BK184.out 2))
 refine bodyPost_ret (results_cell_row rfl _ _ gb184 32 #[.bool t185, .int .i64 t186, .string t187] (0, 0) _ rfl (kp BK184.out) Tryz.underlying32 rfl (by kernel_rfl)) rfl ?_
 exact ⟨xe, xb⟩
def value_val_lower.f (a0_0 : Bool) (a0_1 : Int) (a0_2 : ByteArray) (a1_0 : Bool) (a1_1 : Int) (a1_2 : ByteArray) (a2_0 : Bool) (a2_1 : Int) (a2_2 : ByteArray) : Option (Bool × Int × ByteArray) := (value_turn.f a0_2 65).bind fun bt192 => (some (bt192.1, bt192.2.1, bt192.2.2))
set_option maxHeartbeats 8000000 in
set_option maxRecDepth 100000 in
theorem value_val_lower.calls (a0_0 : Bool) (a0_1 : Int) (a0_2 : ByteArray) (a1_0 : Bool) (a1_1 : Int) (a1_2 : ByteArray) (a2_0 : Bool) (a2_1 : Int) (a2_2 : ByteArray) (r1 : Bool) (r2 : Int) (r3 : ByteArray) (w : World) (hT : Tabs w) (h : value_val_lower.f a0_0 a0_1 a0_2 a1_0 a1_1 a1_2 a2_0 a2_1 a2_2 = some (r1, r2, r3)) :
  Calls Tryz.prog 79 #[.agg #[.bool a0_0, .int .i64 a0_1, .string a0_2], .agg #[.bool a1_0, .int .i64 a1_1, .string a1_2], .agg #[.bool a2_0, .int .i64 a2_1, .string a2_2]] w fun e w' => e = .returned (.agg #[.bool r1, .int .i64 r2, .string r3]) ∧ Below w.heap.size w w' := by
 have hu104 := Tryz.underlying104
 have hu32 := Tryz.underlying32
 have HB := xy (Below.refl w.heap.size w)
 unfold value_val_lower.f at h
 have H := h
 clear h
 replace H := xj H
 obtain ⟨⟨t192, t193, t194⟩, A40, H⟩ := H
 try dsimp only at H
 have A4 := xy A40
 clear A40
 simp only [Option.some.injEq, Prod.mk.injEq] at H
 obtain ⟨rfl, rfl, rfl⟩ := H
 go_enter Tryz.func79, Tryz.ntmps79
 go_wp2_with (first | ((with_reducible refine gate_dst (N := 3) rfl ?_); refine xq (N := 3) (cs := #[.bool a0_0, .int .i64 a0_1, .string a0_2]) (t := 104) ?_; intro gb188 hg w5 hbox hb; have BK188 := xy (hbox); have GW188 := xs w hg; have GE188 := xs w hg; replace HB := xy (below_step xb hb); clear hb hbox hg) | ((with_reducible refine gate_dst (N := 4) rfl ?_); refine xq (N := 4) (cs := #[.bool a1_0, .int .i64 a1_1, .string a1_2]) (t := 104) ?_; intro gb189 hg w6 hbox hb; have BK189 := xy (hbox); have GW189 := xs w hg; have GE189 := xs w hg; replace HB := xy (below_step xb hb); have NB188_189 := xn hg BK188.out; have NB189_188 := xp hg BK188.out; replace BK188 := xd BK188.out hb; clear hb hbox hg) | ((with_reducible refine gate_dst (N := 5) rfl ?_); refine xq (N := 5) (cs := #[.bool a2_0, .int .i64 a2_1, .string a2_2]) (t := 104) ?_; intro gb190 hg w7 hbox hb; have BK190 := xy (hbox); have GW190 := xs w hg; have GE190 := xs w hg; replace HB := xy (below_step xb hb); have NB188_190 := xn hg BK188.out; have NB190_188 := xp hg BK188.out; replace BK188 := xd BK188.out hb; have NB189_190 := xn hg BK189.out; have NB190_189 := xp hg BK189.out; replace BK189 := xd BK189.out hb; clear hb hbox hg) | ((with_reducible refine gate_dst (N := 6) rfl ?_); refine xq (N := 6) (cs := #[.bool false, .int .i64 0, .string (⟨#[]⟩ : ByteArray)]) (t := 32) ?_; intro gb191 hg w8 hbox hb; have BK191 := xy (hbox); have GW191 := xs w hg; have GE191 := xs w hg; replace HB := xy (below_step xb hb); have NB188_191 := xn hg BK188.out; have NB191_188 := xp hg BK188.out; replace BK188 := xd BK188.out hb; have NB189_191 := xn hg BK189.out; have NB191_189 := xp hg BK189.out; replace BK189 := xd BK189.out hb; have NB190_191 := xn hg BK190.out; have NB191_190 := xp hg BK190.out; replace BK190 := xd BK190.out hb; clear hb hbox hg; have hnb9 := NB188_189.out; have hnc9 := NB189_188.out; have hnb10 := NB188_190.out; have hnc10 := NB190_188.out; have hnb11 := NB188_191.out; have hnc11 := NB191_188.out; have hcz12_0 : w8.cell? ⟨gb188, 0, none⟩ = some (.bool a0_0) := (kc BK188.out 0).trans rfl; have hcz12_1 : w8.cell? ⟨gb188, 1, none⟩ = some (.int .i64 a0_1) := (kc BK188.out 1).trans rfl; have hcz12_2 : w8.cell? ⟨gb188, 2, none⟩ = some (.string a0_2) := (kc BK188.out 2).trans rfl; have hfz12_0 := kf BK188.out 0; have hfz12_1 := kf BK188.out 1; have hfz12_2 := kf BK188.out 2) | ((with_reducible refine gate_callee (f := 90) rfl ?_); refine goesL_ (some 9) rfl rfl Tryz.func90 (by kernel_rfl) rfl #[.string a0_2, .int .u8 65] rfl xr ?_; (with_reducible refine (value_turn.calls a0_2 65 t192 t193 t194 _ (Tabs.below hT xf) A4.out).mono ?_); rintro e w13 ⟨rfl, hb⟩; refine ⟨_, rfl, ?_⟩; replace BK188 := xd BK188.out hb; replace BK189 := xd BK189.out hb; replace BK190 := xd BK190.out hb; replace BK191 := xd BK191.out hb; replace HB := xy (below_step xb hb); (try clear hb); (try clear hb2); (try clear hk); (try clear hi); have hnb14 := NB191_189.out; have hnc14 := NB189_191.out; have hnb15 := NB191_190.out; have hnc15 := NB190_191.out; have hcz16_0 : w13.cell? ⟨gb191, 0, none⟩ = some (.bool false) := (kc BK191.out 0).trans rfl; have hcz16_1 : w13.cell? ⟨gb191, 1, none⟩ = some (.int .i64 0) := (kc BK191.out 1).trans rfl; have hcz16_2 : w13.cell? ⟨gb191, 2, none⟩ = some (.string (⟨#[]⟩ : ByteArray)) := (kc BK191.out 2).trans rfl; have hfz16_0 := kf BK191.out 0; have hfz16_1 := kf BK191.out 1; have hfz16_2 := kf BK191.out 2))
 refine bodyPost_ret (results_cell_row rfl _ _ gb191 32 #[.bool t192, .int .i64 t193, .string t194] (0, 0) _ rfl (kp BK191.out) Tryz.underlying32 rfl (by kernel_rfl)) rfl ?_
 exact ⟨xe, xb⟩
def value_yes.f (a0 : Bool) : Option (Bool × Int × ByteArray) := if a0 = true then ((value_Num.f 1).bind fun bt196 => (some (bt196.1, bt196.2.1, bt196.2.2))) else ((value_Num.f 0).bind fun bt199 => (some (bt199.1, bt199.2.1, bt199.2.2)))
set_option maxHeartbeats 8000000 in
set_option maxRecDepth 100000 in
theorem value_yes.calls (a0 : Bool) (r1 : Bool) (r2 : Int) (r3 : ByteArray) (w : World) (hT : Tabs w) (h : value_yes.f a0 = some (r1, r2, r3)) :
  Calls Tryz.prog 91 #[.bool a0] w fun e w' => e = .returned (.agg #[.bool r1, .int .i64 r2, .string r3]) ∧ Below w.heap.size w w' := by
 have hu32 := Tryz.underlying32
 have HB := xy (Below.refl w.heap.size w)
 unfold value_yes.f at h
 have H := h
 clear h
 by_cases c2 : a0 = true
 ·subst c2
  rw [if_pos rfl] at H
  replace H := xj H
  obtain ⟨⟨t196, t197, t198⟩, A30, H⟩ := H
  try dsimp only at H
  have A3 := xy A30
  clear A30
  simp only [Option.some.injEq, Prod.mk.injEq] at H
  obtain ⟨rfl, rfl, rfl⟩ := H
  go_enter Tryz.func91, Tryz.ntmps91
  go_wp2_with (first | ((with_reducible refine gate_dst (N := 2) rfl ?_); refine xq (N := 2) (cs := #[.bool false, .int .i64 0, .string (⟨#[]⟩ : ByteArray)]) (t := 32) ?_; intro gb195 hg w4 hbox hb; have BK195 := xy (hbox); have GW195 := xs w hg; have GE195 := xs w hg; replace HB := xy (below_step xb hb); clear hb hbox hg) | ((with_reducible refine gate_callee (f := 36) rfl ?_); refine goesL_ (some 4) rfl rfl Tryz.func36 (by kernel_rfl) rfl #[.int .i64 1] rfl xr ?_; (with_reducible refine (value_Num.calls 1 t196 t197 t198 _ (Tabs.below hT xf) A3.out).mono ?_); rintro e w5 ⟨rfl, hb⟩; refine ⟨_, rfl, ?_⟩; replace BK195 := xd BK195.out hb; replace HB := xy (below_step xb hb); (try clear hb); (try clear hb2); (try clear hk); (try clear hi); have hcz6_0 : w5.cell? ⟨gb195, 0, none⟩ = some (.bool false) := (kc BK195.out 0).trans rfl; have hcz6_1 : w5.cell? ⟨gb195, 1, none⟩ = some (.int .i64 0) := (kc BK195.out 1).trans rfl; have hcz6_2 : w5.cell? ⟨gb195, 2, none⟩ = some (.string (⟨#[]⟩ : ByteArray)) := (kc BK195.out 2).trans rfl; have hfz6_0 := kf BK195.out 0; have hfz6_1 := kf BK195.out 1; have hfz6_2 := kf BK195.out 2))
  refine bodyPost_ret (results_cell_row rfl _ _ gb195 32 #[.bool t196, .int .i64 t197, .string t198] (0, 0) _ rfl (kp BK195.out) Tryz.underlying32 rfl (by kernel_rfl)) rfl ?_
  exact ⟨xe, xb⟩
 ·replace c2 := Bool.eq_false_iff.mpr c2
  subst c2
  rw [if_neg (show ¬ (false = true) by decide)] at H
  replace H := xj H
  obtain ⟨⟨t199, t200, t201⟩, A70, H⟩ := H
  try dsimp only at H
  have A7 := xy A70
  clear A70
  simp only [Option.some.injEq, Prod.mk.injEq] at H
  obtain ⟨rfl, rfl, rfl⟩ := H
  go_enter Tryz.func91, Tryz.ntmps91
  go_wp2_with (first | ((with_reducible refine gate_dst (N := 2) rfl ?_); refine xq (N := 2) (cs := #[.bool false, .int .i64 0, .string (⟨#[]⟩ : ByteArray)]) (t := 32) ?_; intro gb195 hg w8 hbox hb; have BK195 := xy (hbox); have GW195 := xs w hg; have GE195 := xs w hg; replace HB := xy (below_step xb hb); clear hb hbox hg) | ((with_reducible refine gate_callee (f := 36) rfl ?_); refine goesL_ (some 5) rfl rfl Tryz.func36 (by kernel_rfl) rfl #[.int .i64 0] rfl xr ?_; (with_reducible refine (value_Num.calls 0 t199 t200 t201 _ (Tabs.below hT xf) A7.out).mono ?_); rintro e w9 ⟨rfl, hb⟩; refine ⟨_, rfl, ?_⟩; replace BK195 := xd BK195.out hb; replace HB := xy (below_step xb hb); (try clear hb); (try clear hb2); (try clear hk); (try clear hi); have hcz10_0 : w9.cell? ⟨gb195, 0, none⟩ = some (.bool false) := (kc BK195.out 0).trans rfl; have hcz10_1 : w9.cell? ⟨gb195, 1, none⟩ = some (.int .i64 0) := (kc BK195.out 1).trans rfl; have hcz10_2 : w9.cell? ⟨gb195, 2, none⟩ = some (.string (⟨#[]⟩ : ByteArray)) := (kc BK195.out 2).trans rfl; have hfz10_0 := kf BK195.out 0; have hfz10_1 := kf BK195.out 1; have hfz10_2 := kf BK195.out 2))
  refine bodyPost_ret (results_cell_row rfl _ _ gb195 32 #[.bool t199, .int .i64 t200, .string t201] (0, 0) _ rfl (kp BK195.out) Tryz.underlying32 rfl (by kernel_rfl)) rfl ?_
  exact ⟨xe, xb⟩
def cmp_Or_int.l0 : Nat → Int → List Int → Int → Int → Option (Int)
 | 0, _, _, _, _ => none
 | k + 1, x3, x6, x7, x8 => if x8 < x7 then (if 0 ≤ x8 then (if x8 < (x6.length : Int) then (if (rd x6 x8) = x3 then (cmp_Or_int.l0 k x3 x6 x7 (wrap64 (x8 + 1))) else (some (rd x6 x8))) else (none)) else (none)) else (some x3)
def cmp_Or_int.f (k : Nat) (l0 : List Int) : Option (Int) := cmp_Or_int.l0 k 0 l0 (l0.length : Int) 0
theorem cmp_Or_int.mono_l : ∀ k, (∀ y0 y1 y2 y3, LeO (cmp_Or_int.l0 k y0 y1 y2 y3) (cmp_Or_int.l0 (k + 1) y0 y1 y2 y3))
 | 0 => fun _ _ _ _ r h => by simp [cmp_Or_int.l0] at h
 | k + 1 => by
  have ih0 := cmp_Or_int.mono_l k
  ·intro y0 y1 y2 y3
   unfold cmp_Or_int.l0
   repeat' (with_reducible first | exact ih0 _ _ _ _ | exact LeO.refl _ | exact LeO.none _ | refine LeO.ite ?_ ?_ | refine LeO.bind ?_ (fun _ => ?_))
theorem cmp_Or_int.mono : ∀ a0 k, LeO (cmp_Or_int.f k a0) (cmp_Or_int.f (k + 1) a0) := by
 intro a0 k
 have ih0 := cmp_Or_int.mono_l k
 unfold cmp_Or_int.f
 repeat' (with_reducible first | exact ih0 _ _ _ _ | exact LeO.refl _ | exact LeO.none _ | refine LeO.ite ?_ ?_ | refine LeO.bind ?_ (fun _ => ?_))
set_option maxHeartbeats 8000000 in
set_option maxRecDepth 100000 in
theorem cmp_Or_int.calls (k : Nat) (A0 : Option Addr) (c0 : Nat) (l0 : List Int) (r : Int) (w : World) (hT : Tabs w) (hr0 : Kd.C (Kd.int .i64) w A0 l0.length l0) (hc0 : l0.length ≤ c0) (h : cmp_Or_int.f k l0 = some r) :
  Calls Tryz.prog 99 #[.slice A0 l0.length c0] w fun e w' => e = .returned (.int .i64 r) ∧ Drawn0 w w' := by
 have HR0 := xy hr0
 have HC0 := xy hc0
 clear hr0 hc0
 unfold cmp_Or_int.f at h
 have H := h
 clear h
 have H' := xy H
 clear H
 go_enter Tryz.func99, Tryz.ntmps99
 go_wp2
 go_loopg [8] k (fun kq v8 w' => ∃ (x8_1 : Int), v8 = .int .i64 x8_1 ∧ Aside0 (cmp_Or_int.l0 kq 0 l0 (l0.length : Int) x8_1 = some r) ∧ Aside0 (kq ≤ k) ∧ Drawn0 w w')
 case atStart => exact ⟨(0), xg, H', ⟨Nat.le_refl _⟩, by repeat (first | exact Drawn0.refl _ | apply Drawn0.step)⟩
 case round =>
  clear H'
  obtain ⟨x8_1, rfl, HA, HK1, ⟨m1, rfl⟩⟩ := hrel
  cases gk with
  | zero => exact absurd HA.out (by simp [cmp_Or_int.l0])
  | succ k1 =>
   have H := HA.out
   clear HA
   simp only [cmp_Or_int.l0] at H
   by_cases c2 : x8_1 < (l0.length : Int)
   ·rw [if_pos c2] at H
    have c2b0 : decide (x8_1 < (l0.length : Int)) = true := decide_eq_true c2
    clear c2
    by_cases c3 : 0 ≤ x8_1
    ·rw [if_pos c3] at H
     have c3b0 : decide (0 ≤ x8_1) = true := decide_eq_true c3
     clear c3
     by_cases c4 : x8_1 < (l0.length : Int)
     ·rw [if_pos c4] at H
      have c4b0 : decide (x8_1 < (l0.length : Int)) = true := decide_eq_true c4
      clear c4
      by_cases c5 : (rd l0 x8_1) = 0
      ·rw [if_pos c5] at H
       have c5b0 : ((rd l0 x8_1) == 0) = true := beq_iff_eq.mpr c5
       have c5b1 : ((rd l0 x8_1) != 0) = false := bne_eq_false_iff_eq.mpr c5
       clear c5
       have H' := xy H
       clear H
       have p202 : 0 ≤ (x8_1 : Int) := xi
       have q202 : x8_1 < (l0.length : Int) := xi
       obtain ⟨ad202, e202, hx202_0⟩ := Kd.at_int HR0.out x8_1 p202 q202
       cases e202
       replace p202 := eq_true p202
       replace q202 := eq_true q202
       go_wp2
       go_roundg k1
       case measure => have := HK1.out; omega
       case rel => exact ⟨(wrap64 (x8_1 + 1)), xg, H', ⟨by have := HK1.out; omega⟩, by repeat (first | exact Drawn0.refl _ | apply Drawn0.step)⟩
      ·rw [if_neg c5] at H
       have c5b0 : ((rd l0 x8_1) == 0) = false := beq_eq_false_iff_ne.mpr c5
       have c5b1 : ((rd l0 x8_1) != 0) = true := bne_iff_ne.mpr c5
       obtain rfl := Option.some.inj H
       have p202 : 0 ≤ (x8_1 : Int) := xi
       have q202 : x8_1 < (l0.length : Int) := xi
       obtain ⟨ad202, e202, hx202_0⟩ := Kd.at_int HR0.out x8_1 p202 q202
       cases e202
       replace p202 := eq_true p202
       replace q202 := eq_true q202
       go_wp2
       go_ret
       exact ⟨xg, xz⟩
     ·rw [if_neg c4] at H
      exact absurd H (by simp)
    ·rw [if_neg c3] at H
     exact absurd H (by simp)
   ·rw [if_neg c2] at H
    have c2b0 : decide (x8_1 < (l0.length : Int)) = false := decide_eq_false c2
    clear c2
    obtain rfl := Option.some.inj H
    go_wp2
    go_ret
    exact ⟨xg, xz⟩
def cmp_isNaN_int.f (a0 : Int) : Option (Bool) := some (a0 != a0)
set_option maxHeartbeats 8000000 in
set_option maxRecDepth 100000 in
theorem cmp_isNaN_int.calls (a0 : Int) (r : Bool) (w : World) (hT : Tabs w) (h : cmp_isNaN_int.f a0 = some r) :
  Calls Tryz.prog 114 #[.int .i64 a0] w fun e w' => e = .returned (.bool r) ∧ Drawn0 w w' := by
 unfold cmp_isNaN_int.f at h
 have H := h
 clear h
 obtain rfl := Option.some.inj H
 go_enter Tryz.func114, Tryz.ntmps114
 go_wp2
 go_ret
 exact ⟨xg, xz⟩
def cmp_Compare_int.f (a0 : Int) (a1 : Int) : Option (Int) := (cmp_isNaN_int.f a0).bind fun t203 => ((cmp_isNaN_int.f a1).bind fun t204 => (if t203 = true then (if t204 = true then (some 0) else (some (-1))) else (if t204 = true then (some 1) else (if a0 < a1 then (some (-1)) else (if a0 > a1 then (some 1) else (some 0))))))
set_option maxHeartbeats 8000000 in
set_option maxRecDepth 100000 in
theorem cmp_Compare_int.calls (a0 : Int) (a1 : Int) (r : Int) (w : World) (hT : Tabs w) (h : cmp_Compare_int.f a0 a1 = some r) :
  Calls Tryz.prog 100 #[.int .i64 a0, .int .i64 a1] w fun e w' => e = .returned (.int .i64 r) ∧ Drawn0 w w' := by
 unfold cmp_Compare_int.f at h
 have H := h
 clear h
 replace H := xj H
 obtain ⟨t203, A30, H⟩ := H
 try dsimp only at H
 have A3 := xy A30
 clear A30
 replace H := xj H
 obtain ⟨t204, A40, H⟩ := H
 try dsimp only at H
 have A4 := xy A40
 clear A40
 by_cases c5 : t203 = true
 ·subst c5
  rw [if_pos rfl] at H
  by_cases c6 : t204 = true
  ·subst c6
   rw [if_pos rfl] at H
   obtain rfl := Option.some.inj H
   go_enter Tryz.func100, Tryz.ntmps100
   go_wp2_with (first | ((with_reducible refine gate_callee (f := 114) rfl ?_); refine goesL_ (some 8) rfl rfl Tryz.func114 (by kernel_rfl) rfl #[.int .i64 a0] rfl xr ?_; (with_reducible refine (cmp_isNaN_int.calls a0 true _ (Tabs.below hT xf) A3.out).mono ?_); rintro e w' ⟨rfl, ⟨nd, rfl⟩⟩; refine ⟨_, rfl, ?_⟩) | ((with_reducible refine gate_callee (f := 114) rfl ?_); refine goesL_ (some 10) rfl rfl Tryz.func114 (by kernel_rfl) rfl #[.int .i64 a1] rfl xr ?_; (with_reducible refine (cmp_isNaN_int.calls a1 true _ (Tabs.below hT xf) A4.out).mono ?_); rintro e w' ⟨rfl, ⟨nd, rfl⟩⟩; refine ⟨_, rfl, ?_⟩))
   go_ret
   exact ⟨xg, xz⟩
  ·replace c6 := Bool.eq_false_iff.mpr c6
   subst c6
   rw [if_neg (show ¬ (false = true) by decide)] at H
   obtain rfl := Option.some.inj H
   go_enter Tryz.func100, Tryz.ntmps100
   go_wp2_with (first | ((with_reducible refine gate_callee (f := 114) rfl ?_); refine goesL_ (some 8) rfl rfl Tryz.func114 (by kernel_rfl) rfl #[.int .i64 a0] rfl xr ?_; (with_reducible refine (cmp_isNaN_int.calls a0 true _ (Tabs.below hT xf) A3.out).mono ?_); rintro e w' ⟨rfl, ⟨nd, rfl⟩⟩; refine ⟨_, rfl, ?_⟩) | ((with_reducible refine gate_callee (f := 114) rfl ?_); refine goesL_ (some 10) rfl rfl Tryz.func114 (by kernel_rfl) rfl #[.int .i64 a1] rfl xr ?_; (with_reducible refine (cmp_isNaN_int.calls a1 false _ (Tabs.below hT xf) A4.out).mono ?_); rintro e w' ⟨rfl, ⟨nd, rfl⟩⟩; refine ⟨_, rfl, ?_⟩))
   go_ret
   exact ⟨xg, xz⟩
 ·replace c5 := Bool.eq_false_iff.mpr c5
  subst c5
  rw [if_neg (show ¬ (false = true) by decide)] at H
  by_cases c7 : t204 = true
  ·subst c7
   rw [if_pos rfl] at H
   obtain rfl := Option.some.inj H
   go_enter Tryz.func100, Tryz.ntmps100
   go_wp2_with (first | ((with_reducible refine gate_callee (f := 114) rfl ?_); refine goesL_ (some 8) rfl rfl Tryz.func114 (by kernel_rfl) rfl #[.int .i64 a0] rfl xr ?_; (with_reducible refine (cmp_isNaN_int.calls a0 false _ (Tabs.below hT xf) A3.out).mono ?_); rintro e w' ⟨rfl, ⟨nd, rfl⟩⟩; refine ⟨_, rfl, ?_⟩) | ((with_reducible refine gate_callee (f := 114) rfl ?_); refine goesL_ (some 10) rfl rfl Tryz.func114 (by kernel_rfl) rfl #[.int .i64 a1] rfl xr ?_; (with_reducible refine (cmp_isNaN_int.calls a1 true _ (Tabs.below hT xf) A4.out).mono ?_); rintro e w' ⟨rfl, ⟨nd, rfl⟩⟩; refine ⟨_, rfl, ?_⟩))
   go_ret
   exact ⟨xg, xz⟩
  ·replace c7 := Bool.eq_false_iff.mpr c7
   subst c7
   rw [if_neg (show ¬ (false = true) by decide)] at H
   by_cases c8 : a0 < a1
   ·rw [if_pos c8] at H
    have c8b0 : decide (a0 < a1) = true := decide_eq_true c8
    clear c8
    obtain rfl := Option.some.inj H
    go_enter Tryz.func100, Tryz.ntmps100
    go_wp2_with (first | ((with_reducible refine gate_callee (f := 114) rfl ?_); refine goesL_ (some 8) rfl rfl Tryz.func114 (by kernel_rfl) rfl #[.int .i64 a0] rfl xr ?_; (with_reducible refine (cmp_isNaN_int.calls a0 false _ (Tabs.below hT xf) A3.out).mono ?_); rintro e w' ⟨rfl, ⟨nd, rfl⟩⟩; refine ⟨_, rfl, ?_⟩) | ((with_reducible refine gate_callee (f := 114) rfl ?_); refine goesL_ (some 10) rfl rfl Tryz.func114 (by kernel_rfl) rfl #[.int .i64 a1] rfl xr ?_; (with_reducible refine (cmp_isNaN_int.calls a1 false _ (Tabs.below hT xf) A4.out).mono ?_); rintro e w' ⟨rfl, ⟨nd, rfl⟩⟩; refine ⟨_, rfl, ?_⟩))
    go_ret
    exact ⟨xg, xz⟩
   ·rw [if_neg c8] at H
    have c8b0 : decide (a0 < a1) = false := decide_eq_false c8
    clear c8
    by_cases c9 : a0 > a1
    ·rw [if_pos c9] at H
     have c9b0 : decide (a1 < a0) = true := decide_eq_true c9
     clear c9
     obtain rfl := Option.some.inj H
     go_enter Tryz.func100, Tryz.ntmps100
     go_wp2_with (first | ((with_reducible refine gate_callee (f := 114) rfl ?_); refine goesL_ (some 8) rfl rfl Tryz.func114 (by kernel_rfl) rfl #[.int .i64 a0] rfl xr ?_; (with_reducible refine (cmp_isNaN_int.calls a0 false _ (Tabs.below hT xf) A3.out).mono ?_); rintro e w' ⟨rfl, ⟨nd, rfl⟩⟩; refine ⟨_, rfl, ?_⟩) | ((with_reducible refine gate_callee (f := 114) rfl ?_); refine goesL_ (some 10) rfl rfl Tryz.func114 (by kernel_rfl) rfl #[.int .i64 a1] rfl xr ?_; (with_reducible refine (cmp_isNaN_int.calls a1 false _ (Tabs.below hT xf) A4.out).mono ?_); rintro e w' ⟨rfl, ⟨nd, rfl⟩⟩; refine ⟨_, rfl, ?_⟩))
     go_ret
     exact ⟨xg, xz⟩
    ·rw [if_neg c9] at H
     have c9b0 : decide (a1 < a0) = false := decide_eq_false c9
     clear c9
     obtain rfl := Option.some.inj H
     go_enter Tryz.func100, Tryz.ntmps100
     go_wp2_with (first | ((with_reducible refine gate_callee (f := 114) rfl ?_); refine goesL_ (some 8) rfl rfl Tryz.func114 (by kernel_rfl) rfl #[.int .i64 a0] rfl xr ?_; (with_reducible refine (cmp_isNaN_int.calls a0 false _ (Tabs.below hT xf) A3.out).mono ?_); rintro e w' ⟨rfl, ⟨nd, rfl⟩⟩; refine ⟨_, rfl, ?_⟩) | ((with_reducible refine gate_callee (f := 114) rfl ?_); refine goesL_ (some 10) rfl rfl Tryz.func114 (by kernel_rfl) rfl #[.int .i64 a1] rfl xr ?_; (with_reducible refine (cmp_isNaN_int.calls a1 false _ (Tabs.below hT xf) A4.out).mono ?_); rintro e w' ⟨rfl, ⟨nd, rfl⟩⟩; refine ⟨_, rfl, ?_⟩))
     go_ret
     exact ⟨xg, xz⟩
def cmp_isNaN_string.f (a0 : ByteArray) : Option (Bool) := some (a0.toList != a0.toList)
set_option maxHeartbeats 8000000 in
set_option maxRecDepth 100000 in
theorem cmp_isNaN_string.calls (a0 : ByteArray) (r : Bool) (w : World) (hT : Tabs w) (h : cmp_isNaN_string.f a0 = some r) :
  Calls Tryz.prog 115 #[.string a0] w fun e w' => e = .returned (.bool r) ∧ Drawn0 w w' := by
 unfold cmp_isNaN_string.f at h
 have H := h
 clear h
 obtain rfl := Option.some.inj H
 go_enter Tryz.func115, Tryz.ntmps115
 go_wp2
 go_ret
 exact ⟨xg, xz⟩
/- Walked functions, by this session's program over the kit's print. -/
def cmp_Compare_string.f (a0 : ByteArray) (a1 : ByteArray) : Option (Int) := (cmp_isNaN_string.f a0).bind fun t205 => ((cmp_isNaN_string.f a1).bind fun t206 => (if t205 = true then (if t206 = true then (some 0) else (some (-1))) else (if t206 = true then (some 1) else (if (Op.bytesLess a0.toList a1.toList) = true then (some (-1)) else (if (Op.bytesLess a1.toList a0.toList) = true then (some 1) else (some 0))))))
set_option maxHeartbeats 8000000 in
set_option maxRecDepth 100000 in
theorem cmp_Compare_string.calls (a0 : ByteArray) (a1 : ByteArray) (r : Int) (w : World) (hT : Tabs w) (h : cmp_Compare_string.f a0 a1 = some r) :
  Calls Tryz.prog 101 #[.string a0, .string a1] w fun e w' => e = .returned (.int .i64 r) ∧ Drawn0 w w' := by
 unfold cmp_Compare_string.f at h
 have H := h
 clear h
 replace H := xj H
 obtain ⟨t205, A30, H⟩ := H
 try dsimp only at H
 have A3 := xy A30
 clear A30
 replace H := xj H
 obtain ⟨t206, A40, H⟩ := H
 try dsimp only at H
 have A4 := xy A40
 clear A40
 by_cases c5 : t205 = true
 ·subst c5
  rw [if_pos rfl] at H
  by_cases c6 : t206 = true
  ·subst c6
   rw [if_pos rfl] at H
   obtain rfl := Option.some.inj H
   go_enter Tryz.func101, Tryz.ntmps101
   go_wp2_with (first | ((with_reducible refine gate_callee (f := 115) rfl ?_); refine goesL_ (some 8) rfl rfl Tryz.func115 (by kernel_rfl) rfl #[.string a0] rfl xr ?_; (with_reducible refine (cmp_isNaN_string.calls a0 true _ (Tabs.below hT xf) A3.out).mono ?_); rintro e w' ⟨rfl, ⟨nd, rfl⟩⟩; refine ⟨_, rfl, ?_⟩) | ((with_reducible refine gate_callee (f := 115) rfl ?_); refine goesL_ (some 10) rfl rfl Tryz.func115 (by kernel_rfl) rfl #[.string a1] rfl xr ?_; (with_reducible refine (cmp_isNaN_string.calls a1 true _ (Tabs.below hT xf) A4.out).mono ?_); rintro e w' ⟨rfl, ⟨nd, rfl⟩⟩; refine ⟨_, rfl, ?_⟩))
   go_ret
   exact ⟨xg, xz⟩
  ·replace c6 := Bool.eq_false_iff.mpr c6
   subst c6
   rw [if_neg (show ¬ (false = true) by decide)] at H
   obtain rfl := Option.some.inj H
   go_enter Tryz.func101, Tryz.ntmps101
   go_wp2_with (first | ((with_reducible refine gate_callee (f := 115) rfl ?_); refine goesL_ (some 8) rfl rfl Tryz.func115 (by kernel_rfl) rfl #[.string a0] rfl xr ?_; (with_reducible refine (cmp_isNaN_string.calls a0 true _ (Tabs.below hT xf) A3.out).mono ?_); rintro e w' ⟨rfl, ⟨nd, rfl⟩⟩; refine ⟨_, rfl, ?_⟩) | ((with_reducible refine gate_callee (f := 115) rfl ?_); refine goesL_ (some 10) rfl rfl Tryz.func115 (by kernel_rfl) rfl #[.string a1] rfl xr ?_; (with_reducible refine (cmp_isNaN_string.calls a1 false _ (Tabs.below hT xf) A4.out).mono ?_); rintro e w' ⟨rfl, ⟨nd, rfl⟩⟩; refine ⟨_, rfl, ?_⟩))
   go_ret
   exact ⟨xg, xz⟩
 ·replace c5 := Bool.eq_false_iff.mpr c5
  subst c5
  rw [if_neg (show ¬ (false = true) by decide)] at H
  by_cases c7 : t206 = true
  ·subst c7
   rw [if_pos rfl] at H
   obtain rfl := Option.some.inj H
   go_enter Tryz.func101, Tryz.ntmps101
   go_wp2_with (first | ((with_reducible refine gate_callee (f := 115) rfl ?_); refine goesL_ (some 8) rfl rfl Tryz.func115 (by kernel_rfl) rfl #[.string a0] rfl xr ?_; (with_reducible refine (cmp_isNaN_string.calls a0 false _ (Tabs.below hT xf) A3.out).mono ?_); rintro e w' ⟨rfl, ⟨nd, rfl⟩⟩; refine ⟨_, rfl, ?_⟩) | ((with_reducible refine gate_callee (f := 115) rfl ?_); refine goesL_ (some 10) rfl rfl Tryz.func115 (by kernel_rfl) rfl #[.string a1] rfl xr ?_; (with_reducible refine (cmp_isNaN_string.calls a1 true _ (Tabs.below hT xf) A4.out).mono ?_); rintro e w' ⟨rfl, ⟨nd, rfl⟩⟩; refine ⟨_, rfl, ?_⟩))
   go_ret
   exact ⟨xg, xz⟩
  ·replace c7 := Bool.eq_false_iff.mpr c7
   subst c7
   rw [if_neg (show ¬ (false = true) by decide)] at H
   by_cases c8 : (Op.bytesLess a0.toList a1.toList) = true
   ·rw [if_pos c8] at H
    have c8b0 : (Op.bytesLess a0.toList a1.toList) = true := c8
    clear c8
    obtain rfl := Option.some.inj H
    go_enter Tryz.func101, Tryz.ntmps101
    go_wp2_with (first | ((with_reducible refine gate_callee (f := 115) rfl ?_); refine goesL_ (some 8) rfl rfl Tryz.func115 (by kernel_rfl) rfl #[.string a0] rfl xr ?_; (with_reducible refine (cmp_isNaN_string.calls a0 false _ (Tabs.below hT xf) A3.out).mono ?_); rintro e w' ⟨rfl, ⟨nd, rfl⟩⟩; refine ⟨_, rfl, ?_⟩) | ((with_reducible refine gate_callee (f := 115) rfl ?_); refine goesL_ (some 10) rfl rfl Tryz.func115 (by kernel_rfl) rfl #[.string a1] rfl xr ?_; (with_reducible refine (cmp_isNaN_string.calls a1 false _ (Tabs.below hT xf) A4.out).mono ?_); rintro e w' ⟨rfl, ⟨nd, rfl⟩⟩; refine ⟨_, rfl, ?_⟩))
    go_ret
    exact ⟨xg, xz⟩
   ·rw [if_neg c8] at H
    have c8b0 : (Op.bytesLess a0.toList a1.toList) = false := by simpa using c8
    clear c8
    by_cases c9 : (Op.bytesLess a1.toList a0.toList) = true
    ·rw [if_pos c9] at H
     have c9b0 : (Op.bytesLess a1.toList a0.toList) = true := c9
     clear c9
     obtain rfl := Option.some.inj H
     go_enter Tryz.func101, Tryz.ntmps101
     go_wp2_with (first | ((with_reducible refine gate_callee (f := 115) rfl ?_); refine goesL_ (some 8) rfl rfl Tryz.func115 (by kernel_rfl) rfl #[.string a0] rfl xr ?_; (with_reducible refine (cmp_isNaN_string.calls a0 false _ (Tabs.below hT xf) A3.out).mono ?_); rintro e w' ⟨rfl, ⟨nd, rfl⟩⟩; refine ⟨_, rfl, ?_⟩) | ((with_reducible refine gate_callee (f := 115) rfl ?_); refine goesL_ (some 10) rfl rfl Tryz.func115 (by kernel_rfl) rfl #[.string a1] rfl xr ?_; (with_reducible refine (cmp_isNaN_string.calls a1 false _ (Tabs.below hT xf) A4.out).mono ?_); rintro e w' ⟨rfl, ⟨nd, rfl⟩⟩; refine ⟨_, rfl, ?_⟩))
     go_ret
     exact ⟨xg, xz⟩
    ·rw [if_neg c9] at H
     have c9b0 : (Op.bytesLess a1.toList a0.toList) = false := by simpa using c9
     clear c9
     obtain rfl := Option.some.inj H
     go_enter Tryz.func101, Tryz.ntmps101
     go_wp2_with (first | ((with_reducible refine gate_callee (f := 115) rfl ?_); refine goesL_ (some 8) rfl rfl Tryz.func115 (by kernel_rfl) rfl #[.string a0] rfl xr ?_; (with_reducible refine (cmp_isNaN_string.calls a0 false _ (Tabs.below hT xf) A3.out).mono ?_); rintro e w' ⟨rfl, ⟨nd, rfl⟩⟩; refine ⟨_, rfl, ?_⟩) | ((with_reducible refine gate_callee (f := 115) rfl ?_); refine goesL_ (some 10) rfl rfl Tryz.func115 (by kernel_rfl) rfl #[.string a1] rfl xr ?_; (with_reducible refine (cmp_isNaN_string.calls a1 false _ (Tabs.below hT xf) A4.out).mono ?_); rintro e w' ⟨rfl, ⟨nd, rfl⟩⟩; refine ⟨_, rfl, ?_⟩))
     go_ret
     exact ⟨xg, xz⟩
end Go.Proofs.YtnodgcakmolleaaGreatDoor.PX
