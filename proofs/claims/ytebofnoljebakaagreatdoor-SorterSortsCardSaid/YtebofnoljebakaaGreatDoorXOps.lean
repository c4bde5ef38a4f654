/- value.ops: the map of the operations, entry by entry; and what a lookup in it tells. -/
import Derived.Test.YtebofnoljebakaaGreatDoorProg
import Derived.Test.YtebofnoljebakaaGreatDoorXMap
import Derived.Carry
import Derived.Below
import Derived.Maps.Own
import Derived.Maps.OwnOps
set_option linter.unusedVariables false
set_option linter.unusedSimpArgs false
namespace Go.Proofs.YtebofnoljebakaaGreatDoor.XOps
open Go.RowKit Go.Proofs Go.Proofs.YtebofnoljebakaaGreatDoorW.PrintWords Go.Proofs.YtebofnoljebakaaGreatDoorW.PrintLast Go.Proofs.YtebofnoljebakaaGreatDoorW.PrintMore
def opFn (o : Int) : Option (List Int × Int × Nat) :=
 if o = 4 then some ([0, 0], 0, 74) else if o = 5 then some ([0, 0], 0, 75) else if o = 6 then some ([0, 0], 0, 76)
 else if o = 7 then some ([0, 0], 0, 77) else if o = 8 then some ([0, 0], 0, 78) else if o = 9 then some ([1, 1], 1, 79)
 else if o = 10 then some ([1], 0, 80) else if o = 11 then some ([1, 0, 0], 1, 81) else if o = 12 then some ([1], 1, 82)
 else if o = 13 then some ([1], 1, 83) else if o = 14 then some ([2, 2], 0, 84) else if o = 15 then some ([2, 2], 0, 85)
 else if o = 16 then some ([0], 0, 86) else if o = 17 then some ([0, 2, 2], 2, 87) else if o = 18 then some ([1], 0, 88)
 else if o = 19 then some ([0], 1, 89) else if o = 20 then some ([1], 0, 90) else if o = 21 then some ([1, 1], 0, 91) else none
structure Inv (w : World) (b : Nat) (W : World) (l : List (Int × Value)) (S : List (Nat × List Int)) : Prop where
 map : MapAt W b l
 below : Below w.heap.size w W
 hb : w.heap.size ≤ b
 rows : ∀ x ∈ S, w.heap.size ≤ x.1 ∧ x.1 < W.heap.size ∧ x.1 ≠ b ∧ ∀ i, i < x.2.length → W.cell? ⟨x.1, i, none⟩ = some (.int .i64 (x.2.getD i 0))
theorem cell_alloc_old {W : World} {o : Obj} {a : Addr} (h : a.block < W.heap.size) : (W.alloc o).cell? a = W.cell? a := by
 unfold World.cell?
 rw [heap_alloc_old W o h]
theorem size_alloc (W : World) (o : Obj) : (W.alloc o).heap.size = W.heap.size + 1 := by simp
theorem cell_new {W : World} {cs : Array Value} {t : TypeId} {i : Nat} {v : Value} (h : cs[i]? = some v) : (W.alloc (.cells cs t)).cell? ⟨W.heap.size, i, none⟩ = some v := by
 unfold World.cell?
 simp only [heap_alloc_new]
 exact h
theorem Inv.alloc {w : World} {b : Nat} {W : World} {l : List (Int × Value)} {S : List (Nat × List Int)} (h : Inv w b W l S) (ks : List Int) (t : TypeId) (cs : Array Value) (hc : cs.toList = ks.map (fun k => .int .i64 k)) : Inv w b (W.alloc (.cells cs t)) l ((W.heap.size, ks) :: S) := by
 refine ⟨h.map.keep ?_, h.below.alloc h.below.size _, h.hb, ?_⟩
 ·exact heap_alloc_old W _ h.map.lt
 ·intro x hx
  rcases List.mem_cons.1 hx with rfl | hx
  ·refine ⟨h.below.size, by rw [size_alloc]; exact Nat.lt_succ_self _, Ne.symm (Nat.ne_of_lt h.map.lt), ?_⟩
   intro i hi
   have : cs[i]? = some (.int .i64 (ks.getD i 0)) := by
    rw [← Array.getElem?_toList, hc]
    simp [hi]
   exact cell_new this
  ·obtain ⟨h1, h2, h3, h4⟩ := h.rows x hx
   exact ⟨h1, by rw [size_alloc]; omega, h3, fun i hi => (cell_alloc_old h2).trans (h4 i hi)⟩
theorem Inv.insert {w : World} {b : Nat} {W W2 : World} {l l2 : List (Int × Value)} {S : List (Nat × List Int)} (h : Inv w b W l S) (m : MapAt W2 b l2) (k : ButMap W W2 b) : Inv w b W2 l2 S := by
 refine ⟨m, k.below h.below h.hb, h.hb, fun x hx => ?_⟩
 obtain ⟨h1, h2, h3, h4⟩ := h.rows x hx
 refine ⟨h1, by rw [k.size]; exact h2, h3, fun i hi => ?_⟩
 rw [← h4 i hi]
 unfold World.cell?
 simp only [k.block x.1 h3]
theorem insert_run {P : Program} {W : World} {b : Nat} {l : List (Int × Value)} {t kt et : TypeId} (ht : P.underlying t = some (.map kt et)) (hk : P.underlying kt = some (.int .i64)) (n : Int) (v : Value) (HM : MapAt W b l) (hl : ∀ y ∈ l, y.1 ≠ n) :
  ∃ w2, (Instr.mapUpdate t (.map (some b)) (.int .i64 n) v).run P W = .ok () w2 ∧ MapAt w2 b (l ++ [(n, v)]) ∧ ButMap W w2 b := by
 obtain ⟨es, c, h1, h2⟩ := HM
 have hf : (Instr.findKey kt (.int .i64 n) es.toList).run P W = .ok none W := by
  unfold Instr.findKey
  simp only [Sem.run_bind, run_underlying hk, Result.andThen_ok, xm_findNow_none (born := fun i => i) hl h2, Sem.run_pure]
 have hck : (Instr.checkKey false 10000 kt (.int .i64 n)).run P W = .ok () W := by
  rw [show (10000 : Nat) = 9999 + 1 from rfl]
  unfold Instr.checkKey
  simp only [Sem.run_bind, run_underlying hk, Result.andThen_ok, Sem.run_pure]
 have hrun : (Instr.mapUpdate t (.map (some b)) (.int .i64 n) v).run P W = .ok () { W with heap := W.heap.setIfInBounds b (.map (es.push { key := .int .i64 n, val := v, born := c }) (c + 1)) } := by
  simp only [Instr.mapUpdate, Sem.run_bind, run_underlying ht, Result.andThen_ok, MapKept.run_getObj_map h1, hck, hf, MapKept.run_setObj_map _ h1, Sem.run_pure]
 have hlt : b < W.heap.size := (Array.getElem?_eq_some_iff.1 h1).1
 exact ⟨_, hrun, ⟨es.push { key := .int .i64 n, val := v, born := c }, c + 1, by simp [hlt], by simp [h2]⟩, ⟨rfl, rfl, rfl, by simp, fun i hi => by simp [Array.getElem?_setIfInBounds, Ne.symm hi]⟩⟩
theorem inv_step {P : Program} {o : Oper} {a : Act} {K : Act → World → Prop} {Q : Exit → Act → World → Prop} {f : Unit → World → Result Next} {w W : World} {b : Nat} {l : List (Int × Value)} {S : List (Nat × List Int)} (HI : Inv w b W l S) {t kt et : TypeId} (ht : P.underlying t = some (.map kt et)) (hk : P.underlying kt = some (.int .i64)) {n : Int} {v : Value} (hl : (l.any fun y => y.1 == n) = false)
  (h : ∀ w2, Inv w b w2 (l ++ [(n, v)]) S → Oper.upon P o a K Q (f () w2)) : Oper.upon P o a K Q (((Instr.mapUpdate t (.map (some b)) (.int .i64 n) v).run P W).andThen f) := by
 obtain ⟨w2, e, h1, h2⟩ := insert_run ht hk n v HI.map (fun y hy e => by
  have := List.any_eq_false.1 hl y hy
  simp [e] at this)
 rw [e]
 exact h w2 (HI.insert h1 h2)
def OpsAt (w w' : World) (b : Nat) : Prop := ∃ l, MapAt w' b l ∧ ∀ o, match opFn o with
 | none => ∀ y ∈ l, y.1 ≠ o
 | some (ks, t, f) => ∃ blk, l.find? (fun y => y.1 == o) = some (o, .agg #[.slice (some ⟨blk, 0, none⟩) ks.length ks.length, .int .i64 t, .func (.func f) #[] #[]]) ∧ w.heap.size ≤ blk ∧ blk < w'.heap.size ∧ ∀ i, i < ks.length → w'.cell? ⟨blk, i, none⟩ = some (.int .i64 (ks.getD i 0))
theorem inv_start (w : World) (t : TypeId) : Inv w (w.heap.size + 1 + 1) (((w.alloc (.cells #[.int .i64 0, .int .i64 0] t)).alloc (.cells #[.int .i64 1] t)).alloc (.map #[] 0)) [] [(w.heap.size, [0, 0]), (w.heap.size + 1, [1])] := by
 have z1 := size_alloc w (.cells #[.int .i64 0, .int .i64 0] t)
 have z2 := size_alloc (w.alloc (.cells #[.int .i64 0, .int .i64 0] t)) (.cells #[.int .i64 1] t)
 have z3 := size_alloc ((w.alloc (.cells #[.int .i64 0, .int .i64 0] t)).alloc (.cells #[.int .i64 1] t)) (.map #[] 0)
 refine ⟨⟨#[], 0, ?_, rfl⟩, below_alloc (below_alloc (below_alloc (Below.refl _ _) _) _) _, by omega, ?_⟩
 ·have := heap_alloc_new ((w.alloc (.cells #[.int .i64 0, .int .i64 0] t)).alloc (.cells #[.int .i64 1] t)) (.map #[] 0)
  rw [z2, z1] at this
  exact this
 intro x hx
 simp only [List.mem_cons, List.not_mem_nil, or_false] at hx
 rcases hx with rfl | rfl
 ·refine ⟨Nat.le_refl _, by show w.heap.size < _; omega, by show w.heap.size ≠ _; omega, fun i hi => ?_⟩
  rw [cell_alloc_old (by show w.heap.size < _; omega), cell_alloc_old (by show w.heap.size < _; omega)]
  have : i = 0 ∨ i = 1 := by simp at hi; omega
  rcases this with rfl | rfl <;> exact cell_new rfl
 ·refine ⟨by show w.heap.size ≤ w.heap.size + 1; omega, by show w.heap.size + 1 < _; omega, by show w.heap.size + 1 ≠ _; omega, fun i hi => ?_⟩
  have : i = 0 := by simpa using hi
  subst this
  rw [cell_alloc_old (by show w.heap.size + 1 < _; omega)]
  have := @cell_new (w.alloc (.cells #[.int .i64 0, .int .i64 0] t)) #[.int .i64 1] t 0 (.int .i64 1) rfl
  rw [z1] at this
  exact this
set_option maxHeartbeats 4000000 in
set_option maxRecDepth 100000 in
theorem inv_done {w W : World} {b p0 p1 b9 b11 b14 b15 b16 b17 b19 b21 : Nat} (HI : Inv w b W [(4, .agg #[.slice (some ⟨p0, 0, none⟩) 2 2, .int .i64 0, .func (.func 74) #[] #[]]), (5, .agg #[.slice (some ⟨p0, 0, none⟩) 2 2, .int .i64 0, .func (.func 75) #[] #[]]), (6, .agg #[.slice (some ⟨p0, 0, none⟩) 2 2, .int .i64 0, .func (.func 76) #[] #[]]), (7, .agg #[.slice (some ⟨p0, 0, none⟩) 2 2, .int .i64 0, .func (.func 77) #[] #[]]), (8, .agg #[.slice (some ⟨p0, 0, none⟩) 2 2, .int .i64 0, .func (.func 78) #[] #[]]), (9, .agg #[.slice (some ⟨b9, 0, none⟩) 2 2, .int .i64 1, .func (.func 79) #[] #[]]), (10, .agg #[.slice (some ⟨p1, 0, none⟩) 1 1, .int .i64 0, .func (.func 80) #[] #[]]), (11, .agg #[.slice (some ⟨b11, 0, none⟩) 3 3, .int .i64 1, .func (.func 81) #[] #[]]), (12, .agg #[.slice (some ⟨p1, 0, none⟩) 1 1, .int .i64 1, .func (.func 82) #[] #[]]), (13, .agg #[.slice (some ⟨p1, 0, none⟩) 1 1, .int .i64 1, .func (.func 83) #[] #[]]), (14, .agg #[.slice (some ⟨b14, 0, none⟩) 2 2, .int .i64 0, .func (.func 84) #[] #[]]), (15, .agg #[.slice (some ⟨b15, 0, none⟩) 2 2, .int .i64 0, .func (.func 85) #[] #[]]), (16, .agg #[.slice (some ⟨b16, 0, none⟩) 1 1, .int .i64 0, .func (.func 86) #[] #[]]), (17, .agg #[.slice (some ⟨b17, 0, none⟩) 3 3, .int .i64 2, .func (.func 87) #[] #[]]), (18, .agg #[.slice (some ⟨p1, 0, none⟩) 1 1, .int .i64 0, .func (.func 88) #[] #[]]), (19, .agg #[.slice (some ⟨b19, 0, none⟩) 1 1, .int .i64 1, .func (.func 89) #[] #[]]), (20, .agg #[.slice (some ⟨p1, 0, none⟩) 1 1, .int .i64 0, .func (.func 90) #[] #[]]), (21, .agg #[.slice (some ⟨b21, 0, none⟩) 2 2, .int .i64 0, .func (.func 91) #[] #[]])] [(b21, [1, 1]), (b19, [0]), (b17, [0, 2, 2]), (b16, [0]), (b15, [2, 2]), (b14, [2, 2]), (b11, [1, 0, 0]), (b9, [1, 1]), (p0, [0, 0]), (p1, [1])]) : OpsAt w W b := by
 have H := HI.rows
 refine ⟨_, HI.map, fun o => ?_⟩
 by_cases h4 : o = 4
 ·subst h4; obtain ⟨h1, h2, _, h4⟩ := H (p0, [0, 0]) (by simp); exact ⟨p0, rfl, h1, h2, h4⟩
 by_cases h5 : o = 5
 ·subst h5; obtain ⟨h1, h2, _, h4⟩ := H (p0, [0, 0]) (by simp); exact ⟨p0, rfl, h1, h2, h4⟩
 by_cases h6 : o = 6
 ·subst h6; obtain ⟨h1, h2, _, h4⟩ := H (p0, [0, 0]) (by simp); exact ⟨p0, rfl, h1, h2, h4⟩
 by_cases h7 : o = 7
 ·subst h7; obtain ⟨h1, h2, _, h4⟩ := H (p0, [0, 0]) (by simp); exact ⟨p0, rfl, h1, h2, h4⟩
 by_cases h8 : o = 8
 ·subst h8; obtain ⟨h1, h2, _, h4⟩ := H (p0, [0, 0]) (by simp); exact ⟨p0, rfl, h1, h2, h4⟩
 by_cases h9 : o = 9
 ·subst h9; obtain ⟨h1, h2, _, h4⟩ := H (b9, [1, 1]) (by simp); exact ⟨b9, rfl, h1, h2, h4⟩
 by_cases h10 : o = 10
 ·subst h10; obtain ⟨h1, h2, _, h4⟩ := H (p1, [1]) (by simp); exact ⟨p1, rfl, h1, h2, h4⟩
 by_cases h11 : o = 11
 ·subst h11; obtain ⟨h1, h2, _, h4⟩ := H (b11, [1, 0, 0]) (by simp); exact ⟨b11, rfl, h1, h2, h4⟩
 by_cases h12 : o = 12
 ·subst h12; obtain ⟨h1, h2, _, h4⟩ := H (p1, [1]) (by simp); exact ⟨p1, rfl, h1, h2, h4⟩
 by_cases h13 : o = 13
 ·subst h13; obtain ⟨h1, h2, _, h4⟩ := H (p1, [1]) (by simp); exact ⟨p1, rfl, h1, h2, h4⟩
 by_cases h14 : o = 14
 ·subst h14; obtain ⟨h1, h2, _, h4⟩ := H (b14, [2, 2]) (by simp); exact ⟨b14, rfl, h1, h2, h4⟩
 by_cases h15 : o = 15
 ·subst h15; obtain ⟨h1, h2, _, h4⟩ := H (b15, [2, 2]) (by simp); exact ⟨b15, rfl, h1, h2, h4⟩
 by_cases h16 : o = 16
 ·subst h16; obtain ⟨h1, h2, _, h4⟩ := H (b16, [0]) (by simp); exact ⟨b16, rfl, h1, h2, h4⟩
 by_cases h17 : o = 17
 ·subst h17; obtain ⟨h1, h2, _, h4⟩ := H (b17, [0, 2, 2]) (by simp); exact ⟨b17, rfl, h1, h2, h4⟩
 by_cases h18 : o = 18
 ·subst h18; obtain ⟨h1, h2, _, h4⟩ := H (p1, [1]) (by simp); exact ⟨p1, rfl, h1, h2, h4⟩
 by_cases h19 : o = 19
 ·subst h19; obtain ⟨h1, h2, _, h4⟩ := H (b19, [0]) (by simp); exact ⟨b19, rfl, h1, h2, h4⟩
 by_cases h20 : o = 20
 ·subst h20; obtain ⟨h1, h2, _, h4⟩ := H (p1, [1]) (by simp); exact ⟨p1, rfl, h1, h2, h4⟩
 by_cases h21 : o = 21
 ·subst h21; obtain ⟨h1, h2, _, h4⟩ := H (b21, [1, 1]) (by simp); exact ⟨b21, rfl, h1, h2, h4⟩
 have e : opFn o = none := by simp only [opFn, h4, h5, h6, h7, h8, h9, h10, h11, h12, h13, h14, h15, h16, h17, h18, h19, h20, h21, if_false]
 rw [e]
 intro y hy hyo
 simp only [List.mem_cons, List.not_mem_nil, or_false] at hy
 rcases hy with rfl | rfl | rfl | rfl | rfl | rfl | rfl | rfl | rfl | rfl | rfl | rfl | rfl | rfl | rfl | rfl | rfl | rfl
 ·exact h4 hyo.symm
 ·exact h5 hyo.symm
 ·exact h6 hyo.symm
 ·exact h7 hyo.symm
 ·exact h8 hyo.symm
 ·exact h9 hyo.symm
 ·exact h10 hyo.symm
 ·exact h11 hyo.symm
 ·exact h12 hyo.symm
 ·exact h13 hyo.symm
 ·exact h14 hyo.symm
 ·exact h15 hyo.symm
 ·exact h16 hyo.symm
 ·exact h17 hyo.symm
 ·exact h18 hyo.symm
 ·exact h19 hyo.symm
 ·exact h20 hyo.symm
 ·exact h21 hyo.symm
set_option maxHeartbeats 4000000 in
set_option maxRecDepth 100000 in
theorem calls (w : World) : Calls Tryz.prog 62 #[] w fun e w' => ∃ b, e = .returned (.map (some b)) ∧ OpsAt w w' b ∧ Below w.heap.size w w' := by
 have hmm := @run_makeMap Tryz.prog
 go_enter Tryz.func62, Tryz.ntmps62
 have HI := inv_start w 106
 go_wp2
 refine inv_step HI Tryz.underlying110 Tryz.underlying3 rfl ?_
 clear HI
 intro w4 HI
 go_wp2
 refine inv_step HI Tryz.underlying110 Tryz.underlying3 rfl ?_
 clear HI
 intro w5 HI
 go_wp2
 refine inv_step HI Tryz.underlying110 Tryz.underlying3 rfl ?_
 clear HI
 intro w6 HI
 go_wp2
 refine inv_step HI Tryz.underlying110 Tryz.underlying3 rfl ?_
 clear HI
 intro w7 HI
 go_wp2
 refine inv_step HI Tryz.underlying110 Tryz.underlying3 rfl ?_
 clear HI
 intro w8 HI
 go_wp2
 replace HI := HI.alloc [1, 1] 106 _ rfl
 refine inv_step HI Tryz.underlying110 Tryz.underlying3 rfl ?_
 clear HI
 intro w9 HI
 go_wp2
 refine inv_step HI Tryz.underlying110 Tryz.underlying3 rfl ?_
 clear HI
 intro w10 HI
 go_wp2
 replace HI := HI.alloc [1, 0, 0] 106 _ rfl
 refine inv_step HI Tryz.underlying110 Tryz.underlying3 rfl ?_
 clear HI
 intro w11 HI
 go_wp2
 refine inv_step HI Tryz.underlying110 Tryz.underlying3 rfl ?_
 clear HI
 intro w12 HI
 go_wp2
 refine inv_step HI Tryz.underlying110 Tryz.underlying3 rfl ?_
 clear HI
 intro w13 HI
 go_wp2
 replace HI := HI.alloc [2, 2] 106 _ rfl
 refine inv_step HI Tryz.underlying110 Tryz.underlying3 rfl ?_
 clear HI
 intro w14 HI
 go_wp2
 replace HI := HI.alloc [2, 2] 106 _ rfl
 refine inv_step HI Tryz.underlying110 Tryz.underlying3 rfl ?_
 clear HI
 intro w15 HI
 go_wp2
 replace HI := HI.alloc [0] 106 _ rfl
 refine inv_step HI Tryz.underlying110 Tryz.underlying3 rfl ?_
 clear HI
 intro w16 HI
 go_wp2
 replace HI := HI.alloc [0, 2, 2] 106 _ rfl
 refine inv_step HI Tryz.underlying110 Tryz.underlying3 rfl ?_
 clear HI
 intro w17 HI
 go_wp2
 refine inv_step HI Tryz.underlying110 Tryz.underlying3 rfl ?_
 clear HI
 intro w18 HI
 go_wp2
 replace HI := HI.alloc [0] 106 _ rfl
 refine inv_step HI Tryz.underlying110 Tryz.underlying3 rfl ?_
 clear HI
 intro w19 HI
 go_wp2
 refine inv_step HI Tryz.underlying110 Tryz.underlying3 rfl ?_
 clear HI
 intro w20 HI
 go_wp2
 replace HI := HI.alloc [1, 1] 106 _ rfl
 refine inv_step HI Tryz.underlying110 Tryz.underlying3 rfl ?_
 clear HI
 intro w21 HI
 go_wp2
 go_ret
 exact ⟨_, rfl, inv_done HI, HI.below⟩
end Go.Proofs.YtebofnoljebakaaGreatDoor.XOps
