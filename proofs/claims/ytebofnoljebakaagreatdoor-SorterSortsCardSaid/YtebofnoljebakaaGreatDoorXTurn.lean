/- value.turn: the letters from one on are the other way. -/
import Derived.Test.YtebofnoljebakaaGreatDoorProg
import Derived.Test.YtebofnoljebakaaGreatDoorXMore
import Derived.Carry
import Derived.Below
import Derived.Lib.Hide
import Derived.Deep.RegionHeld3
import Derived.Deep.LoopGhost
import Derived.Laws.BitsLemmas
import Derived.WalkKit
set_option linter.unusedVariables false
set_option linter.unusedSimpArgs false
namespace Go.Proofs.YtebofnoljebakaaGreatDoor.XTurn
open Go.RowKit Go.Proofs Go.Proofs.YtebofnoljebakaaGreatDoorW.PrintWords Go.Proofs.YtebofnoljebakaaGreatDoorW.PrintLast Go.Proofs.YtebofnoljebakaaGreatDoorW.PrintMore
def turnB (f c : Int) : Int := if f ≤ c ∧ c < f + 26 then bits BinOp.xor IntKind.u8 c 32 else c
def mixL (f : Int) (l : List Int) (k : Nat) : List Int := (l.take k).map (turnB f) ++ l.drop k
def turnL (f : Int) (l : List Int) : List Int := l.map (turnB f)
theorem mixL_length (f : Int) (l : List Int) (k : Nat) : (mixL f l k).length = l.length := by
 unfold mixL
 simp
 omega
theorem mixL_zero (f : Int) (l : List Int) : mixL f l 0 = l := by simp [mixL]
theorem mixL_all (f : Int) (l : List Int) : mixL f l l.length = turnL f l := by simp [mixL, turnL]
theorem mixL_get (f : Int) (l : List Int) (k i : Nat) : (mixL f l k)[i]? = if i < k then (l[i]?).map (turnB f) else l[i]? := by
 unfold mixL
 rw [List.getElem?_append]
 by_cases hik : i < k
 ·rw [if_pos hik]
  by_cases hl : i < l.length
  ·rw [if_pos (by simp; omega), List.getElem?_map, List.getElem?_take, if_pos hik]
  ·rw [if_neg (by simp; omega), List.getElem?_drop, List.getElem?_eq_none (by simp; omega), List.getElem?_eq_none (by omega)]
   rfl
 ·rw [if_neg hik]
  by_cases hl : i < l.length
  ·rw [if_neg (by simp; omega), List.getElem?_drop]
   congr 1
   simp
   omega
  ·rw [List.getElem?_eq_none (l := l) (by omega)]
   rw [if_neg (by simp; omega), List.getElem?_drop, List.getElem?_eq_none (by simp; omega)]
theorem mixL_at (f : Int) (l : List Int) (k : Nat) (hk : k < l.length) : (mixL f l k)[k]? = some (l.getD k 0) := by
 rw [mixL_get, if_neg (Nat.lt_irrefl _)]
 simp [List.getD_eq_getElem?_getD, hk]
theorem mixL_set (f : Int) (l : List Int) (k : Nat) (hk : k < l.length) : (mixL f l k).set k (turnB f (l.getD k 0)) = mixL f l (k + 1) := by
 apply List.ext_getElem?
 intro i
 rw [List.getElem?_set, mixL_get, mixL_get, mixL_length]
 by_cases hik : k = i
 ·subst hik
  rw [if_pos rfl, if_pos hk, if_pos (Nat.lt_succ_self _), List.getElem?_eq_getElem hk, List.getD_eq_getElem?_getD, List.getElem?_eq_getElem hk]
  rfl
 ·rw [if_neg hik]
  by_cases hlt : i < k
  ·rw [if_pos hlt, if_pos (by omega)]
  ·rw [if_neg hlt, if_neg (by omega)]
theorem tb_set {w : World} {g : Nat} {t : TypeId} {cs : Array Value} {fr : Nat × Nat} (h : w.heap[g]? = some (.cells cs t fr)) (i : Nat) (u : Value) : (w.setCell ⟨g, i, none⟩ u).heap[g]? = some (.cells (cs.setIfInBounds i u) t fr) := by
 simp [World.setCell, Array.getElem?_modify, h]
theorem tb_cell {w : World} {g : Nat} {t : TypeId} {cs : Array Value} {fr : Nat × Nat} (h : w.heap[g]? = some (.cells cs t fr)) (i : Nat) : w.cell? ⟨g, i, none⟩ = cs[i]? := cell_of_row w g i cs t fr h
theorem tb_frozen {w : World} {g : Nat} {t : TypeId} {cs : Array Value} {m : Nat} (h : w.heap[g]? = some (.cells cs t (m, m + 1))) (i : Nat) (hi : i < m) : w.frozen? ⟨g, i, none⟩ = false := by
 simp [World.frozen?, h]
 omega
structure TL (w : World) (f : Int) (l : List Int) (k : Nat) (wr : World) : Prop where
 res : wr.heap[w.heap.size]? = some (.cells #[.bool false, .int .i64 0, .string (⟨#[]⟩ : ByteArray)] 24 (0, 0))
 row : ∃ C : Array Value, wr.heap[w.heap.size + 1]? = some (.cells C 5 (C.size, C.size + 1)) ∧ l.length ≤ C.size ∧ ∀ j, j < l.length → C[j]? = some (.int .u8 ((mixL f l k).getD j 0))
 below : Below w.heap.size w wr
theorem TL.start (w : World) (f : Int) (s : ByteArray) : TL w f (bytesOf s) 0 (Lib.bytesWorld (w.alloc (.cells #[.bool false, .int .i64 0, .string (⟨#[]⟩ : ByteArray)] 24)) 5 s) := by
 have z1 : (w.alloc (.cells #[.bool false, .int .i64 0, .string (⟨#[]⟩ : ByteArray)] 24)).heap.size = w.heap.size + 1 := by simp
 have hb := bytes_below (Below.refl (w.alloc (.cells #[.bool false, .int .i64 0, .string (⟨#[]⟩ : ByteArray)] 24)).heap.size _) (Nat.le_refl _) 5 s
 have hn := Lib.bytesWorld_at_new (w.alloc (.cells #[.bool false, .int .i64 0, .string (⟨#[]⟩ : ByteArray)] 24)) 5 s
 have hc := Lib.bytesWorld_cell (w.alloc (.cells #[.bool false, .int .i64 0, .string (⟨#[]⟩ : ByteArray)] 24)) 5 s
 rw [z1] at hn hc
 refine ⟨(hb.block _ (by rw [z1]; exact Nat.lt_succ_self _)).trans (heap_alloc_new w _), ⟨_, hn, ?_, fun j hj => ?_⟩, below_then (below_alloc (Below.refl _ _) _) (by rw [z1]; exact Nat.le_succ _) hb⟩
 ·rw [bytesOf_length]
  simp [Lib.bytesCells]
 ·rw [bytesOf_length] at hj
  have := (tb_cell hn j).symm.trans (hc j hj)
  rw [this, mixL_zero]
  have h' : j < s.data.toList.length := by rw [data_length]; exact hj
  simp [bytesOf, List.getD_eq_getElem?_getD, List.getElem?_eq_getElem h']
theorem TL.set {w wr : World} {f : Int} {l : List Int} {k : Nat} (h : TL w f l k wr) (hk : k < l.length) (u : Int) (hu : u = turnB f (l.getD k 0)) : TL w f l (k + 1) (wr.setCell ⟨w.heap.size + 1, k, none⟩ (.int .u8 u)) := by
 obtain ⟨C, h1, h2, h3⟩ := h.row
 subst hu
 refine ⟨blk_far h.res (by show w.heap.size ≠ w.heap.size + 1; omega) _, ⟨C.setIfInBounds k (.int .u8 (turnB f (l.getD k 0))), ?_, by simpa using h2, fun j hj => ?_⟩, below_set h.below (by omega)⟩
 ·have := tb_set h1 k (.int .u8 (turnB f (l.getD k 0)))
  rw [this]
  simp
 ·rw [← mixL_set f l k hk, Array.getElem?_setIfInBounds]
  by_cases hkj : k = j
  ·subst hkj
   rw [if_pos rfl, if_pos (by omega)]
   simp [List.getD_eq_getElem?_getD, List.getElem?_set, mixL_length, hk]
  ·rw [if_neg hkj, h3 j hj]
   simp [List.getD_eq_getElem?_getD, List.getElem?_set, hkj]
theorem TL.same {w wr : World} {f : Int} {l : List Int} {k : Nat} (h : TL w f l k wr) (hk : k < l.length) (hu : turnB f (l.getD k 0) = l.getD k 0) : TL w f l (k + 1) wr := by
 obtain ⟨C, h1, h2, h3⟩ := h.row
 refine ⟨h.res, ⟨C, h1, h2, fun j hj => ?_⟩, h.below⟩
 rw [h3 j hj, ← mixL_set f l k hk, hu]
 by_cases hkj : k = j
 ·subst hkj
  have := mixL_at f l k hk
  simp [List.getD_eq_getElem?_getD, List.getElem?_set, mixL_length, hk] at this ⊢
  rw [this]
 ·simp [List.getD_eq_getElem?_getD, List.getElem?_set, hkj]
theorem TL.at_ {w wr : World} {f : Int} {l : List Int} {k : Nat} (h : TL w f l k wr) (hk : k < l.length) : wr.cell? ⟨w.heap.size + 1, k, none⟩ = some (.int .u8 (l.getD k 0)) ∧ wr.frozen? ⟨w.heap.size + 1, k, none⟩ = false := by
 obtain ⟨C, h1, h2, h3⟩ := h.row
 refine ⟨?_, tb_frozen h1 k (by omega)⟩
 rw [tb_cell h1, h3 k hk, List.getD_eq_getElem?_getD, mixL_at f l k hk]
 rfl
theorem TL.done {w wr : World} {f : Int} {l : List Int} (h : TL w f l l.length wr) (hl : l.length ≤ 9223372036854775807) : (Kd.int .u8).C wr (some ⟨w.heap.size + 1, 0, none⟩) l.length (turnL f l) := by
 obtain ⟨C, h1, h2, h3⟩ := h.row
 rw [mixL_all] at h3
 refine Kd.C_of_reads (enc := Value.int .u8) (d := (0 : Int)) ⟨by simp [turnL], hl, fun _ => ⟨_, rfl, fun j hj => ?_⟩⟩
 rw [Addr.add_mid, Nat.zero_add, tb_cell h1 j, h3 j hj]
set_option maxHeartbeats 4000000 in
set_option maxRecDepth 100000 in
theorem calls {T : World → Prop} (hTb : ∀ w w', T w → Below w.heap.size w w' → T w') (s : ByteArray) (f : Int) (r1 : Bool) (r2 : Int) (r3 : ByteArray) (hf : 0 ≤ f ∧ f ≤ 200) (hs : s.size ≤ 140737488355328)
  (hText : ∀ w, T w → Calls Tryz.prog 52 #[.string (strOfNums (turnL f (bytesOf s)))] w fun e w' => e = .returned (.agg #[.bool r1, .int .i64 r2, .string r3]) ∧ Below w.heap.size w w')
  (w : World) (hT : T w) :
  Calls Tryz.prog 94 #[.string s, .int .u8 f] w fun e w' => e = .returned (.agg #[.bool r1, .int .i64 r2, .string r3]) ∧ Below w.heap.size w w' := by
 have hu1 := Tryz.underlying24
 have hu2 := Tryz.underlying124
 have hu3 := Tryz.underlying5
 have hu4 := Tryz.underlying9
 have hcv := print_bytes (P := Tryz.prog) 9 124 5 hu4 hu2 hu3 s
 obtain ⟨l, hl⟩ : ∃ l, l = bytesOf s := ⟨_, rfl⟩
 obtain ⟨n, hn⟩ : ∃ n, n = s.size := ⟨_, rfl⟩
 have hln : l.length = n := by rw [hl, hn, bytesOf_length]
 have HS := fun w => TL.start w f s
 rw [← hl] at hText HS
 generalize hcap : grownCap = GC at hcv
 rw [← hn] at hcv hs
 have Hl := Lib.hid hl
 clear hl
 have Hn := Lib.hid hn
 clear hn
 have Hcap := Lib.hid hcap
 clear hcap
 have Hln := Lib.hid hln
 clear hln
 go_enter Tryz.func94, Tryz.ntmps94
 go_wp2
 have HS1 := HS w
 generalize Lib.bytesWorld _ _ s = W1 at HS1 ⊢
 go_wp2
 go_loopw [12] (fun i wr => ∃ k : Nat, k ≤ n ∧ i = .int .i64 k ∧ TL w f l k wr) (fun i _ => n - (intOf i).toNat)
 case atStart => exact ⟨0, Nat.zero_le _, rfl, HS1⟩
 case round =>
  obtain ⟨k, hk, rfl, HL⟩ := hrel
  by_cases hlt : k < n
  ·have hi1 : (k : Int) < (n : Int) := by omega
   have hwk : wrap64 ((k : Int) + 1) = (k : Int) + 1 := by unfold wrap64; omega
   obtain ⟨h1, h2⟩ := HL.at_ (by rw [Hln.out]; exact hlt)
   obtain ⟨c, hc⟩ : ∃ c, c = l.getD k 0 := ⟨_, rfl⟩
   rw [← hc] at h1
   have Hc := Lib.hid hc
   clear hc
   go_wp2
   ·refine ⟨⟨k + 1, by omega, by go_num, HL.set (by rw [Hln.out]; exact hlt) _ ?_⟩, by simp [intOf]; omega⟩
    rw [← Hc.out]
    unfold turnB
    rw [if_pos (by omega)]
   ·refine ⟨⟨k + 1, by omega, by go_num, HL.same (by rw [Hln.out]; exact hlt) ?_⟩, by simp [intOf]; omega⟩
    rw [← Hc.out]
    unfold turnB
    rw [if_neg (by omega)]
   ·refine ⟨⟨k + 1, by omega, by go_num, HL.same (by rw [Hln.out]; exact hlt) ?_⟩, by simp [intOf]; omega⟩
    rw [← Hc.out]
    unfold turnB
    rw [if_neg (by omega)]
  ·obtain rfl : k = n := by omega
   have hi1 : ¬ ((k : Int) < (k : Int)) := by omega
   have hC := HL
   rw [← Hln.out] at hC
   have hC2 := hC.done (by rw [Hln.out]; omega)
   rw [Hln.out] at hC2
   have hst := fun c => Kd.C_string (P := Tryz.prog) (c := c) hu2 hu3 hu4 hC2
   clear hC hC2
   go_wp2_with (go_at_call 52; refine (hText _ (hTb _ _ hT HL.below)).mono ?_; rintro e w2 ⟨rfl, hb2⟩; have hres := (hb2.block _ (blk_lt HL.res)).trans HL.res; have c0 := (blk_cell hres 0).trans rfl; have c1 := (blk_cell hres 1).trans rfl; have c2 := (blk_cell hres 2).trans rfl; have f0 := blk_frozen hres 0; have f1 := blk_frozen hres 1; have f2 := blk_frozen hres 2)
   refine bodyPost_ret (results_cell_row rfl _ _ w.heap.size 24 #[.bool r1, .int .i64 r2, .string r3] (0, 0) _ rfl (blk_set (blk_set (blk_set hres 0 _) 1 _) 2 _) hu1 rfl (by kernel_rfl)) rfl ?_
   exact ⟨rfl, below_set (below_set (below_set (below_then HL.below HL.below.size hb2) (Nat.le_refl _)) (Nat.le_refl _)) (Nat.le_refl _)⟩
end Go.Proofs.YtebofnoljebakaaGreatDoor.XTurn
