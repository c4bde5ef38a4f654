/- sorter.order and the function that it tells. -/
import Derived.Test.YtebofnoljebakaaGreatDoorXSA
import Derived.Test.YtebofnoljebakaaGreatDoorPXx0
import Derived.Laws.MakeOwn
set_option linter.unusedVariables false
set_option linter.unusedSimpArgs false
set_option linter.unusedSectionVars false
namespace Go.Proofs.YtebofnoljebakaaGreatDoor.XSort
open Go.RowKit Go.Lib Go.Sort Go.Proofs.YtebofnoljebakaaGreatDoor.Stb Go.Proofs Go.Proofs.YtebofnoljebakaaGreatDoorW.PrintWords Go.Proofs.YtebofnoljebakaaGreatDoorW.PrintLast Go.Proofs.YtebofnoljebakaaGreatDoorW.PrintMore Go.Proofs.YtebofnoljebakaaGreatDoor.PX
abbrev It := S38
instance : Inhabited It := ⟨z38⟩
def encI (x : It) : List Value := [.string x.f0, .bool x.f1.f0, .int .i64 x.f1.f1, .string x.f1.f2]
theorem RI : RB encI kI := ⟨fun _ => rfl, fun x v hv => by
 simp only [encI, List.mem_cons, List.mem_nil_iff, or_false] at hv
 rcases hv with h | h | h | h <;> rw [h] <;> rfl⟩
def kJ : Nat := 14
theorem szJ (w : World) : (Go.sizeOf 26).run Tryz.prog w = .ok kJ w := Tryz.sizeOf26 w
attribute [local go_sem ↓ high] szJ
def cfA (AH : ByteArray → ByteArray → Bool) (x y : It) : Int := if AH x.f0 y.f0 = true then -1 else if AH y.f0 x.f0 = true then 1 else 0
theorem load_job {W : World} {jb : Nat} {J : Array Value} (hJ : J.size = 14) (h : W.heap[jb]? = some (.cells J 26 (0, 0))) : Sem.run Tryz.prog (loadCellsFrom ⟨jb, 0, none⟩ 0 kJ #[]) W = .ok J W := by
 have := run_loadCellsFrom_list Tryz.prog W ⟨jb, 0, none⟩ J.toList kJ (by simp [hJ]; rfl) (fun j v hv => by
  have := blk_cell h j
  rw [show (⟨jb, 0, none⟩ : Addr).add j = ⟨jb, j, none⟩ by (simp [Addr.add] <;> omega)]
  rw [this]; simpa using hv)
 simpa using this
set_option maxHeartbeats 4000000 in
set_option maxRecDepth 100000 in
theorem closure_calls (AH : ByteArray → ByteArray → Bool) {J : Array Value} (hJ : J.size = 14) {jb : Nat} (x y : It) (W : World) (hb : W.heap[jb]? = some (.cells J 26 (0, 0)))
  (hA1 : ∀ W', Below W.heap.size W W' → Calls Tryz.prog 39 #[.agg J, .string x.f0, .string y.f0] W' fun e w' => e = .returned (.bool (AH x.f0 y.f0)) ∧ Below W'.heap.size W' w')
  (hA2 : ∀ W', Below W.heap.size W W' → Calls Tryz.prog 39 #[.agg J, .string y.f0, .string x.f0] W' fun e w' => e = .returned (.bool (AH y.f0 x.f0)) ∧ Below W'.heap.size W' w') :
  Calls Tryz.prog 38 #[.agg (encI x).toArray, .agg (encI y).toArray, .pointer (some ⟨jb, 0, none⟩)] W fun e w' => e = .returned (.int .i64 (cfA AH x y)) ∧ Below W.heap.size W w' := by
 have hlt := blk_lt hb
 have HB0 : Below W.heap.size W ((W.alloc (.cells #[.string x.f0, .bool x.f1.f0, .int .i64 x.f1.f1, .string x.f1.f2] 38)).alloc (.cells #[.string y.f0, .bool y.f1.f0, .int .i64 y.f1.f1, .string y.f1.f2] 38)) := below_alloc (below_alloc (Below.refl _ _) _) _
 have L0 := load_job hJ ((HB0.block _ hlt).trans hb)
 have h1 := hA1 _ HB0
 have C2 : Aside _ := hA2
 have HBA : Aside _ := HB0
 have HJB : Aside _ := hb
 clear hA1 hA2 HB0 hb
 simp only [encI]
 go_enter Tryz.func38, Tryz.ntmps38
 cases hq : AH x.f0 y.f0 with
 | true =>
  have e : cfA AH x y = -1 := by unfold cfA; rw [if_pos hq]
  rw [e]
  rw [hq] at h1
  go_wp2_with (go_at_call 39; refine h1.mono ?_; rintro e w1 ⟨rfl, hb1⟩)
  go_ret
  exact ⟨rfl, HBA.out.trans (hb1.mono HBA.out.size)⟩
 | false =>
  rw [hq] at h1
  have B1 : Aside (((W.alloc (.cells #[.string x.f0, .bool x.f1.f0, .int .i64 x.f1.f1, .string x.f1.f2] 38)).alloc (.cells #[.string y.f0, .bool y.f1.f0, .int .i64 y.f1.f1, .string y.f1.f2] 38)).heap[W.heap.size]? = some (.cells #[.string x.f0, .bool x.f1.f0, .int .i64 x.f1.f1, .string x.f1.f2] 38 (0, 0))) := blk_alloc (blk_new W _) _
  have B2 : Aside (((W.alloc (.cells #[.string x.f0, .bool x.f1.f0, .int .i64 x.f1.f1, .string x.f1.f2] 38)).alloc (.cells #[.string y.f0, .bool y.f1.f0, .int .i64 y.f1.f1, .string y.f1.f2] 38)).heap[W.heap.size + 1]? = some (.cells #[.string y.f0, .bool y.f1.f0, .int .i64 y.f1.f1, .string y.f1.f2] 38 (0, 0))) := by
   have := blk_new (W.alloc (.cells #[.string x.f0, .bool x.f1.f0, .int .i64 x.f1.f1, .string x.f1.f2] 38)) (.cells #[.string y.f0, .bool y.f1.f0, .int .i64 y.f1.f1, .string y.f1.f2] 38)
   rwa [show (W.alloc (.cells #[.string x.f0, .bool x.f1.f0, .int .i64 x.f1.f1, .string x.f1.f2] 38)).heap.size = W.heap.size + 1 by simp] at this
  have e : cfA AH x y = if AH y.f0 x.f0 = true then 1 else 0 := by unfold cfA; rw [if_neg (by rw [hq]; simp)]
  rw [e]
  cases hq2 : AH y.f0 x.f0 with
  | true =>
   go_wp2_with (first
    | (go_at_call 39; refine h1.mono ?_; rintro e w1 ⟨rfl, hb1⟩; have HW := HBA.out.trans (hb1.mono HBA.out.size); have L1 := load_job hJ ((HW.block _ hlt).trans HJB.out); have h2 := C2.out w1 HW; rw [hq2] at h2; have k1 := (kc (blk_below B1.out hb1) 0).trans rfl; have k2 := (kc (blk_below B2.out hb1) 0).trans rfl; have HWA := Lib.hid HW; clear HW h1 L0 hb1)
    | (go_at_call 39; refine h2.mono ?_; rintro e w2 ⟨rfl, hb2⟩))
   go_ret
   exact ⟨by simp, HWA.out.trans (hb2.mono HWA.out.size)⟩
  | false =>
   go_wp2_with (first
    | (go_at_call 39; refine h1.mono ?_; rintro e w1 ⟨rfl, hb1⟩; have HW := HBA.out.trans (hb1.mono HBA.out.size); have L1 := load_job hJ ((HW.block _ hlt).trans HJB.out); have h2 := C2.out w1 HW; rw [hq2] at h2; have k1 := (kc (blk_below B1.out hb1) 0).trans rfl; have k2 := (kc (blk_below B2.out hb1) 0).trans rfl; have HWA := Lib.hid HW; clear HW h1 L0 hb1)
    | (go_at_call 39; refine h2.mono ?_; rintro e w2 ⟨rfl, hb2⟩))
   go_ret
   exact ⟨by simp, HWA.out.trans (hb2.mono HWA.out.size)⟩
set_option maxHeartbeats 4000000 in
set_option maxRecDepth 100000 in
theorem order_calls {J : Array Value} (W : World) :
  Calls Tryz.prog 32 #[.agg J] W fun e w' => e = .returned (.func (.func 38) #[] #[.pointer (some ⟨W.heap.size, 0, none⟩)]) ∧ w' = W.alloc (.cells J 26) := by
 go_enter Tryz.func32, Tryz.ntmps32
 go_wp2
 go_ret
 exact ⟨rfl, rfl⟩
end Go.Proofs.YtebofnoljebakaaGreatDoor.XSort
namespace Go.Proofs.YtebofnoljebakaaGreatDoor.XSort
open Go.RowKit Go.Lib Go.Sort Go.Proofs.YtebofnoljebakaaGreatDoor.Stb Go.Proofs Go.Proofs.YtebofnoljebakaaGreatDoorW.PrintWords Go.Proofs.YtebofnoljebakaaGreatDoorW.PrintLast Go.Proofs.YtebofnoljebakaaGreatDoorW.PrintMore Go.Proofs.YtebofnoljebakaaGreatDoor.PX
attribute [local go_sem ↓ high] szJ szI
theorem infoI : (Tryz.prog.info? 38).map (fun i => (i.zero, i.size, i.bytes)) = some (some (.agg #[(.string ⟨#[]⟩), (.bool false), (.int .i64 0), (.string ⟨#[]⟩)]), 4, 48) := by kernel_rfl
theorem src_cells {W : World} {ad : Addr} {n : Nat} {l : List It} (h : Kd.C k38 W (some ad) n l) : ∀ t v, (flatK encI kI l.toArray).toList[t]? = some v → W.cell? (ad.add t) = some v := by
 intro t v hv
 have ht : t < l.length * 4 := by
  have := (List.getElem?_eq_some_iff.1 hv).1
  simpa [size_flatK, kI] using this
 have hn : 0 < n := by have := h.1; omega
 obtain ⟨ad', e, hc⟩ := h.2.2 hn
 obtain rfl := Option.some.inj e
 have hj : t / 4 < l.length := by omega
 obtain ⟨c, hl, hk, hcell⟩ := hc (t / 4) _ (List.getElem?_eq_getElem hj)
 obtain rfl := k38_open hk
 have hv' : v = (encI l[t / 4])[t % 4]! := by
  have e1 : (flatK encI kI l.toArray)[t]? = some v := by simpa using hv
  have e2 := get_flatK encI kI l.toArray t (by simpa [kI] using ht)
  rw [getElem!_def, e1] at e2
  have e3 : v = (encI l.toArray[t / 4]!)[t % 4]! := e2
  rw [e3, getElem!_pos l.toArray (t / 4) (by simpa using hj)]
  simp
 have hm : t % 4 < 4 := by omega
 have := hcell (t % 4) v (by
  rw [hv']
  have : (encI l[t / 4])[t % 4]? = some (encI l[t / 4])[t % 4]! := by
   rw [List.getElem?_eq_getElem (by simp [encI]; omega), getElem!_pos _ _ (by simp [encI]; omega)]
  exact this)
 rwa [show t / 4 * (k38).sz + t % 4 = t from by show t / 4 * 4 + t % 4 = t; omega] at this
theorem SB.belowOf {α : Type} [Inhabited α] {enc : α → List Value} {k : Nat} {G : α → Prop} {wB W' W : World} {blk off n : Nat} {dk : Array α} (h : SB enc k G wB blk off dk W') (h0 : Below n W wB) (hn : n ≤ blk) (hw : n ≤ W.heap.size) : Below n W W' where
 os := h.os.trans h0.os
 tape := h.tape.trans h0.tape
 output := h.output.trans h0.output
 size := Nat.le_trans h0.size h.size
 block := fun i hi => (h.kept i (Nat.lt_of_lt_of_le (Nat.lt_of_lt_of_le hi hw) h0.size) (by omega)).trans (h0.block i hi)
theorem SB.row {G : It → Prop} {wB W' : World} {blk n : Nat} {dk : Array It} {base : Nat} (h : SB encI kI G wB blk 0 dk W') {cur : Array Value} (h0 : wB.heap[blk]? = some (.cells cur 38 (0, 0))) (hc : cur.size = n * 4) (hn : dk.size = n) (hb : base ≤ blk) (hm : n ≤ maxLen) :
  Kd.R k38 38 W' base (fun _ => True) (.slice (some ⟨blk, 0, none⟩) n n) dk.toList := by
 obtain ⟨cur', e1, e2⟩ := h.shape cur _ h0
 refine ⟨fun _ _ => trivial, (flatK encI kI dk).toList, ⟨?_, Or.inr ⟨blk, n, cur', by simp [hn], hb, e1, by simp [hn], hm, by rw [e2, hc]; rfl, ?_⟩⟩, ?_⟩
 ·show (flatK encI kI dk).toList.length = dk.toList.length * 4
  simp [size_flatK, kI]
 ·have hs : cur'.size = (flatK encI kI dk).size := by rw [e2, hc, size_flatK, hn]; rfl
  have : cur' = flatK encI kI dk := ext_get! hs fun t ht => by
   have := (h.holds t (by rw [← hs]; exact ht)).1
   rw [blk_cell e1, Nat.zero_add, Array.getElem?_eq_getElem ht] at this
   rw [getElem!_pos cur' t ht]
   exact Option.some.inj this
  rw [this]
  exact List.take_of_length_le (by simp [size_flatK, kI]; show dk.size * 4 ≤ dk.size * 4; omega)
 ·refine ⟨by show (flatK encI kI dk).toList.length = dk.toList.length * 4; simp [size_flatK, kI], fun j p hp => ?_⟩
  have hj : j < dk.size := by have := (List.getElem?_eq_some_iff.1 hp).1; simpa using this
  have hp' : dk[j]! = p := by
   rw [getElem!_pos dk j hj]
   have := (List.getElem?_eq_some_iff.1 hp).2
   simpa using this
  have : ((flatK encI kI dk).toList.drop (j * 4)).take 4 = encI p := by
   apply List.ext_getElem?
   intro q
   by_cases hq : q < 4
   ·rw [List.getElem?_take_of_lt hq, List.getElem?_drop]
    have hlt : j * 4 + q < dk.size * 4 := by omega
    have g := get_flatK encI kI dk (j * 4 + q) (by simpa [kI] using hlt)
    rw [show (j * 4 + q) / kI = j from by show (j * 4 + q) / 4 = j; omega, show (j * 4 + q) % kI = q from by show (j * 4 + q) % 4 = q; omega, hp'] at g
    have hsz : j * 4 + q < (flatK encI kI dk).size := by rw [size_flatK]; exact hlt
    rw [Array.getElem?_toList, Array.getElem?_eq_getElem hsz, List.getElem?_eq_getElem (by simp [encI]; omega)]
    rw [getElem!_pos (flatK encI kI dk) (j * 4 + q) hsz, getElem!_pos (encI p) q (by simp [encI]; omega)] at g
    rw [g]
   ·rw [List.getElem?_eq_none (by simp; omega), List.getElem?_eq_none (by simp [encI]; omega)]
  show (k38).M _ _ _ p (((flatK encI kI dk).toList.drop (j * 4)).take 4)
  rw [this]
  exact k38_mkM _ _ _ p
theorem ltC_cfA (AH : ByteArray → ByteArray → Bool) : ltC (cfA AH) = fun x y : It => AH x.f0 y.f0 := by
 funext x y
 unfold ltC cfA
 cases h : AH x.f0 y.f0 with
 | true => simp
 | false =>
  rw [if_neg (by simp)]
  split <;> simp
set_option maxHeartbeats 4000000 in
set_option maxRecDepth 100000 in
theorem sort_calls (AH : ByteArray → ByteArray → Bool) (hS : SWO fun x y : It => AH x.f0 y.f0) {J : Array Value} (hJ : J.size = 14) (A : Option Addr) (c : Nat) (l : List It) (W : World) (hr : Kd.C k38 W A l.length l) (hl : l.length < 1000000000000)
  (hA : ∀ W', Below W.heap.size W W' → ∀ x ∈ l, ∀ y ∈ l, Calls Tryz.prog 39 #[.agg J, .string x.f0, .string y.f0] W' fun e w' => e = .returned (.bool (AH x.f0 y.f0)) ∧ Below W'.heap.size W' w') :
  Calls Tryz.prog 10 #[.agg J, .slice A l.length c] W fun e w' => ∃ v0_ : Value, e = .returned v0_ ∧ Kd.R k38 38 w' W.heap.size (fun _ => True) v0_ (sortRef (fun x y : It => AH x.f0 y.f0) l) ∧ Below W.heap.size W w' := by
 have HB0 : Below W.heap.size W (W.alloc (.cells J 26)) := below_alloc (Below.refl _ _) _
 have hsz0 : (W.alloc (.cells J 26)).heap.size = W.heap.size + 1 := by simp
 -- make
 obtain ⟨i, hi, hzz⟩ := Option.map_eq_some_iff.1 infoI
 simp only [Prod.mk.injEq] at hzz
 obtain ⟨hz, hsize, hb48⟩ := hzz
 have hbytes : i.bytes ≤ 100 := by omega
 have hmk := run_make (P := Tryz.prog) (W.alloc (.cells J 26)) 27 38 i _ Tryz.underlying27 hi hz .i64 .i64 l.length l.length (by omega) (Int.le_refl _) (by
  have : (i.bytes : Int) * (l.length : Int) ≤ 100 * 1000000000000 := Int.mul_le_mul (by omega) (by omega) (by omega) (by omega)
  omega) (by omega)
 rw [hsz0, Int.toNat_natCast, hsize] at hmk
 generalize hz4 : madeCells _ (l.length * 4) = made at hmk
 have hm1 : made.size = l.length * 4 := by rw [← hz4]; exact size_madeCells _ _
 clear hz4
 have HB1 : Below W.heap.size W ((W.alloc (.cells J 26)).alloc (.cells made 38)) := below_alloc HB0 _
 have hblk1 : ((W.alloc (.cells J 26)).alloc (.cells made 38)).heap[W.heap.size + 1]? = some (.cells made 38 (0, 0)) := by
  have := blk_new (W.alloc (.cells J 26)) (.cells made 38)
  rwa [hsz0] at this
 have hjob1 : ((W.alloc (.cells J 26)).alloc (.cells made 38)).heap[W.heap.size]? = some (.cells J 26 (0, 0)) := blk_alloc (blk_new W _) _
 have hsz1 : ((W.alloc (.cells J 26)).alloc (.cells made 38)).heap.size = W.heap.size + 2 := by simp
 have HMK : Aside _ := hmk
 clear hmk
 generalize hW1 : (W.alloc (.cells J 26)).alloc (.cells made 38) = W1 at HMK HB1 hblk1 hjob1 hsz1
 have hr1 := Kd.C_below hr HB1
 clear hW1
 -- copy
 obtain ⟨W2, hcp, HB2, hblk2, hjob2, hsz2, hH2⟩ : ∃ W2 : World, (∀ ty, (Builtin.copy_ #[27, 27] ty #[.slice (some ⟨W.heap.size + 1, 0, none⟩) l.length l.length, .slice A l.length c]).run Tryz.prog W1 = .ok (goInt l.length) W2) ∧ Below W.heap.size W W2 ∧
   (∃ cur, W2.heap[W.heap.size + 1]? = some (.cells cur 38 (0, 0)) ∧ cur.size = l.length * 4) ∧ W2.heap[W.heap.size]? = some (.cells J 26 (0, 0)) ∧ W2.heap.size = W.heap.size + 2 ∧ HoldsK encI kI W2 (W.heap.size + 1) 0 l.toArray := by
  have hs4 : (Tryz.prog.info? 38).map (·.size) = some 4 := by rw [hi]; simp [hsize]
  rcases Nat.eq_zero_or_pos l.length with h0 | h0
  ·refine ⟨W1, fun ty => ?_, HB1, ⟨made, hblk1, hm1⟩, hjob1, hsz1, fun j hj => ?_⟩
   ·have := run_copy_k_none (P := Tryz.prog) W1 27 27 ty 38 4 (some ⟨W.heap.size + 1, 0, none⟩) A l.length l.length l.length c Tryz.underlying27 hs4 (by rw [h0]; rfl)
    rw [this, h0]; rfl
   ·rw [size_flatK] at hj; simp [h0] at hj
  ·obtain ⟨ad, rfl, _⟩ := hr1.2.2 h0
   have hlen : (flatK encI kI l.toArray).toList.length = l.length * 4 := by simp [size_flatK, kI]
   have hcell : ∀ j, j < l.length * 4 → (W1.cell? ⟨W.heap.size + 1, 0 + j, none⟩).isSome = true := fun j hj => by
    rw [Nat.zero_add, blk_cell hblk1, Array.getElem?_eq_getElem (by rw [hm1]; exact hj)]; rfl
   have hfr : ∀ j, j < l.length * 4 → W1.frozen? ⟨W.heap.size + 1, 0 + j, none⟩ = false := fun j hj => blk_frozen hblk1 _
   have hone : ∀ v ∈ (flatK encI kI l.toArray).toList, v.oneCell' = true := fun v hv => by
    obtain ⟨t, ht⟩ := List.getElem?_of_mem hv
    have htl := (List.getElem?_eq_some_iff.1 ht).1
    rw [hlen] at htl
    have e1 : (flatK encI kI l.toArray)[t]? = some v := by simpa using ht
    have e2 := get_flatK encI kI l.toArray t (by simpa [kI] using htl)
    rw [getElem!_def, e1] at e2
    have e3 : v = (encI l.toArray[t / 4]!)[t % 4]! := e2
    have hm : t % 4 < 4 := by omega
    rw [e3, getElem!_pos (encI l.toArray[t / 4]!) (t % 4) (by simp [encI]; omega)]
    exact RI.h1 _ _ (List.getElem_mem _)
   have hrun : ∀ ty, _ := fun ty => run_copy_k (P := Tryz.prog) W1 27 27 ty 38 4 (W.heap.size + 1) 0 l.length l.length ad l.length c (flatK encI kI l.toArray).toList Tryz.underlying27 hs4 (by rw [hlen]; simp) (src_cells hr1)
    (fun j hj => hcell j (by rwa [hlen] at hj)) (fun j hj => hfr j (by rwa [hlen] at hj)) hone
   obtain ⟨c2, a2, b2⟩ := shape_setCells (t := 38) (W.heap.size + 1) (flatK encI kI l.toArray).toList 0 W1 made hblk1
   refine ⟨W1.setCells (W.heap.size + 1) 0 (flatK encI kI l.toArray).toList, fun ty => by rw [hrun ty]; simp, ?_, ⟨c2, a2, b2.trans hm1⟩, ?_, by rw [(kept_setCells _ _ _ _).1]; exact hsz1, ?_⟩
   ·exact ⟨(World.os_setCells _ _ _ _).trans HB1.os, (kept_setCells _ _ _ _).2.trans HB1.tape, (World.output_setCells _ _ _ _).trans HB1.output, by rw [(kept_setCells _ _ _ _).1]; exact HB1.size, fun q hq => (World.heap_setCells_other _ _ _ _ (by omega) (by omega)).trans (HB1.block q hq)⟩
   ·exact (World.heap_setCells_other _ _ _ _ (by omega) (by omega)).trans hjob1
   ·intro j hj
    have hj4 : j < (flatK encI kI l.toArray).toList.length := by simpa using hj
    refine ⟨?_, by rw [World.frozen?_setCells]; exact hfr j (by rw [hlen] at hj4; exact hj4)⟩
    have := World.cell?_setCells_in (W.heap.size + 1) (flatK encI kI l.toArray).toList 0 W1 (fun q hq => hcell q (by rwa [hlen] at hq)) j hj4
    rw [this, getElem!_pos _ j hj]
    simp
 obtain ⟨cur, hcur, hcs⟩ := hblk2
 have L2 := load_job hJ hjob2
 have hord := order_calls (J := J) W2
 have HB3 : Below W.heap.size W (W2.alloc (.cells J 26)) := below_alloc HB2 _
 have hcl3 : (W2.alloc (.cells J 26)).heap[W2.heap.size]? = some (.cells J 26 (0, 0)) := blk_new W2 _
 have hcur3 : (W2.alloc (.cells J 26)).heap[W.heap.size + 1]? = some (.cells cur 38 (0, 0)) := blk_alloc hcur _
 have hsz3 : (W2.alloc (.cells J 26)).heap.size = W.heap.size + 3 := by simp [hsz2]
 have HS : SB encI kI (fun x => x ∈ l) (W2.alloc (.cells J 26)) (W.heap.size + 1) 0 l.toArray (W2.alloc (.cells J 26)) := SB.start (fun i hi => by
   rw [getElem!_pos l.toArray i hi]; simp) (fun j hj => by
   obtain ⟨a, b⟩ := hH2 j hj
   have hlt : W.heap.size + 1 < W2.heap.size := by omega
   have hb := below_alloc (Below.refl W2.heap.size W2) (.cells J 26)
   exact ⟨(hb.cell (p := ⟨W.heap.size + 1, 0 + j, none⟩) hlt).trans a, (hb.frozen (p := ⟨W.heap.size + 1, 0 + j, none⟩) hlt).trans b⟩) (by omega)
 have hcmp : CmpB Tryz.prog 38 #[.pointer (some ⟨W2.heap.size, 0, none⟩)] encI kI (fun x => x ∈ l) (cfA AH) (W2.alloc (.cells J 26)) (W.heap.size + 1) 0 := fun dk W' hS x y hx hy => by
  have hb' := hS.belowOf HB3 (by omega) (Nat.le_refl _)
  have hcl' := (hS.kept W2.heap.size (by omega) (by omega)).trans hcl3
  exact closure_calls AH hJ x y W' hcl' (fun W'' h => hA W'' (hb'.trans (h.mono hb'.size)) x hx y hy) (fun W'' h => hA W'' (hb'.trans (h.mono hb'.size)) y hy x hx)
 have eg : ∀ args w, (callFunc 38 args).run Tryz.prog w = .ok (.enter 38 args) w := enters_of Tryz.func38 (by kernel_rfl) rfl
 have hst := sortStable_calls RI eg hcmp l.length l.toArray _ HS (by simpa using hl)
 simp only [List.size_toArray] at hst
 rw [hsz2] at hst
 have FIN : ∀ W4, SB encI kI (fun x => x ∈ l) (W2.alloc (.cells J 26)) (W.heap.size + 1) 0 (stable (ltC (cfA AH)) l.toArray) W4 → Kd.R k38 38 W4 W.heap.size (fun _ => True) (.slice (some ⟨W.heap.size + 1, 0, none⟩) l.length l.length) (sortRef (fun x y : It => AH x.f0 y.f0) l) ∧ Below W.heap.size W W4 := fun W4 h => by
  rw [ltC_cfA] at h
  have q := h.row (n := l.length) (cur := cur) hcur3 hcs ((stable_ok hS l.toArray).1.size.trans (by simp)) (show W.heap.size ≤ W.heap.size + 1 by omega) (by unfold maxLen; omega)
  rw [stable_ref hS] at q
  exact ⟨q, h.belowOf HB3 (by omega) (Nat.le_refl _)⟩
 have HF : Aside _ := FIN
 have hmk := HMK.out
 clear FIN HMK hcmp HS hH2 HB2 HB3 hcl3 hcur3 HB0 HB1 hr hr1 hA hblk1 hjob1 hcur hjob2
 go_enter Tryz.func10, Tryz.ntmps10
 go_wp2_with (first
  | (go_at_call 32; refine hord.mono ?_; rintro e w3 ⟨rfl, rfl⟩)
  | (go_at_call 31; refine hst.mono ?_; rintro e w4 ⟨rfl, S4⟩))
 go_ret
 exact ⟨_, rfl, HF.out _ S4⟩
end Go.Proofs.YtebofnoljebakaaGreatDoor.XSort
namespace Go.Proofs.YtebofnoljebakaaGreatDoor.XSort
open Go.RowKit Go.Lib Go.Sort Go.Proofs.YtebofnoljebakaaGreatDoor.Stb Go.Proofs Go.Proofs.YtebofnoljebakaaGreatDoorW.PrintWords Go.Proofs.YtebofnoljebakaaGreatDoorW.PrintLast Go.Proofs.YtebofnoljebakaaGreatDoorW.PrintMore Go.Proofs.YtebofnoljebakaaGreatDoor.PX
attribute [local go_sem ↓ high] szJ szI
theorem load_el {W : World} {ad : Addr} {n : Nat} {l : List It} (h : Kd.C k38 W (some ad) n l) (i : Nat) (hi : i < l.length) : Sem.run Tryz.prog (loadCellsFrom (ad.add (i * 4)) 0 kI #[]) W = .ok (encI l.toArray[i]!).toArray W := by
 have hn : 0 < n := by have := h.1; omega
 obtain ⟨ad', e, hc⟩ := h.2.2 hn
 obtain rfl := Option.some.inj e
 obtain ⟨c, hl, hk, hcell⟩ := hc i _ (List.getElem?_eq_getElem hi)
 obtain rfl := k38_open hk
 rw [getElem!_pos l.toArray i (by simpa using hi)]
 refine run_loadCellsFrom_list Tryz.prog W _ _ kI rfl (fun j v hv => ?_)
 have := hcell j v (by simpa [encI] using hv)
 rw [show (ad.add (i * 4)).add j = ad.add (i * (k38).sz + j) from by
  show (ad.add (i * 4)).add j = ad.add (i * 4 + j)
  unfold Addr.add
  repeat' split
  all_goals first | rfl | (exfalso; omega) | (simp_all; done) | (simp_all; omega)]
 exact this
end Go.Proofs.YtebofnoljebakaaGreatDoor.XSort
namespace Go.Proofs.YtebofnoljebakaaGreatDoor.XSort
open Go.RowKit Go.Lib Go.Sort Go.Proofs.YtebofnoljebakaaGreatDoor.Stb Go.Proofs Go.Proofs.YtebofnoljebakaaGreatDoorW.PrintWords Go.Proofs.YtebofnoljebakaaGreatDoorW.PrintLast Go.Proofs.YtebofnoljebakaaGreatDoorW.PrintMore Go.Proofs.YtebofnoljebakaaGreatDoor.PX
attribute [local go_sem ↓ high] szJ
set_option maxHeartbeats 4000000 in
set_option maxRecDepth 100000 in
theorem new_none {J : Array Value} (m : Int) (hm : m < 1) (W : World) :
  Calls Tryz.prog 27 #[.agg J, .int .i64 m] W fun e w' => e = .returned (.tuple #[.pointer none, .int .i64 1]) ∧ Below W.heap.size W w' := by
 go_enter Tryz.func27, Tryz.ntmps27
 go_wp2
 go_ret2
 exact ⟨rfl, below_alloc (Below.refl _ _) _⟩
set_option maxHeartbeats 4000000 in
set_option maxRecDepth 100000 in
theorem new_some (v0 v1 v2 v3 v4 v5 v6 v7 v8 v9 v10 v11 v12 v13 : Value) (m : Int) (hm : ¬ m < 1) (W : World) :
  Calls Tryz.prog 27 #[.agg #[v0, v1, v2, v3, v4, v5, v6, v7, v8, v9, v10, v11, v12, v13], .int .i64 m] W fun e w' => (∃ g, e = .returned (.tuple #[.pointer (some ⟨g, 0, none⟩), .int .i64 0])) ∧ Below W.heap.size W w' := by
 have L1 := load_job (J := #[v0, v1, v2, v3, v4, v5, v6, v7, v8, v9, v10, v11, v12, v13]) rfl (blk_new W (.cells #[v0, v1, v2, v3, v4, v5, v6, v7, v8, v9, v10, v11, v12, v13] 26))
 go_enter Tryz.func27, Tryz.ntmps27
 go_wp2
 all_goals first
  | (go_ret2; exact ⟨⟨_, rfl⟩, below_alloc (below_alloc (Below.refl _ _) _) _⟩)
  | exact absurd (show (14 : Nat) = kJ from rfl) (by assumption)
end Go.Proofs.YtebofnoljebakaaGreatDoor.XSort
