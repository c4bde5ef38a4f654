/- Words beside the print's own: a constant's bytes, and a string's, as a row that is only read. -/
import Derived.Test.YtejmgcfjpofniaaGreatDoorWWords
import Derived.Test.YtejmgcfjpofniaaGreatDoorWN
import Derived.Test.YtejmgcfjpofniaaGreatDoorWMore
import Derived.Lib.SlBytesConst
import Derived.Lib.ConvBytes
import Derived.Lib.AppendStr
import Derived.Maps.AppendAt
namespace Go.Proofs.YtejmgcfjpofniaaGreatDoorW.PrintMore
open Go.RowKit Go.Proofs.YtejmgcfjpofniaaGreatDoorW.PrintWords
/-- The greater of two strings, in the print's words. -/
theorem xm_less_gtr : ∀ (x y : List UInt8), (!(Op.bytesLess x y || x == y)) = Op.bytesLess y x
  | [], [] => by decide
  | [], _ :: _ => by simp [Op.bytesLess]
  | _ :: _, [] => by simp [Op.bytesLess]
  | a :: x, b :: y => by
    have ih := xm_less_gtr x y
    simp only [Op.bytesLess]
    by_cases h : a = b
    · subst h
      simp only [BEq.rfl, Bool.true_and, List.cons_beq_cons, UInt8.lt_irrefl, decide_false, Bool.false_or]
      exact ih
    · have h1 : (a == b) = false := by simp [h]
      have h2 : (b == a) = false := by simp; exact fun e => h e.symm
      simp only [h1, h2, Bool.false_and, Bool.or_false, List.cons_beq_cons]
      rcases UInt8.lt_or_lt_of_ne h with h3 | h3
      · have h4 : ¬ b < a := fun h4 => UInt8.lt_asymm h3 h4
        simp [h3, h4]
      · have h4 : ¬ a < b := fun h4 => UInt8.lt_asymm h3 h4
        simp [h3, h4]
/-! ### what the walks say again and again, as arguments that fill themselves -/
theorem xb {B : Nat} {w w' : World} (h : Below B w w' := by repeat (first | (with_reducible first | exact HB.out | apply below_alloc | apply pw_below_drewN | apply below_drew1 | refine below_set ?_ (Aside0.out (by with_reducible assumption))) | exact HB.out)) : Below B w w' := h
theorem xf {B : Nat} {w w' : World} (h : Below B w w' := by first | exact Below.refl _ _ | exact pw_below_drewN (Below.refl _ _) _ | exact (by repeat (first | (with_reducible first | exact HB.out | apply below_alloc | apply pw_below_drewN | apply below_drew1 | refine below_set ?_ (Aside0.out (by with_reducible assumption))) | exact HB.out))) : Below B w w' := h
theorem xk {p q : Prop} (a : p) (h : p → q := by intro ha; (with_reducible repeat (first | refine blk_drewN ?_ _ | refine blk_drew ?_ | refine blk_alloc ?_ _)); exact ha) : q := h a
theorem xr {p : Prop} (h : p := by (try simp only [List.map_toArray, List.map_cons, List.map_nil]); first | done | rfl | (simp only [List.length_drop, List.length_take]; rfl)) : p := h
theorem xo {p q : Prop} (a : p) (h : p → q := by intro ha; (with_reducible repeat (first | apply Kd.R_alloc | apply Kd.R_drewN | apply Kd.R_drew)); exact ha) : q := h a
theorem xg {p : Prop} (h : p := by first | rfl | (simp; done) | (simp [*]; done) | exact congrArg Value.bool (xm_ne_nil _) | exact congrArg Value.bool (xm_ne_nil _).symm) : p := h
theorem xe {p : Prop} (h : p := by first | rfl | (simp [errW_none, errW_some] <;> rfl) | (simp [*, errW_none, errW_some] <;> rfl)) : p := h
theorem xa {p : Prop} (h : p := by first | (with_reducible assumption) | assumption) : p := h
theorem xz {p : Prop} (h : p := by repeat (first | exact Drawn0.refl _ | apply Drawn0.step)) : p := h
theorem xh {p : Prop} (h : p := by first | (go_simp; done) | (go_simp; rfl)) : p := h
theorem xd {W0 W W' : World} {g : Nat} {o : Obj} (a : W0.heap[g]? = some o) (hb : Below W.heap.size W W') (h : W0.heap[g]? = some o → W.heap[g]? = some o := by intro ha; (with_reducible repeat (first | refine blk_drewN ?_ _ | refine blk_drew ?_ | refine blk_alloc ?_ _)); exact ha) : Aside0 (W'.heap[g]? = some o) := ⟨blk_below (h a) hb⟩
theorem xn {W0 W : World} {g g' : Nat} {o : Obj} (hg : g' = W.heap.size) (a : W0.heap[g]? = some o) (h : W0.heap[g]? = some o → W.heap[g]? = some o := by intro ha; (with_reducible repeat (first | refine blk_drewN ?_ _ | refine blk_drew ?_ | refine blk_alloc ?_ _)); exact ha) : Aside0 (g ≠ g') := ⟨by rw [hg]; exact Nat.ne_of_lt (blk_lt (h a))⟩
theorem xp {W0 W : World} {g g' : Nat} {o : Obj} (hg : g' = W.heap.size) (a : W0.heap[g]? = some o) (h : W0.heap[g]? = some o → W.heap[g]? = some o := by intro ha; (with_reducible repeat (first | refine blk_drewN ?_ _ | refine blk_drew ?_ | refine blk_alloc ?_ _)); exact ha) : Aside0 (g' ≠ g) := ⟨by rw [hg]; exact Nat.ne_of_gt (blk_lt (h a))⟩
theorem xs (w : World) {W : World} {g : Nat} (hg : g = W.heap.size) (h : Below w.heap.size w W := by repeat (first | (with_reducible first | exact HB.out | apply below_alloc | apply pw_below_drewN | apply below_drew1 | refine below_set ?_ (Aside0.out (by with_reducible assumption))) | exact HB.out)) : Aside0 (w.heap.size ≤ g) := ⟨by rw [hg]; exact h.size⟩
theorem xm_ne_nil (l : List UInt8) : (!l.isEmpty) = (l != []) := by cases l <;> rfl
theorem xm_gtr (t : TypeId) (a b : ByteArray) : binOp .gtr t (.string a) (.string b) = pure (.bool (Op.bytesLess b.toList a.toList)) := by
  rw [← xm_less_gtr a.toList b.toList]
  simp [binOp, Op.stringOp]
section
variable {P : Program} {ops : Array Oper} {rest : List Oper} {o : Oper} {a : Act} {Q : Exit → Act → World → Prop}

theorem xm_V_block {w : World} {g : Nat} {e : TypeId} {C : Array Value} {fr : Nat × Nat} {n c : Nat} {xs : List Int} (hg : w.heap[g]? = some (.cells C e fr)) (hn : xs.length = n) (hc : n ≤ c) (hm : n ≤ 9223372036854775807)
    (hC : ∀ j, j < n → C[j]? = some (.int .u8 (xs.getD j 0))) (base : Nat) (ok : Nat → Prop) (hok : ok g) : Kd.V (Kd.int .u8) e w base ok (.slice (some ⟨g, 0, none⟩) n c) xs := by
  subst hn
  refine ⟨_, c, rfl, hc, fun W' hW' => ?_⟩
  have hlt : g < w.heap.size := (Array.getElem?_eq_some_iff.1 hg).1
  have h2 : W'.heap[g]? = some (.cells C e fr) := (hW' g hok hlt).trans hg
  refine Kd.C_of_reads (d := (0 : Int)) (h1 := fun _ => rfl) ⟨rfl, hm, fun _ => ⟨_, rfl, fun j hj => ?_⟩⟩
  rw [add_plain]
  simp only [World.cell?, h2]
  simpa using hC j hj

theorem bconst_event {W : World} {N : Tmp} (C : Array Value) (cs : List Int) (t e : TypeId) (hgd : o.guard = none) (_hd : o.dst = some N) (x : Operand) (ho : o.op = .convert t t x) (ht : P.underlying t = some (.slice e)) (he : P.underlying e = some (.int .u8))
    (hx : a.eval x = .slice (some ⟨W.heap.size, 0, none⟩) cs.length cs.length) (hC : C = (nums .u8 cs).toArray) (hm : cs.length ≤ 9223372036854775807)
    (h : ∀ v w2, Kd.V (Kd.int .u8) e w2 W.heap.size (fun k_ => W.heap.size ≤ k_) v cs → Below W.heap.size W w2 → wpList P ops Q rest (a.put o.dst v) w2) :
    wpList P ops Q (o :: rest) a (W.alloc (.cells C e)) := by
  refine Kd.event_run hgd ?_ (h (.slice (some ⟨W.heap.size, 0, none⟩) cs.length cs.length) (W.alloc (.cells C e (C.size, C.size + 1))) ?_ (below_alloc (Below.refl _ _) _))
  · unfold execOp
    simp only [ho, hx, Sem.run_bind, Lib.run_convert_bytes_const W t e C _ _ ht he, Result.andThen_ok, Sem.run_pure]
  · refine xm_V_block (heap_alloc_new W _) rfl (Nat.le_refl _) hm (fun j hj => ?_) _ _ (Nat.le_refl _)
    subst hC
    simp [nums, List.getElem?_eq_getElem hj, List.getD_eq_getElem?_getD]

theorem bytesof_event {W : World} {N : Tmp} (s : ByteArray) (t u e : TypeId) (hgd : o.guard = none) (_hd : o.dst = some N) (x : Operand) (ho : o.op = .convert u t x) (hu : P.underlying u = some .string) (ht : P.underlying t = some (.slice e)) (he : P.underlying e = some (.int .u8))
    (hx : a.eval x = .string s) (hm : s.size ≤ 140737488355328)
    (h : ∀ v w2, Kd.V (Kd.int .u8) e w2 W.heap.size (fun k_ => W.heap.size ≤ k_) v (bytesOf s) → Below W.heap.size W w2 → wpList P ops Q rest (a.put o.dst v) w2) :
    wpList P ops Q (o :: rest) a W := by
  refine Kd.event_run hgd ?_ (h (.slice (some ⟨W.heap.size, 0, none⟩) s.size (grownCap W s.size 0 e)) (Lib.bytesWorld W e s) ?_ (bytes_below (Below.refl _ _) (Nat.le_refl _) e s))
  · unfold execOp
    simp only [ho, hx, Sem.run_bind, print_bytes u t e hu ht he s W, Result.andThen_ok, Sem.run_pure]
  · refine xm_V_block (Lib.bytesWorld_at_new W e s) (bytesOf_length s) (grownCap_ge _ _ _ _) (by omega) (fun j hj => ?_) _ _ (Nat.le_refl _)
    have h1 := Lib.bytesWorld_cell W e s j hj
    simp only [World.cell?, Lib.bytesWorld_at_new] at h1
    have h' : j < s.data.toList.length := by rw [data_length]; exact hj
    replace h1 : (Lib.bytesCells W e s)[j]? = _ := h1
    rw [h1]
    simp [bytesOf, List.getD_eq_getElem?_getD, List.getElem?_eq_getElem h']

/-- append(b, s...), s a string, and where the new row lies. -/
theorem xm_run_append_str (w : World) (base : Nat) (t u ty e : TypeId) (i : TypeInfo) (ht : P.underlying t = some (.slice e)) (hu : P.underlying u = some .string) (hi : P.info? e = some i) (hz : i.zero = some (.int .u8 0))
    (hsize : i.size = 1) (hby : i.bytes = 1) (v : Value) (n : Nat) (xs : List Value) (hown : w.ownsRow base e 1 v n xs) (s : ByteArray)
    (h63 : n + s.size ≤ maxLen) (hbytes : n + s.size ≤ 140737488355328) (hbase : base ≤ w.heap.size) :
    ∃ v' w', (Builtin.append_ #[t, u] ty #[v, .string s]).run P w = .ok v' w' ∧ w'.ownsRow base e 1 v' (n + s.size) (xs ++ Lib.strCells s) ∧ w.grownBy w' v.ownBlock ∧ (v'.ownBlock = v.ownBlock ∨ v'.ownBlock = some w.heap.size) := by
  obtain ⟨v', w', hr, h1, h2, _⟩ := Lib.run_append_own_string (P := P) w base t u ty e i ht hu hi hz hsize hby v n xs hown s h63 hbytes hbase
  refine ⟨v', w', hr, h1, h2, ?_⟩
  have hsmall : n + s.size ≤ 9223372036854775807 := by simp only [maxLen] at h63; omega
  have hxl : xs.length = n := by simpa using hown.1
  rcases hown.2 with ⟨rfl, rfl⟩ | ⟨g, cap, cur, rfl, hbg, hg, hnc, hcm, hcs, htake⟩
  · by_cases hm : s.size = 0
    · have hf := Lib.run_firstCells_string (P := P) w 1 s
      rw [hm] at hf
      simp [Builtin.append_, run_underlying ht, run_underlying hu, sizeOf, typeInfo, hi, hsize, Builtin.lenOf, hm, hf] at hr
      exact .inl (by rw [← hr.1])
    · have hr2 := run_append_nil_string (P := P) w t u ty e i (.int .u8 0) ht hu hi hz s (by omega) (by omega) (by rw [hby]; omega)
      rw [hr2] at hr
      injection hr with hv _
      exact .inr (by rw [← hv]; rfl)
  · by_cases hroom : n + s.size ≤ cap
    · have hr2 := Lib.run_append_room_string (P := P) w t u ty e i ht hu hi hsize g n cap cur hg s hroom (by omega)
      rw [hr2] at hr
      injection hr with hv _
      exact .inl (by rw [← hv]; rfl)
    · have holds : ∀ j u, xs[j]? = some u → w.cell? ((⟨g, 0, none⟩ : Addr).add j) = some u := hown.cells (g := g) rfl
      have hr2 := Lib.run_append_grow_string (P := P) w t u ty e i (.int .u8 0) ht hu hi hz ⟨g, 0, none⟩ n cap xs (by rw [hsize]; simpa using hxl) holds s (by omega) (by omega) (by rw [hby]; exact growslice_fits (by omega) (by omega))
      rw [hr2] at hr
      injection hr with hv _
      exact .inr (by rw [← hv]; rfl)
theorem xm_append_str {w0 W : World} (base : Nat) (hgd : o.guard = none) (s x : Operand) (t u e : TypeId)
    (ho : o.op = .call { callee := .builtin .append, args := #[s, x], argTypes := #[t, u] })
    (ht : P.underlying t = some (.slice e)) (hu : P.underlying u = some .string) (hinfo : (P.info? e).map (fun i => (i.zero, i.size, i.bytes)) = some (some (.int .u8 0), 1, 1))
    (v : Value) (xs : List Int) (y : ByteArray) (ok : Nat → Prop) (hs : a.eval s = v) (hx : a.eval x = .string y)
    (HO : Kd.R (Kd.int .u8) e W base ok v xs) (hfresh : ∀ k, W.heap.size ≤ k → ok k) (HB : Below base w0 W) (hbase : base ≤ W.heap.size) (hl : xs.length + y.size ≤ 140737488355328)
    (h : ∀ v1 w1, Kd.R (Kd.int .u8) e w1 base ok v1 (xs ++ bytesOf y) → Below base w0 w1 → W.grownBy w1 v.ownBlock → (v1.ownBlock = v.ownBlock ∨ ∃ b, v1.ownBlock = some b ∧ W.heap.size ≤ b) → wpList P ops Q rest (a.put o.dst v1) w1) :
    wpList P ops Q (o :: rest) a W := by
  obtain ⟨i0, hi, hzz⟩ := Option.map_eq_some_iff.1 hinfo
  simp only [Prod.mk.injEq] at hzz
  obtain ⟨hz0, hz1, hz2⟩ := hzz
  have hown : W.ownsRow base e 1 v xs.length (nums .u8 xs) := Kd.own_of_R HO
  obtain ⟨v', w', hr, h2, h3, h4⟩ := xm_run_append_str (P := P) W base t u o.type e i0 ht hu hi hz0 hz1 hz2 v xs.length (nums .u8 xs) hown y (by simp only [maxLen]; omega) hl hbase
  have hl2 : (xs ++ bytesOf y).length = xs.length + y.size := by rw [List.length_append, bytesOf_length]
  have hc : nums .u8 (xs ++ bytesOf y) = nums .u8 xs ++ Lib.strCells y := by
    rw [nums_append]
    congr 1
    simp [nums, bytesOf, Lib.strCells]
  refine wpList_plain hgd fun K hK => ?_
  unfold Oper.wp execOp
  simp only [ho, resolve, invoke, builtin, Sem.run_bind, Sem.run_pure, Result.andThen_ok, List.map_toArray, List.map_cons, List.map_nil, hs, hx, hr]
  refine hK _ _ (h v' w' (Kd.R_of_own (h1 := fun _ => rfl) (ok := ok) (by rw [hl2]; show w'.ownsRow base e 1 v' _ (nums .u8 (xs ++ bytesOf y)); rw [hc]; exact h2) (fun k hk => ?_)) (HB.grown h3 hbase (own_base hown)) h3 ?_)
  · rcases h4 with h4 | h4
    · exact HO.1 k (h4 ▸ hk)
    · rw [h4] at hk
      injection hk with hk
      exact hfresh k (by omega)
  · rcases h4 with h4 | h4
    · exact .inl h4
    · exact .inr ⟨_, h4, Nat.le_refl _⟩

/-- Pseudo-calls: a constant's bytes; a string's. -/
def bconst.f (cs : List Int) : Option (List Int) := some cs
def bytesof.f (s : ByteArray) : Option (List Int) := if s.size ≤ 140737488355328 then some (bytesOf s) else none
theorem bconst_call {W : World} {N : Tmp} {xs : List Int} (C : Array Value) (cs : List Int) (hf : bconst.f cs = some xs) (t e : TypeId) (hgd : o.guard = none) (hd : o.dst = some N) (x : Operand) (ho : o.op = .convert t t x) (ht : P.underlying t = some (.slice e)) (he : P.underlying e = some (.int .u8))
    (hx : a.eval x = .slice (some ⟨W.heap.size, 0, none⟩) cs.length cs.length) (hC : C = (nums .u8 cs).toArray) (hm : cs.length ≤ 9223372036854775807)
    (h : ∀ v w2, Kd.V (Kd.int .u8) e w2 W.heap.size (fun k_ => W.heap.size ≤ k_) v xs → Below W.heap.size W w2 → wpList P ops Q rest (a.put o.dst v) w2) :
    wpList P ops Q (o :: rest) a (W.alloc (.cells C e)) := by
  obtain rfl := Option.some.inj hf
  exact bconst_event C cs t e hgd hd x ho ht he hx hC hm h
theorem bytesof_call {W : World} {N : Tmp} {xs : List Int} (s : ByteArray) (hf : bytesof.f s = some xs) (t u e : TypeId) (hgd : o.guard = none) (hd : o.dst = some N) (x : Operand) (ho : o.op = .convert u t x) (hu : P.underlying u = some .string) (ht : P.underlying t = some (.slice e)) (he : P.underlying e = some (.int .u8))
    (hx : a.eval x = .string s)
    (h : ∀ v w2, Kd.V (Kd.int .u8) e w2 W.heap.size (fun k_ => W.heap.size ≤ k_) v xs → Below W.heap.size W w2 → wpList P ops Q rest (a.put o.dst v) w2) :
    wpList P ops Q (o :: rest) a W := by
  unfold bytesof.f at hf
  split at hf
  · obtain rfl := Option.some.inj hf
    exact bytesof_event s t u e hgd hd x ho hu ht he hx (by assumption) h
  · cases hf
end
end Go.Proofs.YtejmgcfjpofniaaGreatDoorW.PrintMore
