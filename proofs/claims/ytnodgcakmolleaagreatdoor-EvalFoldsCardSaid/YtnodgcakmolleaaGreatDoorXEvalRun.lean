/- eval: what an instruction costs; how a program runs. -/
import Derived.Test.YtnodgcakmolleaaGreatDoorProg
import Derived.Test.YtnodgcakmolleaaGreatDoorXEval
set_option linter.unusedVariables false
set_option linter.unusedSimpArgs false
namespace Go.Proofs.YtnodgcakmolleaaGreatDoor.XEval
open Go.RowKit Go.Proofs Go.Proofs.YtnodgcakmolleaaGreatDoorW.PrintWords Go.Proofs.YtnodgcakmolleaaGreatDoorW.PrintLast Go.Proofs.YtnodgcakmolleaaGreatDoorW.PrintMore Go.Proofs.YtnodgcakmolleaaGreatDoor.PX Go.Proofs.YtnodgcakmolleaaGreatDoor.XCheck
variable {w0 W : World} {B : Nat} {Rv F v : Value} {s : List Sv} {fuel : Int}
variable {T : World → Prop} {TEXT : ByteArray → Option Sv} {DO : Int → List Sv → Option (Sv × Int)}
theorem arity_nn (o : Int) : 0 ≤ XOps.arityF o := by
 unfold XOps.arityF
 split <;> omega
def tot : List Sv → Int
 | [] => 0
 | y :: l => (y.f2.size : Int) + tot l
def big (y : Sv) : Bool := decide (1000000000000 < y.f2.size)
theorem tot_nonneg : ∀ l : List Sv, 0 ≤ tot l
 | [] => Int.le_refl _
 | y :: l => by have := tot_nonneg l; simp only [tot]; omega
theorem tot_le : ∀ l : List Sv, (∀ y ∈ l, y.f2.size ≤ 1000000000000) → tot l ≤ 1000000000000 * (l.length : Int)
 | [], _ => by simp [tot]
 | y :: l, h => by
  have h1 := tot_le l fun z hz => h z (List.mem_cons_of_mem _ hz)
  have h2 := h y List.mem_cons_self
  simp only [tot, List.length_cons]
  omega
theorem tot_snoc : ∀ (l : List Sv) (y : Sv), tot (l ++ [y]) = tot l + (y.f2.size : Int)
 | [], y => by simp [tot]
 | z :: l, y => by
  have := tot_snoc l y
  simp only [List.cons_append, tot, this]
  omega
def costP (s : List Sv) (o : Int) : Int := 1 + tot (s.drop (s.length - (XOps.arityF o).toNat)) / 64
set_option maxHeartbeats 4000000 in
set_option maxRecDepth 100000 in
theorem cost_calls (h : Mch w0 B Rv F v s fuel W) (hl : s.length ≤ 100000) (o n : Int) (x : ByteArray) (a : Nat) (har : XOps.arityF o = (a : Int)) (ha : a ≤ s.length) (ha3 : a ≤ 3) (hbig : ∀ y ∈ s, y.f2.size ≤ 1000000000000) :
  Calls Tryz.prog 27 #[.pointer (some ⟨B, 0, none⟩), insV o n x] W fun e W' => e = .returned (.int .i64 (costP s o)) ∧ Below W.heap.size W W' := by
 have hcost : costP s o = 1 + tot (s.drop (s.length - a)) / 64 := by unfold costP; rw [har, Int.toNat_natCast]
 rw [hcost]
 clear hcost
 unfold insV
 have hu := Tryz.underlying32
 have hu1 := Tryz.underlying52
 have hu2 := Tryz.underlying27
 obtain ⟨A, c, hv, hlc, hC0⟩ := h.reads
 subst hv
 obtain ⟨l, hld⟩ : ∃ l, s.drop (s.length - a) = l := ⟨_, rfl⟩
 have hll : l.length = a := by rw [← hld, List.length_drop]; omega
 have hlb : ∀ y ∈ l, y.f2.size ≤ 1000000000000 := fun y hy => hbig y (List.mem_of_mem_drop (by rw [hld]; exact hy))
 have htl := tot_le l hlb
 have htn := tot_nonneg l
 have hdr := Kd.C_drop (k := k32) (c := c) (m := s.length - a) (xs := s) hC0 (by omega) hlc
 rw [show (k32).sz = 3 from rfl, hld] at hdr
 rw [hld]
 obtain ⟨m, hm⟩ : ∃ m, s.length = m := ⟨_, rfl⟩
 rw [hm] at hlc hl ha hdr h hld
 obtain ⟨q, hq⟩ : ∃ q, m - a = q := ⟨_, rfl⟩
 rw [hq] at hdr hld
 have hari := XOps.arity_calls o
 rw [har] at hari
 obtain ⟨i0, hi0, _, hsz, _⟩ := info_parts infoV
 have hcut := cut_from (P := Tryz.prog) 27 32 .i64 Tryz.underlying27 hi0 3 hsz A m c (q : Int) (by omega) (by omega)
 simp only [Int.toNat_natCast] at hcut
 rw [show m - q = a by omega] at hcut
 obtain ⟨A', hA'⟩ : ∃ A', (if c = q then A else A.map (fun x => x.add (q * 3))) = A' := ⟨_, rfl⟩
 rw [hA'] at hcut hdr
 have hw : wrap64 ((m : Int) - (a : Int)) = (q : Int) := by unfold wrap64; omega
 have hw2 : IntKind.i64.wrap ((m : Int) - (a : Int)) = (q : Int) := by rw [IntKind.wrap_i64]; omega
 have i0 : (0 : Int) ≤ (q : Int) := by omega
 have i1 : (q : Int) ≤ (m : Int) := by omega
 have hb0 := below_alloc (Below.refl W.heap.size W) (insC o n x)
 have x0 := new_cell W o n x
 have cS := (h.then_ hb0).getS
 unfold insC at hb0 x0 cS
 have Hl := Lib.hid hll
 have Hlb := Lib.hid hlb
 have Htl := Lib.hid htl
 have Htn := Lib.hid htn
 clear h hC0 hld hq hm har hsz hA' hll hlb htl htn hbig
 go_enter Tryz.func27, Tryz.ntmps27
 go_upto_region 2 with fail
 go_region_held3 (fun w' => w'.cell? ⟨B, 0, none⟩ = some (.slice A m c) ∧ w'.cell? ⟨W.heap.size, 0, none⟩ = some (.int .i64 o))
  (first
   | exact ⟨cS, x0⟩
   | (go_split_ands; exact ⟨cell_keep0 hb2 (by assumption), cell_keep0 hb2 (by assumption)⟩)
   | go_keep)
  ((first
   | (go_at_call 40; refine (hari _).mono ?_; rintro e W2 ⟨rfl, hb2⟩)))
 have b02 := below_then (below_drew1 hb0) (below_drew1 hb0).size hb2
 have hd2 := Kd.C_below hdr b02
 clear hb2 hb0 cS x0 hari hdr
 go_wp2_with fail
 go_loopw [5, 23] (fun t i wr => ∃ k : Nat, k ≤ a ∧ i = .int .i64 k ∧ t = .int .i64 (tot (l.take k)) ∧ Below W2.heap.size W2 wr) (fun _ i _ => a - (intOf i).toNat)
 case atStart => exact ⟨0, Nat.zero_le _, rfl, rfl, Below.refl _ _⟩
 case round =>
  obtain ⟨k, hk, rfl, rfl, hbr⟩ := hrel
  have ht0 := tot_nonneg (l.take k)
  have ht1 := tot_le (l.take k) fun y hy => Hlb.out y (List.mem_of_mem_take hy)
  have ht2 : (l.take k).length ≤ 3 := by have := List.length_take_le k l; omega
  have ht3 : tot (l.take k) ≤ 3000000000000 := by omega
  clear ht1 ht2
  by_cases hlt : k < a
  ·have hi1 : (k : Int) < (a : Int) := by omega
   have hwk : wrap64 ((k : Int) + 1) = (k : Int) + 1 := by unfold wrap64; omega
   obtain ⟨ad, rfl, h0, h1, h2⟩ := at_T32 (Kd.C_below hd2 hbr) (k : Int) (by omega) (by rw [Hl.out]; omega)
   rw [Int.toNat_natCast] at h0 h1 h2
   have hkl : k < l.length := by rw [Hl.out]; exact hlt
   obtain ⟨y, hy⟩ : ∃ y, rd_T32 l (k : Int) = y := ⟨_, rfl⟩
   rw [hy] at h0 h1 h2
   have hyl : y = l[k] := by
    rw [← hy]
    unfold rd_T32
    rw [Int.toNat_natCast, List.getD_eq_getElem?_getD, List.getElem?_eq_getElem hkl]
    rfl
   have hys : y.f2.size ≤ 1000000000000 := by rw [hyl]; exact Hlb.out _ (List.getElem_mem hkl)
   have htk : tot (l.take (k + 1)) = tot (l.take k) + (y.f2.size : Int) := by rw [List.take_succ_eq_append_getElem hkl, tot_snoc, hyl]
   have Htk := Lib.hid htk
   have hws : wrap64 (tot (l.take k) + (y.f2.size : Int)) = tot (l.take k) + (y.f2.size : Int) := by unfold wrap64; omega
   clear hy hyl htk hkl
   go_wp2
   refine ⟨⟨k + 1, by omega, by go_num, by rw [Htk.out], below_alloc hbr _⟩, by simp [intOf]; omega⟩
  ·obtain rfl : k = a := by omega
   have hi1 : ¬ ((k : Int) < (k : Int)) := by omega
   have e : l.take k = l := List.take_of_length_le (by rw [Hl.out]; exact Nat.le_refl _)
   rw [e] at ht0 ht3 ⊢
   have hws : wrap64 (1 + tot l / 64) = 1 + tot l / 64 := by unfold wrap64; omega
   clear e
   go_wp2
   go_ret
   exact ⟨rfl, below_then b02 b02.size hbr⟩
def mth (o : Int) : Nat := if o = 0 then 41 else if o = 1 then 42 else if o = 2 then 43 else if o = 3 then 44 else if o = 22 ∨ o = 23 then 45 else 46
theorem mth_fn (o : Int) : ∃ fn, Tryz.prog.funcs[mth o]? = some fn ∧ (fn.name == "runtime.NumGoroutine") = false ∧ fn.body.isSome = true := by
 unfold mth
 by_cases c0 : o = 0
 ·rw [if_pos c0]; exact ⟨_, Tryz.func41, by kernel_rfl, by kernel_rfl⟩
 rw [if_neg c0]
 by_cases c1 : o = 1
 ·rw [if_pos c1]; exact ⟨_, Tryz.func42, by kernel_rfl, by kernel_rfl⟩
 rw [if_neg c1]
 by_cases c2 : o = 2
 ·rw [if_pos c2]; exact ⟨_, Tryz.func43, by kernel_rfl, by kernel_rfl⟩
 rw [if_neg c2]
 by_cases c3 : o = 3
 ·rw [if_pos c3]; exact ⟨_, Tryz.func44, by kernel_rfl, by kernel_rfl⟩
 rw [if_neg c3]
 by_cases c4 : o = 22 ∨ o = 23
 ·rw [if_pos c4]; exact ⟨_, Tryz.func45, by kernel_rfl, by kernel_rfl⟩
 rw [if_neg c4]
 exact ⟨_, Tryz.func46, by kernel_rfl, by kernel_rfl⟩
set_option maxHeartbeats 4000000 in
set_option maxRecDepth 100000 in
theorem does_calls (B : Nat) (o : Int) (W : World) : Calls Tryz.prog 28 #[.pointer (some ⟨B, 0, none⟩), .int .i64 o] W fun e W' => e = .returned (.func (.func (mth o)) #[.pointer (some ⟨B, 0, none⟩)] #[]) ∧ W' = W := by
 unfold mth
 by_cases c0 : o = 0
 ·subst c0
  go_enter Tryz.func28, Tryz.ntmps28
  go_wp2
  go_ret
  exact ⟨rfl, rfl⟩
 by_cases c1 : o = 1
 ·subst c1
  go_enter Tryz.func28, Tryz.ntmps28
  go_wp2
  go_ret
  exact ⟨rfl, rfl⟩
 by_cases c2 : o = 2
 ·subst c2
  go_enter Tryz.func28, Tryz.ntmps28
  go_wp2
  go_ret
  exact ⟨rfl, rfl⟩
 by_cases c3 : o = 3
 ·subst c3
  go_enter Tryz.func28, Tryz.ntmps28
  go_wp2
  go_ret
  exact ⟨rfl, rfl⟩
 by_cases c4 : o = 22
 ·subst c4
  go_enter Tryz.func28, Tryz.ntmps28
  go_wp2
  go_ret
  exact ⟨rfl, rfl⟩
 by_cases c5 : o = 23
 ·subst c5
  go_enter Tryz.func28, Tryz.ntmps28
  go_wp2
  go_ret
  exact ⟨rfl, rfl⟩
 rw [if_neg c0, if_neg c1, if_neg c2, if_neg c3, if_neg (by omega)]
 have b0 : (o == 0) = false := by simp [c0]
 have b1 : (o == 1) = false := by simp [c1]
 have b2 : (o == 2) = false := by simp [c2]
 have b3 : (o == 3) = false := by simp [c3]
 have b4 : (o == 22) = false := by simp [c4]
 have b5 : (o == 23) = false := by simp [c5]
 clear c0 c1 c2 c3 c4 c5
 go_enter Tryz.func28, Tryz.ntmps28
 go_wp2
 go_ret
 exact ⟨rfl, rfl⟩
def pickP (TEXT : ByteArray → Option Sv) (DO : Int → List Sv → Option (Sv × Int)) (r : List ByteArray) (fold s : List Sv) (x : Ins) : Option Sv :=
 if x.f0 = 0 then some (numS x.f1) else if x.f0 = 1 then TEXT x.f2
 else if x.f0 = 2 then (if (r.length : Int) ≤ x.f1 then TEXT ⟨#[]⟩ else if 0 ≤ x.f1 then TEXT (r.getD x.f1.toNat ByteArray.empty) else none)
 else if x.f0 = 3 then some (numS (r.length : Int))
 else if x.f0 = 22 ∨ x.f0 = 23 then (if fold.length = 2 then some (fold.getD (x.f0 - 22).toNat XOps.zv) else none)
 else (DO x.f0 (s.drop (s.length - (XOps.arityF x.f0).toNat))).map (·.1)
theorem step_calls (E : Env T TEXT DO) {Ar Af : Option Addr} {rc cf : Nat} {r : List ByteArray} {fold : List Sv} (h : Mch w0 B (.slice Ar r.length rc) (.slice Af fold.length cf) v s fuel W) (hR : Kd.C Kd.string w0 Ar r.length r) (hF : Kd.C k32 w0 Af fold.length fold) (hT : T w0) (hl : s.length ≤ 100000) (x : Ins) (a : Nat) (har : XOps.arityF x.f0 = (a : Int)) (ha : a ≤ s.length) (y : Sv) (hp : pickP TEXT DO r fold s x = some y) :
  Calls Tryz.prog (mth x.f0) #[.pointer (some ⟨B, 0, none⟩), insV x.f0 x.f1 x.f2] W fun e W' => ∃ A c, v = .slice A s.length c ∧ e = .returned (XOps.enV y) ∧ Mch w0 B (.slice Ar r.length rc) (.slice Af fold.length cf) (.slice A (s.length - a) c) (s.take (s.length - a)) fuel W' ∧ Fr B W W' := by
 have hTW := E.tb _ _ hT h.below
 have quiet : ∀ {f : Nat}, a = 0 → (Calls Tryz.prog f #[.pointer (some ⟨B, 0, none⟩), insV x.f0 x.f1 x.f2] W fun e W' => e = .returned (XOps.enV y) ∧ Below W.heap.size W W') →
   Calls Tryz.prog f #[.pointer (some ⟨B, 0, none⟩), insV x.f0 x.f1 x.f2] W fun e W' => ∃ A c, v = .slice A s.length c ∧ e = .returned (XOps.enV y) ∧ Mch w0 B (.slice Ar r.length rc) (.slice Af fold.length cf) (.slice A (s.length - a) c) (s.take (s.length - a)) fuel W' ∧ Fr B W W' := fun {f} h0 hc => by
  obtain ⟨A, c, hv, _, _⟩ := h.reads
  refine hc.mono fun e W' he => ⟨A, c, hv, he.1, ?_, Fr.below he.2⟩
  have := h.then_ he.2
  rw [h0, Nat.sub_zero, List.take_length, ← hv]
  exact this
 unfold pickP at hp
 by_cases c0 : x.f0 = 0
 ·rw [if_pos c0] at hp
  obtain rfl := Option.some.inj hp
  rw [show mth x.f0 = 41 by unfold mth; rw [if_pos c0]]
  refine quiet (by rw [c0] at har; have : XOps.arityF 0 = 0 := rfl; omega) (num_calls E _ _ _ W hTW)
 rw [if_neg c0] at hp
 by_cases c1 : x.f0 = 1
 ·rw [if_pos c1] at hp
  rw [show mth x.f0 = 42 by unfold mth; rw [if_neg c0, if_pos c1]]
  refine quiet (by rw [c1] at har; have : XOps.arityF 1 = 0 := rfl; omega) (text_calls E _ _ _ y hp W hTW)
 rw [if_neg c1] at hp
 by_cases c2 : x.f0 = 2
 ·rw [if_pos c2] at hp
  rw [show mth x.f0 = 43 by unfold mth; rw [if_neg c0, if_neg c1, if_pos c2]]
  refine quiet (by rw [c2] at har; have : XOps.arityF 2 = 0 := rfl; omega) ?_
  by_cases c3 : (r.length : Int) ≤ x.f1
  ·rw [if_pos c3] at hp
   exact field_far E h hT _ _ _ y c3 hp
  ·rw [if_neg c3] at hp
   by_cases c4 : 0 ≤ x.f1
   ·rw [if_pos c4] at hp
    have := field_in E h hR hT x.f0 x.f1.toNat x.f2 y (by omega) hp
    rw [show ((x.f1.toNat : Nat) : Int) = x.f1 by omega] at this
    exact this
   ·rw [if_neg c4] at hp; cases hp
 rw [if_neg c2] at hp
 by_cases c3 : x.f0 = 3
 ·rw [if_pos c3] at hp
  obtain rfl := Option.some.inj hp
  rw [show mth x.f0 = 44 by unfold mth; rw [if_neg c0, if_neg c1, if_neg c2, if_pos c3]]
  exact quiet (by rw [c3] at har; have : XOps.arityF 3 = 0 := rfl; omega) (count_calls E h hT _ _ _)
 rw [if_neg c3] at hp
 by_cases c4 : x.f0 = 22 ∨ x.f0 = 23
 ·rw [if_pos c4] at hp
  rw [show mth x.f0 = 45 by unfold mth; rw [if_neg c0, if_neg c1, if_neg c2, if_neg c3, if_pos c4]]
  by_cases c5 : fold.length = 2
  ·rw [if_pos c5] at hp
   have := Option.some.inj hp
   refine quiet ?_ (given_calls E h hF x.f0 x.f1 x.f2 (x.f0 - 22).toNat (by omega) (by omega) (by omega) y this)
   rcases c4 with c4 | c4
   ·rw [c4] at har; have : XOps.arityF 22 = 0 := rfl; omega
   ·rw [c4] at har; have : XOps.arityF 23 = 0 := rfl; omega
  ·rw [if_neg c5] at hp; cases hp
 rw [if_neg c4] at hp
 rw [show mth x.f0 = 46 by unfold mth; rw [if_neg c0, if_neg c1, if_neg c2, if_neg c3, if_neg c4]]
 rw [har, Int.toNat_natCast] at hp
 obtain ⟨⟨y', er⟩, hd, rfl⟩ := Option.map_eq_some_iff.1 hp
 exact done_calls E h hT hl x.f0 x.f1 x.f2 a har ha y' er hd
end Go.Proofs.YtnodgcakmolleaaGreatDoor.XEval
