/- eval: how a program runs, in the document's answer. -/
import Derived.Test.YtnodgcakmolleaaGreatDoorProg
import Derived.Test.YtnodgcakmolleaaGreatDoorXEvalLoop
import Derived.Deep.Cut
import Derived.Deep.CutBlock
set_option linter.unusedVariables false
set_option linter.unusedSimpArgs false
namespace Go.Proofs.YtnodgcakmolleaaGreatDoor.XEval
open Go.RowKit Go.Proofs Go.Proofs.YtnodgcakmolleaaGreatDoorW.PrintWords Go.Proofs.YtnodgcakmolleaaGreatDoorW.PrintLast Go.Proofs.YtnodgcakmolleaaGreatDoorW.PrintMore Go.Proofs.YtnodgcakmolleaaGreatDoor.PX Go.Proofs.YtnodgcakmolleaaGreatDoor.XCheck
structure EnvR (T : World → Prop) (TEXT : ByteArray → Option Sv) (DO : Int → List Sv → Option (Sv × Int)) (ops : Int → Prop) : Prop where
 tb : ∀ w w', T w → Below w.heap.size w w' → T w'
 ar : ∀ (o : Int) (w : World), T w → ops o → Calls Tryz.prog 30 #[.int .i64 o] w fun e w' => e = .returned (.int .i64 (XOps.arityF o)) ∧ Below w.heap.size w w'
 num : ∀ (n : Int) (w : World), T w → Calls Tryz.prog 31 #[.int .i64 n] w fun e w' => e = .returned (XOps.enV (numS n)) ∧ Below w.heap.size w w'
 text : ∀ (x : ByteArray) (y : Sv) (w : World), T w → TEXT x = some y → Calls Tryz.prog 32 #[.string x] w fun e w' => e = .returned (XOps.enV y) ∧ Below w.heap.size w w'
 do_ : ∀ (o : Int) (l : List Sv) (y : Sv) (er : Int) (A : Option Addr) (c : Nat) (w : World), T w → Kd.C k32 w A l.length l → l.length ≤ c → DO o l = some (y, er) → Calls Tryz.prog 33 #[.int .i64 o, .slice A l.length c] w fun e w' => e = .returned (.tuple #[XOps.enV y, .int .i64 er]) ∧ Below w.heap.size w w'
variable {w0 W : World} {B : Nat} {s : List Sv} {fuel : Int}
variable {T : World → Prop} {TEXT : ByteArray → Option Sv} {DO : Int → List Sv → Option (Sv × Int)} {ops : Int → Prop}
theorem R_empty (W : World) : Kd.R k32 32 (W.alloc (.cells #[] 32)) W.heap.size (fun _ => True) (.slice (some ⟨W.heap.size, 0, none⟩) 0 0) [] :=
 ⟨fun _ _ => trivial, OwnRow.lit (ps := ([] : List Sv)) (inner := []) W W.heap.size ⟨rfl, fun j p h => by simp at h⟩ (Nat.le_refl _) (by simp)⟩
theorem KM_val {W : World} {base : Nat} (x : Sv) (cs : List Value) (h : (k32).K W x cs) : (k32).M W base (fun _ => False) x cs := h
set_option maxHeartbeats 8000000 in
set_option maxRecDepth 100000 in
theorem rrun_calls (E : EnvR T TEXT DO ops) {Ar Af : Option Addr} {rc cf : Nat} {r : List ByteArray} {fold : List Sv} (hR : Kd.C Kd.string w0 Ar r.length r) (hF : Kd.C k32 w0 Af fold.length fold) (hT : T w0)
  (A : Option Addr) (c : Nat) (p : List Ins) (hp : Kd.C k44 w0 A p.length p) (hops : ∀ x ∈ p, ops x.f0 ∧ x.f0 ≤ 23) (hpl : p.length ≤ 10000) (hfu : fuel ≤ 9223372036854775807) {s' : List Sv} {u' er : Int} (hrun : runE TEXT DO r fold p [] fuel = some (s', u', er)) :
  Calls Tryz.prog 20 #[.slice A p.length c, .slice Ar r.length rc, .slice Af fold.length cf, .int .i64 fuel] w0 fun e W' => ∃ v', e = .returned (.tuple #[v', .int .i64 (if er = 0 then u' else 0), .bool (er == 0)]) ∧ Kd.R k32 32 W' w0.heap.size (fun _ => True) v' (if er = 0 then s' else []) ∧ Below w0.heap.size w0 W' := by
 have hu := Tryz.underlying32
 have hu0 := Tryz.underlying44
 have hu2 := Tryz.underlying27
 have hu3 := Tryz.underlying24
 obtain ⟨n, hn⟩ : ∃ n, p.length = n := ⟨_, rfl⟩
 rw [hn] at hp hpl ⊢
 have Hn := Lib.hid hn
 have Hrun := Lib.hid hrun
 have Hops := Lib.hid hops
 have Hfu := Lib.hid hfu
 obtain ⟨rn, hrn⟩ : ∃ rn, r.length = rn := ⟨_, rfl⟩
 obtain ⟨fn_, hfn_⟩ : ∃ fn_, fold.length = fn_ := ⟨_, rfl⟩
 rw [hrn] at hR ⊢
 rw [hfn_] at hF ⊢
 have Hrn := Lib.hid hrn
 have Hfn := Lib.hid hfn_
 clear hn hrun hrn hfn_ hfu hops
 go_enter Tryz.func20, Tryz.ntmps20
 go_wp2
 go_loopw [3, 11, 12] (fun f sl i wr => ∃ (k : Nat) (s : List Sv) (u : Int), k ≤ n ∧ i = .int .i64 k ∧ f = .int .i64 u ∧ s.length ≤ k ∧ u ≤ 9223372036854775807 ∧ Kd.R k32 32 wr w0.heap.size (fun _ => True) sl s ∧ Below w0.heap.size w0 wr ∧ runE TEXT DO r fold (p.drop k) s u = some (s', u', er)) (fun _ _ i _ => n - (intOf i).toNat)
 case atStart => exact ⟨0, [], fuel, Nat.zero_le _, rfl, rfl, Nat.le_refl _, Hfu.out, R_empty w0, below_alloc (Below.refl _ _) _, Hrun.out⟩
 case round =>
  obtain ⟨k, s, u, hk, rfl, rfl, hsl, hu64, hst, hbw, hrun⟩ := hrel
  clear Hrun Hfu
  obtain ⟨A2, cv, rfl, hsc, hC0⟩ := Kd.R_reads hst
  by_cases hlt : k < n
  ·have hi1 : (k : Int) < (n : Int) := by omega
   have hwk : wrap64 ((k : Int) + 1) = (k : Int) + 1 := by unfold wrap64; omega
   obtain ⟨ad, rfl, h0, h1, h2⟩ := at_T44 (Kd.C_below hp hbw) (k : Int) (by omega) (by omega)
   rw [Int.toNat_natCast] at h0 h1 h2
   obtain ⟨x, hx⟩ : ∃ x, x = rd_T44 p (k : Int) := ⟨_, rfl⟩
   rw [← hx] at h0 h1 h2
   have hk' : k < p.length := by rw [Hn.out]; exact hlt
   have hxp : x = p[k] := by
    rw [hx]
    unfold rd_T44
    rw [Int.toNat_natCast, List.getD_eq_getElem?_getD, List.getElem?_eq_getElem hk']
    rfl
   have hpd : p.drop k = x :: p.drop (k + 1) := by rw [List.drop_eq_getElem_cons hk', hxp]
   obtain ⟨hop, hop23⟩ := Hops.out x (by rw [hxp]; exact List.getElem_mem hk')
   rw [hpd] at hrun
   unfold runE at hrun
   by_cases c1 : (s.length : Int) < XOps.arityF x.f0 ∨ s.any big = true
   ·rw [if_pos c1] at hrun; cases hrun
   rw [if_neg c1] at hrun
   obtain ⟨a, har⟩ : ∃ a : Nat, XOps.arityF x.f0 = (a : Int) := ⟨(XOps.arityF x.f0).toNat, by have := XEval.arity_nn x.f0; omega⟩
   have ha : a ≤ s.length := by omega
   have ha3 : a ≤ 3 := by have := arity_le x.f0; omega
   have hbig : ∀ y ∈ s, y.f2.size ≤ 1000000000000 := fun y hy => by
    by_cases c : y.f2.size ≤ 1000000000000
    ·exact c
    ·exact absurd (.inr (List.any_eq_true.2 ⟨y, hy, decide_eq_true (by omega)⟩)) c1
   obtain ⟨l, hld⟩ : ∃ l, s.drop (s.length - a) = l := ⟨_, rfl⟩
   have hll : l.length = a := by rw [← hld, List.length_drop]; omega
   have hlb : ∀ y ∈ l, y.f2.size ≤ 1000000000000 := fun y hy => hbig y (List.mem_of_mem_drop (by rw [hld]; exact hy))
   have htl := tot_le l hlb
   have htn := tot_nonneg l
   have hco : costP s x.f0 = tot l / 64 + 1 := by unfold costP; rw [har, Int.toNat_natCast, hld]; omega
   rw [hco, har, Int.toNat_natCast] at hrun
   have hdr := Kd.C_drop (k := k32) (c := cv) (m := s.length - a) (xs := s) hC0 (by omega) hsc
   rw [show (k32).sz = 3 from rfl, hld] at hdr
   obtain ⟨q, hq⟩ : ∃ q, s.length - a = q := ⟨_, rfl⟩
   rw [hq] at hdr hrun
   obtain ⟨i0, hi0, _, hsz, _⟩ := info_parts infoV
   have hcutA := cut_from (P := Tryz.prog) 27 32 .i64 Tryz.underlying27 hi0 3 hsz A2 s.length cv (q : Int) (by omega) (by omega)
   simp only [Int.toNat_natCast] at hcutA
   rw [show s.length - q = a by omega] at hcutA
   obtain ⟨A', hA'⟩ : ∃ A', (if cv = q then A2 else A2.map (fun x => x.add (q * 3))) = A' := ⟨_, rfl⟩
   rw [hA'] at hcutA hdr
   have hcutB := cut_to (P := Tryz.prog) 27 32 .i64 Tryz.underlying27 hi0 A2 s.length cv (q : Int) (by omega) (by omega) hsc
   simp only [Int.toNat_natCast] at hcutB
   have hw : wrap64 ((s.length : Int) - (a : Int)) = (q : Int) := by unfold wrap64; omega
   have hw2 : IntKind.i64.wrap ((s.length : Int) - (a : Int)) = (q : Int) := by rw [IntKind.wrap_i64]; omega
   have j0 : (0 : Int) ≤ (q : Int) := by omega
   have j1 : (q : Int) ≤ (s.length : Int) := by omega
   have hws : wrap64 (tot l / 64 + 1) = tot l / 64 + 1 := by unfold wrap64; omega
   have hqs : q ≤ s.length := by omega
   have hqk : q ≤ 10000 := by omega
   have hal := below_alloc (Below.refl wr.heap.size wr) (insC x.f0 x.f1 x.f2)
   have hTr := E.tb _ _ hT (below_then hbw hbw.size hal)
   have hari := fun w hw => E.ar x.f0 w hw hop
   rw [har] at hari
   have hxb := fun W1 => x_below (W := wr) (W1 := W1) x
   unfold insC at hxb hal hTr
   have HC0 := Lib.hid hC0
   have Hst := Lib.hid hst
   have Hbw := Lib.hid hbw
   have hal_ := Lib.hid hal
   have Hrun := Lib.hid hrun
   have Hlb := Lib.hid hlb
   have Hll := Lib.hid hll
   have Hld := Lib.hid hld
   have Hq := Lib.hid hq
   have Har := Lib.hid har
   have Hdr := Lib.hid hdr
   have Htn := Lib.hid htn
   have Htl := Lib.hid htl
   obtain ⟨m, hm⟩ : ∃ m, s.length = m := ⟨_, rfl⟩
   have Hm := Lib.hid hm
   have Hsl := Lib.hid hsl
   have Hqs := Lib.hid hqs
   rw [hm] at hcutA hcutB hw hw2 j1 hsc hqs ha ⊢
   clear hst hbw hal hrun hlb hll hld hq hdr hx hxp hpd hC0 c1 hbig hco har hA' hm hsl htl htn
   go_upto_block 2 with (go_at_call 30; refine (hari _ hTr).mono ?_; rintro e W1 ⟨rfl, hb1⟩; obtain ⟨q0, q1, q2⟩ := hxb _ hb1)
   have b01 := below_then hal_.out hal_.out.size hb1
   have hd1 := Kd.C_below Hdr.out b01
   go_cut [16, 17] (fun s16 s17 wx => s16 = .int .i64 (tot l) ∧ wx = W1)
   case first =>
    clear Hrun hari hp Hn Hops Hst Hrn Hfn hcutB hcutA h0 h1 h2 q0 q1 q2 hxb hal_ Hbw hi1 hwk hlt hws j0 j1 hw hw2 Hq Hm Hsl Hqs Hdr Htn Htl
    go_wp2_with fail
    go_loop [16, 17] (fun t j => ∃ i : Nat, i ≤ a ∧ j = .int .i64 i ∧ t = .int .i64 (tot (l.take i))) (fun _ j => a - (intOf j).toNat)
    case atStart => exact ⟨0, Nat.zero_le _, rfl, rfl⟩
    case round =>
     obtain ⟨i, hi, rfl, rfl⟩ := hrel
     have ht0 := tot_nonneg (l.take i)
     have ht1 := tot_le (l.take i) fun y hy => Hlb.out y (List.mem_of_mem_take hy)
     have ht2 : (l.take i).length ≤ 3 := by have := List.length_take_le i l; omega
     have ht3 : tot (l.take i) ≤ 3000000000000 := by omega
     clear ht1 ht2
     by_cases hlt2 : i < a
     ·have hi2 : (i : Int) < (a : Int) := by omega
      obtain ⟨ad2, rfl, g0, g1, g2⟩ := at_T32 hd1 (i : Int) (by omega) (by rw [Hll.out]; omega)
      rw [Int.toNat_natCast] at g0 g1 g2
      have hkl : i < l.length := by rw [Hll.out]; exact hlt2
      obtain ⟨y, hy⟩ : ∃ y, rd_T32 l (i : Int) = y := ⟨_, rfl⟩
      rw [hy] at g0 g1 g2
      have hab : (ad2.add (i * 3)).block = ad2.block := by unfold Addr.add; split <;> rfl
      have g2' := g2
      rw [hab] at g2'
      have hyl : y = l[i] := by
       rw [← hy]
       unfold rd_T32
       rw [Int.toNat_natCast, List.getD_eq_getElem?_getD, List.getElem?_eq_getElem hkl]
       rfl
      have hys : y.f2.size ≤ 1000000000000 := by rw [hyl]; exact Hlb.out _ (List.getElem_mem hkl)
      have htk : tot (l.take (i + 1)) = tot (l.take i) + (y.f2.size : Int) := by rw [List.take_succ_eq_append_getElem hkl, tot_snoc, hyl]
      have Htk := Lib.hid htk
      have hys2 : (y.f2.size : Int) ≤ 1000000000000 := by omega
      have hys3 : (0 : Int) ≤ (y.f2.size : Int) := by omega
      clear hy hyl htk hkl hab
      go_wp2
      refine ⟨⟨i + 1, by omega, by go_num, by rw [Htk.out]⟩, by simp [intOf]; omega⟩
     ·obtain rfl : i = a := by omega
      have hi2 : ¬ ((i : Int) < (i : Int)) := by omega
      have e : l.take i = l := List.take_of_length_le (by rw [Hll.out]; exact Nat.le_refl _)
      rw [e]
      clear e hlt2
      go_wp2
      go_meet
      exact ⟨rfl, rfl⟩
   obtain ⟨rfl, rfl⟩ := hcut
   have ht0 := Htn.out
   have ht3 : tot l ≤ 3000000000000 := by have := Htl.out; have := Hll.out; omega
   have hco1 : 1 ≤ tot l / 64 + 1 := by omega
   by_cases c2 : tot l / 64 + 1 > u
   ·have hd2 : decide (tot l / 64 + 1 > u) = true := decide_eq_true c2
    have hr2 := Hrun.out
    rw [if_pos c2] at hr2
    simp only [Option.some.injEq, Prod.mk.injEq] at hr2
    obtain ⟨rfl, rfl, rfl⟩ := hr2
    clear Hrun
    go_wp2
    go_ret3
    exact ⟨_, rfl, Kd.R_nil _ _ _ _ _, below_then Hbw.out Hbw.out.size b01⟩
   ·have hd2 : decide (tot l / 64 + 1 > u) = false := decide_eq_false c2
    have hr2 := Hrun.out
    rw [if_neg c2] at hr2
    obtain ⟨y, hy, hr3⟩ := Option.bind_eq_some_iff.1 hr2
    have hwu : wrap64 (u - (tot l / 64 + 1)) = u - (tot l / 64 + 1) := by unfold wrap64; omega
    have Hr3 := Lib.hid hr3
    have Hy := Lib.hid hy
    have hb12 := below_alloc (Below.refl wc.heap.size wc) (.cells #[.bool false, .int .i64 0, .string (⟨#[]⟩ : ByteArray)] 32)
    have z2 := heap_alloc_new wc (.cells #[.bool false, .int .i64 0, .string (⟨#[]⟩ : ByteArray)] 32)
    have p0 := cell_keep0 hb12 q0
    have p1 := cell_keep0 hb12 q1
    have p2 := cell_keep0 hb12 q2
    have b02 := below_then Hbw.out Hbw.out.size b01
    have hT2 := E.tb _ _ hT (below_then b02 b02.size hb12)
    clear hr2 hr3 hy q0 q1 q2 hari Hrun
    go_upto_block 4 with fail
    generalize hW2 : wc.alloc (.cells #[.bool false, .int .i64 0, .string (⟨#[]⟩ : ByteArray)] 32) = W2 at *
    obtain ⟨Wd, hWd⟩ : ∃ Wd, Wd = wc := ⟨_, rfl⟩
    subst hWd
    go_cut [] (fun wx => wx.heap[Wd.heap.size]? = some (.cells #[.bool y.f0, .int .i64 y.f1, .string y.f2] 32 (0, 0)) ∧ Below Wd.heap.size Wd wx)
    case first =>
     have hy := Hy.out
     unfold pickP at hy
     have b2W := below_then b02 b02.size hb12
     have hRW := Kd.C_below hR b2W
     have hFW := Kd.C_below hF b2W
     have hdW := Kd.C_below Hdr.out (below_then b01 b01.size hb12)
     have hcl : l.length ≤ cv - q := by have := Hll.out; have := Hq.out; have := Hm.out; omega
     have HdW := Lib.hid hdW
     have Hcl := Lib.hid hcl
     clear hws hwu hw hw2 hwk hcutA hcutB hTr h0 h1 h2 hi1 hdW hcl hd1 j0 j1 hco1 ht0 ht3 hd2 hb1 c2 Hr3
     have close : ∀ W3 : World, Below Wd.heap.size Wd W3 → ∀ hr : W3.heap[Wd.heap.size]? = some (.cells #[.bool false, .int .i64 0, .string (⟨#[]⟩ : ByteArray)] 32 (0, 0)),
       (((W3.setCell ⟨Wd.heap.size, 0, none⟩ (.bool y.f0)).setCell ⟨Wd.heap.size, 1, none⟩ (.int .i64 y.f1)).setCell ⟨Wd.heap.size, 2, none⟩ (.string y.f2)).heap[Wd.heap.size]? = some (.cells #[.bool y.f0, .int .i64 y.f1, .string y.f2] 32 (0, 0)) ∧ Below Wd.heap.size Wd (((W3.setCell ⟨Wd.heap.size, 0, none⟩ (.bool y.f0)).setCell ⟨Wd.heap.size, 1, none⟩ (.int .i64 y.f1)).setCell ⟨Wd.heap.size, 2, none⟩ (.string y.f2)) := fun W3 hb hr =>
      ⟨blk_set (blk_set (blk_set hr 0 _) 1 _) 2 _, below_set (below_set (below_set hb (Nat.le_refl _)) (Nat.le_refl _)) (Nat.le_refl _)⟩
     by_cases c0 : x.f0 = 0
     ·rw [if_pos c0] at hy
      obtain rfl := Option.some.inj hy
      rw [c0] at p0
      have hN := E.num x.f1 W2 hT2
      unfold XOps.enV numS at hN
      clear hRW hFW hR hF
      go_wp2_with (go_at_call 31; refine hN.mono ?_; rintro e W3 ⟨rfl, hb3⟩; have HB3 := below_then hb12 hb12.size hb3; have hr := (hb3.block _ (blk_lt z2)).trans z2; have c0' := (blk_cell hr 0).trans rfl; have c1' := (blk_cell hr 1).trans rfl; have c2' := (blk_cell hr 2).trans rfl; have f0 := blk_frozen hr 0; have f1 := blk_frozen hr 1; have f2 := blk_frozen hr 2)
      go_meet
      exact close W3 HB3 hr
     rw [if_neg c0] at hy
     have b0 : (x.f0 == 0) = false := by simp [c0]
     by_cases c1 : x.f0 = 1
     ·rw [if_pos c1] at hy
      rw [c1] at p0
      have hN := E.text x.f2 y W2 hT2 hy
      unfold XOps.enV at hN
      clear hRW hFW hR hF b0
      go_wp2_with (go_at_call 32; refine hN.mono ?_; rintro e W3 ⟨rfl, hb3⟩; have HB3 := below_then hb12 hb12.size hb3; have hr := (hb3.block _ (blk_lt z2)).trans z2; have c0' := (blk_cell hr 0).trans rfl; have c1' := (blk_cell hr 1).trans rfl; have c2' := (blk_cell hr 2).trans rfl; have f0 := blk_frozen hr 0; have f1 := blk_frozen hr 1; have f2 := blk_frozen hr 2)
      go_meet
      exact close W3 HB3 hr
     rw [if_neg c1] at hy
     have b1 : (x.f0 == 1) = false := by simp [c1]
     by_cases c2 : x.f0 = 2
     ·rw [if_pos c2] at hy
      rw [c2] at p0
      rw [Hrn.out] at hy
      by_cases c3 : (rn : Int) ≤ x.f1
      ·rw [if_pos c3] at hy
       have hN := E.text _ y W2 hT2 hy
       unfold XOps.enV at hN
       have hd : decide (x.f1 < (rn : Int)) = false := decide_eq_false (by omega)
       have hd' : ¬ x.f1 < (rn : Int) := by omega
       clear hRW hFW hR hF b0 b1
       go_wp2_with (go_at_call 32; refine hN.mono ?_; rintro e W3 ⟨rfl, hb3⟩; have HB3 := below_then hb12 hb12.size hb3; have hr := (hb3.block _ (blk_lt z2)).trans z2; have c0' := (blk_cell hr 0).trans rfl; have c1' := (blk_cell hr 1).trans rfl; have c2' := (blk_cell hr 2).trans rfl; have f0 := blk_frozen hr 0; have f1 := blk_frozen hr 1; have f2 := blk_frozen hr 2)
       go_meet
       exact close W3 HB3 hr
      ·rw [if_neg c3] at hy
       by_cases c4 : 0 ≤ x.f1
       ·rw [if_pos c4] at hy
        obtain ⟨z, hz⟩ : ∃ z : Nat, x.f1 = (z : Int) := ⟨x.f1.toNat, by omega⟩
        rw [hz] at hy p1 c3
        rw [Int.toNat_natCast] at hy
        obtain ⟨ad3, rfl, hc3⟩ := Kd.at_string hRW (z : Int) (by omega) (by omega)
        rw [Int.toNat_natCast] at hc3
        rw [show rdOf ByteArray.empty r (z : Int) = r.getD z ByteArray.empty by unfold rdOf; rw [Int.toNat_natCast]] at hc3
        have hN := E.text _ y W2 hT2 hy
        unfold XOps.enV at hN
        have hi4 : (z : Int) < (rn : Int) := by omega
        have hi5 : (0 : Int) ≤ (z : Int) := by omega
        have hd : decide ((z : Int) < (rn : Int)) = true := decide_eq_true hi4
        generalize r.getD z ByteArray.empty = rz at *
        clear hRW hFW hR hF b0 b1 c3 c4 hz
        go_wp2_with (go_at_call 32; refine hN.mono ?_; rintro e W3 ⟨rfl, hb3⟩; have HB3 := below_then hb12 hb12.size hb3; have hr := (hb3.block _ (blk_lt z2)).trans z2; have c0' := (blk_cell hr 0).trans rfl; have c1' := (blk_cell hr 1).trans rfl; have c2' := (blk_cell hr 2).trans rfl; have f0 := blk_frozen hr 0; have f1 := blk_frozen hr 1; have f2 := blk_frozen hr 2)
        go_meet
        exact close W3 HB3 hr
       ·rw [if_neg c4] at hy; cases hy
     rw [if_neg c2] at hy
     have b2 : (x.f0 == 2) = false := by simp [c2]
     by_cases c3 : x.f0 = 3
     ·rw [if_pos c3] at hy
      rw [Hrn.out] at hy
      obtain rfl := Option.some.inj hy
      rw [c3] at p0
      have hN := E.num (rn : Int) W2 hT2
      unfold XOps.enV numS at hN
      clear hRW hFW hR hF b0 b1 b2
      go_wp2_with (go_at_call 31; refine hN.mono ?_; rintro e W3 ⟨rfl, hb3⟩; have HB3 := below_then hb12 hb12.size hb3; have hr := (hb3.block _ (blk_lt z2)).trans z2; have c0' := (blk_cell hr 0).trans rfl; have c1' := (blk_cell hr 1).trans rfl; have c2' := (blk_cell hr 2).trans rfl; have f0 := blk_frozen hr 0; have f1 := blk_frozen hr 1; have f2 := blk_frozen hr 2)
      go_meet
      exact close W3 HB3 hr
     rw [if_neg c3] at hy
     have b3 : (x.f0 == 3) = false := by simp [c3]
     by_cases c4 : x.f0 = 22 ∨ x.f0 = 23
     ·rw [if_pos c4] at hy
      rw [Hfn.out] at hy
      by_cases c5 : fn_ = 2
      ·rw [if_pos c5] at hy
       obtain ⟨z, hz⟩ : ∃ z : Nat, x.f0 = (z : Int) + 22 := ⟨(x.f0 - 22).toNat, by omega⟩
       have hz2 : z < 2 := by omega
       rw [show (x.f0 - 22).toNat = z by omega] at hy
       have hy2 := Option.some.inj hy
       obtain ⟨ad3, rfl, g0, g1, g2⟩ := at_T32 hFW (z : Int) (by omega) (by omega)
       rw [Int.toNat_natCast] at g0 g1 g2
       rw [show rd_T32 fold (z : Int) = y by rw [← hy2]; unfold rd_T32; rw [Int.toNat_natCast]] at g0 g1 g2
       have hab : (ad3.add (z * 3)).block = ad3.block := by unfold Addr.add; split <;> rfl
       have g1' := g1
       have g2' := g2
       rw [hab] at g1' g2'
       have hge : x.f0 ≥ 22 := by omega
       have hd : decide (x.f0 ≥ 22) = true := decide_eq_true hge
       have hi4 : (z : Int) < (fn_ : Int) := by omega
       have hi5 : (0 : Int) ≤ (z : Int) := by omega
       have hw1 : wrap64 (x.f0 - 22) = (z : Int) := by unfold wrap64; omega
       have hw2 : IntKind.i64.wrap (x.f0 - 22) = (z : Int) := by rw [IntKind.wrap_i64]; omega
       have c0' := (blk_cell z2 0).trans rfl
       have c1' := (blk_cell z2 1).trans rfl
       have c2' := (blk_cell z2 2).trans rfl
       have f0 := blk_frozen z2 0
       have f1 := blk_frozen z2 1
       have f2 := blk_frozen z2 2
       clear hRW hFW hR hF hy hy2 hz hab c5 c4 hz2
       go_wp2
       go_meet
       exact close W2 hb12 z2
      ·rw [if_neg c5] at hy; cases hy
     rw [if_neg c4] at hy
     rw [Har.out, Int.toNat_natCast, Hld.out] at hy
     obtain ⟨⟨y', eo⟩, hd, rfl⟩ := Option.map_eq_some_iff.1 hy
     have hN := E.do_ x.f0 l y' eo A' (cv - q) W2 hT2 HdW.out Hcl.out hd
     rw [Hll.out] at hN
     unfold XOps.enV at hN
     have hge : ¬ x.f0 ≥ 22 := by omega
     have hdg : decide (x.f0 ≥ 22) = false := decide_eq_false hge
     clear hRW hFW hR hF hy hd c4
     go_wp2_with (go_at_call 33; refine hN.mono ?_; rintro e W3 ⟨rfl, hb3⟩; have HB3 := below_then hb12 hb12.size hb3; have hr := (hb3.block _ (blk_lt z2)).trans z2; have c0' := (blk_cell hr 0).trans rfl; have c1' := (blk_cell hr 1).trans rfl; have c2' := (blk_cell hr 2).trans rfl; have f0 := blk_frozen hr 0; have f1 := blk_frozen hr 1; have f2 := blk_frozen hr 2)
     go_meet
     exact close W3 HB3 hr
    obtain ⟨hvb, hbx⟩ := hcut
    have b0x := below_then b02 b02.size hbx
    have HC := Lib.hid (Kd.C_take (Kd.C_alloc (Kd.C_below (Kd.C_below HC0.out b01) hbx) (.cells #[] 32)) Hqs.out)
    have hql : (s.take q).length = q := by rw [List.length_take]; have := Hqs.out; omega
    rw [hql] at HC
    have Hql := Lib.hid hql
    clear hql b02 hT2 hb12 z2 p0 p1 p2 hTr hws h0 h1 h2 hi1 hd1 hco1 ht0 ht3 hd2 hb1 c2 Hy hW2
    have hvl := blk_lt hvb
    go_wp2_with (first | ((with_reducible refine gate_builtin (b := .append) (xs := #[.tmp 124, .tmp 130]) rfl ?_); at_builtin; refine Kd.R_append_rows k32 (Rr := (k32).K (wc.alloc (.cells #[] 32))) (w0 := wc) (W := wc.alloc (.cells #[] 32)) wc.heap.size rfl (.tmp 124) (.tmp 130) 27 32 (.agg #[.bool false, .int .i64 0, .string (⟨#[]⟩ : ByteArray)]) 32 rfl Tryz.underlying27 infoV rfl (by decide) (by decide) (.slice (some ⟨wc.heap.size, 0, none⟩) 0 0) [] (s.take q) A2 q cv (fun _ => True) (fun _ => False) rfl rfl (R_empty wc) HC.out KM_val (fun _ h => h.elim) (fun _ _ => trivial) (below_alloc (Below.refl _ _) _) (by simp) (by simp; omega) ?_; intro v1 w1 ho1 hb1 hg1 hat1; have Ho1 := Lib.hid ho1; have Hb1 := Lib.hid hb1; have hv1 := (hb1.block _ hvl).trans hvb; have y0 := (blk_cell hv1 0).trans rfl; have y1 := (blk_cell hv1 1).trans rfl; have y2 := (blk_cell hv1 2).trans rfl; clear ho1 hb1 hg1 hat1 hv1) | ((with_reducible refine gate_builtin (b := .append) (xs := #[.tmp 132, .tmp 134]) rfl ?_); at_builtin; refine Kd.R_append k32 (w0 := wc) (W := w1) wc.heap.size rfl (.tmp 132) (.tmp 134) 27 32 (.agg #[.bool false, .int .i64 0, .string (⟨#[]⟩ : ByteArray)]) 32 rfl Tryz.underlying27 infoV rfl (by decide) (by decide) v1 ([] ++ s.take q) y [.bool y.f0, .int .i64 y.f1, .string y.f2] (fun _ => True) (fun _ => False) rfl rfl (k32_mkM _ _ _ y) (fun _ h => h.elim) (fun _ _ => trivial) Ho1.out Hb1.out Hb1.out.size (by rw [List.nil_append, Hql.out]; omega) ?_; intro v2 w2 ho2 hb2 hg2 hat2; have Ho2 := Lib.hid ho2; have Hb2 := Lib.hid hb2; clear ho2 hb2 hg2 hat2))
    clear hwu hw hw2 hwk
    refine ⟨⟨k + 1, s.take q ++ [y], u - (tot l / 64 + 1), by omega, by go_num, rfl, by (have := Hql.out; have := Hsl.out; have := Hq.out; simp only [List.length_append, List.length_cons, List.length_nil]; omega), by (have := Htn.out; omega), Kd.R_lower Ho2.out b0x.size, below_then b0x b0x.size Hb2.out, Hr3.out⟩, by simp [intOf]; omega⟩
  ·obtain rfl : k = n := by omega
   have hi1 : ¬ ((k : Int) < (k : Int)) := by omega
   rw [List.drop_of_length_le (by rw [Hn.out]; exact Nat.le_refl _)] at hrun
   unfold runE at hrun
   simp only [Option.some.injEq, Prod.mk.injEq] at hrun
   obtain ⟨rfl, rfl, rfl⟩ := hrun
   have Hst := Lib.hid hst
   have Hbw := Lib.hid hbw
   clear hst hbw hC0
   go_wp2
   go_ret3
   exact ⟨_, rfl, Hst.out, Hbw.out⟩
end Go.Proofs.YtnodgcakmolleaaGreatDoor.XEval
