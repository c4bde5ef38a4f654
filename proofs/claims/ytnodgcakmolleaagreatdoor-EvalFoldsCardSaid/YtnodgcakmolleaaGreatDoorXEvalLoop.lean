/- eval: how a program runs. -/
import Derived.Test.YtnodgcakmolleaaGreatDoorProg
import Derived.Test.YtnodgcakmolleaaGreatDoorXEvalRun
import Derived.Deep.RegionLaw
import Derived.Deep.AppendLies
set_option linter.unusedVariables false
set_option linter.unusedSimpArgs false
namespace Go.Proofs.YtnodgcakmolleaaGreatDoor.XEval
open Go.RowKit Go.Proofs Go.Proofs.YtnodgcakmolleaaGreatDoorW.PrintWords Go.Proofs.YtnodgcakmolleaaGreatDoorW.PrintLast Go.Proofs.YtnodgcakmolleaaGreatDoorW.PrintMore Go.Proofs.YtnodgcakmolleaaGreatDoor.PX Go.Proofs.YtnodgcakmolleaaGreatDoor.XCheck
variable {w0 W : World} {B : Nat} {Rv F v : Value} {s : List Sv} {fuel : Int}
variable {T : World → Prop} {TEXT : ByteArray → Option Sv} {DO : Int → List Sv → Option (Sv × Int)}
def runE (TEXT : ByteArray → Option Sv) (DO : Int → List Sv → Option (Sv × Int)) (r : List ByteArray) (fold : List Sv) : List Ins → List Sv → Int → Option (List Sv × Int × Int)
 | [], s, u => some (s, u, 0)
 | x :: p, s, u => if (s.length : Int) < XOps.arityF x.f0 ∨ s.any big = true then none else if costP s x.f0 > u then some (s, u, 12) else
  (pickP TEXT DO r fold s x).bind fun y => runE TEXT DO r fold p (s.take (s.length - (XOps.arityF x.f0).toNat) ++ [y]) (u - costP s x.f0)
theorem Fr.alloc {W' : World} (h : Fr B W W') (o : Obj) : Fr B W (W'.alloc o) := h.trans (Fr.below (below_alloc (Below.refl _ _) _))
theorem Fr.drewd {W' : World} (h : Fr B W W') : Fr B W W'.drew := h
theorem Fr.put {W' : World} {g i : Nat} {u : Value} (h : Fr B W W') (hg : W.heap.size ≤ g) : Fr B W (W'.setCell ⟨g, i, none⟩ u) :=
 ⟨by simp; exact h.1, fun k hk h1 => (Below.heap_setCell _ ⟨g, i, none⟩ _ k (by intro e; have e : k = g := e; omega)).trans (h.2 k hk h1)⟩
theorem Fr.refl (B : Nat) (W : World) : Fr B W W := ⟨Nat.le_refl _, fun _ _ _ => rfl⟩
theorem Mch.moved {A : Option Addr} {c m q : Nat} {f : Int} {W' : World} (h : Mch w0 B Rv F (.slice A m c) s fuel W) (hq : q ≤ s.length) (hF : Fr B W W') (hblk : W'.heap[B]? = some (.cells #[.slice A q c, Rv, F, .int .i64 f] 52 (0, 0))) (hb : Below w0.heap.size w0 W') : Mch w0 B Rv F (.slice A q c) (s.take q) f W' :=
 ⟨hblk, Kd.R_mono (Kd.R_move (Kd.R_mono (Kd.R_bound (Kd.R_take h.own hq)) (fun k hk => (⟨hk.1, hk.2.2.1⟩ : k ≠ B ∧ k < W.heap.size))) (fun k hk => hF.2 k hk.2 hk.1)) (fun k hk => hk.1), hb, h.base⟩
set_option maxHeartbeats 8000000 in
set_option maxRecDepth 100000 in
theorem run_calls (E : Env T TEXT DO) {Ar Af : Option Addr} {rc cf : Nat} {r : List ByteArray} {fold : List Sv} (hM : Mch w0 B (.slice Ar r.length rc) (.slice Af fold.length cf) v s fuel W) (hR : Kd.C Kd.string w0 Ar r.length r) (hF : Kd.C k32 w0 Af fold.length fold) (hT : T w0)
  (A : Option Addr) (c : Nat) (p : List Ins) (hp : Kd.C k44 w0 A p.length p) (hpl : p.length ≤ 10000) (hs0 : s = []) (hfu : fuel ≤ 9223372036854775807) {s' : List Sv} {u' er : Int} (hrun : runE TEXT DO r fold p s fuel = some (s', u', er)) :
  Calls Tryz.prog 18 #[.pointer (some ⟨B, 0, none⟩), .slice A p.length c] W fun e W' => ∃ v', e = .returned (.int .i64 er) ∧ Mch w0 B (.slice Ar r.length rc) (.slice Af fold.length cf) v' s' u' W' := by
 have hu := Tryz.underlying32
 have hu0 := Tryz.underlying44
 have hu1 := Tryz.underlying52
 have hu2 := Tryz.underlying27
 obtain ⟨n, hn⟩ : ∃ n, p.length = n := ⟨_, rfl⟩
 rw [hn] at hp hpl ⊢
 have Hn := Lib.hid hn
 have HM := Lib.hid hM
 have Hrun := Lib.hid hrun
 obtain ⟨rn, hrn⟩ : ∃ rn, r.length = rn := ⟨_, rfl⟩
 obtain ⟨fn_, hfn_⟩ : ∃ fn_, fold.length = fn_ := ⟨_, rfl⟩
 have Hrn := Lib.hid hrn
 have Hfn := Lib.hid hfn_
 have Hs0 := Lib.hid hs0
 have Hfu := Lib.hid hfu
 clear hn hM hrun hrn hfn_ hs0 hfu
 go_enter Tryz.func18, Tryz.ntmps18
 go_wp2
 go_loopw [11] (fun i wr => ∃ (k : Nat) (v : Value) (s : List Sv) (u : Int), k ≤ n ∧ i = .int .i64 k ∧ s.length ≤ k ∧ u ≤ 9223372036854775807 ∧ Mch w0 B (.slice Ar r.length rc) (.slice Af fold.length cf) v s u wr ∧ runE TEXT DO r fold (p.drop k) s u = some (s', u', er)) (fun i _ => n - (intOf i).toNat)
 case atStart => exact ⟨0, _, s, fuel, Nat.zero_le _, rfl, by rw [Hs0.out]; exact Nat.le_refl _, Hfu.out, HM.out, Hrun.out⟩
 case round =>
  obtain ⟨k, v, s, u, hk, rfl, hsl, hu64, hst, hrun⟩ := hrel
  clear Hs0 HM Hrun Hfu
  by_cases hlt : k < n
  ·have hi1 : (k : Int) < (n : Int) := by omega
   have hwk : wrap64 ((k : Int) + 1) = (k : Int) + 1 := by unfold wrap64; omega
   obtain ⟨ad, rfl, h0, h1, h2⟩ := at_T44 (Kd.C_below hp hst.below) (k : Int) (by omega) (by omega)
   rw [Int.toNat_natCast] at h0 h1 h2
   obtain ⟨x, hx⟩ : ∃ x, x = rd_T44 p (k : Int) := ⟨_, rfl⟩
   rw [← hx] at h0 h1 h2
   have hpd : p.drop k = x :: p.drop (k + 1) := by
    have hk' : k < p.length := by rw [Hn.out]; exact hlt
    rw [List.drop_eq_getElem_cons hk', hx]
    unfold rd_T44
    rw [Int.toNat_natCast, List.getD_eq_getElem?_getD, List.getElem?_eq_getElem hk']
    rfl
   rw [hpd] at hrun
   unfold runE at hrun
   by_cases c1 : (s.length : Int) < XOps.arityF x.f0 ∨ s.any big = true
   ·rw [if_pos c1] at hrun; cases hrun
   rw [if_neg c1] at hrun
   obtain ⟨a, har⟩ : ∃ a : Nat, XOps.arityF x.f0 = (a : Int) := ⟨(XOps.arityF x.f0).toNat, by have := XEval.arity_nn x.f0; omega⟩
   have ha : a ≤ s.length := by omega
   have ha3 : a ≤ 3 := by have := arity_le x.f0; omega
   have hbig : ∀ y ∈ s, y.f2.size ≤ 1000000000000 := fun y hy => by
    by_cases c : y.f2.size ≤ 1000000000000
    ·exact c
    ·exact absurd (.inr (List.any_eq_true.2 ⟨y, hy, decide_eq_true (by omega)⟩)) c1
   have hal := below_alloc (Below.refl wr.heap.size wr) (insC x.f0 x.f1 x.f2)
   have hst1 := hst.then_ hal
   have hcost := cost_calls hst1 (by omega) x.f0 x.f1 x.f2 a har ha ha3 hbig
   have hxb := fun W1 => x_below (W := wr) (W1 := W1) x
   have hwl := hst.lt
   have hnb : wr.heap.size ≠ B := by omega
   rw [har, Int.toNat_natCast] at hrun
   have hcp : 1 ≤ costP s x.f0 := by unfold costP; have := tot_nonneg (s.drop (s.length - (XOps.arityF x.f0).toNat)); omega
   obtain ⟨co, hco⟩ : ∃ co, costP s x.f0 = co := ⟨_, rfl⟩
   rw [hco] at hrun hcost hcp
   have hG := fun (f : Int) W2 (h2 : Mch w0 B (.slice Ar r.length rc) (.slice Af fold.length cf) v s f W2) y (hy : pickP TEXT DO r fold s x = some y) => step_calls E h2 hR hF hT (by omega) x a har ha y hy
   have hD := fun W2 => does_calls B x.f0 W2
   unfold insV insC at hcost
   unfold insC at hxb hst1
   unfold insV XOps.enV at hG
   have Hst1 := Lib.hid hst1
   have Hsl := Lib.hid hsl
   have Hal := Lib.hid hal
   by_cases c2 : co > u
   ·have hd2 : decide (co > u) = true := decide_eq_true c2
    rw [if_pos c2] at hrun
    simp only [Option.some.injEq, Prod.mk.injEq] at hrun
    obtain ⟨rfl, rfl, rfl⟩ := hrun
    clear hG hD c1 hco har hbig hst hst1 hsl hal hxb hpd hx
    go_wp2_with (go_at_call 27; refine hcost.mono ?_; rintro e W1 ⟨rfl, hb1⟩; have cU := (Hst1.out.then_ hb1).getU)
    go_ret
    exact ⟨_, rfl, Hst1.out.then_ hb1⟩
   ·have hd2 : decide (co > u) = false := decide_eq_false c2
    rw [if_neg c2] at hrun
    obtain ⟨y, hy, hrun⟩ := Option.bind_eq_some_iff.1 hrun
    have hws : wrap64 (u - co) = u - co := by unfold wrap64; omega
    obtain ⟨A2, cv, hv, hsc, _⟩ := hst.reads
    subst hv
    obtain ⟨q, hq⟩ : ∃ q, s.length - a = q := ⟨_, rfl⟩
    have hqs : q ≤ s.length := by omega
    rw [hq] at hrun
    have hGy := fun W2 h2 => hG (u - co) W2 h2 y hy
    rw [hq] at hGy
    obtain ⟨fn, hfn, hnm, hbd⟩ := mth_fn x.f0
    have hen := fun args W => enters_ hfn hnm hbd args W
    have Hrun := Lib.hid hrun
    have Hqs := Lib.hid hqs
    have Hq := Lib.hid hq
    clear hG c1 hco har hbig hst hst1 hsl hal hpd hx hrun hqs hfn hbd hy hq
    go_upto_region 8 with (go_at_call 27; refine hcost.mono ?_; rintro e W1 ⟨rfl, hb1⟩; have H1 := Hst1.out.then_ hb1; have cU := H1.getU; have fU := blk_frozen H1.blk 3; have HH1 := Lib.hid H1; clear H1)
    obtain ⟨q0, q1, q2⟩ := hxb _ hb1
    have H2 := HH1.out.burn (u - co)
    have n0 : (Addr.mk wr.heap.size 0 none).block ≠ (Addr.mk B 3 none).block := hnb
    have p0 : (W1.setCell ⟨B, 3, none⟩ (.int .i64 (u - co))).cell? ⟨wr.heap.size, 0, none⟩ = some (.int .i64 x.f0) := Fr.cell (B := B) Fr.set (by have := Hal.out.size; have := hb1.size; simp at this; omega) hnb q0
    have p1 : (W1.setCell ⟨B, 3, none⟩ (.int .i64 (u - co))).cell? ⟨wr.heap.size, 1, none⟩ = some (.int .i64 x.f1) := Fr.cell (B := B) Fr.set (by have := hb1.size; simp at this; omega) hnb q1
    have p2 : (W1.setCell ⟨B, 3, none⟩ (.int .i64 (u - co))).cell? ⟨wr.heap.size, 2, none⟩ = some (.string x.f2) := Fr.cell (B := B) Fr.set (by have := hb1.size; simp at this; omega) hnb q2
    clear q0 q1 q2 cU fU hxb HH1 Hst1 n0
    generalize hW2 : W1.setCell ⟨B, 3, none⟩ (.int .i64 (u - co)) = W2 at *
    have hwx := cell_lt p0
    have hwx : wr.heap.size < W2.heap.size := hwx
    go_cut [8] (fun s8 wx => ∃ gv : Nat, s8 = .pointer (some ⟨gv, 0, none⟩) ∧ wx.heap[gv]? = some (.cells #[.bool y.f0, .int .i64 y.f1, .string y.f2] 32 (0, 0)) ∧ gv ≠ B ∧ (∀ k, (Value.slice A2 q cv).ownBlock = some k → k ≠ gv) ∧ Mch w0 B (.slice Ar r.length rc) (.slice Af fold.length cf) (.slice A2 q cv) (s.take q) (u - co) wx)
    case first =>
     have hown2 : ∀ k, (Value.slice A2 q cv).ownBlock = some k → k < W2.heap.size := fun k hk => (own_ne H2 (by rw [← hk]; cases A2 <;> rfl)).2
     have hlt2 := H2.lt
     go_region_held3 (fun w' => w'.cell? ⟨wr.heap.size, 0, none⟩ = some (.int .i64 x.f0) ∧ w'.cell? ⟨wr.heap.size, 1, none⟩ = some (.int .i64 x.f1) ∧ w'.cell? ⟨wr.heap.size, 2, none⟩ = some (.string x.f2))
      (first
       | go_keep
       | exact ⟨Fr.cell (B := B) (W := W2) (by repeat (first | exact HF4 | exact Fr.refl _ _ | apply Fr.alloc | apply Fr.drewd | refine Fr.put ?_ (by omega))) hwx hnb p0, Fr.cell (B := B) (W := W2) (by repeat (first | exact HF4 | exact Fr.refl _ _ | apply Fr.alloc | apply Fr.drewd | refine Fr.put ?_ (by omega))) hwx hnb p1, Fr.cell (B := B) (W := W2) (by repeat (first | exact HF4 | exact Fr.refl _ _ | apply Fr.alloc | apply Fr.drewd | refine Fr.put ?_ (by omega))) hwx hnb p2⟩)
      ((first
       | (go_at_call 28; refine (hD _).mono ?_; rintro e W3 ⟨rfl, rfl⟩)
       | (refine (hGy _ (H2.then_ (by repeat (first | exact Below.refl _ _ | apply below_alloc | apply below_drew1)))).mono ?_; rintro e W4 ⟨A4, c4, e4, rfl, hM4, hF4⟩; injection e4 with e4a _ e4b; subst e4a e4b; have HF4 : Fr B W2 W4 := Fr.trans (Fr.below (by repeat (first | exact Below.refl _ _ | apply below_alloc | apply below_drew1))) hF4; have hz4 := HF4.1; (try have zZ : W4.heap[W2.heap.size]? = some (.cells #[.bool false, .int .i64 0, .string (⟨#[]⟩ : ByteArray)] 32 (0, 0)) := (hF4.2 W2.heap.size (by simp) (by omega)).trans (heap_alloc_new W2 _)); (try (have e0 := (blk_cell zZ 0).trans rfl; have e1 := (blk_cell zZ 1).trans rfl; have e2 := (blk_cell zZ 2).trans rfl; have g0 := blk_frozen zZ 0; have g1 := blk_frozen zZ 1; have g2 := blk_frozen zZ 2)))))
     all_goals (go_wp2_with fail; go_meet; first
      | exact ⟨_, rfl, heap_alloc_new W4 _, by (have := hM4.lt; omega), fun k hk => by (have := hown2 k hk; omega), hM4.then_ (below_alloc (Below.refl _ _) _)⟩
      | exact ⟨_, rfl, blk_set (blk_set (blk_set zZ 0 _) 1 _) 2 _, by omega, fun k hk => by (have := hown2 k hk; omega), H2.moved Hqs.out (by repeat (first | exact HF4 | exact Fr.refl _ _ | apply Fr.alloc | apply Fr.drewd | refine Fr.put ?_ (by omega))) ((Below.heap_setCell _ ⟨_, 2, none⟩ _ _ (by dsimp only; omega)).trans ((Below.heap_setCell _ ⟨_, 1, none⟩ _ _ (by dsimp only; omega)).trans ((Below.heap_setCell _ ⟨_, 0, none⟩ _ _ (by dsimp only; omega)).trans hM4.blk))) (below_set (below_set (below_set hM4.below (by have := H2.below.size; omega)) (by have := H2.below.size; omega)) (by have := H2.below.size; omega))⟩)
    obtain ⟨gv, rfl, hgv, hgB, hno, hMc⟩ := hcut
    have HMc := Lib.hid hMc
    have cS := hMc.getS
    have y0 := (blk_cell hgv 0).trans rfl
    have y1 := (blk_cell hgv 1).trans rfl
    have y2 := (blk_cell hgv 2).trans rfl
    have hwB := hMc.lt
    have hvl := blk_lt hgv
    have hnoB : ∀ k, (Value.slice A2 q cv).ownBlock = some k → k ≠ B := fun k hk => (own_ne hMc hk).1
    clear hMc hD H2 p0 p1 p2 hW2 hb1 hgv hGy
    go_wp2_with fail
    go_region_law (first | (refine Kd.R_append_step k32 (w0 := w0) (W := wc.drew) w0.heap.size (by rfl) (.tmp 42) (.tmp 44) 27 32 (.agg #[.bool false, .int .i64 0, .string (⟨#[]⟩ : ByteArray)]) 32 (by rfl) Tryz.underlying27 infoV rfl (by decide) (by decide) (.slice A2 q cv) (s.take q) y [.bool y.f0, .int .i64 y.f1, .string y.f2] (fun k => k ≠ B) (fun _ => False) (by rfl) (by rfl) (k32_mkM _ _ _ y) (fun _ hk => hk.elim) (fun k hk => by have hk' : wc.heap.size ≤ k := hk; omega) (Kd.R_drew HMc.out.own) (below_drew1 HMc.out.below) HMc.out.below.size (by rw [List.length_take]; have := Hsl.out; omega) ?_; intro v1 w1 ho1 hb1 hg1 hat1; obtain ⟨A1, k1, hv1⟩ := Kd.R_slice ho1; obtain ⟨N1, hN1⟩ : ∃ N1, (s.take q ++ [y]).length = N1 := ⟨_, rfl⟩; rw [hN1] at hv1; subst hv1; clear hN1; have hB1 := blk_grown (show wc.drew.heap[B]? = _ from HMc.out.blk) hg1 (fun e => hnoB B e.symm rfl); have b0 := (blk_cell hB1 0).trans rfl; have g0 := blk_frozen hB1 0))
    all_goals
     go_wp2
     refine ⟨⟨k + 1, _, s.take q ++ [y], u - co, by omega, by go_num, by (have := Hsl.out; simp only [List.length_append, List.length_take, List.length_cons, List.length_nil]; omega), by omega, ⟨blk_set hB1 0 _, Kd.R_far (p := ⟨B, 0, none⟩) ho1 (fun k hk => hk) _, below_set hb1 HMc.out.base, HMc.out.base⟩, Hrun.out⟩, by simp [intOf]; omega⟩
  ·obtain rfl : k = n := by omega
   have hi1 : ¬ ((k : Int) < (k : Int)) := by omega
   rw [List.drop_of_length_le (by rw [Hn.out]; exact Nat.le_refl _)] at hrun
   unfold runE at hrun
   simp only [Option.some.injEq, Prod.mk.injEq] at hrun
   obtain ⟨rfl, rfl, rfl⟩ := hrun
   have Hst := Lib.hid hst
   clear hst
   go_wp2
   go_ret
   first | exact ⟨_, rfl, Hst.out⟩ | exact ⟨rfl, _, Hst.out⟩ | exact ⟨_, Hst.out⟩
end Go.Proofs.YtnodgcakmolleaaGreatDoor.XEval
