/- check: how a program goes over a stack; what it comes to; how deep it goes. -/
import Derived.Test.YtnodgcakmolleaaGreatDoorProg
import Derived.Test.YtnodgcakmolleaaGreatDoorXCheck
import Derived.Test.YtnodgcakmolleaaGreatDoorPXx0
set_option linter.unusedVariables false
set_option linter.unusedSimpArgs false
namespace Go.Proofs.YtnodgcakmolleaaGreatDoor.XCheck
open Go.RowKit Go.Proofs Go.Proofs.YtnodgcakmolleaaGreatDoorW.PrintWords Go.Proofs.YtnodgcakmolleaaGreatDoorW.PrintLast Go.Proofs.YtnodgcakmolleaaGreatDoorW.PrintMore Go.Proofs.YtnodgcakmolleaaGreatDoor.PX
abbrev Ins : Type := S44
def stepP (fold : List Bool) (x : List Bool × Int) (o : Int) : (List Bool × Int) × Int := if 22 ≤ o then givenP fold x o else if 0 < XOps.arityF o then doneP x o else plainP x o
def runP (may : Ins → Bool) (fold : List Bool) : List Ins → Nat → List Bool × Int → (List Bool × Int) × Int × Int
 | [], i, x => (x, (i : Int), 0)
 | a :: r, i, x => if may a = false then (x, (i : Int), 1) else if (stepP fold x a.f0).2 ≠ 0 then ((stepP fold x a.f0).1, (i : Int), (stepP fold x a.f0).2) else runP may fold r (i + 1) (stepP fold x a.f0).1
theorem pushP_len {x : List Bool × Int} {t : Bool} (h : x.1.length ≤ 30) : (pushP x t).1.1.length ≤ 30 := by
 unfold pushP
 by_cases c : x.1.length = 30
 ·rw [if_pos c]; exact h
 ·rw [if_neg c]
  simp only [List.length_append, List.length_cons, List.length_nil]
  omega
theorem stepP_len {fold : List Bool} {x : List Bool × Int} {o : Int} (h : x.1.length ≤ 30) : (stepP fold x o).1.1.length ≤ 30 := by
 unfold stepP givenP doneP plainP
 by_cases c : 22 ≤ o
 ·rw [if_pos c]
  by_cases c2 : fold.length = 0
  ·rw [if_pos c2]; exact h
  ·rw [if_neg c2]; exact pushP_len h
 ·rw [if_neg c]
  by_cases c2 : 0 < XOps.arityF o
  ·rw [if_pos c2]
   by_cases c3 : (x.1.length : Int) < XOps.arityF o
   ·rw [if_pos c3]; exact h
   ·rw [if_neg c3]
    by_cases c4 : (XOps.resultF o (x.1.drop (x.1.length - (XOps.arityF o).toNat))).2 ≠ 0
    ·rw [if_pos c4]; exact h
    ·rw [if_neg c4]
     exact pushP_len (by rw [List.length_take]; omega)
  ·rw [if_neg c2]; exact pushP_len h
theorem arity_le (o : Int) : XOps.arityF o ≤ 3 := by
 have h := XOps.op_any o
 unfold XOps.arityF
 rcases hq : XOps.opFn o with _ | ⟨ks, t, f⟩
 ·decide
 ·rw [hq] at h
  have := h.2
  simp only
  omega
theorem x_below {W W1 : World} (x : Ins) (hb : Below (W.alloc (insC x.f0 x.f1 x.f2)).heap.size (W.alloc (insC x.f0 x.f1 x.f2)) W1) : W1.cell? ⟨W.heap.size, 0, none⟩ = some (.int .i64 x.f0) ∧ W1.cell? ⟨W.heap.size, 1, none⟩ = some (.int .i64 x.f1) ∧ W1.cell? ⟨W.heap.size, 2, none⟩ = some (.string x.f2) := by
 have h := heap_alloc_new W (insC x.f0 x.f1 x.f2)
 have h2 := (hb.block _ (blk_lt h)).trans h
 exact ⟨(blk_cell h2 0).trans rfl, (blk_cell h2 1).trans rfl, (blk_cell h2 2).trans rfl⟩
set_option maxHeartbeats 4000000 in
set_option maxRecDepth 100000 in
theorem run_calls {T : World → Prop} (hTb : ∀ w w', T w → Below w.heap.size w w' → T w') (may : Ins → Bool)
  (hMay : ∀ (x : Ins) (w : World), T w → Calls Tryz.prog 38 #[insV x.f0 x.f1 x.f2] w fun e w' => e = .returned (.bool (may x)) ∧ Below w.heap.size w w')
  (hop : ∀ x, may x = true → 22 ≤ x.f0 → x.f0 = 22 ∨ x.f0 = 23)
  {w0 W : World} {B : Nat} {Af : Option Addr} {cf : Nat} {fold : List Bool} (hS : Stk w0 B (.slice Af fold.length cf) (.slice none 0 0) [] 0 W) (hT : T w0) (hr : Kd.bool.C w0 Af fold.length fold) (hf : fold.length = 0 ∨ fold.length = 2)
  (A : Option Addr) (c : Nat) (p : List Ins) (hp : Kd.C k44 w0 A p.length p) (hpl : p.length ≤ 281474976710656) :
  Calls Tryz.prog 26 #[.pointer (some ⟨B, 0, none⟩), .slice A p.length c] W fun e W' => ∃ v', e = .returned (.tuple #[.int .i64 (runP may fold p 0 ([], 0)).2.1, .int .i64 (runP may fold p 0 ([], 0)).2.2]) ∧ Stk w0 B (.slice Af fold.length cf) v' (runP may fold p 0 ([], 0)).1.1 (runP may fold p 0 ([], 0)).1.2 W' := by
 have hu1 := Tryz.underlying44
 obtain ⟨n, hn⟩ : ∃ n, p.length = n := ⟨_, rfl⟩
 rw [hn] at hp hpl ⊢
 have Hn := Lib.hid hn
 clear hn
 have HS := Lib.hid hS
 have Hf := Lib.hid hf
 clear hS hf
 go_enter Tryz.func26, Tryz.ntmps26
 go_wp2
 go_loopw [11] (fun i wr => ∃ (k : Nat) (v : Value) (s : List Bool) (most : Int), k ≤ n ∧ i = .int .i64 k ∧ s.length ≤ 30 ∧ Stk w0 B (.slice Af fold.length cf) v s most wr ∧ runP may fold p 0 ([], 0) = runP may fold (p.drop k) k (s, most)) (fun i _ => n - (intOf i).toNat)
 case atStart => exact ⟨0, _, [], 0, Nat.zero_le _, rfl, by decide, HS.out, rfl⟩
 case round =>
  obtain ⟨k, v, s, most, hk, rfl, hsl, hst, hrun⟩ := hrel
  by_cases hlt : k < n
  ·have hi1 : (k : Int) < (n : Int) := by omega
   have hwk : wrap64 ((k : Int) + 1) = (k : Int) + 1 := by unfold wrap64; omega
   obtain ⟨ad, rfl, h0, h1, h2⟩ := at_T44 (Kd.C_below hp hst.below) (k : Int) (by omega) (by omega)
   rw [Int.toNat_natCast] at h0 h1 h2
   obtain ⟨x, hx⟩ : ∃ x, x = rd_T44 p (k : Int) := ⟨_, rfl⟩
   rw [← hx] at h0 h1 h2
   have hpd : p.drop k = x :: p.drop (k + 1) := by
    have hk' : k < p.length := by rw [Hn.out]; exact hlt
    rw [List.drop_eq_getElem_cons hk', hx]
    unfold rd_T44
    rw [Int.toNat_natCast, List.getD_eq_getElem?_getD, List.getElem?_eq_getElem hk']
    rfl
   have hM := hMay x
   unfold insV at hM
   have hwl := hst.lt
   have hol := fun g (hg : v.ownBlock = some g) => hst.own_lt hg
   have hnb : wr.heap.size ≠ B := by omega
   have hno : some wr.heap.size ≠ v.ownBlock := fun e => absurd (hol _ e.symm) (Nat.lt_irrefl _)
   have hTr := hTb _ _ hT (hst.then_ (below_alloc (Below.refl wr.heap.size wr) (insC x.f0 x.f1 x.f2))).below
   have hst1 := hst.then_ (below_alloc (Below.refl wr.heap.size wr) (insC x.f0 x.f1 x.f2))
   have hxb := fun W1 => x_below (W := wr) (W1 := W1) x
   unfold insC at hTr hst1 hxb
   rcases hmb : may x with _ | _
   ·rw [hmb] at hM
    have e : runP may fold p 0 ([], 0) = ((s, most), (k : Int), 1) := by
     rw [hrun, hpd]
     unfold runP
     rw [if_pos hmb]
    have He := Lib.hid e
    have Hst1 := Lib.hid hst1
    clear hrun e hpd hst1 hst hxb hx hmb
    go_wp2_with (go_at_call 38; refine (hM _ hTr).mono ?_; rintro e W1 ⟨rfl, hb1⟩)
    go_ret2
    rw [He.out]
    exact ⟨_, rfl, Hst1.out.then_ hb1⟩
   ·rw [hmb] at hM
    by_cases hc : 22 ≤ x.f0
    ·skip
     have hD := fun W => does_given B x.f0 x.f1 x.f2 hc W
     rcases hy : stepP fold (s, most) x.f0 with ⟨⟨s', most'⟩, er⟩
     have hG := fun W2 (h2 : Stk w0 B (.slice Af fold.length cf) v s most W2) => given_calls h2 hsl hr Hf.out x.f0 x.f1 x.f2 (hop x hmb hc)
     have hs' : s'.length ≤ 30 := by have := stepP_len (fold := fold) (x := (s, most)) (o := x.f0) hsl; rw [hy] at this; exact this
     rw [← (show stepP fold (s, most) x.f0 = givenP fold (s, most) x.f0 by unfold stepP; rw [if_pos hc]), hy] at hG
     unfold insV at hD hG
     have Hy := Lib.hid hy
     have Hrun := Lib.hid hrun
     have Hpd := Lib.hid hpd
     have Hst1 := Lib.hid hst1
     have Hmb := Lib.hid hmb
     clear hy hrun hpd hst1 hst hx hmb hc
     have fin : ∀ W1 W2, Below (wr.alloc (.cells #[.int .i64 x.f0, .int .i64 x.f1, .string x.f2] 44)).heap.size (wr.alloc (.cells #[.int .i64 x.f0, .int .i64 x.f1, .string x.f2] 44)) W1 → Below W1.drew.heap.size W1.drew W2 → wr.heap.size < W2.heap.size := fun W1 W2 h1 h2 => by
      have e1 := h1.size
      have e2 := h2.size
      simp at e1 e2
      omega
     by_cases her : er = 0
     ·subst her
      go_wp2_with (go_at_call 38; refine (hM _ hTr).mono ?_; rintro e W1 ⟨rfl, hb1⟩; obtain ⟨q0, q1, q2⟩ := hxb _ hb1; have hS1 := Hst1.out.then_ hb1)
      go_region_held3 (fun w' => w'.cell? ⟨wr.heap.size, 0, none⟩ = some (.int .i64 x.f0) ∧ w'.cell? ⟨wr.heap.size, 1, none⟩ = some (.int .i64 x.f1) ∧ w'.cell? ⟨wr.heap.size, 2, none⟩ = some (.string x.f2))
       (first
        | exact ⟨q0, q1, q2⟩
        | (go_split_ands; exact ⟨frame_cell hF3 hl2 hnb hno (by assumption), frame_cell hF3 hl2 hnb hno (by assumption), frame_cell hF3 hl2 hnb hno (by assumption)⟩)
        | (go_split_ands; exact ⟨cell_keep0 hb2 (by assumption), cell_keep0 hb2 (by assumption), cell_keep0 hb2 (by assumption)⟩)
        | go_keep)
       ((first
        | (go_at_call 39; refine (hD _).mono ?_; rintro e W2 ⟨rfl, hb2⟩; have hl2 := fin _ _ hb1 hb2)
        | (with_reducible refine Calls.mono (hG _ ((hS1.then_ (below_drew0 _)).then_ hb2)) ?_; rintro e W3 ⟨v3, rfl, hS3, hF3⟩)))
      go_wp2
      refine ⟨⟨k + 1, v3, s', most', by omega, by go_num, hs', hS3, ?_⟩, by simp [intOf]; omega⟩
      rw [Hrun.out, Hpd.out]
      conv => lhs; unfold runP
      rw [if_neg (by rw [Hmb.out]; simp), Hy.out]
      rfl
     ·have he1 : (er == 0) = false := by simp [her]
      have he2 : (er != 0) = true := by simp [her]
      have Her := Lib.hid her
      clear her
      go_wp2_with (go_at_call 38; refine (hM _ hTr).mono ?_; rintro e W1 ⟨rfl, hb1⟩; obtain ⟨q0, q1, q2⟩ := hxb _ hb1; have hS1 := Hst1.out.then_ hb1)
      go_region_held3 (fun w' => w'.cell? ⟨wr.heap.size, 0, none⟩ = some (.int .i64 x.f0) ∧ w'.cell? ⟨wr.heap.size, 1, none⟩ = some (.int .i64 x.f1) ∧ w'.cell? ⟨wr.heap.size, 2, none⟩ = some (.string x.f2))
       (first
        | exact ⟨q0, q1, q2⟩
        | (go_split_ands; exact ⟨frame_cell hF3 hl2 hnb hno (by assumption), frame_cell hF3 hl2 hnb hno (by assumption), frame_cell hF3 hl2 hnb hno (by assumption)⟩)
        | (go_split_ands; exact ⟨cell_keep0 hb2 (by assumption), cell_keep0 hb2 (by assumption), cell_keep0 hb2 (by assumption)⟩)
        | go_keep)
       ((first
        | (go_at_call 39; refine (hD _).mono ?_; rintro e W2 ⟨rfl, hb2⟩; have hl2 := fin _ _ hb1 hb2)
        | (with_reducible refine Calls.mono (hG _ ((hS1.then_ (below_drew0 _)).then_ hb2)) ?_; rintro e W3 ⟨v3, rfl, hS3, hF3⟩)))
      go_wp2
      go_ret2
      have e : runP may fold p 0 ([], 0) = ((s', most'), (k : Int), er) := by
       rw [Hrun.out, Hpd.out]
       conv => lhs; unfold runP
       rw [if_neg (by rw [Hmb.out]; simp), Hy.out]
       simp only
       rw [if_pos Her.out]
      rw [e]
      exact ⟨_, rfl, hS3⟩
    ·by_cases hc2 : 0 < XOps.arityF x.f0
     ·skip
      have hD := fun W => does_done B x.f0 x.f1 x.f2 (by omega) hc2 W
      rcases hy : stepP fold (s, most) x.f0 with ⟨⟨s', most'⟩, er⟩
      have hG := fun W2 (h2 : Stk w0 B (.slice Af fold.length cf) v s most W2) => done_calls h2 hsl x.f0 x.f1 x.f2 hc2 (arity_le _)
      have hs' : s'.length ≤ 30 := by have := stepP_len (fold := fold) (x := (s, most)) (o := x.f0) hsl; rw [hy] at this; exact this
      rw [← (show stepP fold (s, most) x.f0 = doneP (s, most) x.f0 by unfold stepP; rw [if_neg hc, if_pos hc2]), hy] at hG
      unfold insV at hD hG
      have Hy := Lib.hid hy
      have Hrun := Lib.hid hrun
      have Hpd := Lib.hid hpd
      have Hst1 := Lib.hid hst1
      have Hmb := Lib.hid hmb
      clear hy hrun hpd hst1 hst hx hmb hc hc2
      have fin : ∀ W1 W2, Below (wr.alloc (.cells #[.int .i64 x.f0, .int .i64 x.f1, .string x.f2] 44)).heap.size (wr.alloc (.cells #[.int .i64 x.f0, .int .i64 x.f1, .string x.f2] 44)) W1 → Below W1.drew.heap.size W1.drew W2 → wr.heap.size < W2.heap.size := fun W1 W2 h1 h2 => by
       have e1 := h1.size
       have e2 := h2.size
       simp at e1 e2
       omega
      by_cases her : er = 0
      ·subst her
       go_wp2_with (go_at_call 38; refine (hM _ hTr).mono ?_; rintro e W1 ⟨rfl, hb1⟩; obtain ⟨q0, q1, q2⟩ := hxb _ hb1; have hS1 := Hst1.out.then_ hb1)
       go_region_held3 (fun w' => w'.cell? ⟨wr.heap.size, 0, none⟩ = some (.int .i64 x.f0) ∧ w'.cell? ⟨wr.heap.size, 1, none⟩ = some (.int .i64 x.f1) ∧ w'.cell? ⟨wr.heap.size, 2, none⟩ = some (.string x.f2))
        (first
         | exact ⟨q0, q1, q2⟩
         | (go_split_ands; exact ⟨frame_cell hF3 hl2 hnb hno (by assumption), frame_cell hF3 hl2 hnb hno (by assumption), frame_cell hF3 hl2 hnb hno (by assumption)⟩)
         | (go_split_ands; exact ⟨cell_keep0 hb2 (by assumption), cell_keep0 hb2 (by assumption), cell_keep0 hb2 (by assumption)⟩)
         | go_keep)
        ((first
         | (go_at_call 39; refine (hD _).mono ?_; rintro e W2 ⟨rfl, hb2⟩; have hl2 := fin _ _ hb1 hb2)
         | (with_reducible refine Calls.mono (hG _ ((hS1.then_ (below_drew0 _)).then_ hb2)) ?_; rintro e W3 ⟨v3, rfl, hS3, hF3⟩)))
       go_wp2
       refine ⟨⟨k + 1, v3, s', most', by omega, by go_num, hs', hS3, ?_⟩, by simp [intOf]; omega⟩
       rw [Hrun.out, Hpd.out]
       conv => lhs; unfold runP
       rw [if_neg (by rw [Hmb.out]; simp), Hy.out]
       rfl
      ·have he1 : (er == 0) = false := by simp [her]
       have he2 : (er != 0) = true := by simp [her]
       have Her := Lib.hid her
       clear her
       go_wp2_with (go_at_call 38; refine (hM _ hTr).mono ?_; rintro e W1 ⟨rfl, hb1⟩; obtain ⟨q0, q1, q2⟩ := hxb _ hb1; have hS1 := Hst1.out.then_ hb1)
       go_region_held3 (fun w' => w'.cell? ⟨wr.heap.size, 0, none⟩ = some (.int .i64 x.f0) ∧ w'.cell? ⟨wr.heap.size, 1, none⟩ = some (.int .i64 x.f1) ∧ w'.cell? ⟨wr.heap.size, 2, none⟩ = some (.string x.f2))
        (first
         | exact ⟨q0, q1, q2⟩
         | (go_split_ands; exact ⟨frame_cell hF3 hl2 hnb hno (by assumption), frame_cell hF3 hl2 hnb hno (by assumption), frame_cell hF3 hl2 hnb hno (by assumption)⟩)
         | (go_split_ands; exact ⟨cell_keep0 hb2 (by assumption), cell_keep0 hb2 (by assumption), cell_keep0 hb2 (by assumption)⟩)
         | go_keep)
        ((first
         | (go_at_call 39; refine (hD _).mono ?_; rintro e W2 ⟨rfl, hb2⟩; have hl2 := fin _ _ hb1 hb2)
         | (with_reducible refine Calls.mono (hG _ ((hS1.then_ (below_drew0 _)).then_ hb2)) ?_; rintro e W3 ⟨v3, rfl, hS3, hF3⟩)))
       go_wp2
       go_ret2
       have e : runP may fold p 0 ([], 0) = ((s', most'), (k : Int), er) := by
        rw [Hrun.out, Hpd.out]
        conv => lhs; unfold runP
        rw [if_neg (by rw [Hmb.out]; simp), Hy.out]
        simp only
        rw [if_pos Her.out]
       rw [e]
       exact ⟨_, rfl, hS3⟩
     ·skip
      have hD := fun W => does_plain B x.f0 x.f1 x.f2 (by omega) hc2 W
      rcases hy : stepP fold (s, most) x.f0 with ⟨⟨s', most'⟩, er⟩
      have hG := fun W2 (h2 : Stk w0 B (.slice Af fold.length cf) v s most W2) => plain_calls h2 hsl x.f0 x.f1 x.f2
      have hs' : s'.length ≤ 30 := by have := stepP_len (fold := fold) (x := (s, most)) (o := x.f0) hsl; rw [hy] at this; exact this
      rw [← (show stepP fold (s, most) x.f0 = plainP (s, most) x.f0 by unfold stepP; rw [if_neg hc, if_neg hc2]), hy] at hG
      unfold insV at hD hG
      have Hy := Lib.hid hy
      have Hrun := Lib.hid hrun
      have Hpd := Lib.hid hpd
      have Hst1 := Lib.hid hst1
      have Hmb := Lib.hid hmb
      clear hy hrun hpd hst1 hst hx hmb hc hc2
      have fin : ∀ W1 W2, Below (wr.alloc (.cells #[.int .i64 x.f0, .int .i64 x.f1, .string x.f2] 44)).heap.size (wr.alloc (.cells #[.int .i64 x.f0, .int .i64 x.f1, .string x.f2] 44)) W1 → Below W1.drew.heap.size W1.drew W2 → wr.heap.size < W2.heap.size := fun W1 W2 h1 h2 => by
       have e1 := h1.size
       have e2 := h2.size
       simp at e1 e2
       omega
      by_cases her : er = 0
      ·subst her
       go_wp2_with (go_at_call 38; refine (hM _ hTr).mono ?_; rintro e W1 ⟨rfl, hb1⟩; obtain ⟨q0, q1, q2⟩ := hxb _ hb1; have hS1 := Hst1.out.then_ hb1)
       go_region_held3 (fun w' => w'.cell? ⟨wr.heap.size, 0, none⟩ = some (.int .i64 x.f0) ∧ w'.cell? ⟨wr.heap.size, 1, none⟩ = some (.int .i64 x.f1) ∧ w'.cell? ⟨wr.heap.size, 2, none⟩ = some (.string x.f2))
        (first
         | exact ⟨q0, q1, q2⟩
         | (go_split_ands; exact ⟨frame_cell hF3 hl2 hnb hno (by assumption), frame_cell hF3 hl2 hnb hno (by assumption), frame_cell hF3 hl2 hnb hno (by assumption)⟩)
         | (go_split_ands; exact ⟨cell_keep0 hb2 (by assumption), cell_keep0 hb2 (by assumption), cell_keep0 hb2 (by assumption)⟩)
         | go_keep)
        ((first
         | (go_at_call 39; refine (hD _).mono ?_; rintro e W2 ⟨rfl, hb2⟩; have hl2 := fin _ _ hb1 hb2)
         | (with_reducible refine Calls.mono (hG _ ((hS1.then_ (below_drew0 _)).then_ hb2)) ?_; rintro e W3 ⟨v3, rfl, hS3, hF3⟩)))
       go_wp2
       refine ⟨⟨k + 1, v3, s', most', by omega, by go_num, hs', hS3, ?_⟩, by simp [intOf]; omega⟩
       rw [Hrun.out, Hpd.out]
       conv => lhs; unfold runP
       rw [if_neg (by rw [Hmb.out]; simp), Hy.out]
       rfl
      ·have he1 : (er == 0) = false := by simp [her]
       have he2 : (er != 0) = true := by simp [her]
       have Her := Lib.hid her
       clear her
       go_wp2_with (go_at_call 38; refine (hM _ hTr).mono ?_; rintro e W1 ⟨rfl, hb1⟩; obtain ⟨q0, q1, q2⟩ := hxb _ hb1; have hS1 := Hst1.out.then_ hb1)
       go_region_held3 (fun w' => w'.cell? ⟨wr.heap.size, 0, none⟩ = some (.int .i64 x.f0) ∧ w'.cell? ⟨wr.heap.size, 1, none⟩ = some (.int .i64 x.f1) ∧ w'.cell? ⟨wr.heap.size, 2, none⟩ = some (.string x.f2))
        (first
         | exact ⟨q0, q1, q2⟩
         | (go_split_ands; exact ⟨frame_cell hF3 hl2 hnb hno (by assumption), frame_cell hF3 hl2 hnb hno (by assumption), frame_cell hF3 hl2 hnb hno (by assumption)⟩)
         | (go_split_ands; exact ⟨cell_keep0 hb2 (by assumption), cell_keep0 hb2 (by assumption), cell_keep0 hb2 (by assumption)⟩)
         | go_keep)
        ((first
         | (go_at_call 39; refine (hD _).mono ?_; rintro e W2 ⟨rfl, hb2⟩; have hl2 := fin _ _ hb1 hb2)
         | (with_reducible refine Calls.mono (hG _ ((hS1.then_ (below_drew0 _)).then_ hb2)) ?_; rintro e W3 ⟨v3, rfl, hS3, hF3⟩)))
       go_wp2
       go_ret2
       have e : runP may fold p 0 ([], 0) = ((s', most'), (k : Int), er) := by
        rw [Hrun.out, Hpd.out]
        conv => lhs; unfold runP
        rw [if_neg (by rw [Hmb.out]; simp), Hy.out]
        simp only
        rw [if_pos Her.out]
       rw [e]
       exact ⟨_, rfl, hS3⟩
  ·obtain rfl : k = n := by omega
   have hi1 : ¬ ((k : Int) < (k : Int)) := by omega
   have e : runP may fold p 0 ([], 0) = ((s, most), (k : Int), 0) := by
    rw [hrun, List.drop_of_length_le (by rw [Hn.out]; exact Nat.le_refl _)]
    rfl
   have He := Lib.hid e
   have Hst := Lib.hid hst
   clear hrun e hst
   go_wp2
   go_ret2
   rw [He.out]
   exact ⟨rfl, _, Hst.out⟩
set_option maxHeartbeats 4000000 in
set_option maxRecDepth 100000 in
theorem begin_fold (A : Option Addr) (n c : Nat) (Af : Option Addr) (m cf : Nat) (h : m ≠ 0 ∧ m ≠ 2) (W : World) : Calls Tryz.prog 25 #[.slice A n c, .slice Af m cf] W fun e W' => e = .returned (.tuple #[.pointer none, .int .i64 1]) ∧ W' = W := by
 have h1 : ((m : Int) != 0) = true := by simp; omega
 have h2 : ((m : Int) != 2) = true := by simp; omega
 go_enter Tryz.func25, Tryz.ntmps25
 go_wp2
 go_ret2
 exact ⟨rfl, rfl⟩
set_option maxHeartbeats 4000000 in
set_option maxRecDepth 100000 in
theorem begin_long (A : Option Addr) (n c : Nat) (Af : Option Addr) (m cf : Nat) (h : m = 0 ∨ m = 2) (hn : 200 < n) (W : World) : Calls Tryz.prog 25 #[.slice A n c, .slice Af m cf] W fun e W' => e = .returned (.tuple #[.pointer none, .int .i64 5]) ∧ W' = W := by
 have h3 : (n : Int) > 200 := by omega
 have h4 : decide ((n : Int) > 200) = true := decide_eq_true h3
 rcases h with rfl | rfl
 ·go_enter Tryz.func25, Tryz.ntmps25
  go_wp2
  go_ret2
  exact ⟨rfl, rfl⟩
 ·go_enter Tryz.func25, Tryz.ntmps25
  go_wp2
  go_ret2
  exact ⟨rfl, rfl⟩
set_option maxHeartbeats 4000000 in
set_option maxRecDepth 100000 in
theorem begin_ok (A : Option Addr) (n c : Nat) (Af : Option Addr) (m cf : Nat) (h : m = 0 ∨ m = 2) (hn : ¬ 200 < n) (W : World) : Calls Tryz.prog 25 #[.slice A n c, .slice Af m cf] W fun e W' => e = .returned (.tuple #[.pointer (some ⟨W.heap.size, 0, none⟩), .int .i64 0]) ∧ W' = W.alloc (.cells #[.slice none 0 0, .slice Af m cf, .int .i64 0] 64) := by
 have hu1 := Tryz.underlying64
 have h3 : ¬ (n : Int) > 200 := by omega
 have h4 : decide ((n : Int) > 200) = false := decide_eq_false h3
 rcases h with rfl | rfl
 ·go_enter Tryz.func25, Tryz.ntmps25
  go_wp2
  go_ret2
  exact ⟨rfl, rfl⟩
 ·go_enter Tryz.func25, Tryz.ntmps25
  go_wp2
  go_ret2
  exact ⟨rfl, rfl⟩
theorem Stk.start (W : World) (F : Value) : Stk W W.heap.size F (.slice none 0 0) [] 0 (W.alloc (.cells #[.slice none 0 0, F, .int .i64 0] 64)) :=
 ⟨heap_alloc_new W _, World.ownsRow_nil _ _ _ _, fun e => by simp [Value.ownBlock] at e, below_alloc (Below.refl _ _) _, Nat.le_refl _⟩
def stackP (may : Ins → Bool) (p : List Ins) (fold : List Bool) : List Bool × Int × Int :=
 if fold.length ≠ 0 ∧ fold.length ≠ 2 then ([], 0, 1) else if 200 < p.length then ([], 0, 5) else ((runP may fold p 0 ([], 0)).1.1, (runP may fold p 0 ([], 0)).2.1, (runP may fold p 0 ([], 0)).2.2)
set_option maxHeartbeats 4000000 in
set_option maxRecDepth 100000 in
theorem stack_calls {T : World → Prop} (hTb : ∀ w w', T w → Below w.heap.size w w' → T w') (may : Ins → Bool)
  (hMay : ∀ (x : Ins) (w : World), T w → Calls Tryz.prog 38 #[insV x.f0 x.f1 x.f2] w fun e w' => e = .returned (.bool (may x)) ∧ Below w.heap.size w w')
  (hop : ∀ x, may x = true → 22 ≤ x.f0 → x.f0 = 22 ∨ x.f0 = 23)
  (A : Option Addr) (c : Nat) (p : List Ins) (Af : Option Addr) (cf : Nat) (fold : List Bool) (w : World) (hT : T w) (hp : Kd.C k44 w A p.length p) (hr : Kd.bool.C w Af fold.length fold) :
  Calls Tryz.prog 17 #[.slice A p.length c, .slice Af fold.length cf] w fun e w' => ∃ v : Value, e = .returned (.tuple #[v, .int .i64 (stackP may p fold).2.1, .int .i64 (stackP may p fold).2.2]) ∧ Kd.R Kd.bool 4 w' w.heap.size (fun _ => True) v (stackP may p fold).1 ∧ Below w.heap.size w w' := by
 have hu1 := Tryz.underlying64
 by_cases h1 : fold.length ≠ 0 ∧ fold.length ≠ 2
 ·have e : stackP may p fold = ([], 0, 1) := by unfold stackP; rw [if_pos h1]
  have hb := begin_fold A p.length c Af fold.length cf h1
  rw [e]
  clear hp hr e h1
  go_enter Tryz.func17, Tryz.ntmps17
  go_wp2_with (go_at_call 25; refine (hb _).mono ?_; rintro e W1 ⟨rfl, rfl⟩)
  go_ret3
  exact ⟨_, rfl, Kd.R_nil _ _ _ _ _, Below.refl _ _⟩
 have hf : fold.length = 0 ∨ fold.length = 2 := by omega
 by_cases h2 : 200 < p.length
 ·have e : stackP may p fold = ([], 0, 5) := by unfold stackP; rw [if_neg h1, if_pos h2]
  have hb := begin_long A p.length c Af fold.length cf hf h2
  rw [e]
  clear hp hr e h1 h2 hf
  go_enter Tryz.func17, Tryz.ntmps17
  go_wp2_with (go_at_call 25; refine (hb _).mono ?_; rintro e W1 ⟨rfl, rfl⟩)
  go_ret3
  exact ⟨_, rfl, Kd.R_nil _ _ _ _ _, Below.refl _ _⟩
 ·have e : stackP may p fold = ((runP may fold p 0 ([], 0)).1.1, (runP may fold p 0 ([], 0)).2.1, (runP may fold p 0 ([], 0)).2.2) := by unfold stackP; rw [if_neg h1, if_neg h2]
  have hb := begin_ok A p.length c Af fold.length cf hf h2
  have hrun := run_calls hTb may hMay hop (Stk.start w (.slice Af fold.length cf)) hT hr hf A c p hp (by omega)
  rw [e]
  rcases hq : runP may fold p 0 ([], 0) with ⟨⟨s, most⟩, n, er⟩
  rw [hq] at hrun
  clear hp hr e h1 h2 hf hq
  go_enter Tryz.func17, Tryz.ntmps17
  go_wp2_with (first
   | (go_at_call 25; refine (hb _).mono ?_; rintro e W1 ⟨rfl, rfl⟩)
   | (go_at_call 26; refine hrun.mono ?_; rintro e W2 ⟨v2, rfl, hS2⟩; have cS := hS2.getS; have H2 := Lib.hid hS2; clear hS2))
  go_ret3
  exact ⟨_, rfl, Kd.R_of_own (h1 := fun _ => rfl) H2.out.own (fun _ _ => trivial), H2.out.below⟩
end Go.Proofs.YtnodgcakmolleaaGreatDoor.XCheck
