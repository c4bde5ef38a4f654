/- check: how a program goes over a stack; what it comes to; how deep it goes. -/
import Derived.Test.YtialoecplmnjfaaGreatDoorProg
import Derived.Test.YtialoecplmnjfaaGreatDoorXA
import Derived.Test.YtialoecplmnjfaaGreatDoorPXx0
import Derived.Deep.RegionHeld3
import Derived.Deep.DrawnRows
import Derived.Lib.Hide
import Derived.Deep.DeepCutAuto
import Derived.Deep.AppendLies
import Derived.RegionTactic
import Derived.Deep.RegionLaw
set_option linter.unusedVariables false
set_option linter.unusedSimpArgs false
namespace Go.Proofs.YtialoecplmnjfaaGreatDoor.XCheck
open Go.RowKit Go.Proofs Go.Proofs.YtialoecplmnjfaaGreatDoorW.PrintWords Go.Proofs.YtialoecplmnjfaaGreatDoorW.PrintLast Go.Proofs.YtialoecplmnjfaaGreatDoorW.PrintMore Go.Proofs.YtialoecplmnjfaaGreatDoor.PX
abbrev Ins : Type := S50
def stepP (fold : List Bool) (x : List Bool × Int) (o : Int) : (List Bool × Int) × Int := if 22 ≤ o then givenP fold x o else if 0 < XOps.arityF o then doneP x o else plainP x o
def runP (may : Ins → Bool) (fold : List Bool) : List Ins → Nat → List Bool × Int → (List Bool × Int) × Int × Int
  | [], i, x => (x, (i : Int), 0)
  | a :: r, i, x => if may a = false then (x, (i : Int), 1) else if (stepP fold x a.f0).2 ≠ 0 then ((stepP fold x a.f0).1, (i : Int), (stepP fold x a.f0).2) else runP may fold r (i + 1) (stepP fold x a.f0).1
theorem pushP_len {x : List Bool × Int} {t : Bool} (h : x.1.length ≤ 30) : (pushP x t).1.1.length ≤ 30 := by
  unfold pushP
  by_cases c : x.1.length = 30
  · rw [if_pos c]; exact h
  · rw [if_neg c]
    simp only [List.length_append, List.length_cons, List.length_nil]
    omega
theorem stepP_len {fold : List Bool} {x : List Bool × Int} {o : Int} (h : x.1.length ≤ 30) : (stepP fold x o).1.1.length ≤ 30 := by
  unfold stepP givenP doneP plainP
  by_cases c : 22 ≤ o
  · rw [if_pos c]
    by_cases c2 : fold.length = 0
    · rw [if_pos c2]; exact h
    · rw [if_neg c2]; exact pushP_len h
  · rw [if_neg c]
    by_cases c2 : 0 < XOps.arityF o
    · rw [if_pos c2]
      by_cases c3 : (x.1.length : Int) < XOps.arityF o
      · rw [if_pos c3]; exact h
      · rw [if_neg c3]
        by_cases c4 : (XOps.resultF o (x.1.drop (x.1.length - (XOps.arityF o).toNat))).2 ≠ 0
        · rw [if_pos c4]; exact h
        · rw [if_neg c4]
          exact pushP_len (by rw [List.length_take]; omega)
    · rw [if_neg c2]; exact pushP_len h
theorem arity_le (o : Int) : XOps.arityF o ≤ 3 := by
  have h := XOps.op_any o
  unfold XOps.arityF
  rcases hq : XOps.opFn o with _ | ⟨ks, t, f⟩
  · decide
  · rw [hq] at h
    have := h.2
    simp only
    omega
theorem x_below {W W1 : World} (x : Ins) (hb : Below (W.alloc (insC x.f0 x.f1 x.f2)).heap.size (W.alloc (insC x.f0 x.f1 x.f2)) W1) : W1.cell? ⟨W.heap.size, 0, none⟩ = some (.int .i64 x.f0) ∧ W1.cell? ⟨W.heap.size, 1, none⟩ = some (.int .i64 x.f1) ∧ W1.cell? ⟨W.heap.size, 2, none⟩ = some (.string x.f2) := by
  have h := heap_alloc_new W (insC x.f0 x.f1 x.f2)
  have h2 := (hb.block _ (blk_lt h)).trans h
  exact ⟨(blk_cell h2 0).trans rfl, (blk_cell h2 1).trans rfl, (blk_cell h2 2).trans rfl⟩
set_option maxHeartbeats 4000000 in
set_option maxRecDepth 100000 in
theorem run_calls {T : World → Prop} (hTb : ∀ w w', T w → Below w.heap.size w w' → T w') (may : Ins → Bool)
    (hMay : ∀ (x : Ins) (w : World), T w → Calls Tryz.prog 55 #[insV x.f0 x.f1 x.f2] w fun e w' => e = .returned (.bool (may x)) ∧ Below w.heap.size w w')
    (hop : ∀ x, may x = true → 22 ≤ x.f0 → x.f0 = 22 ∨ x.f0 = 23)
    {w0 W : World} {B : Nat} {Af : Option Addr} {cf : Nat} {fold : List Bool} (hS : Stk w0 B (.slice Af fold.length cf) (.slice none 0 0) [] 0 W) (hT : T w0) (hr : Kd.bool.C w0 Af fold.length fold) (hf : fold.length = 0 ∨ fold.length = 2)
    (A : Option Addr) (c : Nat) (p : List Ins) (hp : Kd.C k50 w0 A p.length p) (hpl : p.length ≤ 281474976710656) :
    Calls Tryz.prog 48 #[.pointer (some ⟨B, 0, none⟩), .slice A p.length c] W fun e W' => ∃ v', e = .returned (.tuple #[.int .i64 (runP may fold p 0 ([], 0)).2.1, .int .i64 (runP may fold p 0 ([], 0)).2.2]) ∧ Stk w0 B (.slice Af fold.length cf) v' (runP may fold p 0 ([], 0)).1.1 (runP may fold p 0 ([], 0)).1.2 W' := by
  have hu1 := Tryz.underlying50
  obtain ⟨n, hn⟩ : ∃ n, p.length = n := ⟨_, rfl⟩
  rw [hn] at hp hpl ⊢
  have Hn := Lib.hid hn
  clear hn
  have HS := Lib.hid hS
  have Hf := Lib.hid hf
  clear hS hf
  go_enter Tryz.func48, Tryz.ntmps48
  go_wp2
  go_loopw [11] (fun i wr => ∃ (k : Nat) (v : Value) (s : List Bool) (most : Int), k ≤ n ∧ i = .int .i64 k ∧ s.length ≤ 30 ∧ Stk w0 B (.slice Af fold.length cf) v s most wr ∧ runP may fold p 0 ([], 0) = runP may fold (p.drop k) k (s, most)) (fun i _ => n - (intOf i).toNat)
  case atStart => exact ⟨0, _, [], 0, Nat.zero_le _, rfl, by decide, HS.out, rfl⟩
  case round =>
    obtain ⟨k, v, s, most, hk, rfl, hsl, hst, hrun⟩ := hrel
    by_cases hlt : k < n
    · have hi1 : (k : Int) < (n : Int) := by omega
      have hwk : wrap64 ((k : Int) + 1) = (k : Int) + 1 := by unfold wrap64; omega
      obtain ⟨ad, rfl, h0, h1, h2⟩ := at_T50 (Kd.C_below hp hst.below) (k : Int) (by omega) (by omega)
      rw [Int.toNat_natCast] at h0 h1 h2
      obtain ⟨x, hx⟩ : ∃ x, x = rd_T50 p (k : Int) := ⟨_, rfl⟩
      rw [← hx] at h0 h1 h2
      have hpd : p.drop k = x :: p.drop (k + 1) := by
        have hk' : k < p.length := by rw [Hn.out]; exact hlt
        rw [List.drop_eq_getElem_cons hk', hx]
        unfold rd_T50
        rw [Int.toNat_natCast, List.getD_eq_getElem?_getD, List.getElem?_eq_getElem hk']
        rfl
      have hM := hMay x
      unfold insV at hM
      have hwl := hst.lt
      have hol := fun g (hg : v.ownBlock = some g) => hst.own_lt hg
      have hnb : wr.heap.size ≠ B := by omega
      have hno : some wr.heap.size ≠ v.ownBlock := fun e => absurd (hol _ e.symm) (Nat.lt_irrefl _)
      have hTr := hTb _ _ hT (hst.then_ (below_alloc (Below.refl wr.heap.size wr) (insC x.f0 x.f1 x.f2))).below
      have hst1 := hst.then_ (below_alloc (Below.refl wr.heap.size wr) (insC x.f0 x.f1 x.f2))
      have hxb := fun W1 => x_below (W := wr) (W1 := W1) x
      unfold insC at hTr hst1 hxb
      rcases hmb : may x with _ | _
      · rw [hmb] at hM
        have e : runP may fold p 0 ([], 0) = ((s, most), (k : Int), 1) := by
          rw [hrun, hpd]
          unfold runP
          rw [if_pos hmb]
        have He := Lib.hid e
        have Hst1 := Lib.hid hst1
        clear hrun e hpd hst1 hst hxb hx hmb
        go_wp2_with (go_at_call 55; refine (hM _ hTr).mono ?_; rintro e W1 ⟨rfl, hb1⟩)
        go_ret2
        rw [He.out]
        exact ⟨_, rfl, Hst1.out.then_ hb1⟩
      · rw [hmb] at hM
        by_cases hc : 22 ≤ x.f0
        · skip
          have hD := fun W => does_given B x.f0 x.f1 x.f2 hc W
          rcases hy : stepP fold (s, most) x.f0 with ⟨⟨s', most'⟩, er⟩
          have hG := fun W2 (h2 : Stk w0 B (.slice Af fold.length cf) v s most W2) => given_calls h2 hsl hr Hf.out x.f0 x.f1 x.f2 (hop x hmb hc)
          have hs' : s'.length ≤ 30 := by have := stepP_len (fold := fold) (x := (s, most)) (o := x.f0) hsl; rw [hy] at this; exact this
          rw [← (show stepP fold (s, most) x.f0 = givenP fold (s, most) x.f0 by unfold stepP; rw [if_pos hc]), hy] at hG
          unfold insV at hD hG
          have Hy := Lib.hid hy
          have Hrun := Lib.hid hrun
          have Hpd := Lib.hid hpd
          have Hst1 := Lib.hid hst1
          have Hmb := Lib.hid hmb
          clear hy hrun hpd hst1 hst hx hmb hc
          have fin : ∀ W1 W2, Below (wr.alloc (.cells #[.int .i64 x.f0, .int .i64 x.f1, .string x.f2] 50)).heap.size (wr.alloc (.cells #[.int .i64 x.f0, .int .i64 x.f1, .string x.f2] 50)) W1 → Below W1.drew.heap.size W1.drew W2 → wr.heap.size < W2.heap.size := fun W1 W2 h1 h2 => by
            have e1 := h1.size
            have e2 := h2.size
            simp at e1 e2
            omega
          by_cases her : er = 0
          · subst her
            go_wp2_with (go_at_call 55; refine (hM _ hTr).mono ?_; rintro e W1 ⟨rfl, hb1⟩; obtain ⟨q0, q1, q2⟩ := hxb _ hb1; have hS1 := Hst1.out.then_ hb1)
            go_region_held3 (fun w' => w'.cell? ⟨wr.heap.size, 0, none⟩ = some (.int .i64 x.f0) ∧ w'.cell? ⟨wr.heap.size, 1, none⟩ = some (.int .i64 x.f1) ∧ w'.cell? ⟨wr.heap.size, 2, none⟩ = some (.string x.f2))
              (first
                | exact ⟨q0, q1, q2⟩
                | (go_split_ands; exact ⟨frame_cell hF3 hl2 hnb hno (by assumption), frame_cell hF3 hl2 hnb hno (by assumption), frame_cell hF3 hl2 hnb hno (by assumption)⟩)
                | (go_split_ands; exact ⟨cell_keep0 hb2 (by assumption), cell_keep0 hb2 (by assumption), cell_keep0 hb2 (by assumption)⟩)
                | go_keep)
              ((first
                | (go_at_call 56; refine (hD _).mono ?_; rintro e W2 ⟨rfl, hb2⟩; have hl2 := fin _ _ hb1 hb2)
                | (with_reducible refine Calls.mono (hG _ ((hS1.then_ (below_drew0 _)).then_ hb2)) ?_; rintro e W3 ⟨v3, rfl, hS3, hF3⟩)))
            go_wp2
            refine ⟨⟨k + 1, v3, s', most', by omega, by go_num, hs', hS3, ?_⟩, by simp [intOf]; omega⟩
            rw [Hrun.out, Hpd.out]
            conv => lhs; unfold runP
            rw [if_neg (by rw [Hmb.out]; simp), Hy.out]
            rfl
          · have he1 : (er == 0) = false := by simp [her]
            have he2 : (er != 0) = true := by simp [her]
            have Her := Lib.hid her
            clear her
            go_wp2_with (go_at_call 55; refine (hM _ hTr).mono ?_; rintro e W1 ⟨rfl, hb1⟩; obtain ⟨q0, q1, q2⟩ := hxb _ hb1; have hS1 := Hst1.out.then_ hb1)
            go_region_held3 (fun w' => w'.cell? ⟨wr.heap.size, 0, none⟩ = some (.int .i64 x.f0) ∧ w'.cell? ⟨wr.heap.size, 1, none⟩ = some (.int .i64 x.f1) ∧ w'.cell? ⟨wr.heap.size, 2, none⟩ = some (.string x.f2))
              (first
                | exact ⟨q0, q1, q2⟩
                | (go_split_ands; exact ⟨frame_cell hF3 hl2 hnb hno (by assumption), frame_cell hF3 hl2 hnb hno (by assumption), frame_cell hF3 hl2 hnb hno (by assumption)⟩)
                | (go_split_ands; exact ⟨cell_keep0 hb2 (by assumption), cell_keep0 hb2 (by assumption), cell_keep0 hb2 (by assumption)⟩)
                | go_keep)
              ((first
                | (go_at_call 56; refine (hD _).mono ?_; rintro e W2 ⟨rfl, hb2⟩; have hl2 := fin _ _ hb1 hb2)
                | (with_reducible refine Calls.mono (hG _ ((hS1.then_ (below_drew0 _)).then_ hb2)) ?_; rintro e W3 ⟨v3, rfl, hS3, hF3⟩)))
            go_wp2
            go_ret2
            have e : runP may fold p 0 ([], 0) = ((s', most'), (k : Int), er) := by
              rw [Hrun.out, Hpd.out]
              conv => lhs; unfold runP
              rw [if_neg (by rw [Hmb.out]; simp), Hy.out]
              simp only
              rw [if_pos Her.out]
            rw [e]
            exact ⟨_, rfl, hS3⟩
        · by_cases hc2 : 0 < XOps.arityF x.f0
          · skip
            have hD := fun W => does_done B x.f0 x.f1 x.f2 (by omega) hc2 W
            rcases hy : stepP fold (s, most) x.f0 with ⟨⟨s', most'⟩, er⟩
            have hG := fun W2 (h2 : Stk w0 B (.slice Af fold.length cf) v s most W2) => done_calls h2 hsl x.f0 x.f1 x.f2 hc2 (arity_le _)
            have hs' : s'.length ≤ 30 := by have := stepP_len (fold := fold) (x := (s, most)) (o := x.f0) hsl; rw [hy] at this; exact this
            rw [← (show stepP fold (s, most) x.f0 = doneP (s, most) x.f0 by unfold stepP; rw [if_neg hc, if_pos hc2]), hy] at hG
            unfold insV at hD hG
            have Hy := Lib.hid hy
            have Hrun := Lib.hid hrun
            have Hpd := Lib.hid hpd
            have Hst1 := Lib.hid hst1
            have Hmb := Lib.hid hmb
            clear hy hrun hpd hst1 hst hx hmb hc hc2
            have fin : ∀ W1 W2, Below (wr.alloc (.cells #[.int .i64 x.f0, .int .i64 x.f1, .string x.f2] 50)).heap.size (wr.alloc (.cells #[.int .i64 x.f0, .int .i64 x.f1, .string x.f2] 50)) W1 → Below W1.drew.heap.size W1.drew W2 → wr.heap.size < W2.heap.size := fun W1 W2 h1 h2 => by
              have e1 := h1.size
              have e2 := h2.size
              simp at e1 e2
              omega
            by_cases her : er = 0
            · subst her
              go_wp2_with (go_at_call 55; refine (hM _ hTr).mono ?_; rintro e W1 ⟨rfl, hb1⟩; obtain ⟨q0, q1, q2⟩ := hxb _ hb1; have hS1 := Hst1.out.then_ hb1)
              go_region_held3 (fun w' => w'.cell? ⟨wr.heap.size, 0, none⟩ = some (.int .i64 x.f0) ∧ w'.cell? ⟨wr.heap.size, 1, none⟩ = some (.int .i64 x.f1) ∧ w'.cell? ⟨wr.heap.size, 2, none⟩ = some (.string x.f2))
                (first
                  | exact ⟨q0, q1, q2⟩
                  | (go_split_ands; exact ⟨frame_cell hF3 hl2 hnb hno (by assumption), frame_cell hF3 hl2 hnb hno (by assumption), frame_cell hF3 hl2 hnb hno (by assumption)⟩)
                  | (go_split_ands; exact ⟨cell_keep0 hb2 (by assumption), cell_keep0 hb2 (by assumption), cell_keep0 hb2 (by assumption)⟩)
                  | go_keep)
                ((first
                  | (go_at_call 56; refine (hD _).mono ?_; rintro e W2 ⟨rfl, hb2⟩; have hl2 := fin _ _ hb1 hb2)
                  | (with_reducible refine Calls.mono (hG _ ((hS1.then_ (below_drew0 _)).then_ hb2)) ?_; rintro e W3 ⟨v3, rfl, hS3, hF3⟩)))
              go_wp2
              refine ⟨⟨k + 1, v3, s', most', by omega, by go_num, hs', hS3, ?_⟩, by simp [intOf]; omega⟩
              rw [Hrun.out, Hpd.out]
              conv => lhs; unfold runP
              rw [if_neg (by rw [Hmb.out]; simp), Hy.out]
              rfl
            · have he1 : (er == 0) = false := by simp [her]
              have he2 : (er != 0) = true := by simp [her]
              have Her := Lib.hid her
              clear her
              go_wp2_with (go_at_call 55; refine (hM _ hTr).mono ?_; rintro e W1 ⟨rfl, hb1⟩; obtain ⟨q0, q1, q2⟩ := hxb _ hb1; have hS1 := Hst1.out.then_ hb1)
              go_region_held3 (fun w' => w'.cell? ⟨wr.heap.size, 0, none⟩ = some (.int .i64 x.f0) ∧ w'.cell? ⟨wr.heap.size, 1, none⟩ = some (.int .i64 x.f1) ∧ w'.cell? ⟨wr.heap.size, 2, none⟩ = some (.string x.f2))
                (first
                  | exact ⟨q0, q1, q2⟩
                  | (go_split_ands; exact ⟨frame_cell hF3 hl2 hnb hno (by assumption), frame_cell hF3 hl2 hnb hno (by assumption), frame_cell hF3 hl2 hnb hno (by assumption)⟩)
                  | (go_split_ands; exact ⟨cell_keep0 hb2 (by assumption), cell_keep0 hb2 (by assumption), cell_keep0 hb2 (by assumption)⟩)
                  | go_keep)
                ((first
                  | (go_at_call 56; refine (hD _).mono ?_; rintro e W2 ⟨rfl, hb2⟩; have hl2 := fin _ _ hb1 hb2)
                  | (with_reducible refine Calls.mono (hG _ ((hS1.then_ (below_drew0 _)).then_ hb2)) ?_; rintro e W3 ⟨v3, rfl, hS3, hF3⟩)))
              go_wp2
              go_ret2
              have e : runP may fold p 0 ([], 0) = ((s', most'), (k : Int), er) := by
                rw [Hrun.out, Hpd.out]
                conv => lhs; unfold runP
                rw [if_neg (by rw [Hmb.out]; simp), Hy.out]
                simp only
                rw [if_pos Her.out]
              rw [e]
              exact ⟨_, rfl, hS3⟩
          · skip
            have hD := fun W => does_plain B x.f0 x.f1 x.f2 (by omega) hc2 W
            rcases hy : stepP fold (s, most) x.f0 with ⟨⟨s', most'⟩, er⟩
            have hG := fun W2 (h2 : Stk w0 B (.slice Af fold.length cf) v s most W2) => plain_calls h2 hsl x.f0 x.f1 x.f2
            have hs' : s'.length ≤ 30 := by have := stepP_len (fold := fold) (x := (s, most)) (o := x.f0) hsl; rw [hy] at this; exact this
            rw [← (show stepP fold (s, most) x.f0 = plainP (s, most) x.f0 by unfold stepP; rw [if_neg hc, if_neg hc2]), hy] at hG
            unfold insV at hD hG
            have Hy := Lib.hid hy
            have Hrun := Lib.hid hrun
            have Hpd := Lib.hid hpd
            have Hst1 := Lib.hid hst1
            have Hmb := Lib.hid hmb
            clear hy hrun hpd hst1 hst hx hmb hc hc2
            have fin : ∀ W1 W2, Below (wr.alloc (.cells #[.int .i64 x.f0, .int .i64 x.f1, .string x.f2] 50)).heap.size (wr.alloc (.cells #[.int .i64 x.f0, .int .i64 x.f1, .string x.f2] 50)) W1 → Below W1.drew.heap.size W1.drew W2 → wr.heap.size < W2.heap.size := fun W1 W2 h1 h2 => by
              have e1 := h1.size
              have e2 := h2.size
              simp at e1 e2
              omega
            by_cases her : er = 0
            · subst her
              go_wp2_with (go_at_call 55; refine (hM _ hTr).mono ?_; rintro e W1 ⟨rfl, hb1⟩; obtain ⟨q0, q1, q2⟩ := hxb _ hb1; have hS1 := Hst1.out.then_ hb1)
              go_region_held3 (fun w' => w'.cell? ⟨wr.heap.size, 0, none⟩ = some (.int .i64 x.f0) ∧ w'.cell? ⟨wr.heap.size, 1, none⟩ = some (.int .i64 x.f1) ∧ w'.cell? ⟨wr.heap.size, 2, none⟩ = some (.string x.f2))
                (first
                  | exact ⟨q0, q1, q2⟩
                  | (go_split_ands; exact ⟨frame_cell hF3 hl2 hnb hno (by assumption), frame_cell hF3 hl2 hnb hno (by assumption), frame_cell hF3 hl2 hnb hno (by assumption)⟩)
                  | (go_split_ands; exact ⟨cell_keep0 hb2 (by assumption), cell_keep0 hb2 (by assumption), cell_keep0 hb2 (by assumption)⟩)
                  | go_keep)
                ((first
                  | (go_at_call 56; refine (hD _).mono ?_; rintro e W2 ⟨rfl, hb2⟩; have hl2 := fin _ _ hb1 hb2)
                  | (with_reducible refine Calls.mono (hG _ ((hS1.then_ (below_drew0 _)).then_ hb2)) ?_; rintro e W3 ⟨v3, rfl, hS3, hF3⟩)))
              go_wp2
              refine ⟨⟨k + 1, v3, s', most', by omega, by go_num, hs', hS3, ?_⟩, by simp [intOf]; omega⟩
              rw [Hrun.out, Hpd.out]
              conv => lhs; unfold runP
              rw [if_neg (by rw [Hmb.out]; simp), Hy.out]
              rfl
            · have he1 : (er == 0) = false := by simp [her]
              have he2 : (er != 0) = true := by simp [her]
              have Her := Lib.hid her
              clear her
              go_wp2_with (go_at_call 55; refine (hM _ hTr).mono ?_; rintro e W1 ⟨rfl, hb1⟩; obtain ⟨q0, q1, q2⟩ := hxb _ hb1; have hS1 := Hst1.out.then_ hb1)
              go_region_held3 (fun w' => w'.cell? ⟨wr.heap.size, 0, none⟩ = some (.int .i64 x.f0) ∧ w'.cell? ⟨wr.heap.size, 1, none⟩ = some (.int .i64 x.f1) ∧ w'.cell? ⟨wr.heap.size, 2, none⟩ = some (.string x.f2))
                (first
                  | exact ⟨q0, q1, q2⟩
                  | (go_split_ands; exact ⟨frame_cell hF3 hl2 hnb hno (by assumption), frame_cell hF3 hl2 hnb hno (by assumption), frame_cell hF3 hl2 hnb hno (by assumption)⟩)
                  | (go_split_ands; exact ⟨cell_keep0 hb2 (by assumption), cell_keep0 hb2 (by assumption), cell_keep0 hb2 (by assumption)⟩)
                  | go_keep)
                ((first
                  | (go_at_call 56; refine (hD _).mono ?_; rintro e W2 ⟨rfl, hb2⟩; have hl2 := fin _ _ hb1 hb2)
                  | (with_reducible refine Calls.mono (hG _ ((hS1.then_ (below_drew0 _)).then_ hb2)) ?_; rintro e W3 ⟨v3, rfl, hS3, hF3⟩)))
              go_wp2
              go_ret2
              have e : runP may fold p 0 ([], 0) = ((s', most'), (k : Int), er) := by
                rw [Hrun.out, Hpd.out]
                conv => lhs; unfold runP
                rw [if_neg (by rw [Hmb.out]; simp), Hy.out]
                simp only
                rw [if_pos Her.out]
              rw [e]
              exact ⟨_, rfl, hS3⟩
    · obtain rfl : k = n := by omega
      have hi1 : ¬ ((k : Int) < (k : Int)) := by omega
      have e : runP may fold p 0 ([], 0) = ((s, most), (k : Int), 0) := by
        rw [hrun, List.drop_of_length_le (by rw [Hn.out]; exact Nat.le_refl _)]
        rfl
      have He := Lib.hid e
      have Hst := Lib.hid hst
      clear hrun e hst
      go_wp2
      go_ret2
      rw [He.out]
      exact ⟨rfl, _, Hst.out⟩
set_option maxHeartbeats 4000000 in
set_option maxRecDepth 100000 in
theorem begin_fold (A : Option Addr) (n c : Nat) (Af : Option Addr) (m cf : Nat) (h : m ≠ 0 ∧ m ≠ 2) (W : World) : Calls Tryz.prog 47 #[.slice A n c, .slice Af m cf] W fun e W' => e = .returned (.tuple #[.pointer none, .int .i64 1]) ∧ W' = W := by
  have h1 : ((m : Int) != 0) = true := by simp; omega
  have h2 : ((m : Int) != 2) = true := by simp; omega
  go_enter Tryz.func47, Tryz.ntmps47
  go_wp2
  go_ret2
  exact ⟨rfl, rfl⟩
set_option maxHeartbeats 4000000 in
set_option maxRecDepth 100000 in
theorem begin_long (A : Option Addr) (n c : Nat) (Af : Option Addr) (m cf : Nat) (h : m = 0 ∨ m = 2) (hn : 200 < n) (W : World) : Calls Tryz.prog 47 #[.slice A n c, .slice Af m cf] W fun e W' => e = .returned (.tuple #[.pointer none, .int .i64 5]) ∧ W' = W := by
  have h3 : (n : Int) > 200 := by omega
  have h4 : decide ((n : Int) > 200) = true := decide_eq_true h3
  rcases h with rfl | rfl
  · go_enter Tryz.func47, Tryz.ntmps47
    go_wp2
    go_ret2
    exact ⟨rfl, rfl⟩
  · go_enter Tryz.func47, Tryz.ntmps47
    go_wp2
    go_ret2
    exact ⟨rfl, rfl⟩
set_option maxHeartbeats 4000000 in
set_option maxRecDepth 100000 in
theorem begin_ok (A : Option Addr) (n c : Nat) (Af : Option Addr) (m cf : Nat) (h : m = 0 ∨ m = 2) (hn : ¬ 200 < n) (W : World) : Calls Tryz.prog 47 #[.slice A n c, .slice Af m cf] W fun e W' => e = .returned (.tuple #[.pointer (some ⟨W.heap.size, 0, none⟩), .int .i64 0]) ∧ W' = W.alloc (.cells #[.slice none 0 0, .slice Af m cf, .int .i64 0] 103) := by
  have hu1 := Tryz.underlying103
  have h3 : ¬ (n : Int) > 200 := by omega
  have h4 : decide ((n : Int) > 200) = false := decide_eq_false h3
  rcases h with rfl | rfl
  · go_enter Tryz.func47, Tryz.ntmps47
    go_wp2
    go_ret2
    exact ⟨rfl, rfl⟩
  · go_enter Tryz.func47, Tryz.ntmps47
    go_wp2
    go_ret2
    exact ⟨rfl, rfl⟩
theorem Stk.start (W : World) (F : Value) : Stk W W.heap.size F (.slice none 0 0) [] 0 (W.alloc (.cells #[.slice none 0 0, F, .int .i64 0] 103)) :=
  ⟨heap_alloc_new W _, World.ownsRow_nil _ _ _ _, fun e => by simp [Value.ownBlock] at e, below_alloc (Below.refl _ _) _, Nat.le_refl _⟩
def stackP (may : Ins → Bool) (p : List Ins) (fold : List Bool) : List Bool × Int × Int :=
  if fold.length ≠ 0 ∧ fold.length ≠ 2 then ([], 0, 1) else if 200 < p.length then ([], 0, 5) else ((runP may fold p 0 ([], 0)).1.1, (runP may fold p 0 ([], 0)).2.1, (runP may fold p 0 ([], 0)).2.2)
set_option maxHeartbeats 4000000 in
set_option maxRecDepth 100000 in
theorem stack_calls {T : World → Prop} (hTb : ∀ w w', T w → Below w.heap.size w w' → T w') (may : Ins → Bool)
    (hMay : ∀ (x : Ins) (w : World), T w → Calls Tryz.prog 55 #[insV x.f0 x.f1 x.f2] w fun e w' => e = .returned (.bool (may x)) ∧ Below w.heap.size w w')
    (hop : ∀ x, may x = true → 22 ≤ x.f0 → x.f0 = 22 ∨ x.f0 = 23)
    (A : Option Addr) (c : Nat) (p : List Ins) (Af : Option Addr) (cf : Nat) (fold : List Bool) (w : World) (hT : T w) (hp : Kd.C k50 w A p.length p) (hr : Kd.bool.C w Af fold.length fold) :
    Calls Tryz.prog 40 #[.slice A p.length c, .slice Af fold.length cf] w fun e w' => ∃ v : Value, e = .returned (.tuple #[v, .int .i64 (stackP may p fold).2.1, .int .i64 (stackP may p fold).2.2]) ∧ Kd.R Kd.bool 4 w' w.heap.size (fun _ => True) v (stackP may p fold).1 ∧ Below w.heap.size w w' := by
  have hu1 := Tryz.underlying103
  by_cases h1 : fold.length ≠ 0 ∧ fold.length ≠ 2
  · have e : stackP may p fold = ([], 0, 1) := by unfold stackP; rw [if_pos h1]
    have hb := begin_fold A p.length c Af fold.length cf h1
    rw [e]
    clear hp hr e h1
    go_enter Tryz.func40, Tryz.ntmps40
    go_wp2_with (go_at_call 47; refine (hb _).mono ?_; rintro e W1 ⟨rfl, rfl⟩)
    go_ret3
    exact ⟨_, rfl, Kd.R_nil _ _ _ _ _, Below.refl _ _⟩
  have hf : fold.length = 0 ∨ fold.length = 2 := by omega
  by_cases h2 : 200 < p.length
  · have e : stackP may p fold = ([], 0, 5) := by unfold stackP; rw [if_neg h1, if_pos h2]
    have hb := begin_long A p.length c Af fold.length cf hf h2
    rw [e]
    clear hp hr e h1 h2 hf
    go_enter Tryz.func40, Tryz.ntmps40
    go_wp2_with (go_at_call 47; refine (hb _).mono ?_; rintro e W1 ⟨rfl, rfl⟩)
    go_ret3
    exact ⟨_, rfl, Kd.R_nil _ _ _ _ _, Below.refl _ _⟩
  · have e : stackP may p fold = ((runP may fold p 0 ([], 0)).1.1, (runP may fold p 0 ([], 0)).2.1, (runP may fold p 0 ([], 0)).2.2) := by unfold stackP; rw [if_neg h1, if_neg h2]
    have hb := begin_ok A p.length c Af fold.length cf hf h2
    have hrun := run_calls hTb may hMay hop (Stk.start w (.slice Af fold.length cf)) hT hr hf A c p hp (by omega)
    rw [e]
    rcases hq : runP may fold p 0 ([], 0) with ⟨⟨s, most⟩, n, er⟩
    rw [hq] at hrun
    clear hp hr e h1 h2 hf hq
    go_enter Tryz.func40, Tryz.ntmps40
    go_wp2_with (first
      | (go_at_call 47; refine (hb _).mono ?_; rintro e W1 ⟨rfl, rfl⟩)
      | (go_at_call 48; refine hrun.mono ?_; rintro e W2 ⟨v2, rfl, hS2⟩; have cS := hS2.getS; have H2 := Lib.hid hS2; clear hS2))
    go_ret3
    exact ⟨_, rfl, Kd.R_of_own (h1 := fun _ => rfl) H2.out.own (fun _ _ => trivial), H2.out.below⟩
end Go.Proofs.YtialoecplmnjfaaGreatDoor.XCheck
namespace Go.Proofs.YtialoecplmnjfaaGreatDoor.XOps
open Go.RowKit Go.Proofs Go.Proofs.YtialoecplmnjfaaGreatDoorW.PrintWords Go.Proofs.YtialoecplmnjfaaGreatDoorW.PrintLast Go.Proofs.YtialoecplmnjfaaGreatDoorW.PrintMore Go.Proofs.YtialoecplmnjfaaGreatDoor.PX
abbrev Sv := S24
abbrev zv : Sv := z24
def enV (x : Sv) : Value := .agg #[.bool x.f0, .int .i64 x.f1, .string x.f2]
def isValB (x : Sv) : Bool := if x.f0 = true then (decide (x.f1 = 0) && decide ((x.f2.size : Int) ≤ 1000)) else x.f2.toList == ([] : List UInt8)
def doF (D : Nat → Sv → Sv → Sv → Option Sv) (o : Int) (l : List Sv) : Option (Sv × Int) :=
  if l.any (fun x => !isValB x) then some (zv, 1) else
  if (resultF o (l.map (·.f0))).2 ≠ 0 then some (zv, (resultF o (l.map (·.f0))).2) else
  match opFn o with
  | none => none
  | some (_, _, f) => (D f (l.getD 0 zv) (l.getD 1 zv) (l.getD 2 zv)).map fun r => (r, 0)
theorem doF_mono {D D' : Nat → Sv → Sv → Sv → Option Sv} (h : ∀ f x y z r, D f x y z = some r → D' f x y z = some r) {o : Int} {l : List Sv} {p : Sv × Int} (e : doF D o l = some p) : doF D' o l = some p := by
  unfold doF at *
  by_cases c1 : l.any (fun x => !isValB x) = true
  · rw [if_pos c1] at *; exact e
  rw [if_neg c1] at *
  by_cases c2 : (resultF o (l.map (·.f0))).2 ≠ 0
  · rw [if_pos c2] at *; exact e
  rw [if_neg c2] at *
  rcases hq : opFn o with _ | ⟨ks, t, f⟩
  · rw [hq] at e; cases e
  · rw [hq] at e
    obtain ⟨r, h1, h2⟩ := Option.map_eq_some_iff.1 e
    exact Option.map_eq_some_iff.2 ⟨r, h _ _ _ _ _ h1, h2⟩
def isF (l : List Sv) (k : Nat) : List Bool := (l.take k).map (·.f0) ++ List.replicate (l.length - k) false
structure Loop1 (w wr : World) (l : List Sv) (k : Nat) : Prop where
  res : wr.heap[w.heap.size]? = some (.cells #[.bool false, .int .i64 0, .string (⟨#[]⟩ : ByteArray)] 24 (0, 0))
  row : wr.heap[w.heap.size + 1]? = some (.cells ((isF l k).map Value.bool).toArray 4 (0, 0))
  below : Below w.heap.size w wr
  good : ∀ j, j < k → isValB (l.getD j zv) = true
theorem Loop1.then_ {w wr w2 : World} {l : List Sv} {k : Nat} (h : Loop1 w wr l k) (hb : Below wr.heap.size wr w2) : Loop1 w w2 l k :=
  ⟨(hb.block _ (blk_lt h.res)).trans h.res, (hb.block _ (blk_lt h.row)).trans h.row, below_then h.below h.below.size hb, h.good⟩
theorem isF_set (l : List Sv) (k : Nat) (hk : k < l.length) : (isF l k).set k (l.getD k zv).f0 = isF l (k + 1) := by
  unfold isF
  apply List.ext_getElem
  · simp; omega
  · intro i h1 h2
    simp only [List.length_set, List.length_append, List.length_map, List.length_take, List.length_replicate] at h1
    rw [List.getElem_set]
    by_cases hik : k = i
    · subst hik
      rw [if_pos rfl, List.getElem_append_left (by simp; omega)]
      simp [hk]
    · rw [if_neg hik]
      by_cases hlt : i < k
      · rw [List.getElem_append_left (by simp; omega), List.getElem_append_left (by simp; omega)]
        simp
      · rw [List.getElem_append_right (by simp; omega), List.getElem_append_right (by simp; omega)]
        simp
theorem Loop1.set {w wr : World} {l : List Sv} {k : Nat} (h : Loop1 w wr l k) (hk : k < l.length) (hg : isValB (l.getD k zv) = true) : Loop1 w (wr.setCell ⟨w.heap.size + 1, k, none⟩ (.bool (l.getD k zv).f0)) l (k + 1) := by
  refine ⟨blk_far h.res (by show w.heap.size ≠ w.heap.size + 1; omega) _, ?_, below_set h.below (by omega), fun j hj => ?_⟩
  · have := blk_set h.row k (.bool (l.getD k zv).f0)
    rw [this, ← isF_set l k hk]
    congr 2
    apply Array.toList_inj.1
    simp [List.map_set]
  · rcases Nat.lt_or_ge j k with h1 | h1
    · exact h.good j h1
    · obtain rfl : j = k := by omega
      exact hg
theorem Loop1.start (w : World) (l : List Sv) : Loop1 w ((w.alloc (.cells #[.bool false, .int .i64 0, .string (⟨#[]⟩ : ByteArray)] 24)).alloc (.cells (madeCells #[.bool false] l.length) 4)) l 0 := by
  have z1 := size_alloc w (.cells #[.bool false, .int .i64 0, .string (⟨#[]⟩ : ByteArray)] 24)
  refine ⟨(heap_alloc_old _ _ (by rw [z1]; exact Nat.lt_succ_self _)).trans (heap_alloc_new w _), ?_, below_alloc (below_alloc (Below.refl _ _) _) _, fun j hj => absurd hj (Nat.not_lt_zero _)⟩
  have := heap_alloc_new (w.alloc (.cells #[.bool false, .int .i64 0, .string (⟨#[]⟩ : ByteArray)] 24)) (.cells (madeCells #[.bool false] l.length) 4)
  rw [z1] at this
  rw [this]
  congr 2
  apply Array.toList_inj.1
  apply List.ext_getElem
  · simp [isF, madeCells]
  · intro i h1 h2
    simp [isF, madeCells, Nat.mod_one]
theorem cell_keep {W w2 : World} {a : Addr} {v : Value} (hb : Below W.heap.size W w2) (h : W.cell? a = some v) : w2.cell? a = some v := by
  have hlt : a.block < W.heap.size := by
    unfold World.cell? at h
    split at h
    · rename_i hx
      exact (Array.getElem?_eq_some_iff.1 hx).1
    · cases h
  exact (hb.cell hlt).trans h
theorem isF_at (l : List Sv) (k : Nat) (hk : k < l.length) : ((isF l k).map Value.bool).toArray[k]? = some (.bool false) := by
  have h2 : (isF l k)[k]? = some false := by
    unfold isF
    rw [List.getElem?_append_right (by simp; omega)]
    have e : k - (List.map (fun x : Sv => x.f0) (List.take k l)).length = 0 := by simp; omega
    rw [e, List.getElem?_replicate]
    rw [if_pos (by omega)]
  simp [h2]
theorem isF_all (l : List Sv) : isF l l.length = l.map (·.f0) := by simp [isF]
theorem Loop1.kinds {w wr : World} {l : List Sv} (h : Loop1 w wr l l.length) (hl : l.length ≤ 9223372036854775807) : Kd.bool.C wr (some ⟨w.heap.size + 1, 0, none⟩) l.length (l.map (·.f0)) := by
  have hrow := h.row
  rw [isF_all] at hrow
  refine Kd.C_of_reads (enc := Value.bool) (d := false) ⟨by simp, hl, fun _ => ⟨_, rfl, fun j hj => ?_⟩⟩
  rw [Addr.add_mid, Nat.zero_add, blk_cell hrow j]
  simp [hj]
def el (l : List Sv) (k j : Nat) : Sv := if j < k then l.getD j zv else zv
def arrOf (a b c : Sv) : Array Value := #[.bool a.f0, .int .i64 a.f1, .string a.f2, .bool b.f0, .int .i64 b.f1, .string b.f2, .bool c.f0, .int .i64 c.f1, .string c.f2]
structure Loop2 (w : World) (g : Nat) (wr : World) (a b c : Sv) : Prop where
  res : wr.heap[w.heap.size]? = some (.cells #[.bool false, .int .i64 0, .string (⟨#[]⟩ : ByteArray)] 24 (0, 0))
  arr : wr.heap[g]? = some (.cells (arrOf a b c) 139 (0, 0))
  below : Below w.heap.size w wr
theorem Loop2.then_ {w wr w2 : World} {g : Nat} {a b c : Sv} (h : Loop2 w g wr a b c) (hb : Below wr.heap.size wr w2) : Loop2 w g w2 a b c :=
  ⟨(hb.block _ (blk_lt h.res)).trans h.res, (hb.block _ (blk_lt h.arr)).trans h.arr, below_then h.below h.below.size hb⟩
theorem Loop2.set {w wr : World} {g : Nat} {a b c a' b' c' : Sv} (h : Loop2 w g wr a b c) (hg : w.heap.size < g) (i j m : Nat) (u v x : Value) (e : ((((arrOf a b c).setIfInBounds i u).setIfInBounds j v).setIfInBounds m x) = arrOf a' b' c') :
    Loop2 w g (((wr.setCell ⟨g, i, none⟩ u).setCell ⟨g, j, none⟩ v).setCell ⟨g, m, none⟩ x) a' b' c' := by
  refine ⟨blk_far (blk_far (blk_far h.res (by show w.heap.size ≠ g; omega) _) (by show w.heap.size ≠ g; omega) _) (by show w.heap.size ≠ g; omega) _, ?_, below_set (below_set (below_set h.below (by omega)) (by omega)) (by omega)⟩
  rw [← e]
  exact blk_set (blk_set (blk_set h.arr i u) j v) m x
theorem Loop2.start {w w2 : World} {l : List Sv} {k : Nat} (h : Loop1 w w2 l k) : Loop2 w w2.heap.size (w2.alloc (.cells (arrOf zv zv zv) 139)) zv zv zv :=
  ⟨(heap_alloc_old _ _ (blk_lt h.res)).trans h.res, heap_alloc_new _ _, below_alloc h.below _⟩
theorem arr_at (a b c : Sv) (i : Nat) (h : i < 9) : ∃ v, (arrOf a b c)[i]? = some v := by
  have : i < (arrOf a b c).size := h
  exact ⟨_, Array.getElem?_eq_getElem this⟩
theorem op_fns (o : Int) : match opFn o with | none => True | some (_, _, f) => ∃ fn, Tryz.prog.funcs[f]? = some fn ∧ (fn.name == "runtime.NumGoroutine") = false ∧ fn.body.isSome = true := by
  by_cases h4 : o = 4
  · subst h4; exact ⟨_, Tryz.func76, by kernel_rfl, by kernel_rfl⟩
  by_cases h5 : o = 5
  · subst h5; exact ⟨_, Tryz.func77, by kernel_rfl, by kernel_rfl⟩
  by_cases h6 : o = 6
  · subst h6; exact ⟨_, Tryz.func78, by kernel_rfl, by kernel_rfl⟩
  by_cases h7 : o = 7
  · subst h7; exact ⟨_, Tryz.func79, by kernel_rfl, by kernel_rfl⟩
  by_cases h8 : o = 8
  · subst h8; exact ⟨_, Tryz.func80, by kernel_rfl, by kernel_rfl⟩
  by_cases h9 : o = 9
  · subst h9; exact ⟨_, Tryz.func81, by kernel_rfl, by kernel_rfl⟩
  by_cases h10 : o = 10
  · subst h10; exact ⟨_, Tryz.func82, by kernel_rfl, by kernel_rfl⟩
  by_cases h11 : o = 11
  · subst h11; exact ⟨_, Tryz.func83, by kernel_rfl, by kernel_rfl⟩
  by_cases h12 : o = 12
  · subst h12; exact ⟨_, Tryz.func84, by kernel_rfl, by kernel_rfl⟩
  by_cases h13 : o = 13
  · subst h13; exact ⟨_, Tryz.func85, by kernel_rfl, by kernel_rfl⟩
  by_cases h14 : o = 14
  · subst h14; exact ⟨_, Tryz.func86, by kernel_rfl, by kernel_rfl⟩
  by_cases h15 : o = 15
  · subst h15; exact ⟨_, Tryz.func87, by kernel_rfl, by kernel_rfl⟩
  by_cases h16 : o = 16
  · subst h16; exact ⟨_, Tryz.func88, by kernel_rfl, by kernel_rfl⟩
  by_cases h17 : o = 17
  · subst h17; exact ⟨_, Tryz.func89, by kernel_rfl, by kernel_rfl⟩
  by_cases h18 : o = 18
  · subst h18; exact ⟨_, Tryz.func90, by kernel_rfl, by kernel_rfl⟩
  by_cases h19 : o = 19
  · subst h19; exact ⟨_, Tryz.func91, by kernel_rfl, by kernel_rfl⟩
  by_cases h20 : o = 20
  · subst h20; exact ⟨_, Tryz.func92, by kernel_rfl, by kernel_rfl⟩
  by_cases h21 : o = 21
  · subst h21; exact ⟨_, Tryz.func93, by kernel_rfl, by kernel_rfl⟩
  have e : opFn o = none := by simp only [opFn, h4, h5, h6, h7, h8, h9, h10, h11, h12, h13, h14, h15, h16, h17, h18, h19, h20, h21, if_false]
  rw [e]; trivial
theorem op_fn {o : Int} {ks : List Int} {t : Int} {f : Nat} (h : opFn o = some (ks, t, f)) : ∃ fn, Tryz.prog.funcs[f]? = some fn ∧ (fn.name == "runtime.NumGoroutine") = false ∧ fn.body.isSome = true := by
  have := op_fns o
  rw [h] at this
  exact this
theorem look_ok {w w1 : World} {b : Nat} (h : OpsAt w w1 b) {o : Int} {ks : List Int} {t : Int} {f : Nat} (hf : opFn o = some (ks, t, f)) :
    ∃ blk, (Instr.lookup 130 (.map (some b)) (.int .i64 o) false).run Tryz.prog w1 = .ok (.agg #[.slice (some ⟨blk, 0, none⟩) ks.length ks.length, .int .i64 t, .func (.func f) #[] #[]]) w1 := by
  rcases look h o with ⟨hq, _, _⟩ | ⟨ks', t', f', blk, hq, _, h0, _⟩
  · rw [hq] at hf; cases hf
  · rw [hq] at hf
    injection hf with hf
    injection hf with e1 hf
    injection hf with e2 e3
    subst e1 e2 e3
    exact ⟨blk, h0⟩
attribute [local go_sem] field2
attribute [local go_sem ↓] Go.wp_at_zero Go.wp_at_succ
theorem cell_far3 {W : World} {g g' i j m n : Nat} {u v x y : Value} (hne : g' ≠ g) (h : W.cell? ⟨g', n, none⟩ = some y) : (((W.setCell ⟨g, i, none⟩ u).setCell ⟨g, j, none⟩ v).setCell ⟨g, m, none⟩ x).cell? ⟨g', n, none⟩ = some y := by
  have e : (((W.setCell ⟨g, i, none⟩ u).setCell ⟨g, j, none⟩ v).setCell ⟨g, m, none⟩ x).heap[g']? = W.heap[g']? :=
    (Below.heap_setCell _ ⟨g, m, none⟩ x g' hne).trans ((Below.heap_setCell _ ⟨g, j, none⟩ v g' hne).trans (Below.heap_setCell _ ⟨g, i, none⟩ u g' hne))
  rw [← h]
  unfold World.cell?
  rw [show (Addr.mk g' n none).block = g' from rfl, e]
theorem drew_below {W w2 : World} (h : Below W.drew.heap.size W.drew w2) : Below W.heap.size W w2 := ⟨h.os, h.tape, h.output, h.size, h.block⟩
theorem res_len {o : Int} {l : List Bool} {rb : Bool} (h : resultF o l = (rb, 0)) : ∃ ks t f, opFn o = some (ks, t, f) ∧ l.length = ks.length ∧ 0 < ks.length ∧ ks.length ≤ 3 := by
  unfold resultF at h
  rcases hq : opFn o with _ | ⟨ks, t, f⟩
  · rw [hq] at h
    simp at h
  · rw [hq] at h
    refine ⟨ks, t, f, rfl, ?_, op_len hq⟩
    simp only at h
    by_cases hl : l.length ≠ ks.length
    · rw [if_pos hl] at h
      simp at h
    · omega
theorem do_err {D : Nat → Sv → Sv → Sv → Option Sv} {o : Int} {l : List Sv} {r : Sv} {er : Int} (h : doF D o l = some (r, er)) (hg : ∀ j, j < l.length → isValB (l.getD j zv) = true) {rb : Bool} {re : Int} (hq : resultF o (l.map (·.f0)) = (rb, re)) (hre : ¬ re = 0) : r = zv ∧ er = re := by
  have : ¬ l.any (fun x => !isValB x) = true := by
    rw [List.any_eq_true]
    rintro ⟨x, hx, hx2⟩
    obtain ⟨j, hj, rfl⟩ := List.getElem_of_mem hx
    have := hg j hj
    rw [List.getD_eq_getElem?_getD, List.getElem?_eq_getElem hj, Option.getD_some] at this
    rw [this] at hx2
    cases hx2
  unfold doF at h
  rw [if_neg this, hq, if_pos hre] at h
  injection h with h
  injection h with h1 h2
  exact ⟨h1.symm, h2.symm⟩
theorem do_good {D : Nat → Sv → Sv → Sv → Option Sv} {o : Int} {l : List Sv} {r : Sv} {er : Int} (h : doF D o l = some (r, er)) (hg : ∀ j, j < l.length → isValB (l.getD j zv) = true) {rb : Bool} (hq : resultF o (l.map (·.f0)) = (rb, 0)) {ks : List Int} {t : Int} {f : Nat} (hf : opFn o = some (ks, t, f)) : D f (l.getD 0 zv) (l.getD 1 zv) (l.getD 2 zv) = some r ∧ er = 0 := by
  have : ¬ l.any (fun x => !isValB x) = true := by
    rw [List.any_eq_true]
    rintro ⟨x, hx, hx2⟩
    obtain ⟨j, hj, rfl⟩ := List.getElem_of_mem hx
    have := hg j hj
    rw [List.getD_eq_getElem?_getD, List.getElem?_eq_getElem hj, Option.getD_some] at this
    rw [this] at hx2
    cases hx2
  unfold doF at h
  rw [if_neg this, hq, if_neg (by simp), hf] at h
  simp only [Option.map_eq_some_iff] at h
  obtain ⟨a, h1, h2⟩ := h
  injection h2 with h2 h3
  exact ⟨h2 ▸ h1, h3.symm⟩
theorem do_bad {D : Nat → Sv → Sv → Sv → Option Sv} {o : Int} {l : List Sv} {r : Sv} {er : Int} (h : doF D o l = some (r, er)) {k : Nat} (hk : k < l.length) (hb : isValB (l.getD k zv) = false) : r = zv ∧ er = 1 := by
  have : l.any (fun x => !isValB x) = true := by
    rw [List.any_eq_true]
    refine ⟨l[k], List.getElem_mem hk, ?_⟩
    rw [List.getD_eq_getElem?_getD, List.getElem?_eq_getElem hk] at hb
    simp only [Option.getD_some] at hb
    simp [hb]
  unfold doF at h
  rw [if_pos this] at h
  injection h with h
  injection h with h1 h2
  exact ⟨h1.symm, h2.symm⟩
set_option maxHeartbeats 4000000 in
set_option maxRecDepth 100000 in
theorem do_calls {T : World → Prop} (hTb : ∀ w w', T w → Below w.heap.size w w' → T w') (hV : ∀ (x : Sv) (w : World), T w → Calls Tryz.prog 94 #[enV x] w fun e w' => e = .returned (.bool (isValB x)) ∧ Below w.heap.size w w')
    (D : Nat → Sv → Sv → Sv → Option Sv) (hD : ∀ (f : Nat) (x y z r : Sv) (w : World), T w → D f x y z = some r → Calls Tryz.prog f #[enV x, enV y, enV z] w fun e w' => e = .returned (enV r) ∧ Below w.heap.size w w')
    (o : Int) (A : Option Addr) (c : Nat) (l : List Sv) (r : Sv) (er : Int) (w : World) (hT : T w) (hr : Kd.C k24 w A l.length l) (hc : l.length ≤ c) (h : doF D o l = some (r, er)) (hl : l.length ≤ 281474976710656) :
    Calls Tryz.prog 75 #[.int .i64 o, .slice A l.length c] w fun e w' => e = .returned (.tuple #[enV r, .int .i64 er]) ∧ Below w.heap.size w w' := by
  have hu1 := Tryz.underlying24
  have hu2 := Tryz.underlying80
  have hu3 := Tryz.underlying139
  have hu4 := Tryz.underlying137
  obtain ⟨n, hn⟩ : ∃ n, l.length = n := ⟨_, rfl⟩
  rw [hn] at hr hc hl ⊢
  have Hn := Lib.hid hn
  clear hn
  have hmk := print_make_of (P := Tryz.prog) 80 4 (.bool false) 1 Tryz.underlying80 (by kernel_rfl) rfl (by decide) n (by omega)
  go_enter Tryz.func75, Tryz.ntmps75
  go_wp2
  go_loopw [19] (fun i wr => ∃ k : Nat, k ≤ n ∧ i = .int .i64 k ∧ Loop1 w wr l k) (fun i _ => n - (intOf i).toNat)
  case atStart => exact ⟨0, Nat.zero_le _, rfl, by rw [← Hn.out]; exact Loop1.start w l⟩
  case round =>
    obtain ⟨k, hk, rfl, HL⟩ := hrel
    by_cases hlt : k < n
    · have hi1 : (k : Int) < (n : Int) := by omega
      have hwk : wrap64 ((k : Int) + 1) = (k : Int) + 1 := by unfold wrap64; omega
      obtain ⟨ad, rfl, h0, h1, h2⟩ := at_T24 (Kd.C_below hr HL.below) (k : Int) (by omega) (by omega)
      rw [Int.toNat_natCast] at h0 h1 h2
      obtain ⟨x, hx⟩ : ∃ x, x = rd_T24 l (k : Int) := ⟨_, rfl⟩
      rw [← hx] at h0 h1 h2
      have Hx := Lib.hid hx
      clear hx
      have hVx := hV x
      simp only [enV] at hVx
      generalize hb : isValB x = b at hVx
      have Hb := Lib.hid hb
      clear hb
      have hxx : (x.f0 = (l.getD k zv).f0) := by rw [Hx.out]; rfl
      have Hxx := Lib.hid hxx
      clear hxx
      cases b
      · go_wp2_with (go_at_call 94; refine (hVx _ (hTb _ _ hT (below_alloc HL.below _))).mono ?_; rintro e w2 ⟨rfl, hb2⟩; have HL2 := HL.then_ (below_then (below_alloc (Below.refl _ _) _) (by simp) hb2); have c0 := (blk_cell HL2.res 0).trans rfl; have c1 := (blk_cell HL2.res 1).trans rfl; have c2 := (blk_cell HL2.res 2).trans rfl; have f0 := blk_frozen HL2.res 0; have f1 := blk_frozen HL2.res 1; have f2 := blk_frozen HL2.res 2)
        refine bodyPost_ret (results_ct rfl _ _ w.heap.size 24 #[.bool false, .int .i64 0, .string (⟨#[]⟩ : ByteArray)] (0, 0) _ rfl (blk_set (blk_set (blk_set HL2.res 0 _) 1 _) 2 _) Tryz.underlying24 rfl (by kernel_rfl)) rfl ?_
        have e := do_bad h (k := k) (by rw [Hn.out]; exact hlt) (by rw [← Hb.out, Hx.out]; rfl)
        obtain ⟨rfl, rfl⟩ := e
        exact ⟨rfl, below_set (below_set (below_set HL2.below (Nat.le_refl _)) (Nat.le_refl _)) (Nat.le_refl _)⟩
      · go_wp2_with (go_at_call 94; refine (hVx _ (hTb _ _ hT (below_alloc HL.below _))).mono ?_; rintro e w2 ⟨rfl, hb2⟩; have HL2 := HL.then_ (below_then (below_alloc (Below.refl _ _) _) (by simp) hb2); have hx0 := cell_keep hb2 (cell_new (W := wr) (cs := #[.bool x.f0, .int .i64 x.f1, .string x.f2]) (t := 24) (i := 0) rfl); have hic := (blk_cell HL2.row k).trans (isF_at l k (by rw [Hn.out]; exact hlt)); have hif := blk_frozen HL2.row k)
        refine ⟨⟨k + 1, by omega, by go_num, ?_⟩, by simp [intOf]; omega⟩
        rw [Hxx.out]
        exact HL2.set (by rw [Hn.out]; exact hlt) (by rw [← Hb.out, Hx.out]; rfl)
    · obtain rfl : k = n := by omega
      have hi1 : ¬ ((k : Int) < (k : Int)) := by omega
      have hres := result_calls o (some ⟨w.heap.size + 1, 0, none⟩) k (l.map (·.f0)) wr (by have := Hn.out; rw [List.length_map, this]; rw [← this] at HL ⊢; exact HL.kinds (by omega))
      rw [List.length_map, Hn.out] at hres
      rcases hq : resultF o (l.map (·.f0)) with ⟨rb, re⟩
      rw [hq] at hres
      have Hq := Lib.hid hq
      clear hq
      by_cases hre : re = 0
      · subst hre
        obtain ⟨ks, t, f, hof, hkl, hk0, hk3⟩ := res_len Hq.out
        rw [List.length_map, Hn.out] at hkl
        have hn3 : k ≤ 3 := by omega
        have Hof := Lib.hid hof
        clear hof hkl hk0 hk3
        go_wp2_with (go_at_call 74; refine hres.mono ?_; rintro e w2 ⟨rfl, hb2⟩; have HL2 := HL.then_ hb2)
        go_loopw [46] (fun i wr => ∃ q : Nat, q ≤ k ∧ i = .int .i64 q ∧ Loop2 w w2.heap.size wr (el l q 0) (el l q 1) (el l q 2)) (fun i _ => k - (intOf i).toNat)
        case atStart => exact ⟨0, Nat.zero_le _, rfl, Loop2.start HL2⟩
        case round =>
          have hg : w.heap.size < w2.heap.size := blk_lt HL2.res
          obtain ⟨q, hq, rfl, HZ⟩ := hrel
          by_cases hlt : q < k
          · have hi1 : (q : Int) < (k : Int) := by omega
            have hwk : wrap64 ((q : Int) + 1) = (q : Int) + 1 := by unfold wrap64; omega
            obtain ⟨ad, rfl, h0, h1, h2⟩ := at_T24 (Kd.C_below hr HZ.below) (q : Int) (by omega) (by omega)
            rw [Int.toNat_natCast] at h0 h1 h2
            obtain ⟨x, hx⟩ : ∃ x, x = rd_T24 l (q : Int) := ⟨_, rfl⟩
            rw [← hx] at h0 h1 h2
            have Hx := Lib.hid hx
            clear hx
            have HW := HZ.then_ (below_alloc (Below.refl _ _) (.cells #[.bool x.f0, .int .i64 x.f1, .string x.f2] 24))
            have hq3 : q = 0 ∨ q = 1 ∨ q = 2 := by omega
            have hi2 : (q : Int) < 3 := by omega
            obtain ⟨v0, e0⟩ := arr_at (el l q 0) (el l q 1) (el l q 2) (q * 3) (by omega)
            obtain ⟨v1, e1⟩ := arr_at (el l q 0) (el l q 1) (el l q 2) (q * 3 + 1) (by omega)
            obtain ⟨v2, e2⟩ := arr_at (el l q 0) (el l q 1) (el l q 2) (q * 3 + 2) (by omega)
            have c0 := (blk_cell HW.arr (q * 3)).trans e0
            have c1 := (blk_cell HW.arr (q * 3 + 1)).trans e1
            have c2 := (blk_cell HW.arr (q * 3 + 2)).trans e2
            have f0 := blk_frozen HW.arr (q * 3)
            have f1 := blk_frozen HW.arr (q * 3 + 1)
            have f2 := blk_frozen HW.arr (q * 3 + 2)
            clear e0 e1 e2
            go_wp2
            refine ⟨⟨q + 1, by omega, by go_num, HW.set hg _ _ _ _ _ _ ?_⟩, by simp [intOf]; omega⟩
            have hx := Hx.out
            have hx' : x = l.getD q zv := hx
            subst hx'
            rcases hq3 with rfl | rfl | rfl <;> simp [el, arrOf]
          · obtain rfl : q = k := by omega
            have hi1 : ¬ ((q : Int) < (q : Int)) := by omega
            have ee : ∀ j, el l q j = l.getD j zv := fun j => by
              unfold el
              split
              · rfl
              · rw [List.getD_eq_getElem?_getD, List.getElem?_eq_none (by rw [Hn.out]; omega)]; rfl
            rw [ee 0, ee 1, ee 2] at HZ
            obtain ⟨hD1, rfl⟩ := do_good h (by rw [Hn.out]; exact HL.good) Hq.out Hof.out
            have HD := Lib.hid hD1
            generalize l.getD 0 zv = a0 at HZ HD
            generalize l.getD 1 zv = a1 at HZ HD
            generalize l.getD 2 zv = a2 at HZ HD
            clear h hD1 ee
            go_wp2
            have q0 : wr.cell? ⟨w2.heap.size, 0, none⟩ = some (.bool a0.f0) := (blk_cell HZ.arr 0).trans rfl
            have q1 : wr.cell? ⟨w2.heap.size, 1, none⟩ = some (.int .i64 a0.f1) := (blk_cell HZ.arr 1).trans rfl
            have q2 : wr.cell? ⟨w2.heap.size, 2, none⟩ = some (.string a0.f2) := (blk_cell HZ.arr 2).trans rfl
            have q3 : wr.cell? ⟨w2.heap.size, 3, none⟩ = some (.bool a1.f0) := (blk_cell HZ.arr 3).trans rfl
            have q4 : wr.cell? ⟨w2.heap.size, 4, none⟩ = some (.int .i64 a1.f1) := (blk_cell HZ.arr 4).trans rfl
            have q5 : wr.cell? ⟨w2.heap.size, 5, none⟩ = some (.string a1.f2) := (blk_cell HZ.arr 5).trans rfl
            have q6 : wr.cell? ⟨w2.heap.size, 6, none⟩ = some (.bool a2.f0) := (blk_cell HZ.arr 6).trans rfl
            have q7 : wr.cell? ⟨w2.heap.size, 7, none⟩ = some (.int .i64 a2.f1) := (blk_cell HZ.arr 7).trans rfl
            have q8 : wr.cell? ⟨w2.heap.size, 8, none⟩ = some (.string a2.f2) := (blk_cell HZ.arr 8).trans rfl
            have hne : w2.heap.size ≠ w.heap.size := by omega
            obtain ⟨fn, hfn, hnm, hbd⟩ := op_fn Hof.out
            have hen := fun args W => enters_ hfn hnm hbd args W
            have hDx := fun W (hW : T W) => hD f a0 a1 a2 r W hW HD.out
            simp only [enV] at hDx
            go_region_held3 (fun w' => w'.cell? ⟨w2.heap.size, 0, none⟩ = some (.bool a0.f0) ∧ w'.cell? ⟨w2.heap.size, 1, none⟩ = some (.int .i64 a0.f1) ∧ w'.cell? ⟨w2.heap.size, 2, none⟩ = some (.string a0.f2) ∧ w'.cell? ⟨w2.heap.size, 3, none⟩ = some (.bool a1.f0) ∧ w'.cell? ⟨w2.heap.size, 4, none⟩ = some (.int .i64 a1.f1) ∧ w'.cell? ⟨w2.heap.size, 5, none⟩ = some (.string a1.f2) ∧ w'.cell? ⟨w2.heap.size, 6, none⟩ = some (.bool a2.f0) ∧ w'.cell? ⟨w2.heap.size, 7, none⟩ = some (.int .i64 a2.f1) ∧ w'.cell? ⟨w2.heap.size, 8, none⟩ = some (.string a2.f2))
              (first
                | exact ⟨q0, q1, q2, q3, q4, q5, q6, q7, q8⟩
                | (go_split_ands
                   exact ⟨cell_keep hb4 (by assumption), cell_keep hb4 (by assumption), cell_keep hb4 (by assumption), cell_keep hb4 (by assumption), cell_keep hb4 (by assumption), cell_keep hb4 (by assumption), cell_keep hb4 (by assumption), cell_keep hb4 (by assumption), cell_keep hb4 (by assumption)⟩)
                | (go_split_ands
                   with_reducible refine ⟨cell_far3 hne ?_, cell_far3 hne ?_, cell_far3 hne ?_, cell_far3 hne ?_, cell_far3 hne ?_, cell_far3 hne ?_, cell_far3 hne ?_, cell_far3 hne ?_, cell_far3 hne ?_⟩ <;> assumption)
                | go_keep
                | (go_split_ands
                   exact ⟨cell_keep hb3 (by assumption), cell_keep hb3 (by assumption), cell_keep hb3 (by assumption), cell_keep hb3 (by assumption), cell_keep hb3 (by assumption), cell_keep hb3 (by assumption), cell_keep hb3 (by assumption), cell_keep hb3 (by assumption), cell_keep hb3 (by assumption)⟩))
              ((first
                | (go_at_call 73; refine (calls _).mono ?_; rintro e w3 ⟨b, rfl, hops, hb3⟩; obtain ⟨blk, hlk⟩ := look_ok hops Hof.out)
                | (refine (hDx _ (hTb _ _ hT (HZ.then_ (drew_below hb3)).below)).mono ?_; rintro e w4 ⟨rfl, hb4⟩; have HZ4 := (HZ.then_ (drew_below hb3)).then_ hb4; have c0 := (blk_cell HZ4.res 0).trans rfl; have c1 := (blk_cell HZ4.res 1).trans rfl; have c2 := (blk_cell HZ4.res 2).trans rfl; have f0 := blk_frozen HZ4.res 0; have f1 := blk_frozen HZ4.res 1; have f2 := blk_frozen HZ4.res 2)))
            go_wp2
            refine bodyPost_ret (results_ct rfl _ _ w.heap.size 24 #[.bool r.f0, .int .i64 r.f1, .string r.f2] (0, 0) _ rfl (blk_set (blk_set (blk_set HZ4.res 0 _) 1 _) 2 _) Tryz.underlying24 rfl (by kernel_rfl)) rfl ?_
            exact ⟨rfl, below_set (below_set (below_set HZ4.below (Nat.le_refl _)) (Nat.le_refl _)) (Nat.le_refl _)⟩
      · have hre1 : (re == 0) = false := by simp [hre]
        have hre2 : (re != 0) = true := by simp [hre]
        go_wp2_with (go_at_call 74; refine hres.mono ?_; rintro e w2 ⟨rfl, hb2⟩; have HL2 := HL.then_ hb2; have c0 := (blk_cell HL2.res 0).trans rfl; have c1 := (blk_cell HL2.res 1).trans rfl; have c2 := (blk_cell HL2.res 2).trans rfl; have f0 := blk_frozen HL2.res 0; have f1 := blk_frozen HL2.res 1; have f2 := blk_frozen HL2.res 2)
        refine bodyPost_ret (results_ct rfl _ _ w.heap.size 24 #[.bool false, .int .i64 0, .string (⟨#[]⟩ : ByteArray)] (0, 0) _ rfl (blk_set (blk_set (blk_set HL2.res 0 _) 1 _) 2 _) Tryz.underlying24 rfl (by kernel_rfl)) rfl ?_
        have e := do_err h (by rw [Hn.out]; exact HL.good) Hq.out hre
        obtain ⟨rfl, rfl⟩ := e
        exact ⟨rfl, below_set (below_set (below_set HL2.below (Nat.le_refl _)) (Nat.le_refl _)) (Nat.le_refl _)⟩
end Go.Proofs.YtialoecplmnjfaaGreatDoor.XOps
namespace Go.Proofs.YtialoecplmnjfaaGreatDoor.XEval
open Go.RowKit Go.Proofs Go.Proofs.YtialoecplmnjfaaGreatDoorW.PrintWords Go.Proofs.YtialoecplmnjfaaGreatDoorW.PrintLast Go.Proofs.YtialoecplmnjfaaGreatDoorW.PrintMore Go.Proofs.YtialoecplmnjfaaGreatDoor.PX Go.Proofs.YtialoecplmnjfaaGreatDoor.XCheck
abbrev Sv := XOps.Sv
theorem infoV : (Tryz.prog.info? 24).map (fun i => (i.zero, i.size, i.bytes)) = some (some (.agg #[.bool false, .int .i64 0, .string (⟨#[]⟩ : ByteArray)]), 3, 32) := by kernel_rfl
def zC : Obj := .cells #[.bool false, .int .i64 0, .string (⟨#[]⟩ : ByteArray)] 24
def numS (n : Int) : Sv := ⟨false, n, ⟨#[]⟩⟩
structure Mch (w0 : World) (B : Nat) (Rv F v : Value) (s : List Sv) (fuel : Int) (W : World) : Prop where
  blk : W.heap[B]? = some (.cells #[v, Rv, F, .int .i64 fuel] 106 (0, 0))
  own : Kd.R k24 24 W w0.heap.size (fun k => k ≠ B) v s
  below : Below w0.heap.size w0 W
  base : w0.heap.size ≤ B
def Fr (B : Nat) (W W' : World) : Prop := W.heap.size ≤ W'.heap.size ∧ ∀ g, g < W.heap.size → g ≠ B → W'.heap[g]? = W.heap[g]?
theorem Fr.below {B : Nat} {W W' : World} (h : Below W.heap.size W W') : Fr B W W' := ⟨h.size, fun g hg _ => h.block g hg⟩
theorem Fr.trans {B : Nat} {W W1 W2 : World} (h : Fr B W W1) (k : Fr B W1 W2) : Fr B W W2 := ⟨Nat.le_trans h.1 k.1, fun g hg h1 => (k.2 g (Nat.lt_of_lt_of_le hg h.1) h1).trans (h.2 g hg h1)⟩
theorem Fr.set {B i : Nat} {u : Value} {W : World} : Fr B W (W.setCell ⟨B, i, none⟩ u) := ⟨by simp, fun g hg h1 => Below.heap_setCell _ ⟨B, i, none⟩ _ g h1⟩
theorem Fr.cell {B g i : Nat} {x : Value} {W W' : World} (hF : Fr B W W') (hg : g < W.heap.size) (h1 : g ≠ B) (h : W.cell? ⟨g, i, none⟩ = some x) : W'.cell? ⟨g, i, none⟩ = some x := by
  rw [← h]
  unfold World.cell?
  rw [show (Addr.mk g i none).block = g from rfl, hF.2 g hg h1]
variable {w0 W : World} {B : Nat} {Rv F v : Value} {s : List Sv} {fuel : Int}
theorem Mch.lt (h : Mch w0 B Rv F v s fuel W) : B < W.heap.size := blk_lt h.blk
theorem Mch.then_ {W' : World} (h : Mch w0 B Rv F v s fuel W) (hb : Below W.heap.size W W') : Mch w0 B Rv F v s fuel W' :=
  ⟨(hb.block B h.lt).trans h.blk, Kd.R_below h.own hb, below_then h.below h.below.size hb, h.base⟩
theorem Mch.getS (h : Mch w0 B Rv F v s fuel W) : W.cell? ⟨B, 0, none⟩ = some v := (blk_cell h.blk 0).trans rfl
theorem Mch.getR (h : Mch w0 B Rv F v s fuel W) : W.cell? ⟨B, 1, none⟩ = some Rv := (blk_cell h.blk 1).trans rfl
theorem Mch.getF (h : Mch w0 B Rv F v s fuel W) : W.cell? ⟨B, 2, none⟩ = some F := (blk_cell h.blk 2).trans rfl
theorem Mch.getU (h : Mch w0 B Rv F v s fuel W) : W.cell? ⟨B, 3, none⟩ = some (.int .i64 fuel) := (blk_cell h.blk 3).trans rfl
theorem Mch.reads (h : Mch w0 B Rv F v s fuel W) : ∃ A c, v = .slice A s.length c ∧ s.length ≤ c ∧ Kd.C k24 W A s.length s := Kd.R_reads h.own
theorem Mch.cut {A : Option Addr} {m c : Nat} (h : Mch w0 B Rv F (.slice A m c) s fuel W) (q : Nat) (hq : q ≤ s.length) : Mch w0 B Rv F (.slice A q c) (s.take q) fuel (W.setCell ⟨B, 0, none⟩ (.slice A q c)) := by
  refine ⟨?_, Kd.R_far (p := ⟨B, 0, none⟩) (Kd.R_take h.own hq) (fun k hk => hk) _, below_set h.below h.base, h.base⟩
  exact blk_set h.blk 0 (.slice A q c)
theorem Mch.burn (h : Mch w0 B Rv F v s fuel W) (f : Int) : Mch w0 B Rv F v s f (W.setCell ⟨B, 3, none⟩ (.int .i64 f)) :=
  ⟨blk_set h.blk 3 (.int .i64 f), Kd.R_far (p := ⟨B, 3, none⟩) h.own (fun k hk => hk) _, below_set h.below h.base, h.base⟩
theorem res_at {W2 : World} {o : Obj} (hb : Below ((W.alloc o).alloc zC).heap.size ((W.alloc o).alloc zC) W2) : W2.heap[W.heap.size + 1]? = some (.cells #[.bool false, .int .i64 0, .string (⟨#[]⟩ : ByteArray)] 24 (0, 0)) := by
  have h := heap_alloc_new (W.alloc o) zC
  rw [XOps.size_alloc] at h
  exact (hb.block _ (blk_lt h)).trans h
theorem two_below (W : World) (o p : Obj) : Below W.heap.size W ((W.alloc o).alloc p) := below_alloc (below_alloc (Below.refl _ _) _) _
theorem two_then {W2 : World} {o p : Obj} (hb : Below ((W.alloc o).alloc p).heap.size ((W.alloc o).alloc p) W2) : Below W.heap.size W W2 := below_then (two_below W o p) (two_below W o p).size hb
theorem set3 {W2 : World} {g : Nat} {a b c : Value} (h : Below W.heap.size W W2) (hg : W.heap.size ≤ g) : Below W.heap.size W (((W2.setCell ⟨g, 0, none⟩ a).setCell ⟨g, 1, none⟩ b).setCell ⟨g, 2, none⟩ c) := below_set (below_set (below_set h hg) hg) hg
theorem boxed (o n : Int) (x : ByteArray) (h : Mch w0 B Rv F v s fuel W) : ∀ W1, (W.alloc (insC o n x)).alloc zC = W1 → Below W.heap.size W W1 ∧ Mch w0 B Rv F v s fuel W1 ∧ W1.cell? ⟨W.heap.size, 0, none⟩ = some (.int .i64 o) ∧ W1.cell? ⟨W.heap.size, 1, none⟩ = some (.int .i64 n) ∧ W1.heap[W.heap.size + 1]? = some (.cells #[.bool false, .int .i64 0, .string (⟨#[]⟩ : ByteArray)] 24 (0, 0)) ∧ W1.heap.size = W.heap.size + 2 := by
  rintro W1 rfl
  have hb := two_below W (insC o n x) zC
  have hn := heap_alloc_new W (insC o n x)
  have h2 := (heap_alloc_old (W.alloc (insC o n x)) zC (blk_lt hn)).trans hn
  refine ⟨hb, h.then_ hb, (blk_cell h2 0).trans rfl, (blk_cell h2 1).trans rfl, ?_, by simp⟩
  exact res_at (Below.refl _ _)
theorem far3 {g : Nat} {i j m : Nat} {u x y z : Value} {a : Addr} (hne : a.block ≠ g) (h : W.cell? a = some z) : (((W.setCell ⟨g, i, none⟩ u).setCell ⟨g, j, none⟩ x).setCell ⟨g, m, none⟩ y).cell? a = some z := by
  have e : (((W.setCell ⟨g, i, none⟩ u).setCell ⟨g, j, none⟩ x).setCell ⟨g, m, none⟩ y).heap[a.block]? = W.heap[a.block]? :=
    (Below.heap_setCell _ ⟨g, m, none⟩ y a.block hne).trans ((Below.heap_setCell _ ⟨g, j, none⟩ x a.block hne).trans (Below.heap_setCell _ ⟨g, i, none⟩ u a.block hne))
  rw [← h]
  unfold World.cell?
  rw [e]
theorem far3d {g : Nat} {i j m : Nat} {u x y z : Value} {a : Addr} (hne : a.block ≠ g) (h : W.cell? a = some z) : ((((W.setCell ⟨g, i, none⟩ u).setCell ⟨g, j, none⟩ x).setCell ⟨g, m, none⟩ y).drew).cell? a = some z := far3 hne h
theorem cell_lt {a : Addr} {z : Value} (h : W.cell? a = some z) : a.block < W.heap.size := by
  unfold World.cell? at h
  split at h
  · rename_i hx
    exact (Array.getElem?_eq_some_iff.1 hx).1
  · cases h
structure Env (T : World → Prop) (TEXT : ByteArray → Option Sv) (DO : Int → List Sv → Option (Sv × Int)) : Prop where
  tb : ∀ w w', T w → Below w.heap.size w w' → T w'
  num : ∀ (n : Int) (w : World), T w → Calls Tryz.prog 31 #[.int .i64 n] w fun e w' => e = .returned (XOps.enV (numS n)) ∧ Below w.heap.size w w'
  text : ∀ (x : ByteArray) (y : Sv) (w : World), T w → TEXT x = some y → Calls Tryz.prog 39 #[.string x] w fun e w' => e = .returned (XOps.enV y) ∧ Below w.heap.size w w'
  do_ : ∀ (o : Int) (l : List Sv) (y : Sv) (er : Int) (A : Option Addr) (c : Nat) (w : World), T w → Kd.C k24 w A l.length l → l.length ≤ c → DO o l = some (y, er) → Calls Tryz.prog 75 #[.int .i64 o, .slice A l.length c] w fun e w' => e = .returned (.tuple #[XOps.enV y, .int .i64 er]) ∧ Below w.heap.size w w'
variable {T : World → Prop} {TEXT : ByteArray → Option Sv} {DO : Int → List Sv → Option (Sv × Int)}
set_option maxHeartbeats 4000000 in
set_option maxRecDepth 100000 in
theorem num_calls (E : Env T TEXT DO) (o n : Int) (x : ByteArray) (W : World) (hT : T W) : Calls Tryz.prog 66 #[.pointer (some ⟨B, 0, none⟩), insV o n x] W fun e W' => e = .returned (XOps.enV (numS n)) ∧ Below W.heap.size W W' := by
  unfold insV
  have hu := Tryz.underlying24
  have hn := E.num n
  unfold XOps.enV numS at hn ⊢
  have hT2 := E.tb _ _ hT (two_below W (insC o n x) zC)
  have hx := new_cell W o n x
  have hres := fun W2 => res_at (W := W) (W2 := W2) (o := insC o n x)
  have hthen := fun W2 => two_then (W := W) (W2 := W2) (o := insC o n x) (p := zC)
  unfold insC zC at hT2 hres hthen
  go_enter Tryz.func66, Tryz.ntmps66
  go_wp2_with (go_at_call 31; refine (hn _ hT2).mono ?_; rintro e W2 ⟨rfl, hb2⟩; have hr := hres _ hb2; have c0 := (blk_cell hr 0).trans rfl; have c1 := (blk_cell hr 1).trans rfl; have c2 := (blk_cell hr 2).trans rfl; have f0 := blk_frozen hr 0; have f1 := blk_frozen hr 1; have f2 := blk_frozen hr 2)
  refine bodyPost_ret (results_cell_row rfl _ _ (W.heap.size + 1) 24 #[.bool false, .int .i64 n, .string (⟨#[]⟩ : ByteArray)] (0, 0) _ rfl (blk_set (blk_set (blk_set hr 0 _) 1 _) 2 _) Tryz.underlying24 rfl (by kernel_rfl)) rfl ?_
  exact ⟨rfl, set3 (hthen _ hb2) (by omega)⟩
set_option maxHeartbeats 4000000 in
set_option maxRecDepth 100000 in
theorem text_calls (E : Env T TEXT DO) (o n : Int) (x : ByteArray) (y : Sv) (hy : TEXT x = some y) (W : World) (hT : T W) : Calls Tryz.prog 67 #[.pointer (some ⟨B, 0, none⟩), insV o n x] W fun e W' => e = .returned (XOps.enV y) ∧ Below W.heap.size W W' := by
  unfold insV
  have hu := Tryz.underlying24
  have hn := fun w hw => E.text x y w hw hy
  unfold XOps.enV at hn ⊢
  have hT2 := E.tb _ _ hT (two_below W (insC o n x) zC)
  have hres := fun W2 => res_at (W := W) (W2 := W2) (o := insC o n x)
  have hthen := fun W2 => two_then (W := W) (W2 := W2) (o := insC o n x) (p := zC)
  unfold insC zC at hT2 hres hthen
  clear hy
  go_enter Tryz.func67, Tryz.ntmps67
  go_wp2_with (go_at_call 39; refine (hn _ hT2).mono ?_; rintro e W2 ⟨rfl, hb2⟩; have hr := hres _ hb2; have c0 := (blk_cell hr 0).trans rfl; have c1 := (blk_cell hr 1).trans rfl; have c2 := (blk_cell hr 2).trans rfl; have f0 := blk_frozen hr 0; have f1 := blk_frozen hr 1; have f2 := blk_frozen hr 2)
  refine bodyPost_ret (results_cell_row rfl _ _ (W.heap.size + 1) 24 #[.bool y.f0, .int .i64 y.f1, .string y.f2] (0, 0) _ rfl (blk_set (blk_set (blk_set hr 0 _) 1 _) 2 _) Tryz.underlying24 rfl (by kernel_rfl)) rfl ?_
  exact ⟨rfl, set3 (hthen _ hb2) (by omega)⟩
set_option maxHeartbeats 4000000 in
set_option maxRecDepth 100000 in
theorem count_calls (E : Env T TEXT DO) {Ar : Option Addr} {rn rc : Nat} (h : Mch w0 B (.slice Ar rn rc) F v s fuel W) (hT : T w0) (o n : Int) (x : ByteArray) : Calls Tryz.prog 69 #[.pointer (some ⟨B, 0, none⟩), insV o n x] W fun e W' => e = .returned (XOps.enV (numS rn)) ∧ Below W.heap.size W W' := by
  have hb := fun W1 => boxed o n x h W1
  unfold insV
  have hu := Tryz.underlying24
  have hu1 := Tryz.underlying106
  have hn := E.num rn
  unfold XOps.enV numS at hn ⊢
  unfold insC zC at hb
  clear h
  go_enter Tryz.func69, Tryz.ntmps69
  go_upto_region 1 with fail
  generalize hW1 : (W.alloc (.cells #[.int .i64 o, .int .i64 n, .string x] 50)).alloc (.cells #[.bool false, .int .i64 0, .string (⟨#[]⟩ : ByteArray)] 24) = W1
  obtain ⟨b01, H1, x0, x1, r1, z1⟩ := hb W1 hW1
  have cR := H1.getR
  have hT1 := E.tb _ _ hT H1.below
  clear hb hW1 x0 x1 H1
  go_wp2_with (go_at_call 31; refine (hn _ hT1).mono ?_; rintro e W2 ⟨rfl, hb2⟩; have hr := (hb2.block _ (blk_lt r1)).trans r1; have c0 := (blk_cell hr 0).trans rfl; have c1 := (blk_cell hr 1).trans rfl; have c2 := (blk_cell hr 2).trans rfl; have f0 := blk_frozen hr 0; have f1 := blk_frozen hr 1; have f2 := blk_frozen hr 2)
  refine bodyPost_ret (results_cell_row rfl _ _ (W.heap.size + 1) 24 #[.bool false, .int .i64 (rn : Int), .string (⟨#[]⟩ : ByteArray)] (0, 0) _ rfl (blk_set (blk_set (blk_set hr 0 _) 1 _) 2 _) Tryz.underlying24 rfl (by kernel_rfl)) rfl ?_
  exact ⟨rfl, set3 (below_then b01 b01.size hb2) (by omega)⟩
set_option maxHeartbeats 4000000 in
set_option maxRecDepth 100000 in
theorem field_far (E : Env T TEXT DO) {Ar : Option Addr} {rn rc : Nat} (h : Mch w0 B (.slice Ar rn rc) F v s fuel W) (hT : T w0) (o n : Int) (x : ByteArray) (y : Sv) (hn : (rn : Int) ≤ n) (hy : TEXT ⟨#[]⟩ = some y) : Calls Tryz.prog 68 #[.pointer (some ⟨B, 0, none⟩), insV o n x] W fun e W' => e = .returned (XOps.enV y) ∧ Below W.heap.size W W' := by
  have hb := fun W1 => boxed o n x h W1
  unfold insV
  have hu := Tryz.underlying24
  have hu1 := Tryz.underlying106
  have ht := fun w hw => E.text _ y w hw hy
  unfold XOps.enV at ht ⊢
  unfold insC zC at hb
  have hd : decide (n ≥ (rn : Int)) = true := decide_eq_true hn
  clear h hy
  go_enter Tryz.func68, Tryz.ntmps68
  go_upto_region 1 with fail
  generalize hW1 : (W.alloc (.cells #[.int .i64 o, .int .i64 n, .string x] 50)).alloc (.cells #[.bool false, .int .i64 0, .string (⟨#[]⟩ : ByteArray)] 24) = W1
  obtain ⟨b01, H1, x0, x1, r1, z1⟩ := hb W1 hW1
  have cR := H1.getR
  have hT1 := E.tb _ _ (E.tb _ _ hT H1.below) (below_drew0 W1)
  clear hb hW1 x0 H1
  go_region_held3 (fun w' => w'.cell? ⟨B, 1, none⟩ = some (.slice Ar rn rc) ∧ w'.cell? ⟨W.heap.size, 1, none⟩ = some (.int .i64 n))
    (first
      | exact ⟨cR, x1⟩
      | go_keep)
    ((first
      | fail))
  go_wp2_with (go_at_call 39; refine (ht _ hT1).mono ?_; rintro e W2 ⟨rfl, hb2⟩; have hr := (hb2.block _ (blk_lt r1)).trans r1; have c0 := (blk_cell hr 0).trans rfl; have c1 := (blk_cell hr 1).trans rfl; have c2 := (blk_cell hr 2).trans rfl; have f0 := blk_frozen hr 0; have f1 := blk_frozen hr 1; have f2 := blk_frozen hr 2)
  refine bodyPost_ret (results_cell_row rfl _ _ (W.heap.size + 1) 24 #[.bool y.f0, .int .i64 y.f1, .string y.f2] (0, 0) _ rfl (blk_set (blk_set (blk_set hr 0 _) 1 _) 2 _) Tryz.underlying24 rfl (by kernel_rfl)) rfl ?_
  exact ⟨rfl, set3 (below_then (below_then b01 b01.size (below_drew0 _)) (below_then b01 b01.size (below_drew0 _)).size hb2) (by omega)⟩
set_option maxHeartbeats 4000000 in
set_option maxRecDepth 100000 in
theorem field_in (E : Env T TEXT DO) {Ar : Option Addr} {rc : Nat} {r : List ByteArray} (h : Mch w0 B (.slice Ar r.length rc) F v s fuel W) (hr : Kd.C Kd.string w0 Ar r.length r) (hT : T w0) (o : Int) (q : Nat) (x : ByteArray) (y : Sv) (hq : q < r.length) (hy : TEXT (r.getD q ByteArray.empty) = some y) : Calls Tryz.prog 68 #[.pointer (some ⟨B, 0, none⟩), insV o (q : Int) x] W fun e W' => e = .returned (XOps.enV y) ∧ Below W.heap.size W W' := by
  have hb := fun W1 => boxed o (q : Int) x h W1
  unfold insV
  have hu := Tryz.underlying24
  have hu1 := Tryz.underlying106
  have hu2 := Tryz.underlying45
  have ht := fun w hw => E.text _ y w hw hy
  unfold XOps.enV at ht ⊢
  unfold insC zC at hb
  have hd : decide ((q : Int) ≥ (r.length : Int)) = false := decide_eq_false (by omega)
  have hd2 : ¬ ((q : Int) ≥ (r.length : Int)) := by omega
  have hi1 : (q : Int) < (r.length : Int) := by omega
  have hi0 : (0 : Int) ≤ (q : Int) := by omega
  have hlt := h.lt
  obtain ⟨rn, hrn⟩ : ∃ rn, r.length = rn := ⟨_, rfl⟩
  obtain ⟨ad, rfl, hc0⟩ := Kd.at_string (Kd.C_below hr h.below) (q : Int) hi0 (by omega)
  rw [Int.toNat_natCast] at hc0
  obtain ⟨u, hu9⟩ : ∃ u, u = r.getD q ByteArray.empty := ⟨_, rfl⟩
  rw [show rdOf ByteArray.empty r (q : Int) = u by rw [hu9]; unfold rdOf; rw [Int.toNat_natCast]] at hc0
  rw [← hu9] at ht
  rw [hrn] at hd hd2 hi1 hb
  have hal := cell_lt hc0
  have hab : (ad.add q).block = ad.block := by unfold Addr.add; split <;> rfl
  rw [hab] at hal
  have Hc := Lib.hid hc0
  clear h hy hr hu9 hrn hc0 hq
  go_enter Tryz.func68, Tryz.ntmps68
  go_upto_region 1 with fail
  generalize hW1 : (W.alloc (.cells #[.int .i64 o, .int .i64 (q : Int), .string x] 50)).alloc (.cells #[.bool false, .int .i64 0, .string (⟨#[]⟩ : ByteArray)] 24) = W1
  obtain ⟨b01, H1, x0, x1, r1, z1⟩ := hb W1 hW1
  have cR := H1.getR
  have hT1 := E.tb _ _ (E.tb _ _ (E.tb _ _ hT H1.below) (below_drew0 W1)) (below_drew0 W1.drew)
  have ca := cell_keep0 b01 Hc.out
  clear hb hW1 x0 H1 Hc
  go_region_held3 (fun w' => w'.cell? ⟨B, 1, none⟩ = some (.slice (some ad) rn rc) ∧ w'.cell? ⟨W.heap.size, 1, none⟩ = some (.int .i64 (q : Int)))
    (first
      | exact ⟨cR, x1⟩
      | go_keep)
    ((first
      | fail))
  go_wp2
  have n1 : B ≠ W.heap.size + 1 := by omega
  have n2 : W.heap.size ≠ W.heap.size + 1 := by omega
  have n3 : (ad.add q).block ≠ W.heap.size + 1 := by rw [hab]; omega
  go_region_held3 (fun w' => w'.cell? ⟨B, 1, none⟩ = some (.slice (some ad) rn rc) ∧ w'.cell? ⟨W.heap.size, 1, none⟩ = some (.int .i64 (q : Int)) ∧ w'.cell? (ad.add q) = some (.string u))
    (first
      | exact ⟨cR, x1, ca⟩
      | (go_split_ands; exact ⟨cell_keep0 hb2 (by assumption), cell_keep0 hb2 (by assumption), cell_keep0 hb2 (by assumption)⟩)
      | (go_split_ands; with_reducible refine ⟨far3 n1 ?_, far3 n2 ?_, far3 n3 ?_⟩ <;> assumption)
      | go_keep)
    ((first
      | (go_at_call 39; refine (ht _ hT1).mono ?_; rintro e W2 ⟨rfl, hb2⟩; have hr := (hb2.block _ (blk_lt r1)).trans r1; have c0 := (blk_cell hr 0).trans rfl; have c1 := (blk_cell hr 1).trans rfl; have c2 := (blk_cell hr 2).trans rfl; have f0 := blk_frozen hr 0; have f1 := blk_frozen hr 1; have f2 := blk_frozen hr 2)))
  go_wp2
  refine bodyPost_ret (results_cell_row rfl _ _ (W.heap.size + 1) 24 #[.bool y.f0, .int .i64 y.f1, .string y.f2] (0, 0) _ rfl (blk_set (blk_set (blk_set hr 0 _) 1 _) 2 _) Tryz.underlying24 rfl (by kernel_rfl)) rfl ?_
  have b2 := below_then b01 b01.size (below_drew0 W1)
  have b3 := below_then b2 b2.size (below_drew0 W1.drew)
  exact ⟨rfl, set3 (below_then b3 b3.size hb2) (by omega)⟩
set_option maxHeartbeats 4000000 in
set_option maxRecDepth 100000 in
theorem given_calls (E : Env T TEXT DO) {Af : Option Addr} {cf : Nat} {fold : List Sv} (h : Mch w0 B Rv (.slice Af fold.length cf) v s fuel W) (hr : Kd.C k24 w0 Af fold.length fold) (o n : Int) (x : ByteArray) (q : Nat) (hq : q < fold.length) (hq2 : q < 1000) (ho : o = (q : Int) + 22) (y : Sv) (hy : fold.getD q XOps.zv = y) : Calls Tryz.prog 70 #[.pointer (some ⟨B, 0, none⟩), insV o n x] W fun e W' => e = .returned (XOps.enV y) ∧ Below W.heap.size W W' := by
  have hb := fun W1 => boxed o n x h W1
  unfold insV
  have hu := Tryz.underlying24
  have hu1 := Tryz.underlying106
  have hu2 := Tryz.underlying86
  unfold XOps.enV
  unfold insC zC at hb
  have hlt := h.lt
  have hw : wrap64 (o - 22) = (q : Int) := by unfold wrap64; omega
  have hw2 : IntKind.i64.wrap (o - 22) = (q : Int) := by rw [IntKind.wrap_i64]; omega
  have hi1 : (q : Int) < (fold.length : Int) := by omega
  have hi0 : (0 : Int) ≤ (q : Int) := by omega
  obtain ⟨rn, hrn⟩ : ∃ rn, fold.length = rn := ⟨_, rfl⟩
  obtain ⟨ad, rfl, hc0, hc1, hc2⟩ := at_T24 (Kd.C_below hr h.below) (q : Int) hi0 (by omega)
  rw [Int.toNat_natCast] at hc0 hc1 hc2
  rw [show rd_T24 fold (q : Int) = y by rw [← hy]; unfold rd_T24; rw [Int.toNat_natCast]] at hc0 hc1 hc2
  rw [hrn] at hi1 hb
  have hab : (ad.add (q * 3)).block = ad.block := by unfold Addr.add; split <;> rfl
  have hal := cell_lt hc0
  rw [hab] at hal hc1 hc2
  have Hc0 := Lib.hid hc0
  have Hc1 := Lib.hid hc1
  have Hc2 := Lib.hid hc2
  clear h hy hr hrn hc0 hc1 hc2 hq ho
  go_enter Tryz.func70, Tryz.ntmps70
  go_upto_region 1 with fail
  generalize hW1 : (W.alloc (.cells #[.int .i64 o, .int .i64 n, .string x] 50)).alloc (.cells #[.bool false, .int .i64 0, .string (⟨#[]⟩ : ByteArray)] 24) = W1
  obtain ⟨b01, H1, x0, x1, r1, z1⟩ := hb W1 hW1
  have cF := H1.getF
  have ca0 := cell_keep0 b01 Hc0.out
  have ca1 := cell_keep0 b01 Hc1.out
  have ca2 := cell_keep0 b01 Hc2.out
  have c0 := (blk_cell r1 0).trans rfl
  have c1 := (blk_cell r1 1).trans rfl
  have c2 := (blk_cell r1 2).trans rfl
  have f0 := blk_frozen r1 0
  have f1 := blk_frozen r1 1
  have f2 := blk_frozen r1 2
  clear hb hW1 x1 H1 Hc0 Hc1 Hc2
  have n1 : B ≠ W.heap.size + 1 := by omega
  have n2 : W.heap.size ≠ W.heap.size + 1 := by omega
  have n3 : (ad.add (q * 3)).block ≠ W.heap.size + 1 := by rw [hab]; omega
  have n4 : ad.block ≠ W.heap.size + 1 := by omega
  go_region_held3 (fun w' => w'.cell? ⟨B, 2, none⟩ = some (.slice (some ad) rn cf) ∧ w'.cell? ⟨W.heap.size, 0, none⟩ = some (.int .i64 o) ∧ w'.cell? (ad.add (q * 3)) = some (.bool y.f0) ∧ w'.cell? ⟨ad.block, (ad.add (q * 3)).off + 1, none⟩ = some (.int .i64 y.f1) ∧ w'.cell? ⟨ad.block, (ad.add (q * 3)).off + 2, none⟩ = some (.string y.f2))
    (first
      | exact ⟨cF, x0, ca0, ca1, ca2⟩
      | exact ⟨far3d n1 cF, far3d n2 x0, far3d n3 ca0, far3d n4 ca1, far3d n4 ca2⟩
      | go_keep)
    ((first
      | fail))
  go_wp2
  refine bodyPost_ret (results_cell_row rfl _ _ (W.heap.size + 1) 24 #[.bool y.f0, .int .i64 y.f1, .string y.f2] (0, 0) _ rfl (blk_set (blk_set (blk_set (show W1.drew.heap[W.heap.size + 1]? = _ from r1) 0 _) 1 _) 2 _) Tryz.underlying24 rfl (by kernel_rfl)) rfl ?_
  exact ⟨rfl, set3 (below_then b01 b01.size (below_drew0 _)) (by omega)⟩
theorem own_ne {g : Nat} (h : Mch w0 B Rv F v s fuel W) (hg : v.ownBlock = some g) : g ≠ B ∧ g < W.heap.size := by
  obtain ⟨h0, inner, hown, hr⟩ := h.own
  exact ⟨h0 g hg, own_lt hown g hg⟩
theorem Fr.drew (W : World) : Fr B W W.drew := Fr.below (below_drew0 W)
set_option maxHeartbeats 4000000 in
set_option maxRecDepth 100000 in
theorem done_calls (E : Env T TEXT DO) (h : Mch w0 B Rv F v s fuel W) (hT : T w0) (hl : s.length ≤ 100000) (o n : Int) (x : ByteArray) (a : Nat) (har : XOps.arityF o = (a : Int)) (ha : a ≤ s.length) (y : Sv) (er : Int) (hd : DO o (s.drop (s.length - a)) = some (y, er)) :
    Calls Tryz.prog 71 #[.pointer (some ⟨B, 0, none⟩), insV o n x] W fun e W' => ∃ A c, v = .slice A s.length c ∧ e = .returned (XOps.enV y) ∧ Mch w0 B Rv F (.slice A (s.length - a) c) (s.take (s.length - a)) fuel W' ∧ Fr B W W' := by
  have hb := fun W1 => boxed o n x h W1
  unfold insV XOps.enV
  unfold insC zC at hb
  have hu := Tryz.underlying24
  have hu1 := Tryz.underlying106
  have hu2 := Tryz.underlying86
  obtain ⟨A, c, hv, hlc, hC0⟩ := h.reads
  subst hv
  obtain ⟨m, hm⟩ : ∃ m, s.length = m := ⟨_, rfl⟩
  rw [hm] at hlc hl ha hC0 hb hd ⊢
  obtain ⟨q, hq⟩ : ∃ q, m - a = q := ⟨_, rfl⟩
  rw [hq] at hd ⊢
  have hari := XOps.arity_calls o
  rw [har] at hari
  obtain ⟨i0, hi0, _, hsz, _⟩ := info_parts infoV
  have hcut := cut_from (P := Tryz.prog) 86 24 .i64 Tryz.underlying86 hi0 3 hsz A m c (q : Int) (by omega) (by omega)
  simp only [Int.toNat_natCast] at hcut
  rw [show m - q = a by omega] at hcut
  obtain ⟨A', hA'⟩ : ∃ A', (if c = q then A else A.map (fun x => x.add (q * 3))) = A' := ⟨_, rfl⟩
  rw [hA'] at hcut
  have hcut2 := cut_to (P := Tryz.prog) 86 24 .i64 Tryz.underlying86 hi0 A m c (q : Int) (by omega) (by omega) hlc
  simp only [Int.toNat_natCast] at hcut2
  have hC : ∀ W2, Mch w0 B Rv F (.slice A m c) s fuel W2 → Calls Tryz.prog 75 #[.int .i64 o, .slice A' a (c - q)] W2 fun e w' => e = .returned (.tuple #[.agg #[.bool y.f0, .int .i64 y.f1, .string y.f2], .int .i64 er]) ∧ Below W2.heap.size W2 w' := fun W2 h2 => by
    obtain ⟨A2, c2, e2, _, hr2⟩ := h2.reads
    rw [hm] at e2 hr2
    injection e2 with e2 _ e3
    subst e2 e3
    have hdr := Kd.C_drop (k := k24) (c := c) (m := q) (xs := s) (by rw [hm]; exact hr2) (by omega) (by omega)
    rw [show (k24).sz = 3 from rfl, hA'] at hdr
    have := E.do_ o (s.drop q) y er A' (c - q) W2 (E.tb _ _ hT h2.below) hdr (by rw [List.length_drop]; omega) hd
    rw [List.length_drop, hm, show m - q = a by omega] at this
    exact this
  have hw : wrap64 ((m : Int) - (a : Int)) = (q : Int) := by unfold wrap64; omega
  have hw2 : IntKind.i64.wrap ((m : Int) - (a : Int)) = (q : Int) := by rw [IntKind.wrap_i64]; omega
  have hqm : q ≤ s.length := by omega
  have hlt := h.lt
  have Hown := Lib.hid h.own
  have Hb0 := Lib.hid h.below.size
  have Hq := Lib.hid hq
  have Hm := Lib.hid hm
  have Hqm := Lib.hid hqm
  have i0 : (0 : Int) ≤ (q : Int) := by omega
  have i1 : (q : Int) ≤ (m : Int) := by omega
  clear h hC0 hd hq hm har hsz hA' hqm
  go_enter Tryz.func71, Tryz.ntmps71
  go_upto_region 1 with fail
  generalize hW1 : (W.alloc (.cells #[.int .i64 o, .int .i64 n, .string x] 50)).alloc (.cells #[.bool false, .int .i64 0, .string (⟨#[]⟩ : ByteArray)] 24) = W1
  obtain ⟨b01, H1, x0, x1, r1, z1⟩ := hb W1 hW1
  have cS := H1.getS
  have HH1 := Lib.hid H1
  clear hb hW1 x1 H1
  go_region_held3 (fun w' => w'.cell? ⟨B, 0, none⟩ = some (.slice A m c) ∧ w'.cell? ⟨W.heap.size, 0, none⟩ = some (.int .i64 o))
    (first
      | exact ⟨cS, x0⟩
      | (go_split_ands; exact ⟨cell_keep0 hb2 (by assumption), cell_keep0 hb2 (by assumption)⟩)
      | go_keep)
    ((first
      | (go_at_call 63; refine (hari _).mono ?_; rintro e W2 ⟨rfl, hb2⟩)))
  have H2 := (HH1.out.then_ (below_drew0 _)).then_ hb2
  have b12 := below_then (below_drew0 W1) (below_drew0 W1).size hb2
  have x2 := cell_keep0 b12 x0
  have r2 := (b12.block _ (blk_lt r1)).trans r1
  have b02 := below_then b01 b01.size b12
  have cS2 := H2.getS
  have HH2 := Lib.hid H2
  have hz2 := b02.size
  have hz1 := b12.size
  clear hb2 b12 r1 x0 cS HH1 H2 hari
  go_upto_region 2 with fail
  go_cut [6, 7] (fun s6 s7 wx => ∃ gp : Nat, s6 = .pointer (some ⟨gp, 0, none⟩) ∧ s7 = .int .i64 er ∧ wx.heap[gp]? = some (.cells #[.bool y.f0, .int .i64 y.f1, .string y.f2] 24 (0, 0)) ∧ W2.heap.size ≤ gp ∧ Below W2.heap.size W2 wx)
  case first =>
    have HC := fun W' hb => hC W' (HH2.out.then_ hb)
    go_region_held3 (fun w' => w'.cell? ⟨B, 0, none⟩ = some (.slice A m c) ∧ w'.cell? ⟨W.heap.size, 0, none⟩ = some (.int .i64 o))
      (first
        | go_keep
        | exact ⟨cell_keep0 (W := W2) (by repeat (first | exact HB3 | exact Below.refl _ _ | apply below_alloc | apply below_drew1 | refine below_set ?_ (by first | (dsimp only; omega) | omega | (simp; omega)))) cS2, cell_keep0 (W := W2) (by repeat (first | exact HB3 | exact Below.refl _ _ | apply below_alloc | apply below_drew1 | refine below_set ?_ (by first | (dsimp only; omega) | omega | (simp; omega)))) x2⟩)
      ((first
        | (go_at_call 75; refine (HC _ (by repeat (first | exact Below.refl _ _ | apply below_alloc | apply below_drew1))).mono ?_; rintro e W3 ⟨rfl, hb3⟩; have HB3 : Below W2.heap.size W2 W3 := (fun (h : Below W2.heap.size W2 _) => below_then h h.size hb3) (by repeat (first | exact Below.refl _ _ | apply below_alloc | apply below_drew1)); have hz3 := HB3.size; (try have zZ : W3.heap[W2.heap.size]? = some (.cells #[.bool false, .int .i64 0, .string (⟨#[]⟩ : ByteArray)] 24 (0, 0)) := (hb3.block _ (by simp)).trans (heap_alloc_new W2 _)); (try (have e0 := (blk_cell zZ 0).trans rfl; have e1 := (blk_cell zZ 1).trans rfl; have e2 := (blk_cell zZ 2).trans rfl; have g0 := blk_frozen zZ 0; have g1 := blk_frozen zZ 1; have g2 := blk_frozen zZ 2)))))
    all_goals (go_wp2_with fail; go_meet; first | exact ⟨_, rfl, rfl, heap_alloc_new W3 _, hz3, below_alloc HB3 _⟩ | exact ⟨_, rfl, rfl, blk_set (blk_set (blk_set zZ 0 _) 1 _) 2 _, Nat.le_refl _, below_set (below_set (below_set HB3 (Nat.le_refl _)) (Nat.le_refl _)) (Nat.le_refl _)⟩)
  obtain ⟨gp, rfl, rfl, hgp, hle, hbx⟩ := hcut
  have H3 := HH2.out.then_ hbx
  have c3 := H3.getS
  have f3 := blk_frozen H3.blk 0
  have r3 := (hbx.block _ (blk_lt r2)).trans r2
  have b03 := below_then b02 b02.size hbx
  have hzx := hbx.size
  have H4 := H3.cut q Hqm.out
  have y0 := (blk_cell hgp 0).trans rfl
  have y1 := (blk_cell hgp 1).trans rfl
  have y2 := (blk_cell hgp 2).trans rfl
  have p0 := (blk_cell r3 0).trans rfl
  have p1 := (blk_cell r3 1).trans rfl
  have p2 := (blk_cell r3 2).trans rfl
  have k0 := blk_frozen r3 0
  have k1 := blk_frozen r3 1
  have k2 := blk_frozen r3 2
  have m1 : gp ≠ B := by omega
  have m2 : W.heap.size + 1 ≠ B := by omega
  have m3 : gp ≠ W.heap.size + 1 := by omega
  have m4 : B ≠ gp := by omega
  have m5 : B ≠ W.heap.size + 1 := by omega
  have HH4 := Lib.hid H4
  have HH3 := Lib.hid H3
  clear H3 H4 hC hbx x2 cS2 HH2 hgp
  go_wp2
  have r4 : (wc.setCell ⟨B, 0, none⟩ (.slice A q c)).heap[W.heap.size + 1]? = _ := (Below.heap_setCell _ ⟨B, 0, none⟩ _ _ m2).trans r3
  refine bodyPost_ret (results_cell_row rfl _ _ (W.heap.size + 1) 24 #[.bool y.f0, .int .i64 y.f1, .string y.f2] (0, 0) _ rfl (blk_set (blk_set (blk_set r4 0 _) 1 _) 2 _) Tryz.underlying24 rfl (by kernel_rfl)) rfl ?_
  have hF : Fr B W (wc.setCell ⟨B, 0, none⟩ (.slice A q c)) := (Fr.below b03).trans Fr.set
  have hFr : Fr B W ((((wc.setCell ⟨B, 0, none⟩ (.slice A q c)).setCell ⟨W.heap.size + 1, 0, none⟩ (.bool y.f0)).setCell ⟨W.heap.size + 1, 1, none⟩ (.int .i64 y.f1)).setCell ⟨W.heap.size + 1, 2, none⟩ (.string y.f2)) := by
    refine ⟨by simp; omega, fun g hg1 hg2 => ?_⟩
    have hne : g ≠ W.heap.size + 1 := by omega
    exact (Below.heap_setCell _ ⟨_, 2, none⟩ _ _ hne).trans ((Below.heap_setCell _ ⟨_, 1, none⟩ _ _ hne).trans ((Below.heap_setCell _ ⟨_, 0, none⟩ _ _ hne).trans (hF.2 g hg1 hg2)))
  refine ⟨A, c, rfl, rfl, ⟨?_, ?_, ?_, HH4.out.base⟩, hFr⟩
  · exact (Below.heap_setCell _ ⟨_, 2, none⟩ _ _ m5).trans ((Below.heap_setCell _ ⟨_, 1, none⟩ _ _ m5).trans ((Below.heap_setCell _ ⟨_, 0, none⟩ _ _ m5).trans HH4.out.blk))
  · exact Kd.R_mono (Kd.R_move (Kd.R_mono (Kd.R_bound (Kd.R_take Hown.out Hqm.out)) (fun k hk => (⟨hk.1, hk.2.2.1⟩ : k ≠ B ∧ k < W.heap.size))) (fun k hk => hFr.2 k hk.2 hk.1)) (fun k hk => hk.1)
  · exact below_set (below_set (below_set HH4.out.below (by have := Hb0.out; omega)) (by have := Hb0.out; omega)) (by have := Hb0.out; omega)
end Go.Proofs.YtialoecplmnjfaaGreatDoor.XEval
namespace Go.Proofs.YtialoecplmnjfaaGreatDoor.XEval
open Go.RowKit Go.Proofs Go.Proofs.YtialoecplmnjfaaGreatDoorW.PrintWords Go.Proofs.YtialoecplmnjfaaGreatDoorW.PrintLast Go.Proofs.YtialoecplmnjfaaGreatDoorW.PrintMore Go.Proofs.YtialoecplmnjfaaGreatDoor.PX Go.Proofs.YtialoecplmnjfaaGreatDoor.XCheck
variable {w0 W : World} {B : Nat} {Rv F v : Value} {s : List Sv} {fuel : Int}
variable {T : World → Prop} {TEXT : ByteArray → Option Sv} {DO : Int → List Sv → Option (Sv × Int)}
theorem arity_nn (o : Int) : 0 ≤ XOps.arityF o := by
  unfold XOps.arityF
  split <;> omega
def tot : List Sv → Int
  | [] => 0
  | y :: l => (y.f2.size : Int) + tot l
def big (y : Sv) : Bool := decide (1000000000000 < y.f2.size)
theorem tot_nonneg : ∀ l : List Sv, 0 ≤ tot l
  | [] => Int.le_refl _
  | y :: l => by have := tot_nonneg l; simp only [tot]; omega
theorem tot_le : ∀ l : List Sv, (∀ y ∈ l, y.f2.size ≤ 1000000000000) → tot l ≤ 1000000000000 * (l.length : Int)
  | [], _ => by simp [tot]
  | y :: l, h => by
    have h1 := tot_le l fun z hz => h z (List.mem_cons_of_mem _ hz)
    have h2 := h y List.mem_cons_self
    simp only [tot, List.length_cons]
    omega
theorem tot_snoc : ∀ (l : List Sv) (y : Sv), tot (l ++ [y]) = tot l + (y.f2.size : Int)
  | [], y => by simp [tot]
  | z :: l, y => by
    have := tot_snoc l y
    simp only [List.cons_append, tot, this]
    omega
def costP (s : List Sv) (o : Int) : Int := 1 + tot (s.drop (s.length - (XOps.arityF o).toNat)) / 64
set_option maxHeartbeats 4000000 in
set_option maxRecDepth 100000 in
theorem cost_calls (h : Mch w0 B Rv F v s fuel W) (hl : s.length ≤ 100000) (o n : Int) (x : ByteArray) (a : Nat) (har : XOps.arityF o = (a : Int)) (ha : a ≤ s.length) (ha3 : a ≤ 3) (hbig : ∀ y ∈ s, y.f2.size ≤ 1000000000000) :
    Calls Tryz.prog 57 #[.pointer (some ⟨B, 0, none⟩), insV o n x] W fun e W' => e = .returned (.int .i64 (costP s o)) ∧ Below W.heap.size W W' := by
  have hcost : costP s o = 1 + tot (s.drop (s.length - a)) / 64 := by unfold costP; rw [har, Int.toNat_natCast]
  rw [hcost]
  clear hcost
  unfold insV
  have hu := Tryz.underlying24
  have hu1 := Tryz.underlying106
  have hu2 := Tryz.underlying86
  obtain ⟨A, c, hv, hlc, hC0⟩ := h.reads
  subst hv
  obtain ⟨l, hld⟩ : ∃ l, s.drop (s.length - a) = l := ⟨_, rfl⟩
  have hll : l.length = a := by rw [← hld, List.length_drop]; omega
  have hlb : ∀ y ∈ l, y.f2.size ≤ 1000000000000 := fun y hy => hbig y (List.mem_of_mem_drop (by rw [hld]; exact hy))
  have htl := tot_le l hlb
  have htn := tot_nonneg l
  have hdr := Kd.C_drop (k := k24) (c := c) (m := s.length - a) (xs := s) hC0 (by omega) hlc
  rw [show (k24).sz = 3 from rfl, hld] at hdr
  rw [hld]
  obtain ⟨m, hm⟩ : ∃ m, s.length = m := ⟨_, rfl⟩
  rw [hm] at hlc hl ha hdr h hld
  obtain ⟨q, hq⟩ : ∃ q, m - a = q := ⟨_, rfl⟩
  rw [hq] at hdr hld
  have hari := XOps.arity_calls o
  rw [har] at hari
  obtain ⟨i0, hi0, _, hsz, _⟩ := info_parts infoV
  have hcut := cut_from (P := Tryz.prog) 86 24 .i64 Tryz.underlying86 hi0 3 hsz A m c (q : Int) (by omega) (by omega)
  simp only [Int.toNat_natCast] at hcut
  rw [show m - q = a by omega] at hcut
  obtain ⟨A', hA'⟩ : ∃ A', (if c = q then A else A.map (fun x => x.add (q * 3))) = A' := ⟨_, rfl⟩
  rw [hA'] at hcut hdr
  have hw : wrap64 ((m : Int) - (a : Int)) = (q : Int) := by unfold wrap64; omega
  have hw2 : IntKind.i64.wrap ((m : Int) - (a : Int)) = (q : Int) := by rw [IntKind.wrap_i64]; omega
  have i0 : (0 : Int) ≤ (q : Int) := by omega
  have i1 : (q : Int) ≤ (m : Int) := by omega
  have hb0 := below_alloc (Below.refl W.heap.size W) (insC o n x)
  have x0 := new_cell W o n x
  have cS := (h.then_ hb0).getS
  unfold insC at hb0 x0 cS
  have Hl := Lib.hid hll
  have Hlb := Lib.hid hlb
  have Htl := Lib.hid htl
  have Htn := Lib.hid htn
  clear h hC0 hld hq hm har hsz hA' hll hlb htl htn hbig
  go_enter Tryz.func57, Tryz.ntmps57
  go_upto_region 2 with fail
  go_region_held3 (fun w' => w'.cell? ⟨B, 0, none⟩ = some (.slice A m c) ∧ w'.cell? ⟨W.heap.size, 0, none⟩ = some (.int .i64 o))
    (first
      | exact ⟨cS, x0⟩
      | (go_split_ands; exact ⟨cell_keep0 hb2 (by assumption), cell_keep0 hb2 (by assumption)⟩)
      | go_keep)
    ((first
      | (go_at_call 63; refine (hari _).mono ?_; rintro e W2 ⟨rfl, hb2⟩)))
  have b02 := below_then (below_drew1 hb0) (below_drew1 hb0).size hb2
  have hd2 := Kd.C_below hdr b02
  clear hb2 hb0 cS x0 hari hdr
  go_wp2_with fail
  go_loopw [5, 23] (fun t i wr => ∃ k : Nat, k ≤ a ∧ i = .int .i64 k ∧ t = .int .i64 (tot (l.take k)) ∧ Below W2.heap.size W2 wr) (fun _ i _ => a - (intOf i).toNat)
  case atStart => exact ⟨0, Nat.zero_le _, rfl, rfl, Below.refl _ _⟩
  case round =>
    obtain ⟨k, hk, rfl, rfl, hbr⟩ := hrel
    have ht0 := tot_nonneg (l.take k)
    have ht1 := tot_le (l.take k) fun y hy => Hlb.out y (List.mem_of_mem_take hy)
    have ht2 : (l.take k).length ≤ 3 := by have := List.length_take_le k l; omega
    have ht3 : tot (l.take k) ≤ 3000000000000 := by omega
    clear ht1 ht2
    by_cases hlt : k < a
    · have hi1 : (k : Int) < (a : Int) := by omega
      have hwk : wrap64 ((k : Int) + 1) = (k : Int) + 1 := by unfold wrap64; omega
      obtain ⟨ad, rfl, h0, h1, h2⟩ := at_T24 (Kd.C_below hd2 hbr) (k : Int) (by omega) (by rw [Hl.out]; omega)
      rw [Int.toNat_natCast] at h0 h1 h2
      have hkl : k < l.length := by rw [Hl.out]; exact hlt
      obtain ⟨y, hy⟩ : ∃ y, rd_T24 l (k : Int) = y := ⟨_, rfl⟩
      rw [hy] at h0 h1 h2
      have hyl : y = l[k] := by
        rw [← hy]
        unfold rd_T24
        rw [Int.toNat_natCast, List.getD_eq_getElem?_getD, List.getElem?_eq_getElem hkl]
        rfl
      have hys : y.f2.size ≤ 1000000000000 := by rw [hyl]; exact Hlb.out _ (List.getElem_mem hkl)
      have htk : tot (l.take (k + 1)) = tot (l.take k) + (y.f2.size : Int) := by rw [List.take_succ_eq_append_getElem hkl, tot_snoc, hyl]
      have Htk := Lib.hid htk
      have hws : wrap64 (tot (l.take k) + (y.f2.size : Int)) = tot (l.take k) + (y.f2.size : Int) := by unfold wrap64; omega
      clear hy hyl htk hkl
      go_wp2
      refine ⟨⟨k + 1, by omega, by go_num, by rw [Htk.out], below_alloc hbr _⟩, by simp [intOf]; omega⟩
    · obtain rfl : k = a := by omega
      have hi1 : ¬ ((k : Int) < (k : Int)) := by omega
      have e : l.take k = l := List.take_of_length_le (by rw [Hl.out]; exact Nat.le_refl _)
      rw [e] at ht0 ht3 ⊢
      have hws : wrap64 (1 + tot l / 64) = 1 + tot l / 64 := by unfold wrap64; omega
      clear e
      go_wp2
      go_ret
      exact ⟨rfl, below_then b02 b02.size hbr⟩
def mth (o : Int) : Nat := if o = 0 then 66 else if o = 1 then 67 else if o = 2 then 68 else if o = 3 then 69 else if o = 22 ∨ o = 23 then 70 else 71
theorem mth_fn (o : Int) : ∃ fn, Tryz.prog.funcs[mth o]? = some fn ∧ (fn.name == "runtime.NumGoroutine") = false ∧ fn.body.isSome = true := by
  unfold mth
  by_cases c0 : o = 0
  · rw [if_pos c0]; exact ⟨_, Tryz.func66, by kernel_rfl, by kernel_rfl⟩
  rw [if_neg c0]
  by_cases c1 : o = 1
  · rw [if_pos c1]; exact ⟨_, Tryz.func67, by kernel_rfl, by kernel_rfl⟩
  rw [if_neg c1]
  by_cases c2 : o = 2
  · rw [if_pos c2]; exact ⟨_, Tryz.func68, by kernel_rfl, by kernel_rfl⟩
  rw [if_neg c2]
  by_cases c3 : o = 3
  · rw [if_pos c3]; exact ⟨_, Tryz.func69, by kernel_rfl, by kernel_rfl⟩
  rw [if_neg c3]
  by_cases c4 : o = 22 ∨ o = 23
  · rw [if_pos c4]; exact ⟨_, Tryz.func70, by kernel_rfl, by kernel_rfl⟩
  rw [if_neg c4]
  exact ⟨_, Tryz.func71, by kernel_rfl, by kernel_rfl⟩
set_option maxHeartbeats 4000000 in
set_option maxRecDepth 100000 in
theorem does_calls (B : Nat) (o : Int) (W : World) : Calls Tryz.prog 58 #[.pointer (some ⟨B, 0, none⟩), .int .i64 o] W fun e W' => e = .returned (.func (.func (mth o)) #[.pointer (some ⟨B, 0, none⟩)] #[]) ∧ W' = W := by
  unfold mth
  by_cases c0 : o = 0
  · subst c0
    go_enter Tryz.func58, Tryz.ntmps58
    go_wp2
    go_ret
    exact ⟨rfl, rfl⟩
  by_cases c1 : o = 1
  · subst c1
    go_enter Tryz.func58, Tryz.ntmps58
    go_wp2
    go_ret
    exact ⟨rfl, rfl⟩
  by_cases c2 : o = 2
  · subst c2
    go_enter Tryz.func58, Tryz.ntmps58
    go_wp2
    go_ret
    exact ⟨rfl, rfl⟩
  by_cases c3 : o = 3
  · subst c3
    go_enter Tryz.func58, Tryz.ntmps58
    go_wp2
    go_ret
    exact ⟨rfl, rfl⟩
  by_cases c4 : o = 22
  · subst c4
    go_enter Tryz.func58, Tryz.ntmps58
    go_wp2
    go_ret
    exact ⟨rfl, rfl⟩
  by_cases c5 : o = 23
  · subst c5
    go_enter Tryz.func58, Tryz.ntmps58
    go_wp2
    go_ret
    exact ⟨rfl, rfl⟩
  rw [if_neg c0, if_neg c1, if_neg c2, if_neg c3, if_neg (by omega)]
  have b0 : (o == 0) = false := by simp [c0]
  have b1 : (o == 1) = false := by simp [c1]
  have b2 : (o == 2) = false := by simp [c2]
  have b3 : (o == 3) = false := by simp [c3]
  have b4 : (o == 22) = false := by simp [c4]
  have b5 : (o == 23) = false := by simp [c5]
  clear c0 c1 c2 c3 c4 c5
  go_enter Tryz.func58, Tryz.ntmps58
  go_wp2
  go_ret
  exact ⟨rfl, rfl⟩
def pickP (TEXT : ByteArray → Option Sv) (DO : Int → List Sv → Option (Sv × Int)) (r : List ByteArray) (fold s : List Sv) (x : Ins) : Option Sv :=
  if x.f0 = 0 then some (numS x.f1) else if x.f0 = 1 then TEXT x.f2
  else if x.f0 = 2 then (if (r.length : Int) ≤ x.f1 then TEXT ⟨#[]⟩ else if 0 ≤ x.f1 then TEXT (r.getD x.f1.toNat ByteArray.empty) else none)
  else if x.f0 = 3 then some (numS (r.length : Int))
  else if x.f0 = 22 ∨ x.f0 = 23 then (if fold.length = 2 then some (fold.getD (x.f0 - 22).toNat XOps.zv) else none)
  else (DO x.f0 (s.drop (s.length - (XOps.arityF x.f0).toNat))).map (·.1)
theorem step_calls (E : Env T TEXT DO) {Ar Af : Option Addr} {rc cf : Nat} {r : List ByteArray} {fold : List Sv} (h : Mch w0 B (.slice Ar r.length rc) (.slice Af fold.length cf) v s fuel W) (hR : Kd.C Kd.string w0 Ar r.length r) (hF : Kd.C k24 w0 Af fold.length fold) (hT : T w0) (hl : s.length ≤ 100000) (x : Ins) (a : Nat) (har : XOps.arityF x.f0 = (a : Int)) (ha : a ≤ s.length) (y : Sv) (hp : pickP TEXT DO r fold s x = some y) :
    Calls Tryz.prog (mth x.f0) #[.pointer (some ⟨B, 0, none⟩), insV x.f0 x.f1 x.f2] W fun e W' => ∃ A c, v = .slice A s.length c ∧ e = .returned (XOps.enV y) ∧ Mch w0 B (.slice Ar r.length rc) (.slice Af fold.length cf) (.slice A (s.length - a) c) (s.take (s.length - a)) fuel W' ∧ Fr B W W' := by
  have hTW := E.tb _ _ hT h.below
  have quiet : ∀ {f : Nat}, a = 0 → (Calls Tryz.prog f #[.pointer (some ⟨B, 0, none⟩), insV x.f0 x.f1 x.f2] W fun e W' => e = .returned (XOps.enV y) ∧ Below W.heap.size W W') →
      Calls Tryz.prog f #[.pointer (some ⟨B, 0, none⟩), insV x.f0 x.f1 x.f2] W fun e W' => ∃ A c, v = .slice A s.length c ∧ e = .returned (XOps.enV y) ∧ Mch w0 B (.slice Ar r.length rc) (.slice Af fold.length cf) (.slice A (s.length - a) c) (s.take (s.length - a)) fuel W' ∧ Fr B W W' := fun {f} h0 hc => by
    obtain ⟨A, c, hv, _, _⟩ := h.reads
    refine hc.mono fun e W' he => ⟨A, c, hv, he.1, ?_, Fr.below he.2⟩
    have := h.then_ he.2
    rw [h0, Nat.sub_zero, List.take_length, ← hv]
    exact this
  unfold pickP at hp
  by_cases c0 : x.f0 = 0
  · rw [if_pos c0] at hp
    obtain rfl := Option.some.inj hp
    rw [show mth x.f0 = 66 by unfold mth; rw [if_pos c0]]
    refine quiet (by rw [c0] at har; have : XOps.arityF 0 = 0 := rfl; omega) (num_calls E _ _ _ W hTW)
  rw [if_neg c0] at hp
  by_cases c1 : x.f0 = 1
  · rw [if_pos c1] at hp
    rw [show mth x.f0 = 67 by unfold mth; rw [if_neg c0, if_pos c1]]
    refine quiet (by rw [c1] at har; have : XOps.arityF 1 = 0 := rfl; omega) (text_calls E _ _ _ y hp W hTW)
  rw [if_neg c1] at hp
  by_cases c2 : x.f0 = 2
  · rw [if_pos c2] at hp
    rw [show mth x.f0 = 68 by unfold mth; rw [if_neg c0, if_neg c1, if_pos c2]]
    refine quiet (by rw [c2] at har; have : XOps.arityF 2 = 0 := rfl; omega) ?_
    by_cases c3 : (r.length : Int) ≤ x.f1
    · rw [if_pos c3] at hp
      exact field_far E h hT _ _ _ y c3 hp
    · rw [if_neg c3] at hp
      by_cases c4 : 0 ≤ x.f1
      · rw [if_pos c4] at hp
        have := field_in E h hR hT x.f0 x.f1.toNat x.f2 y (by omega) hp
        rw [show ((x.f1.toNat : Nat) : Int) = x.f1 by omega] at this
        exact this
      · rw [if_neg c4] at hp; cases hp
  rw [if_neg c2] at hp
  by_cases c3 : x.f0 = 3
  · rw [if_pos c3] at hp
    obtain rfl := Option.some.inj hp
    rw [show mth x.f0 = 69 by unfold mth; rw [if_neg c0, if_neg c1, if_neg c2, if_pos c3]]
    exact quiet (by rw [c3] at har; have : XOps.arityF 3 = 0 := rfl; omega) (count_calls E h hT _ _ _)
  rw [if_neg c3] at hp
  by_cases c4 : x.f0 = 22 ∨ x.f0 = 23
  · rw [if_pos c4] at hp
    rw [show mth x.f0 = 70 by unfold mth; rw [if_neg c0, if_neg c1, if_neg c2, if_neg c3, if_pos c4]]
    by_cases c5 : fold.length = 2
    · rw [if_pos c5] at hp
      have := Option.some.inj hp
      refine quiet ?_ (given_calls E h hF x.f0 x.f1 x.f2 (x.f0 - 22).toNat (by omega) (by omega) (by omega) y this)
      rcases c4 with c4 | c4
      · rw [c4] at har; have : XOps.arityF 22 = 0 := rfl; omega
      · rw [c4] at har; have : XOps.arityF 23 = 0 := rfl; omega
    · rw [if_neg c5] at hp; cases hp
  rw [if_neg c4] at hp
  rw [show mth x.f0 = 71 by unfold mth; rw [if_neg c0, if_neg c1, if_neg c2, if_neg c3, if_neg c4]]
  rw [har, Int.toNat_natCast] at hp
  obtain ⟨⟨y', er⟩, hd, rfl⟩ := Option.map_eq_some_iff.1 hp
  exact done_calls E h hT hl x.f0 x.f1 x.f2 a har ha y' er hd
end Go.Proofs.YtialoecplmnjfaaGreatDoor.XEval
namespace Go.Proofs.YtialoecplmnjfaaGreatDoor.XEval
open Go.RowKit Go.Proofs Go.Proofs.YtialoecplmnjfaaGreatDoorW.PrintWords Go.Proofs.YtialoecplmnjfaaGreatDoorW.PrintLast Go.Proofs.YtialoecplmnjfaaGreatDoorW.PrintMore Go.Proofs.YtialoecplmnjfaaGreatDoor.PX Go.Proofs.YtialoecplmnjfaaGreatDoor.XCheck
variable {w0 W : World} {B : Nat} {Rv F v : Value} {s : List Sv} {fuel : Int}
variable {T : World → Prop} {TEXT : ByteArray → Option Sv} {DO : Int → List Sv → Option (Sv × Int)}
def runE (TEXT : ByteArray → Option Sv) (DO : Int → List Sv → Option (Sv × Int)) (r : List ByteArray) (fold : List Sv) : List Ins → List Sv → Int → Option (List Sv × Int × Int)
  | [], s, u => some (s, u, 0)
  | x :: p, s, u => if (s.length : Int) < XOps.arityF x.f0 ∨ s.any big = true then none else if costP s x.f0 > u then some (s, u, 12) else
    (pickP TEXT DO r fold s x).bind fun y => runE TEXT DO r fold p (s.take (s.length - (XOps.arityF x.f0).toNat) ++ [y]) (u - costP s x.f0)
theorem Fr.alloc {W' : World} (h : Fr B W W') (o : Obj) : Fr B W (W'.alloc o) := h.trans (Fr.below (below_alloc (Below.refl _ _) _))
theorem Fr.drewd {W' : World} (h : Fr B W W') : Fr B W W'.drew := h
theorem Fr.put {W' : World} {g i : Nat} {u : Value} (h : Fr B W W') (hg : W.heap.size ≤ g) : Fr B W (W'.setCell ⟨g, i, none⟩ u) :=
  ⟨by simp; exact h.1, fun k hk h1 => (Below.heap_setCell _ ⟨g, i, none⟩ _ k (by intro e; have e : k = g := e; omega)).trans (h.2 k hk h1)⟩
theorem Fr.refl (B : Nat) (W : World) : Fr B W W := ⟨Nat.le_refl _, fun _ _ _ => rfl⟩
theorem Mch.moved {A : Option Addr} {c m q : Nat} {f : Int} {W' : World} (h : Mch w0 B Rv F (.slice A m c) s fuel W) (hq : q ≤ s.length) (hF : Fr B W W') (hblk : W'.heap[B]? = some (.cells #[.slice A q c, Rv, F, .int .i64 f] 106 (0, 0))) (hb : Below w0.heap.size w0 W') : Mch w0 B Rv F (.slice A q c) (s.take q) f W' :=
  ⟨hblk, Kd.R_mono (Kd.R_move (Kd.R_mono (Kd.R_bound (Kd.R_take h.own hq)) (fun k hk => (⟨hk.1, hk.2.2.1⟩ : k ≠ B ∧ k < W.heap.size))) (fun k hk => hF.2 k hk.2 hk.1)) (fun k hk => hk.1), hb, h.base⟩
set_option maxHeartbeats 8000000 in
set_option maxRecDepth 100000 in
theorem run_calls (E : Env T TEXT DO) {Ar Af : Option Addr} {rc cf : Nat} {r : List ByteArray} {fold : List Sv} (hM : Mch w0 B (.slice Ar r.length rc) (.slice Af fold.length cf) v s fuel W) (hR : Kd.C Kd.string w0 Ar r.length r) (hF : Kd.C k24 w0 Af fold.length fold) (hT : T w0)
    (A : Option Addr) (c : Nat) (p : List Ins) (hp : Kd.C k50 w0 A p.length p) (hpl : p.length ≤ 10000) (hs0 : s = []) (hfu : fuel ≤ 9223372036854775807) {s' : List Sv} {u' er : Int} (hrun : runE TEXT DO r fold p s fuel = some (s', u', er)) :
    Calls Tryz.prog 49 #[.pointer (some ⟨B, 0, none⟩), .slice A p.length c] W fun e W' => ∃ v', e = .returned (.int .i64 er) ∧ Mch w0 B (.slice Ar r.length rc) (.slice Af fold.length cf) v' s' u' W' := by
  have hu := Tryz.underlying24
  have hu0 := Tryz.underlying50
  have hu1 := Tryz.underlying106
  have hu2 := Tryz.underlying86
  obtain ⟨n, hn⟩ : ∃ n, p.length = n := ⟨_, rfl⟩
  rw [hn] at hp hpl ⊢
  have Hn := Lib.hid hn
  have HM := Lib.hid hM
  have Hrun := Lib.hid hrun
  obtain ⟨rn, hrn⟩ : ∃ rn, r.length = rn := ⟨_, rfl⟩
  obtain ⟨fn_, hfn_⟩ : ∃ fn_, fold.length = fn_ := ⟨_, rfl⟩
  have Hrn := Lib.hid hrn
  have Hfn := Lib.hid hfn_
  have Hs0 := Lib.hid hs0
  have Hfu := Lib.hid hfu
  clear hn hM hrun hrn hfn_ hs0 hfu
  go_enter Tryz.func49, Tryz.ntmps49
  go_wp2
  go_loopw [11] (fun i wr => ∃ (k : Nat) (v : Value) (s : List Sv) (u : Int), k ≤ n ∧ i = .int .i64 k ∧ s.length ≤ k ∧ u ≤ 9223372036854775807 ∧ Mch w0 B (.slice Ar r.length rc) (.slice Af fold.length cf) v s u wr ∧ runE TEXT DO r fold (p.drop k) s u = some (s', u', er)) (fun i _ => n - (intOf i).toNat)
  case atStart => exact ⟨0, _, s, fuel, Nat.zero_le _, rfl, by rw [Hs0.out]; exact Nat.le_refl _, Hfu.out, HM.out, Hrun.out⟩
  case round =>
    obtain ⟨k, v, s, u, hk, rfl, hsl, hu64, hst, hrun⟩ := hrel
    clear Hs0 HM Hrun Hfu
    by_cases hlt : k < n
    · have hi1 : (k : Int) < (n : Int) := by omega
      have hwk : wrap64 ((k : Int) + 1) = (k : Int) + 1 := by unfold wrap64; omega
      obtain ⟨ad, rfl, h0, h1, h2⟩ := at_T50 (Kd.C_below hp hst.below) (k : Int) (by omega) (by omega)
      rw [Int.toNat_natCast] at h0 h1 h2
      obtain ⟨x, hx⟩ : ∃ x, x = rd_T50 p (k : Int) := ⟨_, rfl⟩
      rw [← hx] at h0 h1 h2
      have hpd : p.drop k = x :: p.drop (k + 1) := by
        have hk' : k < p.length := by rw [Hn.out]; exact hlt
        rw [List.drop_eq_getElem_cons hk', hx]
        unfold rd_T50
        rw [Int.toNat_natCast, List.getD_eq_getElem?_getD, List.getElem?_eq_getElem hk']
        rfl
      rw [hpd] at hrun
      unfold runE at hrun
      by_cases c1 : (s.length : Int) < XOps.arityF x.f0 ∨ s.any big = true
      · rw [if_pos c1] at hrun; cases hrun
      rw [if_neg c1] at hrun
      obtain ⟨a, har⟩ : ∃ a : Nat, XOps.arityF x.f0 = (a : Int) := ⟨(XOps.arityF x.f0).toNat, by have := XEval.arity_nn x.f0; omega⟩
      have ha : a ≤ s.length := by omega
      have ha3 : a ≤ 3 := by have := arity_le x.f0; omega
      have hbig : ∀ y ∈ s, y.f2.size ≤ 1000000000000 := fun y hy => by
        by_cases c : y.f2.size ≤ 1000000000000
        · exact c
        · exact absurd (.inr (List.any_eq_true.2 ⟨y, hy, decide_eq_true (by omega)⟩)) c1
      have hal := below_alloc (Below.refl wr.heap.size wr) (insC x.f0 x.f1 x.f2)
      have hst1 := hst.then_ hal
      have hcost := cost_calls hst1 (by omega) x.f0 x.f1 x.f2 a har ha ha3 hbig
      have hxb := fun W1 => x_below (W := wr) (W1 := W1) x
      have hwl := hst.lt
      have hnb : wr.heap.size ≠ B := by omega
      rw [har, Int.toNat_natCast] at hrun
      have hcp : 1 ≤ costP s x.f0 := by unfold costP; have := tot_nonneg (s.drop (s.length - (XOps.arityF x.f0).toNat)); omega
      obtain ⟨co, hco⟩ : ∃ co, costP s x.f0 = co := ⟨_, rfl⟩
      rw [hco] at hrun hcost hcp
      have hG := fun (f : Int) W2 (h2 : Mch w0 B (.slice Ar r.length rc) (.slice Af fold.length cf) v s f W2) y (hy : pickP TEXT DO r fold s x = some y) => step_calls E h2 hR hF hT (by omega) x a har ha y hy
      have hD := fun W2 => does_calls B x.f0 W2
      unfold insV insC at hcost
      unfold insC at hxb hst1
      unfold insV XOps.enV at hG
      have Hst1 := Lib.hid hst1
      have Hsl := Lib.hid hsl
      have Hal := Lib.hid hal
      by_cases c2 : co > u
      · have hd2 : decide (co > u) = true := decide_eq_true c2
        rw [if_pos c2] at hrun
        simp only [Option.some.injEq, Prod.mk.injEq] at hrun
        obtain ⟨rfl, rfl, rfl⟩ := hrun
        clear hG hD c1 hco har hbig hst hst1 hsl hal hxb hpd hx
        go_wp2_with (go_at_call 57; refine hcost.mono ?_; rintro e W1 ⟨rfl, hb1⟩; have cU := (Hst1.out.then_ hb1).getU)
        go_ret
        exact ⟨_, rfl, Hst1.out.then_ hb1⟩
      · have hd2 : decide (co > u) = false := decide_eq_false c2
        rw [if_neg c2] at hrun
        obtain ⟨y, hy, hrun⟩ := Option.bind_eq_some_iff.1 hrun
        have hws : wrap64 (u - co) = u - co := by unfold wrap64; omega
        obtain ⟨A2, cv, hv, hsc, _⟩ := hst.reads
        subst hv
        obtain ⟨q, hq⟩ : ∃ q, s.length - a = q := ⟨_, rfl⟩
        have hqs : q ≤ s.length := by omega
        rw [hq] at hrun
        have hGy := fun W2 h2 => hG (u - co) W2 h2 y hy
        rw [hq] at hGy
        obtain ⟨fn, hfn, hnm, hbd⟩ := mth_fn x.f0
        have hen := fun args W => enters_ hfn hnm hbd args W
        have Hrun := Lib.hid hrun
        have Hqs := Lib.hid hqs
        have Hq := Lib.hid hq
        clear hG c1 hco har hbig hst hst1 hsl hal hpd hx hrun hqs hfn hbd hy hq
        go_upto_region 8 with (go_at_call 57; refine hcost.mono ?_; rintro e W1 ⟨rfl, hb1⟩; have H1 := Hst1.out.then_ hb1; have cU := H1.getU; have fU := blk_frozen H1.blk 3; have HH1 := Lib.hid H1; clear H1)
        obtain ⟨q0, q1, q2⟩ := hxb _ hb1
        have H2 := HH1.out.burn (u - co)
        have n0 : (Addr.mk wr.heap.size 0 none).block ≠ (Addr.mk B 3 none).block := hnb
        have p0 : (W1.setCell ⟨B, 3, none⟩ (.int .i64 (u - co))).cell? ⟨wr.heap.size, 0, none⟩ = some (.int .i64 x.f0) := Fr.cell (B := B) Fr.set (by have := Hal.out.size; have := hb1.size; simp at this; omega) hnb q0
        have p1 : (W1.setCell ⟨B, 3, none⟩ (.int .i64 (u - co))).cell? ⟨wr.heap.size, 1, none⟩ = some (.int .i64 x.f1) := Fr.cell (B := B) Fr.set (by have := hb1.size; simp at this; omega) hnb q1
        have p2 : (W1.setCell ⟨B, 3, none⟩ (.int .i64 (u - co))).cell? ⟨wr.heap.size, 2, none⟩ = some (.string x.f2) := Fr.cell (B := B) Fr.set (by have := hb1.size; simp at this; omega) hnb q2
        clear q0 q1 q2 cU fU hxb HH1 Hst1 n0
        generalize hW2 : W1.setCell ⟨B, 3, none⟩ (.int .i64 (u - co)) = W2 at *
        have hwx := cell_lt p0
        have hwx : wr.heap.size < W2.heap.size := hwx
        go_cut [8] (fun s8 wx => ∃ gv : Nat, s8 = .pointer (some ⟨gv, 0, none⟩) ∧ wx.heap[gv]? = some (.cells #[.bool y.f0, .int .i64 y.f1, .string y.f2] 24 (0, 0)) ∧ gv ≠ B ∧ (∀ k, (Value.slice A2 q cv).ownBlock = some k → k ≠ gv) ∧ Mch w0 B (.slice Ar r.length rc) (.slice Af fold.length cf) (.slice A2 q cv) (s.take q) (u - co) wx)
        case first =>
          have hown2 : ∀ k, (Value.slice A2 q cv).ownBlock = some k → k < W2.heap.size := fun k hk => (own_ne H2 (by rw [← hk]; cases A2 <;> rfl)).2
          have hlt2 := H2.lt
          go_region_held3 (fun w' => w'.cell? ⟨wr.heap.size, 0, none⟩ = some (.int .i64 x.f0) ∧ w'.cell? ⟨wr.heap.size, 1, none⟩ = some (.int .i64 x.f1) ∧ w'.cell? ⟨wr.heap.size, 2, none⟩ = some (.string x.f2))
            (first
              | go_keep
              | exact ⟨Fr.cell (B := B) (W := W2) (by repeat (first | exact HF4 | exact Fr.refl _ _ | apply Fr.alloc | apply Fr.drewd | refine Fr.put ?_ (by omega))) hwx hnb p0, Fr.cell (B := B) (W := W2) (by repeat (first | exact HF4 | exact Fr.refl _ _ | apply Fr.alloc | apply Fr.drewd | refine Fr.put ?_ (by omega))) hwx hnb p1, Fr.cell (B := B) (W := W2) (by repeat (first | exact HF4 | exact Fr.refl _ _ | apply Fr.alloc | apply Fr.drewd | refine Fr.put ?_ (by omega))) hwx hnb p2⟩)
            ((first
              | (go_at_call 58; refine (hD _).mono ?_; rintro e W3 ⟨rfl, rfl⟩)
              | (refine (hGy _ (H2.then_ (by repeat (first | exact Below.refl _ _ | apply below_alloc | apply below_drew1)))).mono ?_; rintro e W4 ⟨A4, c4, e4, rfl, hM4, hF4⟩; injection e4 with e4a _ e4b; subst e4a e4b; have HF4 : Fr B W2 W4 := Fr.trans (Fr.below (by repeat (first | exact Below.refl _ _ | apply below_alloc | apply below_drew1))) hF4; have hz4 := HF4.1; (try have zZ : W4.heap[W2.heap.size]? = some (.cells #[.bool false, .int .i64 0, .string (⟨#[]⟩ : ByteArray)] 24 (0, 0)) := (hF4.2 W2.heap.size (by simp) (by omega)).trans (heap_alloc_new W2 _)); (try (have e0 := (blk_cell zZ 0).trans rfl; have e1 := (blk_cell zZ 1).trans rfl; have e2 := (blk_cell zZ 2).trans rfl; have g0 := blk_frozen zZ 0; have g1 := blk_frozen zZ 1; have g2 := blk_frozen zZ 2)))))
          all_goals (go_wp2_with fail; go_meet; first
            | exact ⟨_, rfl, heap_alloc_new W4 _, by (have := hM4.lt; omega), fun k hk => by (have := hown2 k hk; omega), hM4.then_ (below_alloc (Below.refl _ _) _)⟩
            | exact ⟨_, rfl, blk_set (blk_set (blk_set zZ 0 _) 1 _) 2 _, by omega, fun k hk => by (have := hown2 k hk; omega), H2.moved Hqs.out (by repeat (first | exact HF4 | exact Fr.refl _ _ | apply Fr.alloc | apply Fr.drewd | refine Fr.put ?_ (by omega))) ((Below.heap_setCell _ ⟨_, 2, none⟩ _ _ (by dsimp only; omega)).trans ((Below.heap_setCell _ ⟨_, 1, none⟩ _ _ (by dsimp only; omega)).trans ((Below.heap_setCell _ ⟨_, 0, none⟩ _ _ (by dsimp only; omega)).trans hM4.blk))) (below_set (below_set (below_set hM4.below (by have := H2.below.size; omega)) (by have := H2.below.size; omega)) (by have := H2.below.size; omega))⟩)
        obtain ⟨gv, rfl, hgv, hgB, hno, hMc⟩ := hcut
        have HMc := Lib.hid hMc
        have cS := hMc.getS
        have y0 := (blk_cell hgv 0).trans rfl
        have y1 := (blk_cell hgv 1).trans rfl
        have y2 := (blk_cell hgv 2).trans rfl
        have hwB := hMc.lt
        have hvl := blk_lt hgv
        have hnoB : ∀ k, (Value.slice A2 q cv).ownBlock = some k → k ≠ B := fun k hk => (own_ne hMc hk).1
        clear hMc hD H2 p0 p1 p2 hW2 hb1 hgv hGy
        go_wp2_with fail
        go_region_law (first | (refine Kd.R_append_step k24 (w0 := w0) (W := wc.drew) w0.heap.size (by rfl) (.tmp 42) (.tmp 44) 86 24 (.agg #[.bool false, .int .i64 0, .string (⟨#[]⟩ : ByteArray)]) 32 (by rfl) Tryz.underlying86 infoV rfl (by decide) (by decide) (.slice A2 q cv) (s.take q) y [.bool y.f0, .int .i64 y.f1, .string y.f2] (fun k => k ≠ B) (fun _ => False) (by rfl) (by rfl) (k24_mkM _ _ _ y) (fun _ hk => hk.elim) (fun k hk => by have hk' : wc.heap.size ≤ k := hk; omega) (Kd.R_drew HMc.out.own) (below_drew1 HMc.out.below) HMc.out.below.size (by rw [List.length_take]; have := Hsl.out; omega) ?_; intro v1 w1 ho1 hb1 hg1 hat1; obtain ⟨A1, k1, hv1⟩ := Kd.R_slice ho1; obtain ⟨N1, hN1⟩ : ∃ N1, (s.take q ++ [y]).length = N1 := ⟨_, rfl⟩; rw [hN1] at hv1; subst hv1; clear hN1; have hB1 := blk_grown (show wc.drew.heap[B]? = _ from HMc.out.blk) hg1 (fun e => hnoB B e.symm rfl); have b0 := (blk_cell hB1 0).trans rfl; have g0 := blk_frozen hB1 0))
        all_goals
          go_wp2
          refine ⟨⟨k + 1, _, s.take q ++ [y], u - co, by omega, by go_num, by (have := Hsl.out; simp only [List.length_append, List.length_take, List.length_cons, List.length_nil]; omega), by omega, ⟨blk_set hB1 0 _, Kd.R_far (p := ⟨B, 0, none⟩) ho1 (fun k hk => hk) _, below_set hb1 HMc.out.base, HMc.out.base⟩, Hrun.out⟩, by simp [intOf]; omega⟩
    · obtain rfl : k = n := by omega
      have hi1 : ¬ ((k : Int) < (k : Int)) := by omega
      rw [List.drop_of_length_le (by rw [Hn.out]; exact Nat.le_refl _)] at hrun
      unfold runE at hrun
      simp only [Option.some.injEq, Prod.mk.injEq] at hrun
      obtain ⟨rfl, rfl, rfl⟩ := hrun
      have Hst := Lib.hid hst
      clear hst
      go_wp2
      go_ret
      first | exact ⟨_, rfl, Hst.out⟩ | exact ⟨rfl, _, Hst.out⟩ | exact ⟨_, Hst.out⟩
end Go.Proofs.YtialoecplmnjfaaGreatDoor.XEval
namespace Go.Proofs.YtialoecplmnjfaaGreatDoor.XLine
open Go.RowKit Go.Proofs Go.Proofs.YtialoecplmnjfaaGreatDoorW.PrintWords Go.Proofs.YtialoecplmnjfaaGreatDoorW.PrintLast Go.Proofs.YtialoecplmnjfaaGreatDoorW.PrintMore Go.Proofs.YtialoecplmnjfaaGreatDoor.PX
def At (W : World) (g : Nat) (x : S24) : Prop := W.heap[g]? = some (.cells #[.bool x.f0, .int .i64 x.f1, .string x.f2] 24 (0, 0))
theorem At.then_ {W W' : World} {g : Nat} {x : S24} (h : At W g x) (hb : Below W.heap.size W W') : At W' g x := (hb.block _ (blk_lt h)).trans h
theorem At.alloc {W : World} {g : Nat} {x : S24} (h : At W g x) (o : Obj) : At (W.alloc o) g x := (heap_alloc_old W o (blk_lt h)).trans h
theorem At.drew {W : World} {g : Nat} {x : S24} (h : At W g x) : At W.drew g x := h
theorem At.c0 {W : World} {g : Nat} {x : S24} (h : At W g x) : W.cell? ⟨g, 0, none⟩ = some (.bool x.f0) := (blk_cell h 0).trans rfl
theorem At.c1 {W : World} {g : Nat} {x : S24} (h : At W g x) : W.cell? ⟨g, 1, none⟩ = some (.int .i64 x.f1) := (blk_cell h 1).trans rfl
theorem At.c2 {W : World} {g : Nat} {x : S24} (h : At W g x) : W.cell? ⟨g, 2, none⟩ = some (.string x.f2) := (blk_cell h 2).trans rfl
end Go.Proofs.YtialoecplmnjfaaGreatDoor.XLine
namespace Go.Proofs.YtialoecplmnjfaaGreatDoor.XEval
open Go.RowKit Go.Proofs Go.Proofs.YtialoecplmnjfaaGreatDoorW.PrintWords Go.Proofs.YtialoecplmnjfaaGreatDoorW.PrintLast Go.Proofs.YtialoecplmnjfaaGreatDoorW.PrintMore Go.Proofs.YtialoecplmnjfaaGreatDoor.PX Go.Proofs.YtialoecplmnjfaaGreatDoor.XCheck
variable {w0 W : World} {B : Nat} {s : List Sv} {fuel : Int}
variable {T : World → Prop} {TEXT : ByteArray → Option Sv} {DO : Int → List Sv → Option (Sv × Int)}
theorem pick_mono {DO' : Int → List Sv → Option (Sv × Int)} (h : ∀ o l y, DO o l = some y → DO' o l = some y) {r : List ByteArray} {fold s : List Sv} {x : Ins} {y : Sv} (hp : pickP TEXT DO r fold s x = some y) : pickP TEXT DO' r fold s x = some y := by
  unfold pickP at hp ⊢
  by_cases c0 : x.f0 = 0
  · rw [if_pos c0] at hp ⊢; exact hp
  rw [if_neg c0] at hp ⊢
  by_cases c1 : x.f0 = 1
  · rw [if_pos c1] at hp ⊢; exact hp
  rw [if_neg c1] at hp ⊢
  by_cases c2 : x.f0 = 2
  · rw [if_pos c2] at hp ⊢; exact hp
  rw [if_neg c2] at hp ⊢
  by_cases c3 : x.f0 = 3
  · rw [if_pos c3] at hp ⊢; exact hp
  rw [if_neg c3] at hp ⊢
  by_cases c4 : x.f0 = 22 ∨ x.f0 = 23
  · rw [if_pos c4] at hp ⊢; exact hp
  rw [if_neg c4] at hp ⊢
  obtain ⟨p, h1, h2⟩ := Option.map_eq_some_iff.1 hp
  exact Option.map_eq_some_iff.2 ⟨p, h _ _ _ h1, h2⟩
theorem runE_mono {DO' : Int → List Sv → Option (Sv × Int)} (h : ∀ o l y, DO o l = some y → DO' o l = some y) {r : List ByteArray} {fold : List Sv} {q : List Sv × Int × Int} : ∀ (p : List Ins) (s : List Sv) (u : Int), runE TEXT DO r fold p s u = some q → runE TEXT DO' r fold p s u = some q
  | [], s, u, hr => hr
  | x :: p, s, u, hr => by
    unfold runE at hr ⊢
    by_cases c1 : (s.length : Int) < XOps.arityF x.f0 ∨ s.any big = true
    · rw [if_pos c1] at hr; cases hr
    rw [if_neg c1] at hr ⊢
    by_cases c2 : costP s x.f0 > u
    · rw [if_pos c2] at hr ⊢; exact hr
    rw [if_neg c2] at hr ⊢
    obtain ⟨y, hy, hr⟩ := Option.bind_eq_some_iff.1 hr
    exact Option.bind_eq_some_iff.2 ⟨y, pick_mono h hy, runE_mono h p _ _ hr⟩
theorem C_nilB (W : World) : Kd.C Kd.bool W none 0 [] := ⟨rfl, by omega, fun h => absurd h (by omega)⟩
theorem C_nilV (W : World) : Kd.C k24 W none 0 [] := ⟨rfl, by omega, fun h => absurd h (by omega)⟩
def machC (Rv F : Value) (fuel : Int) : Obj := .cells #[.slice none 0 0, Rv, F, .int .i64 fuel] 106
theorem Mch.start (W : World) (Rv F : Value) (fuel : Int) : Mch W W.heap.size Rv F (.slice none 0 0) [] fuel (W.alloc (machC Rv F fuel)) :=
  ⟨heap_alloc_new W _, Kd.R_nil _ _ _ _ _, below_alloc (Below.refl _ _) _, Nat.le_refl _⟩
set_option maxHeartbeats 8000000 in
set_option maxRecDepth 100000 in
theorem Run_err (A : Option Addr) (c : Nat) (n : Nat) (Rv : Value) (fuel : Int) {ne er : Int} (her : er ≠ 0)
    (hStack : Calls Tryz.prog 40 #[.slice A n c, .slice none 0 0] w0 fun e w' => ∃ v, e = .returned (.tuple #[v, .int .i64 ne, .int .i64 er]) ∧ Below w0.heap.size w0 w') :
    Calls Tryz.prog 41 #[.slice A n c, Rv, .int .i64 fuel] w0 fun e w' => ∃ v, e = .returned (.tuple #[v, .int .i64 fuel, .int .i64 er]) ∧ Kd.R k24 24 w' w0.heap.size (fun _ => True) v [] ∧ Below w0.heap.size w0 w' := by
  have h1 : (er == 0) = false := by simp [her]
  have h2 : (er != 0) = true := by simp [her]
  clear her
  go_enter Tryz.func41, Tryz.ntmps41
  go_wp2_with (go_at_call 40; refine hStack.mono ?_; rintro e W1 ⟨v, rfl, hb⟩)
  go_ret3
  exact ⟨_, rfl, Kd.R_nil _ _ _ _ _, hb⟩
set_option maxHeartbeats 8000000 in
set_option maxRecDepth 100000 in
theorem Run_ok (E : Env T TEXT DO) {Ar : Option Addr} {rc : Nat} {r : List ByteArray} (hR : Kd.C Kd.string w0 Ar r.length r) (hT : T w0) (A : Option Addr) (c : Nat) (p : List Ins) (hp : Kd.C k50 w0 A p.length p) (hpl : p.length ≤ 10000) (hfu : fuel ≤ 9223372036854775807) {ne : Int}
    (hStack : Calls Tryz.prog 40 #[.slice A p.length c, .slice none 0 0] w0 fun e w' => ∃ v, e = .returned (.tuple #[v, .int .i64 ne, .int .i64 0]) ∧ Below w0.heap.size w0 w')
    {s' : List Sv} {u' er : Int} (hrun : runE TEXT DO r [] p [] fuel = some (s', u', er)) :
    Calls Tryz.prog 41 #[.slice A p.length c, .slice Ar r.length rc, .int .i64 fuel] w0 fun e w' => ∃ v, e = .returned (.tuple #[v, .int .i64 (if er = 0 then u' else 0), .int .i64 er]) ∧ Kd.R k24 24 w' w0.heap.size (fun _ => True) v (if er = 0 then s' else []) ∧ Below w0.heap.size w0 w' := by
  have hu1 := Tryz.underlying106
  have hRun := fun W1 (hb : Below w0.heap.size w0 W1) => run_calls (fold := []) (Af := none) (cf := 0) (rc := rc) E (Mch.start W1 (.slice Ar r.length rc) (.slice none 0 0) fuel) (Kd.C_below hR hb) (C_nilV W1) (E.tb _ _ hT hb) A c p (Kd.C_below hp hb) hpl rfl hfu hrun
  unfold machC at hRun
  by_cases her : er = 0
  · subst her
    clear hp hR hrun
    go_enter Tryz.func41, Tryz.ntmps41
    go_wp2_with (first
      | (go_at_call 40; refine hStack.mono ?_; rintro e W1 ⟨v, rfl, hb⟩)
      | (go_at_call 49; refine (hRun _ hb).mono ?_; rintro e W2 ⟨v2, rfl, hM⟩))
    have cS := hM.getS
    have cU := hM.getU
    go_region_held3 (fun w' => w'.cell? ⟨W1.heap.size, 0, none⟩ = some v2 ∧ w'.cell? ⟨W1.heap.size, 3, none⟩ = some (.int .i64 u'))
      (first
        | exact ⟨cS, cU⟩
        | go_keep)
      ((first
        | fail))
    go_wp2
    go_ret3
    exact ⟨_, rfl, Kd.R_drew (Kd.R_lower (Kd.R_mono hM.own (fun _ _ => trivial)) hb.size), below_drew1 (below_then hb hb.size hM.below)⟩
  · have h1 : (er == 0) = false := by simp [her]
    have h2 : (er != 0) = true := by simp [her]
    rw [if_neg her, if_neg her]
    clear her hp hR hrun
    go_enter Tryz.func41, Tryz.ntmps41
    go_wp2_with (first
      | (go_at_call 40; refine hStack.mono ?_; rintro e W1 ⟨v, rfl, hb⟩)
      | (go_at_call 49; refine (hRun _ hb).mono ?_; rintro e W2 ⟨v2, rfl, hM⟩))
    go_ret3
    exact ⟨_, rfl, Kd.R_nil _ _ _ _ _, below_then hb hb.size hM.below⟩
end Go.Proofs.YtialoecplmnjfaaGreatDoor.XEval
