/- check: the stack, its methods, and how a program goes over it. -/
import Derived.Test.YtnodgcakmolleaaGreatDoorProg
import Derived.Test.YtnodgcakmolleaaGreatDoorXResult
import Derived.Test.YtnodgcakmolleaaGreatDoorXMore
import Derived.Deep.RegionHeld3
import Derived.Deep.DrawnRows
import Derived.RegionTactic
import Derived.Lib.Hide
set_option linter.unusedVariables false
set_option linter.unusedSimpArgs false
namespace Go.Proofs.YtnodgcakmolleaaGreatDoor.XCheck
open Go.RowKit Go.Proofs Go.Proofs.YtnodgcakmolleaaGreatDoorW.PrintWords Go.Proofs.YtnodgcakmolleaaGreatDoorW.PrintLast Go.Proofs.YtnodgcakmolleaaGreatDoorW.PrintMore
attribute [local go_sem] max2_int
theorem info_bool : (Tryz.prog.info? 4).map (fun i => (i.zero, i.size, i.bytes)) = some (some (.bool false), 1, 1) := by kernel_rfl
structure Stk (w0 : World) (B : Nat) (F v : Value) (s : List Bool) (most : Int) (W : World) : Prop where
 blk : W.heap[B]? = some (.cells #[v, F, .int .i64 most] 64 (0, 0))
 own : W.ownsRow w0.heap.size 4 1 v s.length (encs Value.bool s)
 ne : v.ownBlock ≠ some B
 below : Below w0.heap.size w0 W
 base : w0.heap.size ≤ B
def Frame (B : Nat) (v : Value) (W W' : World) : Prop := W.heap.size ≤ W'.heap.size ∧ ∀ g, g < W.heap.size → g ≠ B → some g ≠ v.ownBlock → W'.heap[g]? = W.heap[g]?
theorem Frame.refl (B : Nat) (v : Value) (W : World) : Frame B v W W := ⟨Nat.le_refl _, fun _ _ _ _ => rfl⟩
theorem Stk.shape {w0 W : World} {B : Nat} {F v : Value} {s : List Bool} {most : Int} (h : Stk w0 B F v s most W) : ∃ A c, v = .slice A s.length c := by
 rcases h.own.2 with ⟨rfl, hn⟩ | ⟨g, cap, cur, rfl, _⟩
 ·exact ⟨none, 0, by rw [hn]⟩
 ·exact ⟨_, cap, rfl⟩
theorem Stk.lt {w0 W : World} {B : Nat} {F v : Value} {s : List Bool} {most : Int} (h : Stk w0 B F v s most W) : B < W.heap.size := blk_lt h.blk
theorem own_shape {W : World} {base e size n : Nat} {v : Value} {xs : List Value} (h : W.ownsRow base e size v n xs) : ∃ A c, v = .slice A n c := by
 rcases h.2 with ⟨rfl, hn⟩ | ⟨g, cap, cur, rfl, _⟩
 ·exact ⟨none, 0, by rw [hn]⟩
 ·exact ⟨_, cap, rfl⟩
theorem own_keep {W W' : World} {base e size n : Nat} {v : Value} {xs : List Value} (h : W.ownsRow base e size v n xs) (hk : ∀ g, v.ownBlock = some g → W'.heap[g]? = W.heap[g]?) : W'.ownsRow base e size v n xs := by
 refine ⟨h.1, ?_⟩
 rcases h.2 with h2 | ⟨g, cap, cur, rfl, h1, h2, h3⟩
 ·exact .inl h2
 ·exact .inr ⟨g, cap, cur, rfl, h1, (hk g rfl).trans h2, h3⟩
theorem Stk.own_lt {w0 W : World} {B : Nat} {F v : Value} {s : List Bool} {most : Int} (h : Stk w0 B F v s most W) {g : Nat} (hg : v.ownBlock = some g) : g < W.heap.size := (h.own.lt g hg).2
theorem Stk.then_ {w0 W W' : World} {B : Nat} {F v : Value} {s : List Bool} {most : Int} (h : Stk w0 B F v s most W) (hb : Below W.heap.size W W') : Stk w0 B F v s most W' :=
 ⟨(hb.block B h.lt).trans h.blk, own_keep h.own fun g hg => hb.block g (h.own_lt hg), h.ne, below_then h.below h.below.size hb, h.base⟩
theorem Stk.put {w0 W : World} {B : Nat} {F v : Value} {s : List Bool} {most : Int} (h : Stk w0 B F v s most W) (i : Nat) (u : Value) : Below w0.heap.size w0 (W.setCell ⟨B, i, none⟩ u) := below_set h.below h.base
def pushP (x : List Bool × Int) (t : Bool) : (List Bool × Int) × Int := if x.1.length = 30 then (x, 13) else ((x.1 ++ [t], mx x.2 ((x.1.length : Int) + 1)), 0)
theorem drew_heap (w : World) : w.drew.heap = w.heap := rfl
theorem Stk.pushed {w0 W w1 : World} {B : Nat} {F v v1 : Value} {s : List Bool} {most m : Int} {t : Bool} (h : Stk w0 B F v s most W) (hl : ¬ s.length = 30) (hm : m = mx most ((s.length : Int) + 1))
  (ho : w1.ownsRow w0.heap.size 4 1 v1 (s ++ [t]).length (encs Value.bool (s ++ [t]))) (hb : Below w0.heap.size w0 w1) (hg : W.grownBy w1 v.ownBlock) (hat : v1.ownBlock = v.ownBlock ∨ ∃ b, v1.ownBlock = some b ∧ W.heap.size ≤ b) :
  Stk w0 B F v1 (pushP (s, most) t).1.1 (pushP (s, most) t).1.2 ((w1.setCell ⟨B, 0, none⟩ v1).setCell ⟨B, 2, none⟩ (.int .i64 m)).drew ∧ Frame B v W ((w1.setCell ⟨B, 0, none⟩ v1).setCell ⟨B, 2, none⟩ (.int .i64 m)).drew := by
 have e : pushP (s, most) t = ((s ++ [t], m), 0) := by unfold pushP; rw [if_neg hl, hm]
 have hB1 := blk_grown h.blk hg (Ne.symm h.ne)
 have hne : v1.ownBlock ≠ some B := by
  rcases hat with hat | ⟨b, hat, hb⟩
  ·rw [hat]; exact h.ne
  ·rw [hat]
   intro e
   injection e with e
   have := h.lt
   omega
 rw [e]
 refine ⟨⟨?_, own_keep ho fun g hg => ?_, hne, below_drew1 (below_set (below_set hb h.base) h.base), h.base⟩, ?_, fun g hg1 hg2 hg3 => ?_⟩
 ·rw [drew_heap]
  have := blk_set (blk_set hB1 0 v1) 2 (.int .i64 m)
  exact this
 ·have hgB : g ≠ B := fun e => hne (by rw [hg, e])
  rw [drew_heap]
  exact (Below.heap_setCell _ ⟨B, 2, none⟩ _ g hgB).trans (Below.heap_setCell _ ⟨B, 0, none⟩ _ g hgB)
 ·rw [drew_heap]
  have := hg.size
  simpa using this
 ·rw [drew_heap]
  exact ((Below.heap_setCell _ ⟨B, 2, none⟩ _ g hg2).trans (Below.heap_setCell _ ⟨B, 0, none⟩ _ g hg2)).trans (hg.block g hg1 hg3)
set_option maxHeartbeats 4000000 in
set_option maxRecDepth 100000 in
theorem push_calls {w0 W : World} {B : Nat} {F v : Value} {s : List Bool} {most : Int} (h : Stk w0 B F v s most W) (hl : s.length ≤ 30) (t : Bool) :
  Calls Tryz.prog 68 #[.pointer (some ⟨B, 0, none⟩), .bool t] W fun e W' => ∃ v', e = .returned (.int .i64 (pushP (s, most) t).2) ∧ Stk w0 B F v' (pushP (s, most) t).1.1 (pushP (s, most) t).1.2 W' ∧ Frame B v W W' := by
 have hu1 := Tryz.underlying64
 have hu2 := Tryz.underlying47
 obtain ⟨A, c, hv⟩ := h.shape
 obtain ⟨n, hn⟩ : ∃ n, s.length = n := ⟨_, rfl⟩
 rw [hn] at hv hl
 have Hn := Lib.hid hn
 have hblk := h.blk
 have hown := h.own
 subst hv
 have H := Lib.hid h
 clear h hn
 have c0 := (blk_cell hblk 0).trans rfl
 have c1 := (blk_cell hblk 1).trans rfl
 have c2 := (blk_cell hblk 2).trans rfl
 have f0 := blk_frozen hblk 0
 have f2 := blk_frozen hblk 2
 by_cases hf : n = 30
 ·subst hf
  go_enter Tryz.func68, Tryz.ntmps68
  go_wp2
  go_ret
  have e : pushP (s, most) t = ((s, most), 13) := by unfold pushP; rw [if_pos Hn.out]
  rw [e]
  exact ⟨_, rfl, H.out, Frame.refl _ _ _⟩
 ·have hf2 : ((n : Int) == 30) = false := by simp; omega
  have hneB : some B ≠ (Value.slice A n c).ownBlock := Ne.symm H.out.ne
  go_enter Tryz.func68, Tryz.ntmps68
  go_wp2_with (first | ((with_reducible refine gate_builtin (b := .append) (xs := #[.tmp 15, .tmp 17]) rfl ?_); at_builtin; refine print_append_of (w0 := w0) Value.bool w0.heap.size rfl (.tmp 15) (.tmp 17) 47 4 (.bool false) 1 rfl hu2 info_bool rfl (by decide) _ s t rfl rfl rfl hown H.out.below H.out.below.size (by rw [Hn.out]; omega) ?_; intro v1 w1 ho1 hb1 hg1 hat1; obtain ⟨A1, k1, hv1⟩ := own_shape ho1; rw [show (s ++ [t]).length = n + 1 by rw [List.length_append, Hn.out]; rfl] at hv1; subst hv1; have hB1 := blk_grown hblk hg1 hneB; have Ho1 := Lib.hid ho1; have Hg1 := Lib.hid hg1; have Hb1 := Lib.hid hb1; have Hat := Lib.hid hat1; clear ho1 hg1 hb1 hat1; have q0 := (blk_cell hB1 0).trans rfl; have q2 := (blk_cell hB1 2).trans rfl; have g0 := blk_frozen hB1 0; have g2 := blk_frozen hB1 2))
  go_region
  go_wp2
  all_goals
   go_ret
   have hp := fun m hm => H.out.pushed (m := m) (t := t) (by rw [Hn.out]; exact hf) hm Ho1.out Hb1.out Hg1.out Hat.out
   exact ⟨by rw [show pushP (s, most) t = ((s ++ [t], mx most ((s.length : Int) + 1)), 0) by unfold pushP; rw [if_neg (by rw [Hn.out]; exact hf)]]; rfl, ⟨_, (hp _ (by rw [Hn.out]; unfold mx; split <;> omega)).1⟩, (hp _ (by rw [Hn.out]; unfold mx; split <;> omega)).2⟩
theorem frame_cell {B g i : Nat} {v x : Value} {W W' : World} (hF : Frame B v W W') (hg : g < W.heap.size) (h1 : g ≠ B) (h2 : some g ≠ v.ownBlock) (h : W.cell? ⟨g, i, none⟩ = some x) : W'.cell? ⟨g, i, none⟩ = some x := by
 rw [← h]
 unfold World.cell?
 rw [show (Addr.mk g i none).block = g from rfl, hF.2 g hg h1 h2]
theorem Frame.of_below {B : Nat} {v : Value} {W W1 W' : World} (hb : Below W.heap.size W W1) (hF : Frame B v W1 W') : Frame B v W W' :=
 ⟨Nat.le_trans hb.size hF.1, fun g hg h1 h2 => (hF.2 g (Nat.lt_of_lt_of_le hg hb.size) h1 h2).trans (hb.block g hg)⟩
theorem Frame.drewed {B : Nat} {v : Value} {W W' : World} (hF : Frame B v W.drew W') : Frame B v W W' := hF
theorem below_drew0 (W : World) : Below W.heap.size W W.drew := below_drew1 (Below.refl _ _)
def insV (o n : Int) (x : ByteArray) : Value := .agg #[.int .i64 o, .int .i64 n, .string x]
def insC (o n : Int) (x : ByteArray) : Obj := .cells #[.int .i64 o, .int .i64 n, .string x] 44
def plainP (x : List Bool × Int) (o : Int) : (List Bool × Int) × Int := pushP x (decide (o = 1) || decide (o = 2))
def givenP (fold : List Bool) (x : List Bool × Int) (o : Int) : (List Bool × Int) × Int := if fold.length = 0 then (x, 1) else pushP x (fold.getD (o - 22).toNat false)
set_option maxHeartbeats 4000000 in
set_option maxRecDepth 100000 in
theorem plain_calls {w0 W : World} {B : Nat} {F v : Value} {s : List Bool} {most : Int} (h : Stk w0 B F v s most W) (hl : s.length ≤ 30) (o n : Int) (x : ByteArray) :
  Calls Tryz.prog 56 #[.pointer (some ⟨B, 0, none⟩), insV o n x] W fun e W' => ∃ v', e = .returned (.int .i64 (plainP (s, most) o).2) ∧ Stk w0 B F v' (plainP (s, most) o).1.1 (plainP (s, most) o).1.2 W' ∧ Frame B v W W' := by
 unfold insV plainP
 have h1 := h.then_ (below_alloc (Below.refl W.heap.size W) (insC o n x))
 have hfr : ∀ W', Frame B v (W.alloc (insC o n x)) W' → Frame B v W W' := fun W' => Frame.of_below (below_alloc (Below.refl _ _) _)
 unfold insC at h1 hfr
 clear h
 by_cases c1 : o = 1
 ·subst c1
  have hp := push_calls h1 hl (decide ((1 : Int) = 1) || decide ((1 : Int) = 2))
  go_enter Tryz.func56, Tryz.ntmps56
  go_wp2_with (go_at_call 68; refine hp.mono ?_; rintro e W2 ⟨v2, rfl, hS2, hF2⟩)
  go_ret
  exact ⟨_, rfl, hS2, hfr _ hF2⟩
 ·have b1 : (o == 1) = false := by simp [c1]
  by_cases c2 : o = 2
  ·subst c2
   have hp := push_calls h1 hl (decide ((2 : Int) = 1) || decide ((2 : Int) = 2))
   go_enter Tryz.func56, Tryz.ntmps56
   go_wp2_with (go_at_call 68; refine hp.mono ?_; rintro e W2 ⟨v2, rfl, hS2, hF2⟩)
   go_ret
   exact ⟨_, rfl, hS2, hfr _ hF2⟩
  ·have b2 : (o == 2) = false := by simp [c2]
   have e : (decide (o = 1) || decide (o = 2)) = false := by simp [c1, c2]
   rw [e]
   clear c1 c2 e
   have hp := push_calls h1 hl false
   go_enter Tryz.func56, Tryz.ntmps56
   go_wp2_with (go_at_call 68; refine hp.mono ?_; rintro e W2 ⟨v2, rfl, hS2, hF2⟩)
   go_ret
   exact ⟨_, rfl, hS2, hfr _ hF2⟩
theorem Stk.getF {w0 W : World} {B : Nat} {F v : Value} {s : List Bool} {most : Int} (h : Stk w0 B F v s most W) : W.cell? ⟨B, 1, none⟩ = some F := (blk_cell h.blk 1).trans rfl
theorem Stk.getS {w0 W : World} {B : Nat} {F v : Value} {s : List Bool} {most : Int} (h : Stk w0 B F v s most W) : W.cell? ⟨B, 0, none⟩ = some v := (blk_cell h.blk 0).trans rfl
theorem new_cell (W : World) (o n : Int) (x : ByteArray) : (W.alloc (insC o n x)).cell? ⟨W.heap.size, 0, none⟩ = some (.int .i64 o) := (blk_cell (heap_alloc_new W _) 0).trans rfl
set_option maxHeartbeats 4000000 in
set_option maxRecDepth 100000 in
theorem given_calls {w0 W : World} {B : Nat} {v : Value} {s : List Bool} {most : Int} {Af : Option Addr} {cf : Nat} {fold : List Bool} (h : Stk w0 B (.slice Af fold.length cf) v s most W) (hl : s.length ≤ 30) (hr : Kd.bool.C w0 Af fold.length fold) (hf : fold.length = 0 ∨ fold.length = 2) (o n : Int) (x : ByteArray) (ho : o = 22 ∨ o = 23) :
  Calls Tryz.prog 54 #[.pointer (some ⟨B, 0, none⟩), insV o n x] W fun e W' => ∃ v', e = .returned (.int .i64 (givenP fold (s, most) o).2) ∧ Stk w0 B (.slice Af fold.length cf) v' (givenP fold (s, most) o).1.1 (givenP fold (s, most) o).1.2 W' ∧ Frame B v W W' := by
 unfold insV givenP
 have hW := h.lt
 have hown := fun g (hg : v.ownBlock = some g) => h.own_lt hg
 have h1 := h.then_ (below_alloc (Below.refl W.heap.size W) (insC o n x))
 have hfr : ∀ W', Frame B v (W.alloc (insC o n x)) W' → Frame B v W W' := fun W' => Frame.of_below (below_alloc (Below.refl _ _) _)
 have hnew := new_cell W o n x
 have hnb : W.heap.size ≠ B := by omega
 have hno : some W.heap.size ≠ v.ownBlock := fun e => absurd (hown _ e.symm) (Nat.lt_irrefl _)
 unfold insC at h1 hfr hnew
 have cF := h1.getF
 rcases hf with hf | hf
 ·rw [hf] at cF
  rw [if_pos hf]
  have H1 := Lib.hid h1
  clear h h1 hr
  go_enter Tryz.func54, Tryz.ntmps54
  go_wp2
  go_ret
  exact ⟨_, rfl, H1.out, hfr _ (Frame.refl _ _ _)⟩
 ·have key : ∀ (i : Nat) (o : Int), i < 2 → o = (i : Int) + 22 → Calls Tryz.prog 54 #[.pointer (some ⟨B, 0, none⟩), .agg #[.int .i64 o, .int .i64 n, .string x]] W fun e W' => ∃ v', e = .returned (.int .i64 (pushP (s, most) (fold.getD (o - 22).toNat false)).2) ∧ Stk w0 B (.slice Af fold.length cf) v' (pushP (s, most) (fold.getD (o - 22).toNat false)).1.1 (pushP (s, most) (fold.getD (o - 22).toNat false)).1.2 W' ∧ Frame B v W W' := by
   intro i o hi ho
   have h1 := h.then_ (below_alloc (Below.refl W.heap.size W) (insC o n x))
   have hfr : ∀ W', Frame B v (W.alloc (insC o n x)) W' → Frame B v W W' := fun W' => Frame.of_below (below_alloc (Below.refl _ _) _)
   have hnew := new_cell W o n x
   unfold insC at h1 hfr hnew
   have cF := h1.getF
   have hrW := Kd.C_below hr h1.below
   have hk : fold.getD (o - 22).toNat false = fold.getD i false := by
    congr 1
    omega
   rw [hk]
   obtain ⟨ad, hA, he⟩ := Kd.at_bool hrW (i : Int) (by omega) (by omega)
   subst hA
   rw [Int.toNat_natCast] at he
   obtain ⟨u, hu⟩ : ∃ u, u = fold.getD i false := ⟨_, rfl⟩
   rw [show rdOf false fold (i : Int) = u from hu.symm] at he
   rw [← hu]
   have Hu := Lib.hid hu
   clear hu hk
   rw [hf] at cF h1 hr ⊢
   have hp := fun W2 (hS : Stk w0 B (.slice (some ad) 2 cf) v s most W2) => push_calls hS hl u
   have Hr := Lib.hid hr
   have Hf := Lib.hid hf
   have H1 := Lib.hid h1
   have h := True.intro
   clear h h1 hr hrW hf
   have hi' : i = 0 ∨ i = 1 := by omega
   clear hi
   rcases hi' with rfl | rfl
   ·obtain rfl : o = 22 := by omega
    clear ho
    have hz : W.heap.size < (W.alloc (.cells #[.int .i64 22, .int .i64 n, .string x] 44)).heap.size := by simp
    have k1 : wrap64 (22 - 22) = 0 := by unfold wrap64; omega
    have k2 : wrap64 0 = 0 := by unfold wrap64; omega
    have k3 : IntKind.i64.wrap (22 - 22) = 0 := by decide
    have k4 : IntKind.i64.wrap 0 = 0 := by decide
    have k5 : (0 : Int) < ((2 : Nat) : Int) := by decide
    have k6 : (0 : Int) < 2 := by decide
    have k7 : (0 : Int) ≤ 0 := by decide
    have he : (W.alloc (.cells #[.int .i64 22, .int .i64 n, .string x] 44)).cell? ad = some (.bool u) := he
    go_enter Tryz.func54, Tryz.ntmps54
    go_wp2
    go_region_held3 (fun w' => w'.cell? ⟨B, 1, none⟩ = some (.slice (some ad) 2 cf) ∧ w'.cell? ⟨W.heap.size, 0, none⟩ = some (.int .i64 22) ∧ w'.cell? ad = some (.bool u))
     (first
      | exact ⟨cF, hnew, he⟩
      | exact ⟨hS2.getF, frame_cell hF2 hz hnb hno hnew, he2⟩
      | go_keep)
     ((first
      | (go_at_call 68; refine (hp _ (H1.out.then_ (below_drew0 _))).mono ?_; rintro e W2 ⟨v2, rfl, hS2, hF2⟩; obtain ⟨ad2, e2, he2⟩ := Kd.at_bool (Kd.C_below Hr.out hS2.below) ((0 : Nat) : Int) (by decide) (by decide); injection e2 with e2; subst e2; rw [Int.toNat_natCast, show rdOf false fold ((0 : Nat) : Int) = u from Hu.out.symm] at he2; replace he2 : W2.cell? ad = some (.bool u) := he2)))
    go_wp2
    go_ret
    exact ⟨_, rfl, hS2, hfr _ hF2⟩
   ·obtain rfl : o = 23 := by omega
    clear ho
    have hz : W.heap.size < (W.alloc (.cells #[.int .i64 23, .int .i64 n, .string x] 44)).heap.size := by simp
    have k1 : wrap64 (23 - 22) = 1 := by unfold wrap64; omega
    have k2 : wrap64 1 = 1 := by unfold wrap64; omega
    have k3 : IntKind.i64.wrap (23 - 22) = 1 := by decide
    have k4 : IntKind.i64.wrap 1 = 1 := by decide
    have k5 : (1 : Int) < ((2 : Nat) : Int) := by decide
    have k6 : (1 : Int) < 2 := by decide
    have k7 : (0 : Int) ≤ 1 := by decide
    have he : (W.alloc (.cells #[.int .i64 23, .int .i64 n, .string x] 44)).cell? ⟨ad.block, ad.off + 1, none⟩ = some (.bool u) := he
    go_enter Tryz.func54, Tryz.ntmps54
    go_wp2
    go_region_held3 (fun w' => w'.cell? ⟨B, 1, none⟩ = some (.slice (some ad) 2 cf) ∧ w'.cell? ⟨W.heap.size, 0, none⟩ = some (.int .i64 23) ∧ w'.cell? ⟨ad.block, ad.off + 1, none⟩ = some (.bool u))
     (first
      | exact ⟨cF, hnew, he⟩
      | exact ⟨hS2.getF, frame_cell hF2 hz hnb hno hnew, he2⟩
      | go_keep)
     ((first
      | (go_at_call 68; refine (hp _ (H1.out.then_ (below_drew0 _))).mono ?_; rintro e W2 ⟨v2, rfl, hS2, hF2⟩; obtain ⟨ad2, e2, he2⟩ := Kd.at_bool (Kd.C_below Hr.out hS2.below) ((1 : Nat) : Int) (by decide) (by decide); injection e2 with e2; subst e2; rw [Int.toNat_natCast, show rdOf false fold ((1 : Nat) : Int) = u from Hu.out.symm] at he2; replace he2 : W2.cell? ⟨ad.block, ad.off + 1, none⟩ = some (.bool u) := he2)))
    go_wp2
    go_ret
    exact ⟨_, rfl, hS2, hfr _ hF2⟩
  rcases ho with rfl | rfl
  ·rw [if_neg (by omega)]
   exact key 0 22 (by decide) (by decide)
  ·rw [if_neg (by omega)]
   exact key 1 23 (by decide) (by decide)
theorem cell_keep0 {W w2 : World} {a : Addr} {v : Value} (hb : Below W.heap.size W w2) (h : W.cell? a = some v) : w2.cell? a = some v := by
 have hlt : a.block < W.heap.size := by
  unfold World.cell? at h
  split at h
  ·rename_i hx
   exact (Array.getElem?_eq_some_iff.1 hx).1
  ·cases h
 exact (hb.cell hlt).trans h
def doneP (x : List Bool × Int) (o : Int) : (List Bool × Int) × Int :=
 if (x.1.length : Int) < XOps.arityF o then (x, 13) else
 if (XOps.resultF o (x.1.drop (x.1.length - (XOps.arityF o).toNat))).2 ≠ 0 then (x, (XOps.resultF o (x.1.drop (x.1.length - (XOps.arityF o).toNat))).2) else
 pushP (x.1.take (x.1.length - (XOps.arityF o).toNat), x.2) (XOps.resultF o (x.1.drop (x.1.length - (XOps.arityF o).toNat))).1
theorem own_drop {W : World} {base g n c : Nat} {s : List Bool} (h : W.ownsRow base 4 1 (.slice (some ⟨g, 0, none⟩) n c) s.length (encs Value.bool s)) (at_ : Nat) (ha : at_ ≤ s.length) (hm : s.length ≤ 9223372036854775807) : Kd.bool.C W (some ⟨g, at_, none⟩) (s.drop at_).length (s.drop at_) := by
 refine Kd.C_of_reads (enc := Value.bool) (d := false) ⟨rfl, by rw [List.length_drop]; omega, fun hn => ⟨_, rfl, fun j hj => ?_⟩⟩
 have hc := h.cells (g := g) rfl (at_ + j) (.bool ((s.drop at_).getD j false)) ?_
 ·rw [Addr.add_mid] at hc ⊢
  rw [Nat.zero_add] at hc
  exact hc
 ·have : at_ + j < s.length := by rw [List.length_drop] at hj; omega
  unfold encs
  rw [List.getElem?_map, List.getElem?_eq_getElem this, List.getD_eq_getElem?_getD, List.getElem?_drop, List.getElem?_eq_getElem this]
  rfl
theorem own_take {W : World} {base g n c : Nat} {s : List Bool} (h : W.ownsRow base 4 1 (.slice (some ⟨g, 0, none⟩) n c) s.length (encs Value.bool s)) (at_ : Nat) (ha : at_ ≤ s.length) : W.ownsRow base 4 1 (.slice (some ⟨g, 0, none⟩) at_ c) (s.take at_).length (encs Value.bool (s.take at_)) := by
 have hl : (s.take at_).length = at_ := by rw [List.length_take]; omega
 refine ⟨by rw [encs_length]; omega, .inr ?_⟩
 rcases h.2 with ⟨h1, _⟩ | ⟨g', cap, cur, h1, h2, h3, h4, h5, h6, h7⟩
 ·cases h1
 ·injection h1 with e1 e2 e3
  injection e1 with e1
  injection e1 with e1
  subst e1 e3
  refine ⟨g, c, cur, by rw [hl], h2, h3, by omega, h5, h6, ?_⟩
  rw [hl, Nat.mul_one]
  rw [Nat.mul_one] at h7
  have : encs Value.bool (s.take at_) = (encs Value.bool s).take at_ := by unfold encs; rw [List.map_take]
  rw [this, ← h7, List.take_take]
  congr 1
  omega
theorem Frame.trans {B : Nat} {v : Value} {W W1 W2 : World} (h : Frame B v W W1) (k : Frame B v W1 W2) : Frame B v W W2 :=
 ⟨Nat.le_trans h.1 k.1, fun g hg h1 h2 => (k.2 g (Nat.lt_of_lt_of_le hg h.1) h1 h2).trans (h.2 g hg h1 h2)⟩
theorem Frame.below {B : Nat} {v : Value} {W W1 : World} (hb : Below W.heap.size W W1) : Frame B v W W1 := ⟨hb.size, fun g hg _ _ => hb.block g hg⟩
theorem Frame.set {B i : Nat} {v u : Value} {W : World} : Frame B v W (W.setCell ⟨B, i, none⟩ u) := ⟨by simp, fun g hg h1 _ => Below.heap_setCell _ ⟨B, i, none⟩ _ g h1⟩
theorem Stk.cut {w0 W : World} {B g m c : Nat} {F : Value} {s : List Bool} {most : Int} (h : Stk w0 B F (.slice (some ⟨g, 0, none⟩) m c) s most W) (q : Nat) (hq : q ≤ s.length) : Stk w0 B F (.slice (some ⟨g, 0, none⟩) q c) (s.take q) most (W.setCell ⟨B, 0, none⟩ (.slice (some ⟨g, 0, none⟩) q c)) := by
 refine ⟨?_, own_keep (own_take h.own q hq) fun g' hg' => ?_, h.ne, below_set h.below h.base, h.base⟩
 ·have := blk_set h.blk 0 (.slice (some ⟨g, 0, none⟩) q c)
  exact this
 ·refine Below.heap_setCell _ ⟨B, 0, none⟩ _ g' ?_
  intro e
  have e : g' = B := e
  subst e
  exact h.ne hg'
set_option maxHeartbeats 4000000 in
set_option maxRecDepth 100000 in
theorem done_calls {w0 W : World} {B : Nat} {F v : Value} {s : List Bool} {most : Int} (h : Stk w0 B F v s most W) (hl : s.length ≤ 30) (o n : Int) (x : ByteArray) (ha : 0 < XOps.arityF o) (ha3 : XOps.arityF o ≤ 3) :
  Calls Tryz.prog 55 #[.pointer (some ⟨B, 0, none⟩), insV o n x] W fun e W' => ∃ v', e = .returned (.int .i64 (doneP (s, most) o).2) ∧ Stk w0 B F v' (doneP (s, most) o).1.1 (doneP (s, most) o).1.2 W' ∧ Frame B v W W' := by
 unfold insV
 have hu1 := Tryz.underlying64
 have hu2 := Tryz.underlying47
 have hW := h.lt
 have hown := fun g (hg : v.ownBlock = some g) => h.own_lt hg
 have h1 := h.then_ (below_alloc (Below.refl W.heap.size W) (insC o n x))
 have hfr : ∀ W', Frame B v (W.alloc (insC o n x)) W' → Frame B v W W' := fun W' => Frame.of_below (below_alloc (Below.refl _ _) _)
 have hnew := new_cell W o n x
 have hnb : W.heap.size ≠ B := by omega
 obtain ⟨A, c, hv⟩ := h.shape
 clear h
 obtain ⟨m, hm⟩ : ∃ m, s.length = m := ⟨_, rfl⟩
 rw [hm] at hv hl
 obtain ⟨a, har⟩ : ∃ a : Nat, XOps.arityF o = (a : Int) := ⟨(XOps.arityF o).toNat, by omega⟩
 have hari := XOps.arity_calls o
 rw [har] at hari ha ha3
 unfold insC at h1 hfr hnew
 subst hv
 have Hm := Lib.hid hm
 have Har := Lib.hid har
 clear hm har
 have cS := h1.getS
 have H1 := Lib.hid h1
 clear h1
 by_cases hlt : m < a
 ·have hw : wrap64 ((m : Int) - (a : Int)) = (m : Int) - (a : Int) := by unfold wrap64; omega
  have hneg : (m : Int) - (a : Int) < 0 := by omega
  have e : doneP (s, most) o = ((s, most), 13) := by
   unfold doneP
   rw [if_pos (by rw [Hm.out, Har.out]; omega)]
  rw [e]
  have Hlt := Lib.hid hlt
  clear hlt e
  go_enter Tryz.func55, Tryz.ntmps55
  go_wp2
  go_region_held3 (fun w' => w'.cell? ⟨B, 0, none⟩ = some (.slice A m c) ∧ w'.cell? ⟨W.heap.size, 0, none⟩ = some (.int .i64 o))
   (first
    | exact ⟨cS, hnew⟩
    | (go_split_ands; exact ⟨cell_keep0 hb2 (by assumption), cell_keep0 hb2 (by assumption)⟩)
    | go_keep)
   ((first
    | (go_at_call 40; refine (hari _).mono ?_; rintro e W2 ⟨rfl, hb2⟩)))
  go_wp2
  go_ret
  exact ⟨_, rfl, (H1.out.then_ (below_drew0 _)).then_ hb2, hfr _ ⟨hb2.size, fun g hg _ _ => hb2.block g hg⟩⟩
 ·obtain ⟨q, hq⟩ : ∃ q : Nat, q + a = m := ⟨m - a, by omega⟩
  have hqm : s.length - a = q := by rw [Hm.out]; omega
  obtain ⟨g, hA⟩ : ∃ g, A = some ⟨g, 0, none⟩ := by
   rcases H1.out.own.2 with ⟨h1, h2⟩ | ⟨g, cap, cur, h1, _⟩
   ·have := Hm.out; omega
   ·injection h1 with h1; exact ⟨g, h1⟩
  subst hA
  have hw : wrap64 ((m : Int) - (a : Int)) = (q : Int) := by unfold wrap64; omega
  have hw2 : IntKind.i64.wrap ((m : Int) - (a : Int)) = (q : Int) := by rw [IntKind.wrap_i64]; omega
  have hng : ¬ (q : Int) < 0 := by omega
  have hd0 : decide ((q : Int) < 0) = false := decide_eq_false hng
  have i0 : (0 : Int) ≤ (q : Int) := by omega
  have i1 : (q : Int) ≤ (m : Int) := by omega
  have i2 : q ≤ m := by omega
  have hC := fun W2 (h2 : Stk w0 B F (.slice (some ⟨g, 0, none⟩) m c) s most W2) => XOps.result_calls o (some ⟨g, q, none⟩) (c - q) (s.drop q) W2 (own_drop h2.own q (by rw [Hm.out]; omega) (by rw [Hm.out]; omega))
  have hdl : (s.drop q).length = a := by rw [List.length_drop, Hm.out]; omega
  rw [hdl] at hC
  have hma : m - q = a := by omega
  have hcm : m ≤ c := by
   rcases H1.out.own.2 with ⟨h1, h2⟩ | ⟨g', cap, cur, h1, _, _, h4, _⟩
   ·cases h1
   ·injection h1 with e1 e2 e3
    have := Hm.out
    omega
  have hcq : ¬ c = q := by omega
  have Hq := Lib.hid hq
  have Hqm := Lib.hid hqm
  clear hq hqm hdl hlt
  go_enter Tryz.func55, Tryz.ntmps55
  go_wp2
  go_region_held3 (fun w' => w'.cell? ⟨B, 0, none⟩ = some (.slice (some ⟨g, 0, none⟩) m c) ∧ w'.cell? ⟨W.heap.size, 0, none⟩ = some (.int .i64 o))
   (first
    | exact ⟨cS, hnew⟩
    | (go_split_ands; exact ⟨cell_keep0 hb2 (by assumption), cell_keep0 hb2 (by assumption)⟩)
    | go_keep)
   ((first
    | (go_at_call 40; refine (hari _).mono ?_; rintro e W2 ⟨rfl, hb2⟩)))
  have H2 : Stk w0 B F (.slice (some ⟨g, 0, none⟩) m c) s most W2 := (H1.out.then_ (below_drew0 _)).then_ hb2
  have cS2 := H2.getS
  have hnew2 := cell_keep0 hb2 hnew
  have HH2 := Lib.hid H2
  have Hb2 := Lib.hid hb2
  clear H2 cS hnew hb2
  rcases hres : XOps.resultF o (s.drop q) with ⟨rb, re⟩
  have hC3 := fun W3 h3 => hC W3 h3
  rw [hres] at hC3
  clear hC
  have Hres := Lib.hid hres
  clear hres
  have hbn : W.heap.size ≠ B := hnb
  by_cases hre : re = 0
  ·subst hre
   go_wp2
   go_region_held3 (fun w' => w'.cell? ⟨B, 0, none⟩ = some (.slice (some ⟨g, 0, none⟩) m c) ∧ w'.cell? ⟨W.heap.size, 0, none⟩ = some (.int .i64 o))
    (first
     | exact ⟨cS2, hnew2⟩
     | (go_split_ands; exact ⟨cell_keep0 hb3 (by assumption), cell_keep0 hb3 (by assumption)⟩)
     | go_keep)
    ((first
     | (go_at_call 69; refine (hC3 _ (HH2.out.then_ (below_drew0 _))).mono ?_; rintro e W3 ⟨rfl, hb3⟩)))
   have H3 : Stk w0 B F (.slice (some ⟨g, 0, none⟩) m c) s most W3 := (HH2.out.then_ (below_drew0 _)).then_ hb3
   have c3 := H3.getS
   have f3 := blk_frozen H3.blk 0
   have H4 := H3.cut q (by rw [Hm.out]; exact i2)
   have hp := push_calls H4 (by rw [List.length_take]; omega) rb
   have HF : Frame B (.slice (some ⟨g, 0, none⟩) m c) W (W3.setCell ⟨B, 0, none⟩ (.slice (some ⟨g, 0, none⟩) q c)) := hfr _ ((Frame.below Hb2.out).trans ((Frame.below hb3).trans Frame.set))
   have H3h := Lib.hid H3
   have H4h := Lib.hid H4
   have HFh := Lib.hid HF
   clear H3 H4 HF hb3
   go_wp2_with (go_at_call 68; refine hp.mono ?_; rintro e W5 ⟨v5, rfl, hS5, hF5⟩)
   go_ret
   have e : doneP (s, most) o = pushP (s.take q, most) rb := by
    unfold doneP
    rw [if_neg (by rw [Hm.out, Har.out]; omega)]
    simp only [Har.out, Int.toNat_natCast, Hqm.out, Hres.out]
    rw [if_neg (by simp)]
   rw [e]
   exact ⟨_, rfl, hS5, HFh.out.trans hF5⟩
  ·have hre1 : (re == 0) = false := by simp [hre]
   have hre2 : (re != 0) = true := by simp [hre]
   have Hre := Lib.hid hre
   clear hre
   go_wp2
   go_region_held3 (fun w' => w'.cell? ⟨B, 0, none⟩ = some (.slice (some ⟨g, 0, none⟩) m c) ∧ w'.cell? ⟨W.heap.size, 0, none⟩ = some (.int .i64 o))
    (first
     | exact ⟨cS2, hnew2⟩
     | (go_split_ands; exact ⟨cell_keep0 hb3 (by assumption), cell_keep0 hb3 (by assumption)⟩)
     | go_keep)
    ((first
     | (go_at_call 69; refine (hC3 _ (HH2.out.then_ (below_drew0 _))).mono ?_; rintro e W3 ⟨rfl, hb3⟩)))
   have H3 : Stk w0 B F (.slice (some ⟨g, 0, none⟩) m c) s most W3 := (HH2.out.then_ (below_drew0 _)).then_ hb3
   have HF : Frame B (.slice (some ⟨g, 0, none⟩) m c) W W3 := hfr _ ((Frame.below Hb2.out).trans (Frame.drewed (Frame.below hb3)))
   have H3h := Lib.hid H3
   have HFh := Lib.hid HF
   clear H3 HF hb3
   go_wp2
   go_ret
   have e : doneP (s, most) o = ((s, most), re) := by
    unfold doneP
    rw [if_neg (by rw [Hm.out, Har.out]; omega)]
    simp only [Har.out, Int.toNat_natCast, Hqm.out, Hres.out]
    rw [if_pos Hre.out]
   rw [e]
   exact ⟨_, rfl, H3h.out, HFh.out⟩
set_option maxHeartbeats 4000000 in
set_option maxRecDepth 100000 in
theorem does_given (B : Nat) (o n : Int) (x : ByteArray) (ho : 22 ≤ o) (W : World) : Calls Tryz.prog 39 #[.pointer (some ⟨B, 0, none⟩), insV o n x] W fun e W' => e = .returned (.func (.func 54) #[.pointer (some ⟨B, 0, none⟩)] #[]) ∧ Below W.heap.size W W' := by
 unfold insV
 have h1 : decide (o ≥ 22) = true := decide_eq_true ho
 go_enter Tryz.func39, Tryz.ntmps39
 go_wp2
 go_ret
 exact ⟨rfl, below_alloc (Below.refl _ _) _⟩
set_option maxHeartbeats 4000000 in
set_option maxRecDepth 100000 in
theorem does_done (B : Nat) (o n : Int) (x : ByteArray) (ho : o < 22) (ha : 0 < XOps.arityF o) (W : World) : Calls Tryz.prog 39 #[.pointer (some ⟨B, 0, none⟩), insV o n x] W fun e W' => e = .returned (.func (.func 55) #[.pointer (some ⟨B, 0, none⟩)] #[]) ∧ Below W.heap.size W W' := by
 unfold insV
 have hari := XOps.arity_calls o
 obtain ⟨a, har⟩ : ∃ a, XOps.arityF o = a := ⟨_, rfl⟩
 rw [har] at hari ha
 have h2 : ¬ o ≥ 22 := by omega
 have h1 : decide (o ≥ 22) = false := decide_eq_false h2
 have h3 : decide (a > 0) = true := decide_eq_true ha
 go_enter Tryz.func39, Tryz.ntmps39
 go_wp2_with (go_at_call 40; refine (hari _).mono ?_; rintro e W2 ⟨rfl, hb2⟩)
 go_ret
 exact ⟨rfl, below_then (below_alloc (Below.refl _ _) _) (below_alloc (Below.refl W.heap.size W) _).size hb2⟩
set_option maxHeartbeats 4000000 in
set_option maxRecDepth 100000 in
theorem does_plain (B : Nat) (o n : Int) (x : ByteArray) (ho : o < 22) (ha : ¬ 0 < XOps.arityF o) (W : World) : Calls Tryz.prog 39 #[.pointer (some ⟨B, 0, none⟩), insV o n x] W fun e W' => e = .returned (.func (.func 56) #[.pointer (some ⟨B, 0, none⟩)] #[]) ∧ Below W.heap.size W W' := by
 unfold insV
 have hari := XOps.arity_calls o
 obtain ⟨a, har⟩ : ∃ a, XOps.arityF o = a := ⟨_, rfl⟩
 rw [har] at hari ha
 have h2 : ¬ o ≥ 22 := by omega
 have h1 : decide (o ≥ 22) = false := decide_eq_false h2
 have h4 : ¬ a > 0 := ha
 have h3 : decide (a > 0) = false := decide_eq_false ha
 go_enter Tryz.func39, Tryz.ntmps39
 go_wp2_with (go_at_call 40; refine (hari _).mono ?_; rintro e W2 ⟨rfl, hb2⟩)
 go_ret
 exact ⟨rfl, below_then (below_alloc (Below.refl _ _) _) (below_alloc (Below.refl W.heap.size W) _).size hb2⟩
end Go.Proofs.YtnodgcakmolleaaGreatDoor.XCheck
