/- eval: the machine, its methods, and how a program runs. -/
import Derived.Test.YtnodgcakmolleaaGreatDoorProg
import Derived.Test.YtnodgcakmolleaaGreatDoorXCheckRun
import Derived.Test.YtnodgcakmolleaaGreatDoorXDo
import Derived.Test.YtnodgcakmolleaaGreatDoorPXx0
import Derived.Deep.RegionHeld3
import Derived.Deep.DeepCutAuto
import Derived.Deep.AppendLies
import Derived.Deep.DrawnRows
import Derived.RegionTactic
import Derived.Lib.Hide
set_option linter.unusedVariables false
set_option linter.unusedSimpArgs false
namespace Go.Proofs.YtnodgcakmolleaaGreatDoor.XEval
open Go.RowKit Go.Proofs Go.Proofs.YtnodgcakmolleaaGreatDoorW.PrintWords Go.Proofs.YtnodgcakmolleaaGreatDoorW.PrintLast Go.Proofs.YtnodgcakmolleaaGreatDoorW.PrintMore Go.Proofs.YtnodgcakmolleaaGreatDoor.PX Go.Proofs.YtnodgcakmolleaaGreatDoor.XCheck
abbrev Sv := XOps.Sv
theorem infoV : (Tryz.prog.info? 32).map (fun i => (i.zero, i.size, i.bytes)) = some (some (.agg #[.bool false, .int .i64 0, .string (⟨#[]⟩ : ByteArray)]), 3, 32) := by kernel_rfl
def zC : Obj := .cells #[.bool false, .int .i64 0, .string (⟨#[]⟩ : ByteArray)] 32
def numS (n : Int) : Sv := ⟨false, n, ⟨#[]⟩⟩
structure Mch (w0 : World) (B : Nat) (Rv F v : Value) (s : List Sv) (fuel : Int) (W : World) : Prop where
 blk : W.heap[B]? = some (.cells #[v, Rv, F, .int .i64 fuel] 52 (0, 0))
 own : Kd.R k32 32 W w0.heap.size (fun k => k ≠ B) v s
 below : Below w0.heap.size w0 W
 base : w0.heap.size ≤ B
def Fr (B : Nat) (W W' : World) : Prop := W.heap.size ≤ W'.heap.size ∧ ∀ g, g < W.heap.size → g ≠ B → W'.heap[g]? = W.heap[g]?
theorem Fr.below {B : Nat} {W W' : World} (h : Below W.heap.size W W') : Fr B W W' := ⟨h.size, fun g hg _ => h.block g hg⟩
theorem Fr.trans {B : Nat} {W W1 W2 : World} (h : Fr B W W1) (k : Fr B W1 W2) : Fr B W W2 := ⟨Nat.le_trans h.1 k.1, fun g hg h1 => (k.2 g (Nat.lt_of_lt_of_le hg h.1) h1).trans (h.2 g hg h1)⟩
theorem Fr.set {B i : Nat} {u : Value} {W : World} : Fr B W (W.setCell ⟨B, i, none⟩ u) := ⟨by simp, fun g hg h1 => Below.heap_setCell _ ⟨B, i, none⟩ _ g h1⟩
theorem Fr.cell {B g i : Nat} {x : Value} {W W' : World} (hF : Fr B W W') (hg : g < W.heap.size) (h1 : g ≠ B) (h : W.cell? ⟨g, i, none⟩ = some x) : W'.cell? ⟨g, i, none⟩ = some x := by
 rw [← h]
 unfold World.cell?
 rw [show (Addr.mk g i none).block = g from rfl, hF.2 g hg h1]
variable {w0 W : World} {B : Nat} {Rv F v : Value} {s : List Sv} {fuel : Int}
theorem Mch.lt (h : Mch w0 B Rv F v s fuel W) : B < W.heap.size := blk_lt h.blk
theorem Mch.then_ {W' : World} (h : Mch w0 B Rv F v s fuel W) (hb : Below W.heap.size W W') : Mch w0 B Rv F v s fuel W' :=
 ⟨(hb.block B h.lt).trans h.blk, Kd.R_below h.own hb, below_then h.below h.below.size hb, h.base⟩
theorem Mch.getS (h : Mch w0 B Rv F v s fuel W) : W.cell? ⟨B, 0, none⟩ = some v := (blk_cell h.blk 0).trans rfl
theorem Mch.getR (h : Mch w0 B Rv F v s fuel W) : W.cell? ⟨B, 1, none⟩ = some Rv := (blk_cell h.blk 1).trans rfl
theorem Mch.getF (h : Mch w0 B Rv F v s fuel W) : W.cell? ⟨B, 2, none⟩ = some F := (blk_cell h.blk 2).trans rfl
theorem Mch.getU (h : Mch w0 B Rv F v s fuel W) : W.cell? ⟨B, 3, none⟩ = some (.int .i64 fuel) := (blk_cell h.blk 3).trans rfl
theorem Mch.reads (h : Mch w0 B Rv F v s fuel W) : ∃ A c, v = .slice A s.length c ∧ s.length ≤ c ∧ Kd.C k32 W A s.length s := Kd.R_reads h.own
theorem Mch.cut {A : Option Addr} {m c : Nat} (h : Mch w0 B Rv F (.slice A m c) s fuel W) (q : Nat) (hq : q ≤ s.length) : Mch w0 B Rv F (.slice A q c) (s.take q) fuel (W.setCell ⟨B, 0, none⟩ (.slice A q c)) := by
 refine ⟨?_, Kd.R_far (p := ⟨B, 0, none⟩) (Kd.R_take h.own hq) (fun k hk => hk) _, below_set h.below h.base, h.base⟩
 exact blk_set h.blk 0 (.slice A q c)
theorem Mch.burn (h : Mch w0 B Rv F v s fuel W) (f : Int) : Mch w0 B Rv F v s f (W.setCell ⟨B, 3, none⟩ (.int .i64 f)) :=
 ⟨blk_set h.blk 3 (.int .i64 f), Kd.R_far (p := ⟨B, 3, none⟩) h.own (fun k hk => hk) _, below_set h.below h.base, h.base⟩
theorem res_at {W2 : World} {o : Obj} (hb : Below ((W.alloc o).alloc zC).heap.size ((W.alloc o).alloc zC) W2) : W2.heap[W.heap.size + 1]? = some (.cells #[.bool false, .int .i64 0, .string (⟨#[]⟩ : ByteArray)] 32 (0, 0)) := by
 have h := heap_alloc_new (W.alloc o) zC
 rw [XOps.size_alloc] at h
 exact (hb.block _ (blk_lt h)).trans h
theorem two_below (W : World) (o p : Obj) : Below W.heap.size W ((W.alloc o).alloc p) := below_alloc (below_alloc (Below.refl _ _) _) _
theorem two_then {W2 : World} {o p : Obj} (hb : Below ((W.alloc o).alloc p).heap.size ((W.alloc o).alloc p) W2) : Below W.heap.size W W2 := below_then (two_below W o p) (two_below W o p).size hb
theorem set3 {W2 : World} {g : Nat} {a b c : Value} (h : Below W.heap.size W W2) (hg : W.heap.size ≤ g) : Below W.heap.size W (((W2.setCell ⟨g, 0, none⟩ a).setCell ⟨g, 1, none⟩ b).setCell ⟨g, 2, none⟩ c) := below_set (below_set (below_set h hg) hg) hg
theorem boxed (o n : Int) (x : ByteArray) (h : Mch w0 B Rv F v s fuel W) : ∀ W1, (W.alloc (insC o n x)).alloc zC = W1 → Below W.heap.size W W1 ∧ Mch w0 B Rv F v s fuel W1 ∧ W1.cell? ⟨W.heap.size, 0, none⟩ = some (.int .i64 o) ∧ W1.cell? ⟨W.heap.size, 1, none⟩ = some (.int .i64 n) ∧ W1.heap[W.heap.size + 1]? = some (.cells #[.bool false, .int .i64 0, .string (⟨#[]⟩ : ByteArray)] 32 (0, 0)) ∧ W1.heap.size = W.heap.size + 2 := by
 rintro W1 rfl
 have hb := two_below W (insC o n x) zC
 have hn := heap_alloc_new W (insC o n x)
 have h2 := (heap_alloc_old (W.alloc (insC o n x)) zC (blk_lt hn)).trans hn
 refine ⟨hb, h.then_ hb, (blk_cell h2 0).trans rfl, (blk_cell h2 1).trans rfl, ?_, by simp⟩
 exact res_at (Below.refl _ _)
theorem far3 {g : Nat} {i j m : Nat} {u x y z : Value} {a : Addr} (hne : a.block ≠ g) (h : W.cell? a = some z) : (((W.setCell ⟨g, i, none⟩ u).setCell ⟨g, j, none⟩ x).setCell ⟨g, m, none⟩ y).cell? a = some z := by
 have e : (((W.setCell ⟨g, i, none⟩ u).setCell ⟨g, j, none⟩ x).setCell ⟨g, m, none⟩ y).heap[a.block]? = W.heap[a.block]? :=
  (Below.heap_setCell _ ⟨g, m, none⟩ y a.block hne).trans ((Below.heap_setCell _ ⟨g, j, none⟩ x a.block hne).trans (Below.heap_setCell _ ⟨g, i, none⟩ u a.block hne))
 rw [← h]
 unfold World.cell?
 rw [e]
theorem far3d {g : Nat} {i j m : Nat} {u x y z : Value} {a : Addr} (hne : a.block ≠ g) (h : W.cell? a = some z) : ((((W.setCell ⟨g, i, none⟩ u).setCell ⟨g, j, none⟩ x).setCell ⟨g, m, none⟩ y).drew).cell? a = some z := far3 hne h
theorem cell_lt {a : Addr} {z : Value} (h : W.cell? a = some z) : a.block < W.heap.size := by
 unfold World.cell? at h
 split at h
 ·rename_i hx
  exact (Array.getElem?_eq_some_iff.1 hx).1
 ·cases h
structure Env (T : World → Prop) (TEXT : ByteArray → Option Sv) (DO : Int → List Sv → Option (Sv × Int)) : Prop where
 tb : ∀ w w', T w → Below w.heap.size w w' → T w'
 num : ∀ (n : Int) (w : World), T w → Calls Tryz.prog 36 #[.int .i64 n] w fun e w' => e = .returned (XOps.enV (numS n)) ∧ Below w.heap.size w w'
 text : ∀ (x : ByteArray) (y : Sv) (w : World), T w → TEXT x = some y → Calls Tryz.prog 35 #[.string x] w fun e w' => e = .returned (XOps.enV y) ∧ Below w.heap.size w w'
 do_ : ∀ (o : Int) (l : List Sv) (y : Sv) (er : Int) (A : Option Addr) (c : Nat) (w : World), T w → Kd.C k32 w A l.length l → l.length ≤ c → DO o l = some (y, er) → Calls Tryz.prog 58 #[.int .i64 o, .slice A l.length c] w fun e w' => e = .returned (.tuple #[XOps.enV y, .int .i64 er]) ∧ Below w.heap.size w w'
variable {T : World → Prop} {TEXT : ByteArray → Option Sv} {DO : Int → List Sv → Option (Sv × Int)}
set_option maxHeartbeats 4000000 in
set_option maxRecDepth 100000 in
theorem num_calls (E : Env T TEXT DO) (o n : Int) (x : ByteArray) (W : World) (hT : T W) : Calls Tryz.prog 41 #[.pointer (some ⟨B, 0, none⟩), insV o n x] W fun e W' => e = .returned (XOps.enV (numS n)) ∧ Below W.heap.size W W' := by
 unfold insV
 have hu := Tryz.underlying32
 have hn := E.num n
 unfold XOps.enV numS at hn ⊢
 have hT2 := E.tb _ _ hT (two_below W (insC o n x) zC)
 have hx := new_cell W o n x
 have hres := fun W2 => res_at (W := W) (W2 := W2) (o := insC o n x)
 have hthen := fun W2 => two_then (W := W) (W2 := W2) (o := insC o n x) (p := zC)
 unfold insC zC at hT2 hres hthen
 go_enter Tryz.func41, Tryz.ntmps41
 go_wp2_with (go_at_call 36; refine (hn _ hT2).mono ?_; rintro e W2 ⟨rfl, hb2⟩; have hr := hres _ hb2; have c0 := (blk_cell hr 0).trans rfl; have c1 := (blk_cell hr 1).trans rfl; have c2 := (blk_cell hr 2).trans rfl; have f0 := blk_frozen hr 0; have f1 := blk_frozen hr 1; have f2 := blk_frozen hr 2)
 refine bodyPost_ret (results_cell_row rfl _ _ (W.heap.size + 1) 32 #[.bool false, .int .i64 n, .string (⟨#[]⟩ : ByteArray)] (0, 0) _ rfl (blk_set (blk_set (blk_set hr 0 _) 1 _) 2 _) Tryz.underlying32 rfl (by kernel_rfl)) rfl ?_
 exact ⟨rfl, set3 (hthen _ hb2) (by omega)⟩
set_option maxHeartbeats 4000000 in
set_option maxRecDepth 100000 in
theorem text_calls (E : Env T TEXT DO) (o n : Int) (x : ByteArray) (y : Sv) (hy : TEXT x = some y) (W : World) (hT : T W) : Calls Tryz.prog 42 #[.pointer (some ⟨B, 0, none⟩), insV o n x] W fun e W' => e = .returned (XOps.enV y) ∧ Below W.heap.size W W' := by
 unfold insV
 have hu := Tryz.underlying32
 have hn := fun w hw => E.text x y w hw hy
 unfold XOps.enV at hn ⊢
 have hT2 := E.tb _ _ hT (two_below W (insC o n x) zC)
 have hres := fun W2 => res_at (W := W) (W2 := W2) (o := insC o n x)
 have hthen := fun W2 => two_then (W := W) (W2 := W2) (o := insC o n x) (p := zC)
 unfold insC zC at hT2 hres hthen
 clear hy
 go_enter Tryz.func42, Tryz.ntmps42
 go_wp2_with (go_at_call 35; refine (hn _ hT2).mono ?_; rintro e W2 ⟨rfl, hb2⟩; have hr := hres _ hb2; have c0 := (blk_cell hr 0).trans rfl; have c1 := (blk_cell hr 1).trans rfl; have c2 := (blk_cell hr 2).trans rfl; have f0 := blk_frozen hr 0; have f1 := blk_frozen hr 1; have f2 := blk_frozen hr 2)
 refine bodyPost_ret (results_cell_row rfl _ _ (W.heap.size + 1) 32 #[.bool y.f0, .int .i64 y.f1, .string y.f2] (0, 0) _ rfl (blk_set (blk_set (blk_set hr 0 _) 1 _) 2 _) Tryz.underlying32 rfl (by kernel_rfl)) rfl ?_
 exact ⟨rfl, set3 (hthen _ hb2) (by omega)⟩
set_option maxHeartbeats 4000000 in
set_option maxRecDepth 100000 in
theorem count_calls (E : Env T TEXT DO) {Ar : Option Addr} {rn rc : Nat} (h : Mch w0 B (.slice Ar rn rc) F v s fuel W) (hT : T w0) (o n : Int) (x : ByteArray) : Calls Tryz.prog 44 #[.pointer (some ⟨B, 0, none⟩), insV o n x] W fun e W' => e = .returned (XOps.enV (numS rn)) ∧ Below W.heap.size W W' := by
 have hb := fun W1 => boxed o n x h W1
 unfold insV
 have hu := Tryz.underlying32
 have hu1 := Tryz.underlying52
 have hn := E.num rn
 unfold XOps.enV numS at hn ⊢
 unfold insC zC at hb
 clear h
 go_enter Tryz.func44, Tryz.ntmps44
 go_upto_region 1 with fail
 generalize hW1 : (W.alloc (.cells #[.int .i64 o, .int .i64 n, .string x] 44)).alloc (.cells #[.bool false, .int .i64 0, .string (⟨#[]⟩ : ByteArray)] 32) = W1
 obtain ⟨b01, H1, x0, x1, r1, z1⟩ := hb W1 hW1
 have cR := H1.getR
 have hT1 := E.tb _ _ hT H1.below
 clear hb hW1 x0 x1 H1
 go_wp2_with (go_at_call 36; refine (hn _ hT1).mono ?_; rintro e W2 ⟨rfl, hb2⟩; have hr := (hb2.block _ (blk_lt r1)).trans r1; have c0 := (blk_cell hr 0).trans rfl; have c1 := (blk_cell hr 1).trans rfl; have c2 := (blk_cell hr 2).trans rfl; have f0 := blk_frozen hr 0; have f1 := blk_frozen hr 1; have f2 := blk_frozen hr 2)
 refine bodyPost_ret (results_cell_row rfl _ _ (W.heap.size + 1) 32 #[.bool false, .int .i64 (rn : Int), .string (⟨#[]⟩ : ByteArray)] (0, 0) _ rfl (blk_set (blk_set (blk_set hr 0 _) 1 _) 2 _) Tryz.underlying32 rfl (by kernel_rfl)) rfl ?_
 exact ⟨rfl, set3 (below_then b01 b01.size hb2) (by omega)⟩
set_option maxHeartbeats 4000000 in
set_option maxRecDepth 100000 in
theorem field_far (E : Env T TEXT DO) {Ar : Option Addr} {rn rc : Nat} (h : Mch w0 B (.slice Ar rn rc) F v s fuel W) (hT : T w0) (o n : Int) (x : ByteArray) (y : Sv) (hn : (rn : Int) ≤ n) (hy : TEXT ⟨#[]⟩ = some y) : Calls Tryz.prog 43 #[.pointer (some ⟨B, 0, none⟩), insV o n x] W fun e W' => e = .returned (XOps.enV y) ∧ Below W.heap.size W W' := by
 have hb := fun W1 => boxed o n x h W1
 unfold insV
 have hu := Tryz.underlying32
 have hu1 := Tryz.underlying52
 have ht := fun w hw => E.text _ y w hw hy
 unfold XOps.enV at ht ⊢
 unfold insC zC at hb
 have hd : decide (n ≥ (rn : Int)) = true := decide_eq_true hn
 clear h hy
 go_enter Tryz.func43, Tryz.ntmps43
 go_upto_region 1 with fail
 generalize hW1 : (W.alloc (.cells #[.int .i64 o, .int .i64 n, .string x] 44)).alloc (.cells #[.bool false, .int .i64 0, .string (⟨#[]⟩ : ByteArray)] 32) = W1
 obtain ⟨b01, H1, x0, x1, r1, z1⟩ := hb W1 hW1
 have cR := H1.getR
 have hT1 := E.tb _ _ (E.tb _ _ hT H1.below) (below_drew0 W1)
 clear hb hW1 x0 H1
 go_region_held3 (fun w' => w'.cell? ⟨B, 1, none⟩ = some (.slice Ar rn rc) ∧ w'.cell? ⟨W.heap.size, 1, none⟩ = some (.int .i64 n))
  (first
   | exact ⟨cR, x1⟩
   | go_keep)
  ((first
   | fail))
 go_wp2_with (go_at_call 35; refine (ht _ hT1).mono ?_; rintro e W2 ⟨rfl, hb2⟩; have hr := (hb2.block _ (blk_lt r1)).trans r1; have c0 := (blk_cell hr 0).trans rfl; have c1 := (blk_cell hr 1).trans rfl; have c2 := (blk_cell hr 2).trans rfl; have f0 := blk_frozen hr 0; have f1 := blk_frozen hr 1; have f2 := blk_frozen hr 2)
 refine bodyPost_ret (results_cell_row rfl _ _ (W.heap.size + 1) 32 #[.bool y.f0, .int .i64 y.f1, .string y.f2] (0, 0) _ rfl (blk_set (blk_set (blk_set hr 0 _) 1 _) 2 _) Tryz.underlying32 rfl (by kernel_rfl)) rfl ?_
 exact ⟨rfl, set3 (below_then (below_then b01 b01.size (below_drew0 _)) (below_then b01 b01.size (below_drew0 _)).size hb2) (by omega)⟩
set_option maxHeartbeats 4000000 in
set_option maxRecDepth 100000 in
theorem field_in (E : Env T TEXT DO) {Ar : Option Addr} {rc : Nat} {r : List ByteArray} (h : Mch w0 B (.slice Ar r.length rc) F v s fuel W) (hr : Kd.C Kd.string w0 Ar r.length r) (hT : T w0) (o : Int) (q : Nat) (x : ByteArray) (y : Sv) (hq : q < r.length) (hy : TEXT (r.getD q ByteArray.empty) = some y) : Calls Tryz.prog 43 #[.pointer (some ⟨B, 0, none⟩), insV o (q : Int) x] W fun e W' => e = .returned (XOps.enV y) ∧ Below W.heap.size W W' := by
 have hb := fun W1 => boxed o (q : Int) x h W1
 unfold insV
 have hu := Tryz.underlying32
 have hu1 := Tryz.underlying52
 have hu2 := Tryz.underlying24
 have ht := fun w hw => E.text _ y w hw hy
 unfold XOps.enV at ht ⊢
 unfold insC zC at hb
 have hd : decide ((q : Int) ≥ (r.length : Int)) = false := decide_eq_false (by omega)
 have hd2 : ¬ ((q : Int) ≥ (r.length : Int)) := by omega
 have hi1 : (q : Int) < (r.length : Int) := by omega
 have hi0 : (0 : Int) ≤ (q : Int) := by omega
 have hlt := h.lt
 obtain ⟨rn, hrn⟩ : ∃ rn, r.length = rn := ⟨_, rfl⟩
 obtain ⟨ad, rfl, hc0⟩ := Kd.at_string (Kd.C_below hr h.below) (q : Int) hi0 (by omega)
 rw [Int.toNat_natCast] at hc0
 obtain ⟨u, hu9⟩ : ∃ u, u = r.getD q ByteArray.empty := ⟨_, rfl⟩
 rw [show rdOf ByteArray.empty r (q : Int) = u by rw [hu9]; unfold rdOf; rw [Int.toNat_natCast]] at hc0
 rw [← hu9] at ht
 rw [hrn] at hd hd2 hi1 hb
 have hal := cell_lt hc0
 have hab : (ad.add q).block = ad.block := by unfold Addr.add; split <;> rfl
 rw [hab] at hal
 have Hc := Lib.hid hc0
 clear h hy hr hu9 hrn hc0 hq
 go_enter Tryz.func43, Tryz.ntmps43
 go_upto_region 1 with fail
 generalize hW1 : (W.alloc (.cells #[.int .i64 o, .int .i64 (q : Int), .string x] 44)).alloc (.cells #[.bool false, .int .i64 0, .string (⟨#[]⟩ : ByteArray)] 32) = W1
 obtain ⟨b01, H1, x0, x1, r1, z1⟩ := hb W1 hW1
 have cR := H1.getR
 have hT1 := E.tb _ _ (E.tb _ _ (E.tb _ _ hT H1.below) (below_drew0 W1)) (below_drew0 W1.drew)
 have ca := cell_keep0 b01 Hc.out
 clear hb hW1 x0 H1 Hc
 go_region_held3 (fun w' => w'.cell? ⟨B, 1, none⟩ = some (.slice (some ad) rn rc) ∧ w'.cell? ⟨W.heap.size, 1, none⟩ = some (.int .i64 (q : Int)))
  (first
   | exact ⟨cR, x1⟩
   | go_keep)
  ((first
   | fail))
 go_wp2
 have n1 : B ≠ W.heap.size + 1 := by omega
 have n2 : W.heap.size ≠ W.heap.size + 1 := by omega
 have n3 : (ad.add q).block ≠ W.heap.size + 1 := by rw [hab]; omega
 go_region_held3 (fun w' => w'.cell? ⟨B, 1, none⟩ = some (.slice (some ad) rn rc) ∧ w'.cell? ⟨W.heap.size, 1, none⟩ = some (.int .i64 (q : Int)) ∧ w'.cell? (ad.add q) = some (.string u))
  (first
   | exact ⟨cR, x1, ca⟩
   | (go_split_ands; exact ⟨cell_keep0 hb2 (by assumption), cell_keep0 hb2 (by assumption), cell_keep0 hb2 (by assumption)⟩)
   | (go_split_ands; with_reducible refine ⟨far3 n1 ?_, far3 n2 ?_, far3 n3 ?_⟩ <;> assumption)
   | go_keep)
  ((first
   | (go_at_call 35; refine (ht _ hT1).mono ?_; rintro e W2 ⟨rfl, hb2⟩; have hr := (hb2.block _ (blk_lt r1)).trans r1; have c0 := (blk_cell hr 0).trans rfl; have c1 := (blk_cell hr 1).trans rfl; have c2 := (blk_cell hr 2).trans rfl; have f0 := blk_frozen hr 0; have f1 := blk_frozen hr 1; have f2 := blk_frozen hr 2)))
 go_wp2
 refine bodyPost_ret (results_cell_row rfl _ _ (W.heap.size + 1) 32 #[.bool y.f0, .int .i64 y.f1, .string y.f2] (0, 0) _ rfl (blk_set (blk_set (blk_set hr 0 _) 1 _) 2 _) Tryz.underlying32 rfl (by kernel_rfl)) rfl ?_
 have b2 := below_then b01 b01.size (below_drew0 W1)
 have b3 := below_then b2 b2.size (below_drew0 W1.drew)
 exact ⟨rfl, set3 (below_then b3 b3.size hb2) (by omega)⟩
set_option maxHeartbeats 4000000 in
set_option maxRecDepth 100000 in
theorem given_calls (E : Env T TEXT DO) {Af : Option Addr} {cf : Nat} {fold : List Sv} (h : Mch w0 B Rv (.slice Af fold.length cf) v s fuel W) (hr : Kd.C k32 w0 Af fold.length fold) (o n : Int) (x : ByteArray) (q : Nat) (hq : q < fold.length) (hq2 : q < 1000) (ho : o = (q : Int) + 22) (y : Sv) (hy : fold.getD q XOps.zv = y) : Calls Tryz.prog 45 #[.pointer (some ⟨B, 0, none⟩), insV o n x] W fun e W' => e = .returned (XOps.enV y) ∧ Below W.heap.size W W' := by
 have hb := fun W1 => boxed o n x h W1
 unfold insV
 have hu := Tryz.underlying32
 have hu1 := Tryz.underlying52
 have hu2 := Tryz.underlying27
 unfold XOps.enV
 unfold insC zC at hb
 have hlt := h.lt
 have hw : wrap64 (o - 22) = (q : Int) := by unfold wrap64; omega
 have hw2 : IntKind.i64.wrap (o - 22) = (q : Int) := by rw [IntKind.wrap_i64]; omega
 have hi1 : (q : Int) < (fold.length : Int) := by omega
 have hi0 : (0 : Int) ≤ (q : Int) := by omega
 obtain ⟨rn, hrn⟩ : ∃ rn, fold.length = rn := ⟨_, rfl⟩
 obtain ⟨ad, rfl, hc0, hc1, hc2⟩ := at_T32 (Kd.C_below hr h.below) (q : Int) hi0 (by omega)
 rw [Int.toNat_natCast] at hc0 hc1 hc2
 rw [show rd_T32 fold (q : Int) = y by rw [← hy]; unfold rd_T32; rw [Int.toNat_natCast]] at hc0 hc1 hc2
 rw [hrn] at hi1 hb
 have hab : (ad.add (q * 3)).block = ad.block := by unfold Addr.add; split <;> rfl
 have hal := cell_lt hc0
 rw [hab] at hal hc1 hc2
 have Hc0 := Lib.hid hc0
 have Hc1 := Lib.hid hc1
 have Hc2 := Lib.hid hc2
 clear h hy hr hrn hc0 hc1 hc2 hq ho
 go_enter Tryz.func45, Tryz.ntmps45
 go_upto_region 1 with fail
 generalize hW1 : (W.alloc (.cells #[.int .i64 o, .int .i64 n, .string x] 44)).alloc (.cells #[.bool false, .int .i64 0, .string (⟨#[]⟩ : ByteArray)] 32) = W1
 obtain ⟨b01, H1, x0, x1, r1, z1⟩ := hb W1 hW1
 have cF := H1.getF
 have ca0 := cell_keep0 b01 Hc0.out
 have ca1 := cell_keep0 b01 Hc1.out
 have ca2 := cell_keep0 b01 Hc2.out
 have c0 := (blk_cell r1 0).trans rfl
 have c1 := (blk_cell r1 1).trans rfl
 have c2 := (blk_cell r1 2).trans rfl
 have f0 := blk_frozen r1 0
 have f1 := blk_frozen r1 1
 have f2 := blk_frozen r1 2
 clear hb hW1 x1 H1 Hc0 Hc1 Hc2
 have n1 : B ≠ W.heap.size + 1 := by omega
 have n2 : W.heap.size ≠ W.heap.size + 1 := by omega
 have n3 : (ad.add (q * 3)).block ≠ W.heap.size + 1 := by rw [hab]; omega
 have n4 : ad.block ≠ W.heap.size + 1 := by omega
 go_region_held3 (fun w' => w'.cell? ⟨B, 2, none⟩ = some (.slice (some ad) rn cf) ∧ w'.cell? ⟨W.heap.size, 0, none⟩ = some (.int .i64 o) ∧ w'.cell? (ad.add (q * 3)) = some (.bool y.f0) ∧ w'.cell? ⟨ad.block, (ad.add (q * 3)).off + 1, none⟩ = some (.int .i64 y.f1) ∧ w'.cell? ⟨ad.block, (ad.add (q * 3)).off + 2, none⟩ = some (.string y.f2))
  (first
   | exact ⟨cF, x0, ca0, ca1, ca2⟩
   | exact ⟨far3d n1 cF, far3d n2 x0, far3d n3 ca0, far3d n4 ca1, far3d n4 ca2⟩
   | go_keep)
  ((first
   | fail))
 go_wp2
 refine bodyPost_ret (results_cell_row rfl _ _ (W.heap.size + 1) 32 #[.bool y.f0, .int .i64 y.f1, .string y.f2] (0, 0) _ rfl (blk_set (blk_set (blk_set (show W1.drew.heap[W.heap.size + 1]? = _ from r1) 0 _) 1 _) 2 _) Tryz.underlying32 rfl (by kernel_rfl)) rfl ?_
 exact ⟨rfl, set3 (below_then b01 b01.size (below_drew0 _)) (by omega)⟩
theorem own_ne {g : Nat} (h : Mch w0 B Rv F v s fuel W) (hg : v.ownBlock = some g) : g ≠ B ∧ g < W.heap.size := by
 obtain ⟨h0, inner, hown, hr⟩ := h.own
 exact ⟨h0 g hg, own_lt hown g hg⟩
theorem Fr.drew (W : World) : Fr B W W.drew := Fr.below (below_drew0 W)
set_option maxHeartbeats 4000000 in
set_option maxRecDepth 100000 in
theorem done_calls (E : Env T TEXT DO) (h : Mch w0 B Rv F v s fuel W) (hT : T w0) (hl : s.length ≤ 100000) (o n : Int) (x : ByteArray) (a : Nat) (har : XOps.arityF o = (a : Int)) (ha : a ≤ s.length) (y : Sv) (er : Int) (hd : DO o (s.drop (s.length - a)) = some (y, er)) :
  Calls Tryz.prog 46 #[.pointer (some ⟨B, 0, none⟩), insV o n x] W fun e W' => ∃ A c, v = .slice A s.length c ∧ e = .returned (XOps.enV y) ∧ Mch w0 B Rv F (.slice A (s.length - a) c) (s.take (s.length - a)) fuel W' ∧ Fr B W W' := by
 have hb := fun W1 => boxed o n x h W1
 unfold insV XOps.enV
 unfold insC zC at hb
 have hu := Tryz.underlying32
 have hu1 := Tryz.underlying52
 have hu2 := Tryz.underlying27
 obtain ⟨A, c, hv, hlc, hC0⟩ := h.reads
 subst hv
 obtain ⟨m, hm⟩ : ∃ m, s.length = m := ⟨_, rfl⟩
 rw [hm] at hlc hl ha hC0 hb hd ⊢
 obtain ⟨q, hq⟩ : ∃ q, m - a = q := ⟨_, rfl⟩
 rw [hq] at hd ⊢
 have hari := XOps.arity_calls o
 rw [har] at hari
 obtain ⟨i0, hi0, _, hsz, _⟩ := info_parts infoV
 have hcut := cut_from (P := Tryz.prog) 27 32 .i64 Tryz.underlying27 hi0 3 hsz A m c (q : Int) (by omega) (by omega)
 simp only [Int.toNat_natCast] at hcut
 rw [show m - q = a by omega] at hcut
 obtain ⟨A', hA'⟩ : ∃ A', (if c = q then A else A.map (fun x => x.add (q * 3))) = A' := ⟨_, rfl⟩
 rw [hA'] at hcut
 have hcut2 := cut_to (P := Tryz.prog) 27 32 .i64 Tryz.underlying27 hi0 A m c (q : Int) (by omega) (by omega) hlc
 simp only [Int.toNat_natCast] at hcut2
 have hC : ∀ W2, Mch w0 B Rv F (.slice A m c) s fuel W2 → Calls Tryz.prog 58 #[.int .i64 o, .slice A' a (c - q)] W2 fun e w' => e = .returned (.tuple #[.agg #[.bool y.f0, .int .i64 y.f1, .string y.f2], .int .i64 er]) ∧ Below W2.heap.size W2 w' := fun W2 h2 => by
  obtain ⟨A2, c2, e2, _, hr2⟩ := h2.reads
  rw [hm] at e2 hr2
  injection e2 with e2 _ e3
  subst e2 e3
  have hdr := Kd.C_drop (k := k32) (c := c) (m := q) (xs := s) (by rw [hm]; exact hr2) (by omega) (by omega)
  rw [show (k32).sz = 3 from rfl, hA'] at hdr
  have := E.do_ o (s.drop q) y er A' (c - q) W2 (E.tb _ _ hT h2.below) hdr (by rw [List.length_drop]; omega) hd
  rw [List.length_drop, hm, show m - q = a by omega] at this
  exact this
 have hw : wrap64 ((m : Int) - (a : Int)) = (q : Int) := by unfold wrap64; omega
 have hw2 : IntKind.i64.wrap ((m : Int) - (a : Int)) = (q : Int) := by rw [IntKind.wrap_i64]; omega
 have hqm : q ≤ s.length := by omega
 have hlt := h.lt
 have Hown := Lib.hid h.own
 have Hb0 := Lib.hid h.below.size
 have Hq := Lib.hid hq
 have Hm := Lib.hid hm
 have Hqm := Lib.hid hqm
 have i0 : (0 : Int) ≤ (q : Int) := by omega
 have i1 : (q : Int) ≤ (m : Int) := by omega
 clear h hC0 hd hq hm har hsz hA' hqm
 go_enter Tryz.func46, Tryz.ntmps46
 go_upto_region 1 with fail
 generalize hW1 : (W.alloc (.cells #[.int .i64 o, .int .i64 n, .string x] 44)).alloc (.cells #[.bool false, .int .i64 0, .string (⟨#[]⟩ : ByteArray)] 32) = W1
 obtain ⟨b01, H1, x0, x1, r1, z1⟩ := hb W1 hW1
 have cS := H1.getS
 have HH1 := Lib.hid H1
 clear hb hW1 x1 H1
 go_region_held3 (fun w' => w'.cell? ⟨B, 0, none⟩ = some (.slice A m c) ∧ w'.cell? ⟨W.heap.size, 0, none⟩ = some (.int .i64 o))
  (first
   | exact ⟨cS, x0⟩
   | (go_split_ands; exact ⟨cell_keep0 hb2 (by assumption), cell_keep0 hb2 (by assumption)⟩)
   | go_keep)
  ((first
   | (go_at_call 40; refine (hari _).mono ?_; rintro e W2 ⟨rfl, hb2⟩)))
 have H2 := (HH1.out.then_ (below_drew0 _)).then_ hb2
 have b12 := below_then (below_drew0 W1) (below_drew0 W1).size hb2
 have x2 := cell_keep0 b12 x0
 have r2 := (b12.block _ (blk_lt r1)).trans r1
 have b02 := below_then b01 b01.size b12
 have cS2 := H2.getS
 have HH2 := Lib.hid H2
 have hz2 := b02.size
 have hz1 := b12.size
 clear hb2 b12 r1 x0 cS HH1 H2 hari
 go_upto_region 2 with fail
 go_cut [6, 7] (fun s6 s7 wx => ∃ gp : Nat, s6 = .pointer (some ⟨gp, 0, none⟩) ∧ s7 = .int .i64 er ∧ wx.heap[gp]? = some (.cells #[.bool y.f0, .int .i64 y.f1, .string y.f2] 32 (0, 0)) ∧ W2.heap.size ≤ gp ∧ Below W2.heap.size W2 wx)
 case first =>
  have HC := fun W' hb => hC W' (HH2.out.then_ hb)
  go_region_held3 (fun w' => w'.cell? ⟨B, 0, none⟩ = some (.slice A m c) ∧ w'.cell? ⟨W.heap.size, 0, none⟩ = some (.int .i64 o))
   (first
    | go_keep
    | exact ⟨cell_keep0 (W := W2) (by repeat (first | exact HB3 | exact Below.refl _ _ | apply below_alloc | apply below_drew1 | refine below_set ?_ (by first | (dsimp only; omega) | omega | (simp; omega)))) cS2, cell_keep0 (W := W2) (by repeat (first | exact HB3 | exact Below.refl _ _ | apply below_alloc | apply below_drew1 | refine below_set ?_ (by first | (dsimp only; omega) | omega | (simp; omega)))) x2⟩)
   ((first
    | (go_at_call 58; refine (HC _ (by repeat (first | exact Below.refl _ _ | apply below_alloc | apply below_drew1))).mono ?_; rintro e W3 ⟨rfl, hb3⟩; have HB3 : Below W2.heap.size W2 W3 := (fun (h : Below W2.heap.size W2 _) => below_then h h.size hb3) (by repeat (first | exact Below.refl _ _ | apply below_alloc | apply below_drew1)); have hz3 := HB3.size; (try have zZ : W3.heap[W2.heap.size]? = some (.cells #[.bool false, .int .i64 0, .string (⟨#[]⟩ : ByteArray)] 32 (0, 0)) := (hb3.block _ (by simp)).trans (heap_alloc_new W2 _)); (try (have e0 := (blk_cell zZ 0).trans rfl; have e1 := (blk_cell zZ 1).trans rfl; have e2 := (blk_cell zZ 2).trans rfl; have g0 := blk_frozen zZ 0; have g1 := blk_frozen zZ 1; have g2 := blk_frozen zZ 2)))))
  all_goals (go_wp2_with fail; go_meet; first | exact ⟨_, rfl, rfl, heap_alloc_new W3 _, hz3, below_alloc HB3 _⟩ | exact ⟨_, rfl, rfl, blk_set (blk_set (blk_set zZ 0 _) 1 _) 2 _, Nat.le_refl _, below_set (below_set (below_set HB3 (Nat.le_refl _)) (Nat.le_refl _)) (Nat.le_refl _)⟩)
 obtain ⟨gp, rfl, rfl, hgp, hle, hbx⟩ := hcut
 have H3 := HH2.out.then_ hbx
 have c3 := H3.getS
 have f3 := blk_frozen H3.blk 0
 have r3 := (hbx.block _ (blk_lt r2)).trans r2
 have b03 := below_then b02 b02.size hbx
 have hzx := hbx.size
 have H4 := H3.cut q Hqm.out
 have y0 := (blk_cell hgp 0).trans rfl
 have y1 := (blk_cell hgp 1).trans rfl
 have y2 := (blk_cell hgp 2).trans rfl
 have p0 := (blk_cell r3 0).trans rfl
 have p1 := (blk_cell r3 1).trans rfl
 have p2 := (blk_cell r3 2).trans rfl
 have k0 := blk_frozen r3 0
 have k1 := blk_frozen r3 1
 have k2 := blk_frozen r3 2
 have m1 : gp ≠ B := by omega
 have m2 : W.heap.size + 1 ≠ B := by omega
 have m3 : gp ≠ W.heap.size + 1 := by omega
 have m4 : B ≠ gp := by omega
 have m5 : B ≠ W.heap.size + 1 := by omega
 have HH4 := Lib.hid H4
 have HH3 := Lib.hid H3
 clear H3 H4 hC hbx x2 cS2 HH2 hgp
 go_wp2
 have r4 : (wc.setCell ⟨B, 0, none⟩ (.slice A q c)).heap[W.heap.size + 1]? = _ := (Below.heap_setCell _ ⟨B, 0, none⟩ _ _ m2).trans r3
 refine bodyPost_ret (results_cell_row rfl _ _ (W.heap.size + 1) 32 #[.bool y.f0, .int .i64 y.f1, .string y.f2] (0, 0) _ rfl (blk_set (blk_set (blk_set r4 0 _) 1 _) 2 _) Tryz.underlying32 rfl (by kernel_rfl)) rfl ?_
 have hF : Fr B W (wc.setCell ⟨B, 0, none⟩ (.slice A q c)) := (Fr.below b03).trans Fr.set
 have hFr : Fr B W ((((wc.setCell ⟨B, 0, none⟩ (.slice A q c)).setCell ⟨W.heap.size + 1, 0, none⟩ (.bool y.f0)).setCell ⟨W.heap.size + 1, 1, none⟩ (.int .i64 y.f1)).setCell ⟨W.heap.size + 1, 2, none⟩ (.string y.f2)) := by
  refine ⟨by simp; omega, fun g hg1 hg2 => ?_⟩
  have hne : g ≠ W.heap.size + 1 := by omega
  exact (Below.heap_setCell _ ⟨_, 2, none⟩ _ _ hne).trans ((Below.heap_setCell _ ⟨_, 1, none⟩ _ _ hne).trans ((Below.heap_setCell _ ⟨_, 0, none⟩ _ _ hne).trans (hF.2 g hg1 hg2)))
 refine ⟨A, c, rfl, rfl, ⟨?_, ?_, ?_, HH4.out.base⟩, hFr⟩
 ·exact (Below.heap_setCell _ ⟨_, 2, none⟩ _ _ m5).trans ((Below.heap_setCell _ ⟨_, 1, none⟩ _ _ m5).trans ((Below.heap_setCell _ ⟨_, 0, none⟩ _ _ m5).trans HH4.out.blk))
 ·exact Kd.R_mono (Kd.R_move (Kd.R_mono (Kd.R_bound (Kd.R_take Hown.out Hqm.out)) (fun k hk => (⟨hk.1, hk.2.2.1⟩ : k ≠ B ∧ k < W.heap.size))) (fun k hk => hFr.2 k hk.2 hk.1)) (fun k hk => hk.1)
 ·exact below_set (below_set (below_set HH4.out.below (by have := Hb0.out; omega)) (by have := Hb0.out; omega)) (by have := Hb0.out; omega)
end Go.Proofs.YtnodgcakmolleaaGreatDoor.XEval
