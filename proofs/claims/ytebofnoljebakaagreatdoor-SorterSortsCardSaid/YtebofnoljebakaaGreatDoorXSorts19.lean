/- SorterSorts, walked: what it calls is told by what the calls tell. -/
import Derived.Test.YtebofnoljebakaaGreatDoorXSD
import Derived.Deep.RegionHeld3
set_option linter.unusedVariables false
set_option linter.unusedSimpArgs false
set_option linter.unusedSectionVars false
namespace Go.Proofs.YtebofnoljebakaaGreatDoor.XSort
open Go.RowKit Go.Lib Go.Sort Go.Proofs.YtebofnoljebakaaGreatDoor.Stb Go.Proofs Go.Proofs.YtebofnoljebakaaGreatDoorW.PrintWords Go.Proofs.YtebofnoljebakaaGreatDoorW.PrintLast Go.Proofs.YtebofnoljebakaaGreatDoorW.PrintMore Go.Proofs.YtebofnoljebakaaGreatDoor.PX
abbrev It8 := S74
abbrev Gr9 := S52
abbrev k8 := k74
set_option maxHeartbeats 1000000 in
set_option maxRecDepth 100000 in
theorem plain_calls (b0 : Bool) (A1 : Option Addr) (n1 c1 : Nat) (A2 : Option Addr) (n2 c2 : Nat) (A3 : Option Addr) (n3 c3 : Nat) (i4 : Int) (A5 : Option Addr) (n5 c5 : Nat) (b6 : Bool) (i7 : Int) (s8 : ByteArray) (b9 : Bool) (i10 : Int) (b11 b12 : Bool) (i13 : Int) (W : World) : Calls Tryz.prog 17 #[.agg #[.bool b0, .slice A1 n1 c1, .slice A2 n2 c2, .slice A3 n3 c3, .int .i64 i4, .slice A5 n5 c5, .bool b6, .int .i64 i7, .string s8, .bool b9, .int .i64 i10, .bool b11, .bool b12, .int .i64 i13]] W fun e w' => e = .returned (.agg #[.bool b0, .slice A1 n1 c1, .slice A2 n2 c2, .slice A3 n3 c3, .int .i64 i4, .slice A5 n5 c5, .bool b6, .int .i64 i7, .string s8, .bool b9, .int .i64 i10, .bool b11, .bool b12, .int .i64 i13]) ∧ Below W.heap.size W w' := by
 have hu45 := Tryz.underlying45
 have hu24 := Tryz.underlying24
 go_enter Tryz.func17, Tryz.ntmps17
 go_wp2_with (first
  | ((with_reducible refine gate_dst (N := 1) rfl ?_); refine box_event ?hg (N := 1) ?hd (cs := #[.bool b0, .slice A1 n1 c1, .slice A2 n2 c2, .slice A3 n3 c3, .int .i64 i4, .slice A5 n5 c5, .bool b6, .int .i64 i7, .string s8, .bool b9, .int .i64 i10, .bool b11, .bool b12, .int .i64 i13]) (t := 26) ?hr ?_; (case hd => rfl); (case hg => rfl); (case hr => exact xh); intro g1 hg1 w2 hbox hb; have BK1 := Lib.hid hbox; have HB1 := Lib.hid hb; have G1 := Lib.hid hg1; clear hbox hb hg1)
  | ((with_reducible refine gate_dst (N := 2) rfl ?_); refine box_event ?kg (N := 2) ?kd (cs := #[.bool false, .slice none 0 0, .slice none 0 0, .slice none 0 0, .int .i64 0, .slice none 0 0, .bool false, .int .i64 0, .string (⟨#[]⟩ : ByteArray), .bool false, .int .i64 0, .bool false, .bool false, .int .i64 0]) (t := 45) ?kr ?_; (case kd => rfl); (case kg => rfl); (case kr => exact xh); intro g2 hg2 w3 hbox hb; have BK2 := Lib.hid hbox; have HB2 := Lib.hid (HB1.out.trans (hb.mono HB1.out.size)); have BK1' := Lib.hid ((hb.block g1 (blk_lt BK1.out)).trans BK1.out); have G2 := Lib.hid (show W.heap.size ≤ g2 by rw [hg2]; exact HB1.out.size); have hne : g1 ≠ g2 := (by have := blk_lt BK1.out; omega); have hne' : g2 ≠ g1 := Ne.symm hne; clear hbox hb hg2; have x0 : w3.cell? ⟨g1, 0, none⟩ = some (.bool b0) := (blk_cell BK1'.out 0).trans rfl; have x1 : w3.cell? ⟨g1, 1, none⟩ = some (.slice A1 n1 c1) := (blk_cell BK1'.out 1).trans rfl; have x2 : w3.cell? ⟨g1, 2, none⟩ = some (.slice A2 n2 c2) := (blk_cell BK1'.out 2).trans rfl; have x3 : w3.cell? ⟨g1, 3, none⟩ = some (.slice A3 n3 c3) := (blk_cell BK1'.out 3).trans rfl; have x4 : w3.cell? ⟨g1, 4, none⟩ = some (.int .i64 i4) := (blk_cell BK1'.out 4).trans rfl; have x5 : w3.cell? ⟨g1, 5, none⟩ = some (.slice A5 n5 c5) := (blk_cell BK1'.out 5).trans rfl; have x6 : w3.cell? ⟨g1, 6, none⟩ = some (.bool b6) := (blk_cell BK1'.out 6).trans rfl; have x7 : w3.cell? ⟨g1, 7, none⟩ = some (.int .i64 i7) := (blk_cell BK1'.out 7).trans rfl; have x8 : w3.cell? ⟨g1, 8, none⟩ = some (.string s8) := (blk_cell BK1'.out 8).trans rfl; have x9 : w3.cell? ⟨g1, 9, none⟩ = some (.bool b9) := (blk_cell BK1'.out 9).trans rfl; have x10 : w3.cell? ⟨g1, 10, none⟩ = some (.int .i64 i10) := (blk_cell BK1'.out 10).trans rfl; have x11 : w3.cell? ⟨g1, 11, none⟩ = some (.bool b11) := (blk_cell BK1'.out 11).trans rfl; have x12 : w3.cell? ⟨g1, 12, none⟩ = some (.bool b12) := (blk_cell BK1'.out 12).trans rfl; have x13 : w3.cell? ⟨g1, 13, none⟩ = some (.int .i64 i13) := (blk_cell BK1'.out 13).trans rfl; have y0 : w3.cell? ⟨g2, 0, none⟩ = some (.bool false) := (blk_cell BK2.out 0).trans rfl; have y1 : w3.cell? ⟨g2, 1, none⟩ = some (.slice none 0 0) := (blk_cell BK2.out 1).trans rfl; have y2 : w3.cell? ⟨g2, 2, none⟩ = some (.slice none 0 0) := (blk_cell BK2.out 2).trans rfl; have y3 : w3.cell? ⟨g2, 3, none⟩ = some (.slice none 0 0) := (blk_cell BK2.out 3).trans rfl; have y4 : w3.cell? ⟨g2, 4, none⟩ = some (.int .i64 0) := (blk_cell BK2.out 4).trans rfl; have y5 : w3.cell? ⟨g2, 5, none⟩ = some (.slice none 0 0) := (blk_cell BK2.out 5).trans rfl; have y6 : w3.cell? ⟨g2, 6, none⟩ = some (.bool false) := (blk_cell BK2.out 6).trans rfl; have y7 : w3.cell? ⟨g2, 7, none⟩ = some (.int .i64 0) := (blk_cell BK2.out 7).trans rfl; have y8 : w3.cell? ⟨g2, 8, none⟩ = some (.string (⟨#[]⟩ : ByteArray)) := (blk_cell BK2.out 8).trans rfl; have y9 : w3.cell? ⟨g2, 9, none⟩ = some (.bool false) := (blk_cell BK2.out 9).trans rfl; have y10 : w3.cell? ⟨g2, 10, none⟩ = some (.int .i64 0) := (blk_cell BK2.out 10).trans rfl; have y11 : w3.cell? ⟨g2, 11, none⟩ = some (.bool false) := (blk_cell BK2.out 11).trans rfl; have y12 : w3.cell? ⟨g2, 12, none⟩ = some (.bool false) := (blk_cell BK2.out 12).trans rfl; have y13 : w3.cell? ⟨g2, 13, none⟩ = some (.int .i64 0) := (blk_cell BK2.out 13).trans rfl; have z0 := blk_frozen BK2.out 0; have z1 := blk_frozen BK2.out 1; have z2 := blk_frozen BK2.out 2; have z3 := blk_frozen BK2.out 3; have z4 := blk_frozen BK2.out 4; have z5 := blk_frozen BK2.out 5; have z6 := blk_frozen BK2.out 6; have z7 := blk_frozen BK2.out 7; have z8 := blk_frozen BK2.out 8; have z9 := blk_frozen BK2.out 9; have z10 := blk_frozen BK2.out 10; have z11 := blk_frozen BK2.out 11; have z12 := blk_frozen BK2.out 12; have z13 := blk_frozen BK2.out 13))
 refine bodyPost_ret (results_cell_row rfl _ _ g2 45 #[.bool b0, .slice A1 n1 c1, .slice A2 n2 c2, .slice A3 n3 c3, .int .i64 i4, .slice A5 n5 c5, .bool b6, .int .i64 i7, .string s8, .bool b9, .int .i64 i10, .bool b11, .bool b12, .int .i64 i13] (0, 0) _ rfl (by refine blk_put (cs := #[.bool b0, .slice A1 n1 c1, .slice A2 n2 c2, .slice A3 n3 c3, .int .i64 i4, .slice A5 n5 c5, .bool b6, .int .i64 i7, .string s8, .bool b9, .int .i64 i10, .bool b11, .bool b12, .int .i64 0]) ?_ 13 _ rfl; refine blk_put (cs := #[.bool b0, .slice A1 n1 c1, .slice A2 n2 c2, .slice A3 n3 c3, .int .i64 i4, .slice A5 n5 c5, .bool b6, .int .i64 i7, .string s8, .bool b9, .int .i64 i10, .bool b11, .bool false, .int .i64 0]) ?_ 12 _ rfl; refine blk_put (cs := #[.bool b0, .slice A1 n1 c1, .slice A2 n2 c2, .slice A3 n3 c3, .int .i64 i4, .slice A5 n5 c5, .bool b6, .int .i64 i7, .string s8, .bool b9, .int .i64 i10, .bool false, .bool false, .int .i64 0]) ?_ 11 _ rfl; refine blk_put (cs := #[.bool b0, .slice A1 n1 c1, .slice A2 n2 c2, .slice A3 n3 c3, .int .i64 i4, .slice A5 n5 c5, .bool b6, .int .i64 i7, .string s8, .bool b9, .int .i64 0, .bool false, .bool false, .int .i64 0]) ?_ 10 _ rfl; refine blk_put (cs := #[.bool b0, .slice A1 n1 c1, .slice A2 n2 c2, .slice A3 n3 c3, .int .i64 i4, .slice A5 n5 c5, .bool b6, .int .i64 i7, .string s8, .bool false, .int .i64 0, .bool false, .bool false, .int .i64 0]) ?_ 9 _ rfl; refine blk_put (cs := #[.bool b0, .slice A1 n1 c1, .slice A2 n2 c2, .slice A3 n3 c3, .int .i64 i4, .slice A5 n5 c5, .bool b6, .int .i64 i7, .string (⟨#[]⟩ : ByteArray), .bool false, .int .i64 0, .bool false, .bool false, .int .i64 0]) ?_ 8 _ rfl; refine blk_put (cs := #[.bool b0, .slice A1 n1 c1, .slice A2 n2 c2, .slice A3 n3 c3, .int .i64 i4, .slice A5 n5 c5, .bool b6, .int .i64 0, .string (⟨#[]⟩ : ByteArray), .bool false, .int .i64 0, .bool false, .bool false, .int .i64 0]) ?_ 7 _ rfl; refine blk_put (cs := #[.bool b0, .slice A1 n1 c1, .slice A2 n2 c2, .slice A3 n3 c3, .int .i64 i4, .slice A5 n5 c5, .bool false, .int .i64 0, .string (⟨#[]⟩ : ByteArray), .bool false, .int .i64 0, .bool false, .bool false, .int .i64 0]) ?_ 6 _ rfl; refine blk_put (cs := #[.bool b0, .slice A1 n1 c1, .slice A2 n2 c2, .slice A3 n3 c3, .int .i64 i4, .slice none 0 0, .bool false, .int .i64 0, .string (⟨#[]⟩ : ByteArray), .bool false, .int .i64 0, .bool false, .bool false, .int .i64 0]) ?_ 5 _ rfl; refine blk_put (cs := #[.bool b0, .slice A1 n1 c1, .slice A2 n2 c2, .slice A3 n3 c3, .int .i64 0, .slice none 0 0, .bool false, .int .i64 0, .string (⟨#[]⟩ : ByteArray), .bool false, .int .i64 0, .bool false, .bool false, .int .i64 0]) ?_ 4 _ rfl; refine blk_put (cs := #[.bool b0, .slice A1 n1 c1, .slice A2 n2 c2, .slice none 0 0, .int .i64 0, .slice none 0 0, .bool false, .int .i64 0, .string (⟨#[]⟩ : ByteArray), .bool false, .int .i64 0, .bool false, .bool false, .int .i64 0]) ?_ 3 _ rfl; refine blk_put (cs := #[.bool b0, .slice A1 n1 c1, .slice none 0 0, .slice none 0 0, .int .i64 0, .slice none 0 0, .bool false, .int .i64 0, .string (⟨#[]⟩ : ByteArray), .bool false, .int .i64 0, .bool false, .bool false, .int .i64 0]) ?_ 2 _ rfl; refine blk_put (cs := #[.bool b0, .slice none 0 0, .slice none 0 0, .slice none 0 0, .int .i64 0, .slice none 0 0, .bool false, .int .i64 0, .string (⟨#[]⟩ : ByteArray), .bool false, .int .i64 0, .bool false, .bool false, .int .i64 0]) ?_ 1 _ rfl; refine blk_put (cs := #[.bool false, .slice none 0 0, .slice none 0 0, .slice none 0 0, .int .i64 0, .slice none 0 0, .bool false, .int .i64 0, .string (⟨#[]⟩ : ByteArray), .bool false, .int .i64 0, .bool false, .bool false, .int .i64 0]) ?_ 0 _ rfl; exact BK2.out) hu45 rfl (by kernel_rfl)) rfl ?_
 refine ⟨rfl, ?_⟩
 have hG := G2.out
 exact below_set (below_set (below_set (below_set (below_set (below_set (below_set (below_set (below_set (below_set (below_set (below_set (below_set (below_set (HB2.out) hG) hG) hG) hG) hG) hG) hG) hG) hG) hG) hG) hG) hG) hG
attribute [local go_sem ↓ high] szJ
set_option maxHeartbeats 4000000 in
set_option maxRecDepth 100000 in
theorem sorts_walk {J : Array Value} (hJ : J.size = 14) (A : Option Addr) (c : Nat) (l : List It) (was s8 : List It8) (s : List It) (o : Bool) (wt : Int) (g : List Gr) (h : List Gr9) (W : World) (hr : Kd.C k38 W A l.length l) (hc : l.length ≤ c)
  (hwl : was.length < 1000000000000) (hsl : s.length < 1000000000000) (hgl : g.length < 1000000000000) (hgv : ∀ x ∈ g, x.f1.length < 1000000000000) (hgh : h.length = g.length) (hgs : ∀ i (h1 : i < g.length) (h2 : i < h.length), h[i].f0 = g[i].f0 ∧ h[i].f1 = g[i].f1)
  (hLi : ∀ W', Below W.heap.size W W' → Calls Tryz.prog 7 #[.agg J] W' fun e w' => e = .returned (.bool true) ∧ Below W'.heap.size W' w')
  (hFe : ∀ W', Below W.heap.size W W' → Calls Tryz.prog 8 #[.slice A l.length c] W' fun e w' => e = .returned (.bool true) ∧ Below W'.heap.size W' w')
  (hAl : ∀ W', Below W.heap.size W W' → Calls Tryz.prog 9 #[] W' fun e w' => e = .returned (.bool true) ∧ Below W'.heap.size W' w')
  (hIt : ∀ W', Below W.heap.size W W' → Calls Tryz.prog 13 #[.slice A l.length c] W' fun e w' => ∃ v, e = .returned v ∧ Kd.R k8 74 w' W'.heap.size (fun _ => True) v was ∧ Below W'.heap.size W' w')
  (hSo : ∀ W', Below W.heap.size W W' → Calls Tryz.prog 10 #[.agg J, .slice A l.length c] W' fun e w' => ∃ v, e = .returned v ∧ Kd.R k38 38 w' W'.heap.size (fun _ => True) v s ∧ Below W'.heap.size W' w')
  (hIs : ∀ W' A' c', Below W.heap.size W W' → Kd.C k38 W' A' s.length s → s.length ≤ c' → Calls Tryz.prog 13 #[.slice A' s.length c'] W' fun e w' => ∃ v, e = .returned v ∧ Kd.R k8 74 w' W'.heap.size (fun _ => True) v s8 ∧ Below W'.heap.size W' w')
  (hPl : ∀ W', Calls Tryz.prog 17 #[.agg J] W' fun e w' => e = .returned (.agg J) ∧ Below W'.heap.size W' w')
  (hRs : ∀ W' A' c', Below W.heap.size W W' → Kd.C k8 W' A' was.length was → was.length ≤ c' → Calls Tryz.prog 16 #[.agg J, .slice A' was.length c'] W' fun e w' => ∃ v, e = .returned v ∧ Kd.R k8 74 w' W'.heap.size (fun _ => True) v s8 ∧ Below W'.heap.size W' w')
  (hSm : ∀ W' A1 c1 A2 c2 (a : List It8), a = s8 ∨ a = was → Below W.heap.size W W' → Kd.C k8 W' A1 a.length a → a.length ≤ c1 → Kd.C k8 W' A2 a.length a → a.length ≤ c2 → Calls Tryz.prog 12 #[.slice A1 a.length c1, .slice A2 a.length c2] W' fun e w' => e = .returned (.bool true) ∧ Below W'.heap.size W' w')
  (hIn : ∀ W', Below W.heap.size W W' → Calls Tryz.prog 11 #[.agg J, .slice A l.length c] W' fun e w' => e = .returned (.bool o) ∧ Below W'.heap.size W' w')
  (hRi : ∀ W' A' c', Below W.heap.size W W' → Kd.C k8 W' A' was.length was → was.length ≤ c' → Calls Tryz.prog 18 #[.agg J, .slice A' was.length c'] W' fun e w' => e = .returned (.bool o) ∧ Below W'.heap.size W' w')
  (hWe : ∀ W', Below W.heap.size W W' → Calls Tryz.prog 19 #[.slice A l.length c] W' fun e w' => e = .returned (.int .i64 wt) ∧ Below W'.heap.size W' w')
  (hRw : ∀ W' A' c', Below W.heap.size W W' → Kd.C k8 W' A' was.length was → was.length ≤ c' → Calls Tryz.prog 20 #[.slice A' was.length c'] W' fun e w' => e = .returned (.int .i64 wt) ∧ Below W'.heap.size W' w')
  (hGr : ∀ W', Below W.heap.size W W' → Calls Tryz.prog 15 #[.agg J, .slice A l.length c] W' fun e w' => ∃ v, e = .returned v ∧ Kd.S k43 43 w' W'.heap.size (fun _ => True) v g ∧ Below W'.heap.size W' w')
  (hRg : ∀ W' A' c', Below W.heap.size W W' → Kd.C k8 W' A' was.length was → was.length ≤ c' → Calls Tryz.prog 21 #[.slice A' was.length c'] W' fun e w' => ∃ v, e = .returned v ∧ Kd.S k52 52 w' W'.heap.size (fun _ => True) v h ∧ Below W'.heap.size W' w') :
  Calls Tryz.prog 4 #[.agg J, .slice A l.length c] W fun e w' => e = .returned (.bool true) ∧ Below W.heap.size W w' := by
 have HB := Lib.hid (below_alloc (Below.refl W.heap.size W) (.cells J 26))
 have HJ := Lib.hid (blk_new W (.cells J 26))
 have L := load_job hJ HJ.out
 have GL := Lib.hid hgl; have GV := Lib.hid hgv; have GH := Lib.hid hgh; have GS_ := Lib.hid hgs; have WL := Lib.hid hwl; have SL := Lib.hid hsl; have HR := Lib.hid hr
 have CLi := Lib.hid hLi; have CFe := Lib.hid hFe; have CAl := Lib.hid hAl; have CIt := Lib.hid hIt; have CSo := Lib.hid hSo; have CIs := Lib.hid hIs; have CPl := Lib.hid hPl; have CRs := Lib.hid hRs; have CSm := Lib.hid hSm; have CIn := Lib.hid hIn; have CRi := Lib.hid hRi; have CWe := Lib.hid hWe; have CRw := Lib.hid hRw; have CGr := Lib.hid hGr; have CRg := Lib.hid hRg
 clear hLi hFe hAl hIt hSo hIs hPl hRs hSm hIn hRi hWe hRw hGr hRg hgl hgv hgh hgs hwl hsl hr
 go_enter Tryz.func4, Tryz.ntmps4
 go_upto_region 4 with (first
  | (go_at_call 7; refine (CLi.out _ HB.out).mono ?_; rintro e w1 ⟨rfl, hb⟩; (have n0 := Lib.hid (HB.out.trans (hb.mono HB.out.size)); have n1 := Lib.hid ((hb.block _ (blk_lt HJ.out)).trans HJ.out); (try have n2 := Lib.hid (Kd.C_below HW.out hb)); (try have n3 := Lib.hid (Kd.C_below HSa.out hb)); clear HB HJ; (try clear HW); (try clear HSa); have HB := n0; have HJ := n1; (try have HW := n2); (try have HSa := n3); clear n0 n1; (try clear n2); (try clear n3); (try clear L); have L := load_job hJ HJ.out; clear hb))
  | (go_at_call 8; refine (CFe.out _ HB.out).mono ?_; rintro e w2 ⟨rfl, hb⟩; (have n0 := Lib.hid (HB.out.trans (hb.mono HB.out.size)); have n1 := Lib.hid ((hb.block _ (blk_lt HJ.out)).trans HJ.out); (try have n2 := Lib.hid (Kd.C_below HW.out hb)); (try have n3 := Lib.hid (Kd.C_below HSa.out hb)); clear HB HJ; (try clear HW); (try clear HSa); have HB := n0; have HJ := n1; (try have HW := n2); (try have HSa := n3); clear n0 n1; (try clear n2); (try clear n3); (try clear L); have L := load_job hJ HJ.out; clear hb))
  | (go_at_call 13; refine (CIt.out _ HB.out).mono ?_; rintro e w3 ⟨v, rfl, hR, hb⟩; (have n0 := Lib.hid (HB.out.trans (hb.mono HB.out.size)); have n1 := Lib.hid ((hb.block _ (blk_lt HJ.out)).trans HJ.out); (try have n2 := Lib.hid (Kd.C_below HW.out hb)); (try have n3 := Lib.hid (Kd.C_below HSa.out hb)); clear HB HJ; (try clear HW); (try clear HSa); have HB := n0; have HJ := n1; (try have HW := n2); (try have HSa := n3); clear n0 n1; (try clear n2); (try clear n3); (try clear L); have L := load_job hJ HJ.out; clear hb); obtain ⟨Aw, cw, rfl⟩ := Kd.R_slice hR; have hRR := Kd.R_reads' hR; have HWc := Lib.hid hRR.2.1; have HW := Lib.hid hRR.2.2; clear hR hRR))
 have HB4 := Lib.hid (below_drew1 HB.out); have HJ4 := Lib.hid (blk_drew HJ.out); have HW4 := Lib.hid (Kd.C_drew HW.out)
 clear HB HJ HW L
 have HB := HB4; have HJ := HJ4; have HW := HW4
 clear HB4 HJ4 HW4
 have L := load_job hJ HJ.out
 go_region_held3 (fun w' => Sem.run Tryz.prog (loadCellsFrom ⟨W.heap.size, 0, none⟩ 0 kJ #[]) w' = .ok J w')
  (first | assumption | go_keep)
  (first
   | (go_at_call 10; refine (CSo.out _ HB.out).mono ?_; rintro e w4 ⟨v, rfl, hR, hb⟩; (have n0 := Lib.hid (HB.out.trans (hb.mono HB.out.size)); have n1 := Lib.hid ((hb.block _ (blk_lt HJ.out)).trans HJ.out); (try have n2 := Lib.hid (Kd.C_below HW.out hb)); (try have n3 := Lib.hid (Kd.C_below HSa.out hb)); clear HB HJ; (try clear HW); (try clear HSa); have HB := n0; have HJ := n1; (try have HW := n2); (try have HSa := n3); clear n0 n1; (try clear n2); (try clear n3); (try clear L); have L := load_job hJ HJ.out; clear hb); obtain ⟨As, cs, rfl⟩ := Kd.R_slice hR; have HS := Lib.hid (Kd.R_reads' hR); clear hR)
   | (go_at_call 13; refine (CIs.out _ _ _ HB.out HS.out.2.2 HS.out.2.1).mono ?_; rintro e w5 ⟨v, rfl, hR, hb⟩; (have n0 := Lib.hid (HB.out.trans (hb.mono HB.out.size)); have n1 := Lib.hid ((hb.block _ (blk_lt HJ.out)).trans HJ.out); (try have n2 := Lib.hid (Kd.C_below HW.out hb)); (try have n3 := Lib.hid (Kd.C_below HSa.out hb)); clear HB HJ; (try clear HW); (try clear HSa); have HB := n0; have HJ := n1; (try have HW := n2); (try have HSa := n3); clear n0 n1; (try clear n2); (try clear n3); (try clear L); have L := load_job hJ HJ.out; clear hb); obtain ⟨Aa, ca, rfl⟩ := Kd.R_slice hR; have hRR := Kd.R_reads' hR; have HSc := Lib.hid hRR.2.1; have HSa := Lib.hid hRR.2.2; clear hR hRR HS)
   | (go_at_call 17; refine (CPl.out _).mono ?_; rintro e w6 ⟨rfl, hb⟩; (have n0 := Lib.hid (HB.out.trans (hb.mono HB.out.size)); have n1 := Lib.hid ((hb.block _ (blk_lt HJ.out)).trans HJ.out); (try have n2 := Lib.hid (Kd.C_below HW.out hb)); (try have n3 := Lib.hid (Kd.C_below HSa.out hb)); clear HB HJ; (try clear HW); (try clear HSa); have HB := n0; have HJ := n1; (try have HW := n2); (try have HSa := n3); clear n0 n1; (try clear n2); (try clear n3); (try clear L); have L := load_job hJ HJ.out; clear hb))
   | (go_at_call 16; refine (CRs.out _ _ _ HB.out HW.out HWc.out).mono ?_; rintro e w7 ⟨v, rfl, hR, hb⟩; (have n0 := Lib.hid (HB.out.trans (hb.mono HB.out.size)); have n1 := Lib.hid ((hb.block _ (blk_lt HJ.out)).trans HJ.out); (try have n2 := Lib.hid (Kd.C_below HW.out hb)); (try have n3 := Lib.hid (Kd.C_below HSa.out hb)); clear HB HJ; (try clear HW); (try clear HSa); have HB := n0; have HJ := n1; (try have HW := n2); (try have HSa := n3); clear n0 n1; (try clear n2); (try clear n3); (try clear L); have L := load_job hJ HJ.out; clear hb); obtain ⟨Ar, cr, rfl⟩ := Kd.R_slice hR; have HRS := Lib.hid (Kd.R_reads' hR); clear hR)
   | (go_at_call 12; refine (CSm.out _ _ _ _ _ s8 (Or.inl rfl) HB.out HSa.out HSc.out HRS.out.2.2 HRS.out.2.1).mono ?_; rintro e w8 ⟨rfl, hb⟩; (have n0 := Lib.hid (HB.out.trans (hb.mono HB.out.size)); have n1 := Lib.hid ((hb.block _ (blk_lt HJ.out)).trans HJ.out); (try have n2 := Lib.hid (Kd.C_below HW.out hb)); (try have n3 := Lib.hid (Kd.C_below HSa.out hb)); clear HB HJ; (try clear HW); (try clear HSa); have HB := n0; have HJ := n1; (try have HW := n2); (try have HSa := n3); clear n0 n1; (try clear n2); (try clear n3); (try clear L); have L := load_job hJ HJ.out; clear hb); clear HSa HSc HRS)
   | (go_at_call 11; refine (CIn.out _ HB.out).mono ?_; rintro e w9 ⟨rfl, hb⟩; (have n0 := Lib.hid (HB.out.trans (hb.mono HB.out.size)); have n1 := Lib.hid ((hb.block _ (blk_lt HJ.out)).trans HJ.out); (try have n2 := Lib.hid (Kd.C_below HW.out hb)); (try have n3 := Lib.hid (Kd.C_below HSa.out hb)); clear HB HJ; (try clear HW); (try clear HSa); have HB := n0; have HJ := n1; (try have HW := n2); (try have HSa := n3); clear n0 n1; (try clear n2); (try clear n3); (try clear L); have L := load_job hJ HJ.out; clear hb))
   | (go_at_call 18; refine (CRi.out _ _ _ HB.out HW.out HWc.out).mono ?_; rintro e w10 ⟨rfl, hb⟩; (have n0 := Lib.hid (HB.out.trans (hb.mono HB.out.size)); have n1 := Lib.hid ((hb.block _ (blk_lt HJ.out)).trans HJ.out); (try have n2 := Lib.hid (Kd.C_below HW.out hb)); (try have n3 := Lib.hid (Kd.C_below HSa.out hb)); clear HB HJ; (try clear HW); (try clear HSa); have HB := n0; have HJ := n1; (try have HW := n2); (try have HSa := n3); clear n0 n1; (try clear n2); (try clear n3); (try clear L); have L := load_job hJ HJ.out; clear hb))
   | (go_at_call 19; refine (CWe.out _ HB.out).mono ?_; rintro e w11 ⟨rfl, hb⟩; (have n0 := Lib.hid (HB.out.trans (hb.mono HB.out.size)); have n1 := Lib.hid ((hb.block _ (blk_lt HJ.out)).trans HJ.out); (try have n2 := Lib.hid (Kd.C_below HW.out hb)); (try have n3 := Lib.hid (Kd.C_below HSa.out hb)); clear HB HJ; (try clear HW); (try clear HSa); have HB := n0; have HJ := n1; (try have HW := n2); (try have HSa := n3); clear n0 n1; (try clear n2); (try clear n3); (try clear L); have L := load_job hJ HJ.out; clear hb))
   | (go_at_call 20; refine (CRw.out _ _ _ HB.out HW.out HWc.out).mono ?_; rintro e w12 ⟨rfl, hb⟩; (have n0 := Lib.hid (HB.out.trans (hb.mono HB.out.size)); have n1 := Lib.hid ((hb.block _ (blk_lt HJ.out)).trans HJ.out); (try have n2 := Lib.hid (Kd.C_below HW.out hb)); (try have n3 := Lib.hid (Kd.C_below HSa.out hb)); clear HB HJ; (try clear HW); (try clear HSa); have HB := n0; have HJ := n1; (try have HW := n2); (try have HSa := n3); clear n0 n1; (try clear n2); (try clear n3); (try clear L); have L := load_job hJ HJ.out; clear hb)))
 go_upto_region 6 with (first
  | (go_at_call 15; refine (CGr.out _ HB.out).mono ?_; rintro e w13 ⟨v, rfl, hR, hb⟩; (have n0 := Lib.hid (HB.out.trans (hb.mono HB.out.size)); have n1 := Lib.hid ((hb.block _ (blk_lt HJ.out)).trans HJ.out); (try have n2 := Lib.hid (Kd.C_below HW.out hb)); (try have n3 := Lib.hid (Kd.C_below HSa.out hb)); clear HB HJ; (try clear HW); (try clear HSa); have HB := n0; have HJ := n1; (try have HW := n2); (try have HSa := n3); clear n0 n1; (try clear n2); (try clear n3); (try clear L); have L := load_job hJ HJ.out; clear hb); obtain ⟨Ag, cg, rfl⟩ := Kd.S_slice hR; have HG := Lib.hid (Kd.S_reads' hR).2.2; clear hR)
  | (go_at_call 21; refine (CRg.out _ _ _ HB.out HW.out HWc.out).mono ?_; rintro e w14 ⟨v, rfl, hR, hb⟩; have HG2 := Lib.hid (Kd.C_below HG.out hb); clear HG; have HG := HG2; clear HG2; (have n0 := Lib.hid (HB.out.trans (hb.mono HB.out.size)); have n1 := Lib.hid ((hb.block _ (blk_lt HJ.out)).trans HJ.out); (try have n2 := Lib.hid (Kd.C_below HW.out hb)); (try have n3 := Lib.hid (Kd.C_below HSa.out hb)); clear HB HJ; (try clear HW); (try clear HSa); have HB := n0; have HJ := n1; (try have HW := n2); (try have HSa := n3); clear n0 n1; (try clear n2); (try clear n3); (try clear L); have L := load_job hJ HJ.out; clear hb); obtain ⟨Ah, ch, rfl⟩ := Kd.S_slice hR; have HH := Lib.hid (Kd.S_reads' hR).2.2; clear hR))
 rw [GH.out]
 have hu24 := Tryz.underlying24
 clear L
 go_wp2
 go_loopg [9] g.length (fun kx s9 wr => ∃ i : Nat, s9 = .int .i64 i ∧ i ≤ g.length ∧ g.length - i ≤ kx ∧ Aside (Below W.heap.size W wr) ∧ Aside (Kd.C k43 wr Ag g.length g) ∧ Aside (Kd.C k52 wr Ah h.length h) ∧ Aside (Kd.C k8 wr Aw was.length was))
 case atStart => exact ⟨0, rfl, Nat.zero_le _, Nat.le_refl _, HB.out, HG.out, HH.out, HW.out⟩
 case round =>
  clear HB HG HH HW HJ
  obtain ⟨i, rfl, hil, hik, HB, HG, HH, HW⟩ := hrel
  by_cases hlt : i < g.length
  ·have hltz : (i : Int) < (g.length : Int) := by omega
   have hi0 : ¬ ((i : Int) < 0) := by omega
   have hlh : i < h.length := by have := GH.out; omega
   obtain ⟨ag, A1, c1, rfl, g0, g1, gc, gC⟩ := at_T43 HG.out (i : Int) (by omega) hltz
   obtain ⟨ah, B1, d1, rfl, h0, h1, hdc, hC⟩ := at_T52 HH.out (i : Int) (by omega) (by omega)
   obtain ⟨e0, e1⟩ := GS_.out i hlt hlh
   have rg : rd_T43 g (i : Int) = g[i] := by unfold rd_T43; rw [Int.toNat_natCast, List.getD_eq_getElem?_getD, List.getElem?_eq_getElem hlt]; rfl
   have rh : rd_T52 h (i : Int) = h[i] := by unfold rd_T52; rw [Int.toNat_natCast, List.getD_eq_getElem?_getD, List.getElem?_eq_getElem hlh]; rfl
   rw [rg] at g0 g1 gc gC
   rw [rh, e0] at h0
   rw [rh, e1] at h1 hdc hC
   rw [Int.toNat_natCast] at g0 g1 h0 h1
   have hvl := GV.out g[i] (List.getElem_mem hlt)
   clear rg rh e0 e1
   generalize hvs : g[i].f1 = vs at *
   generalize hks : g[i].f0 = ks at *
   have GC := Lib.hid gC; have HC := Lib.hid hC; have HVL := Lib.hid hvl
   clear gC hC gc hdc hvl
   go_wp2_with fail
   go_big_region
   have HB2 := Lib.hid (below_drew1 HB.out); have HG2 := Lib.hid (Kd.C_drew HG.out); have HH2 := Lib.hid (Kd.C_drew HH.out); have HW2 := Lib.hid (Kd.C_drew HW.out); have GC2 := Lib.hid (Kd.C_drew GC.out); have HC2 := Lib.hid (Kd.C_drew HC.out)
   have G1 : Hid (wr.drew.cell? _ = some _) := g1
   have H1 : Hid (wr.drew.cell? _ = some _) := h1
   clear HB HG HH HW GC HC g0 g1 h0 h1
   go_wp2_with fail
   go_loopg [10] vs.length (fun kx s10 w2 => ∃ q : Nat, s10 = .int .i64 q ∧ q ≤ vs.length ∧ vs.length - q ≤ kx ∧ Aside (Below W.heap.size W w2) ∧ Aside (Kd.C k43 w2 (some ag) g.length g) ∧ Aside (Kd.C k52 w2 (some ah) h.length h) ∧ Aside (Kd.C k8 w2 Aw was.length was) ∧ Aside (Kd.C k24 w2 A1 vs.length vs) ∧ Aside (Kd.C k24 w2 B1 vs.length vs) ∧ Aside (w2.cell? ⟨(ag.add (i * 2)).block, (ag.add (i * 2)).off + 1, none⟩ = some (.slice A1 vs.length c1)) ∧ Aside (w2.cell? ⟨(ah.add (i * 2)).block, (ah.add (i * 2)).off + 1, none⟩ = some (.slice B1 vs.length d1)))
   case atStart => exact ⟨0, rfl, Nat.zero_le _, Nat.le_refl _, HB2.out, HG2.out, HH2.out, HW2.out, GC2.out, HC2.out, G1.out, H1.out⟩
   case round =>
    clear HB2 HG2 HH2 HW2 GC2 HC2 G1 H1
    obtain ⟨q, rfl, hql, hqk, HB, HG, HH, HW, GC, HC, G1, H1⟩ := hrel
    have g1 := G1.out
    have h1 := H1.out
    by_cases hqt : q < vs.length
    ·have hqtz : (q : Int) < (vs.length : Int) := by omega
     have hq0 : ¬ ((q : Int) < 0) := by omega
     obtain ⟨av, rfl, a0, a1, a2⟩ := at_T24 GC.out (q : Int) (by omega) hqtz
     obtain ⟨bv, rfl, b0, b1, b2⟩ := at_T24 HC.out (q : Int) (by omega) hqtz
     rw [Int.toNat_natCast] at a0 a1 a2 b0 b1 b2
     generalize rd_T24 vs (q : Int) = rv at *
     go_wp2_with fail
     go_big_region
     have n0 := Lib.hid (below_drew1 HB.out); have n1 := Lib.hid (Kd.C_drew HG.out); have n2 := Lib.hid (Kd.C_drew HH.out); have n3 := Lib.hid (Kd.C_drew HW.out); have n4 := Lib.hid (Kd.C_drew GC.out); have n5 := Lib.hid (Kd.C_drew HC.out)
     have hVL := HVL.out
     clear a0 a1 a2 b0 b1 b2 HB HG HH HW GC HC g1 h1
     go_wp2_with fail
     go_roundg (vs.length - (q + 1))
     case measure => omega
     case rel => exact ⟨q + 1, by go_num, by omega, Nat.le_refl _, n0, n1, n2, n3, n4, n5, G1.out, H1.out⟩
    ·obtain rfl : q = vs.length := by omega
     have hqtz : ¬ ((vs.length : Nat) : Int) < (vs.length : Int) := by omega
     have hVL := HVL.out
     have hGL := GL.out
     go_wp2_with fail
     go_roundg (g.length - (i + 1))
     case measure => omega
     case rel => exact ⟨i + 1, by go_num, by omega, Nat.le_refl _, HB, HG, HH, HW⟩
  ·obtain rfl : i = g.length := by omega
   have hltz : ¬ ((g.length : Nat) : Int) < (g.length : Int) := by omega
   go_wp2_with (first
    | (go_at_call 9; refine (CAl.out _ HB.out).mono ?_; rintro e w15 ⟨rfl, hb⟩; (have n0 := Lib.hid (HB.out.trans (hb.mono HB.out.size)); have n2 := Lib.hid (Kd.C_below HW.out hb); clear HB HW; have HB := n0; have HW := n2; clear n0 n2 hb))
    | (go_at_call 13; refine (CIt.out _ HB.out).mono ?_; rintro e w16 ⟨v, rfl, hR, hb⟩; (have n0 := Lib.hid (HB.out.trans (hb.mono HB.out.size)); have n2 := Lib.hid (Kd.C_below HW.out hb); clear HB HW; have HB := n0; have HW := n2; clear n0 n2 hb); obtain ⟨Ai, ci, rfl⟩ := Kd.R_slice hR; have HI := Lib.hid (Kd.R_reads' hR); clear hR)
    | (go_at_call 12; refine (CSm.out _ _ _ _ _ was (Or.inr rfl) HB.out HI.out.2.2 HI.out.2.1 HW.out HWc.out).mono ?_; rintro e w17 ⟨rfl, hb⟩; (have n0 := Lib.hid (HB.out.trans (hb.mono HB.out.size)); have n2 := Lib.hid (Kd.C_below HW.out hb); clear HB HW; have HB := n0; have HW := n2; clear n0 n2 hb)))
   go_ret
   exact ⟨rfl, HB.out⟩
set_option maxHeartbeats 1000000 in
set_option maxRecDepth 100000 in
theorem sorts_dead1 {J : Array Value} (hJ : J.size = 14) (v : Value) (W : World)
  (hLi : ∀ W', Below W.heap.size W W' → Calls Tryz.prog 7 #[.agg J] W' fun e w' => e = .returned (.bool false) ∧ Below W'.heap.size W' w')
  (hAl : ∀ W', Below W.heap.size W W' → Calls Tryz.prog 9 #[] W' fun e w' => e = .returned (.bool true) ∧ Below W'.heap.size W' w') :
  Calls Tryz.prog 4 #[.agg J, v] W fun e w' => e = .returned (.bool true) ∧ Below W.heap.size W w' := by
 have HB := Lib.hid (below_alloc (Below.refl W.heap.size W) (.cells J 26))
 have HJ := Lib.hid (blk_new W (.cells J 26))
 have L := load_job hJ HJ.out
 have CLi := Lib.hid hLi; have CAl := Lib.hid hAl
 clear hLi hAl
 go_enter Tryz.func4, Tryz.ntmps4
 go_wp2_with (first
  | (go_at_call 7; refine (CLi.out _ HB.out).mono ?_; rintro e w1 ⟨rfl, hb⟩; have HB1 := Lib.hid (HB.out.trans (hb.mono HB.out.size)); clear hb)
  | (go_at_call 9; refine (CAl.out _ HB1.out).mono ?_; rintro e w2 ⟨rfl, hb⟩; have HB2 := Lib.hid (HB1.out.trans (hb.mono HB1.out.size)); clear hb))
 go_ret
 exact ⟨rfl, HB2.out⟩
set_option maxHeartbeats 1000000 in
set_option maxRecDepth 100000 in
theorem sorts_dead2 {J : Array Value} (hJ : J.size = 14) (v : Value) (W : World)
  (hLi : ∀ W', Below W.heap.size W W' → Calls Tryz.prog 7 #[.agg J] W' fun e w' => e = .returned (.bool true) ∧ Below W'.heap.size W' w')
  (hFe : ∀ W', Below W.heap.size W W' → Calls Tryz.prog 8 #[v] W' fun e w' => e = .returned (.bool false) ∧ Below W'.heap.size W' w')
  (hAl : ∀ W', Below W.heap.size W W' → Calls Tryz.prog 9 #[] W' fun e w' => e = .returned (.bool true) ∧ Below W'.heap.size W' w') :
  Calls Tryz.prog 4 #[.agg J, v] W fun e w' => e = .returned (.bool true) ∧ Below W.heap.size W w' := by
 have HB := Lib.hid (below_alloc (Below.refl W.heap.size W) (.cells J 26))
 have HJ := Lib.hid (blk_new W (.cells J 26))
 have L := load_job hJ HJ.out
 have CLi := Lib.hid hLi; have CFe := Lib.hid hFe; have CAl := Lib.hid hAl
 clear hLi hFe hAl
 go_enter Tryz.func4, Tryz.ntmps4
 go_wp2_with (first
  | (go_at_call 7; refine (CLi.out _ HB.out).mono ?_; rintro e w1 ⟨rfl, hb⟩; have HB1 := Lib.hid (HB.out.trans (hb.mono HB.out.size)); clear hb)
  | (go_at_call 8; refine (CFe.out _ HB1.out).mono ?_; rintro e w2 ⟨rfl, hb⟩; have HB2 := Lib.hid (HB1.out.trans (hb.mono HB1.out.size)); clear hb)
  | (go_at_call 9; refine (CAl.out _ HB2.out).mono ?_; rintro e w3 ⟨rfl, hb⟩; have HB3 := Lib.hid (HB2.out.trans (hb.mono HB2.out.size)); clear hb))
 go_ret
 exact ⟨rfl, HB3.out⟩
def encV (v : S24) : Bool × Int × ByteArray := (v.f0, v.f1, v.f2)
def encR (x : It8) : ByteArray × Bool × Int × ByteArray := (x.f0, encV x.f1)
def encG (x : Gr) : ByteArray × List (Bool × Int × ByteArray) := (x.f0, x.f1.map encV)
def encH (x : Gr9) : ByteArray × List (Bool × Int × ByteArray) := (x.f0, x.f1.map encV)
theorem encV_inj : ∀ a b, encV a = encV b → a = b := fun ⟨_, _, _⟩ ⟨_, _, _⟩ h => by simp only [encV, Prod.mk.injEq] at h; obtain ⟨rfl, rfl, rfl⟩ := h; rfl
theorem encR_inj : ∀ a b, encR a = encR b → a = b := fun ⟨_, a⟩ ⟨_, b⟩ h => by simp only [encR, Prod.mk.injEq] at h; obtain ⟨rfl, h⟩ := h; rw [encV_inj a b h]
theorem encs_inj {α β : Type} {f : α → β} (hf : ∀ a b, f a = f b → a = b) : ∀ l l' : List α, l.map f = l'.map f → l = l'
 | [], [], _ => rfl
 | [], _ :: _, h => by simp at h
 | _ :: _, [], h => by simp at h
 | a :: l, b :: l', h => by
  simp only [List.map_cons, List.cons.injEq] at h
  rw [hf a b h.1, encs_inj hf l l' h.2]
theorem encs_groups {g : List Gr} {h : List Gr9} (e : h.map encH = g.map encG) : h.length = g.length ∧ ∀ i (h1 : i < g.length) (h2 : i < h.length), h[i].f0 = g[i].f0 ∧ h[i].f1 = g[i].f1 := by
 refine ⟨by have := congrArg List.length e; simpa using this, fun i h1 h2 => ?_⟩
 have q : (h.map encH)[i]? = (g.map encG)[i]? := by rw [e]
 rw [List.getElem?_map, List.getElem?_map, List.getElem?_eq_getElem h1, List.getElem?_eq_getElem h2] at q
 have q := Option.some.inj q
 simp only [encH, encG, Prod.mk.injEq] at q
 exact ⟨q.1, encs_inj encV_inj _ _ q.2⟩
end Go.Proofs.YtebofnoljebakaaGreatDoor.XSort
