/- SorterNil, walked. -/
import Derived.Test.YtebofnoljebakaaGreatDoorXSC
set_option linter.unusedVariables false
set_option linter.unusedSimpArgs false
set_option linter.unusedSectionVars false
namespace Go.Proofs.YtebofnoljebakaaGreatDoor.XSort
open Go.RowKit Go.Lib Go.Sort Go.Proofs.YtebofnoljebakaaGreatDoor.Stb Go.Proofs Go.Proofs.YtebofnoljebakaaGreatDoorW.PrintWords Go.Proofs.YtebofnoljebakaaGreatDoorW.PrintLast Go.Proofs.YtebofnoljebakaaGreatDoorW.PrintMore Go.Proofs.YtebofnoljebakaaGreatDoor.PX
set_option maxHeartbeats 1000000 in
set_option maxRecDepth 100000 in
theorem nil_walk (v0 v1 v2 v3 : Value) (W : World)
  (hal : ∀ W', Below W.heap.size W W' → Calls Tryz.prog 9 #[] W' fun e w' => e = .returned (.bool true) ∧ Below W'.heap.size W' w') :
  Calls Tryz.prog 5 #[.agg #[v0, v1, v2, v3]] W fun e w' => e = .returned (.bool true) ∧ Below W.heap.size W w' := by
 have hb0 := below_alloc (Below.refl W.heap.size W) (.cells #[v0, v1, v2, v3] 38)
 have hbx := blk_new W (.cells #[v0, v1, v2, v3] 38)
 have hal1 := hal _ hb0
 have HB0 := Lib.hid hb0
 have HA := Lib.hid hal
 clear hal hb0
 go_enter Tryz.func5, Tryz.ntmps5
 go_wp2_with (first
  | (go_at_call 9; refine hal1.mono ?_; rintro e w1 ⟨rfl, hb⟩; have hx := (hb.block W.heap.size (by simp)).trans hbx; have y0 := (blk_cell hx 0).trans rfl; have y1 := (blk_cell hx 1).trans rfl; have y2 := (blk_cell hx 2).trans rfl; have y3 := (blk_cell hx 3).trans rfl; have HB1 : Aside (Below W.heap.size W w1) := HB0.out.trans (hb.mono HB0.out.size); clear hb hx)
  | (go_at_call 22; refine (add_nil _ _).mono ?_; rintro e w2 ⟨rfl, hb⟩; have HB2 : Aside (Below W.heap.size W w2) := HB1.out.trans (hb.mono HB1.out.size); clear hb)
  | (go_at_call 23; refine (flush_nil _).mono ?_; rintro e w3 ⟨rfl, hb⟩; have HB3 : Aside (Below W.heap.size W w3) := HB2.out.trans (hb.mono HB2.out.size); clear hb)
  | (go_at_call 24; refine (held_nil _).mono ?_; rintro e w4 ⟨rfl, hb⟩; have HB4 : Aside (Below W.heap.size W w4) := HB3.out.trans (hb.mono HB3.out.size); clear hb))
 go_ret
 exact ⟨rfl, HB4.out⟩
end Go.Proofs.YtebofnoljebakaaGreatDoor.XSort
