/- The pure statement of ValueOrder. -/
import Derived.Test.YtmkkbkbfhjndcaaDoorPXx
import Derived.Test.YtmkkbkbfhjndcaaDoorLVal
set_option linter.unusedVariables false
set_option linter.unusedSimpArgs false
namespace Go.Proofs.YtmkkbkbfhjndcaaDoor.Pure
open Go.RowKit Go.Proofs Go.Proofs.YtmkkbkbfhjndcaaDoor Go.Proofs.YtmkkbkbfhjndcaaDoor.PX Go.Proofs.YtmkkbkbfhjndcaaDoorW.PrintWords Go.Proofs.YtmkkbkbfhjndcaaDoorL
theorem order_last (x y z : XOps.Sv) (hx : XOps.isValB x = true) (hy : XOps.isValB y = true) (hs : x.f2.size ≤ 140737488351232) :
    Ev (fun k => threshinglaw13_ValueOrder.j1 k (cmpV x y) false x.f0 x.f1 x.f2 y.f0 y.f1 y.f2 z.f0 z.f1 z.f2) true := by
  refine Ev.succ ?_
  simp only [threshinglaw13_ValueOrder.j1, Bool.false_eq_true, if_false]
  refine Ev.bind (do_less x y hx hy) ?_
  by_cases e : x.f0 = y.f0
  · simp only [if_pos e, if_neg (show ¬ (x.f0 != y.f0) = true by simp [e])]
    refine Ev.bind alive_ ?_
    have hc : ((if cmpV x y < 0 then (1 : Int) else 0) == 1) == decide (cmpV x y < 0) := by
      by_cases c : cmpV x y < 0 <;> simp [c]
    simp only [if_true, hc]
    obtain ⟨r, hr, h0, h1⟩ := hash_ x.f2 hs
    refine Ev.bind hr ?_
    simp only [if_pos (show r ≥ 0 from h0)]
    refine Ev.bind hr ?_
    exact Ev.ret (by simp; omega)
  · simp only [if_neg e, if_pos (show (x.f0 != y.f0) = true by simp [e])]
    refine Ev.bind alive_ ?_
    simp only [if_true]
    exact Ev.ret (by decide)
theorem order_all (x y z : XOps.Sv) (hx : XOps.isValB x = true) (hy : XOps.isValB y = true) (hs : x.f2.size ≤ 140737488351232) :
    Ev (fun k => threshinglaw13_ValueOrder.j0 k false x.f0 x.f1 x.f2 y.f0 y.f1 y.f2 z.f0 z.f1 z.f2) true := by
  refine Ev.succ ?_
  simp only [threshinglaw13_ValueOrder.j0, Bool.false_eq_true, if_false]
  refine Ev.bind (compare x y) ?_
  refine Ev.bind (compare y z) ?_
  refine Ev.bind (compare x z) ?_
  refine Ev.bind (compare y x) ?_
  have hb := cmpV_bound x y
  have hn : cmpV y x = wrap64 (-cmpV x y) := by rw [cmpV_neg, wrap_id (by omega) (by omega)]
  have hz : ((cmpV x y == 0) != (x.f0 == y.f0 && (x.f1 == y.f1 && (x.f2.toList == y.f2.toList)))) = false := by
    have h := cmpV_zero x y
    have hq : (x.f0 == y.f0 && (x.f1 == y.f1 && (x.f2.toList == y.f2.toList))) = decide (cmpV x y = 0) := by
      rw [Bool.eq_iff_iff]
      simp only [Bool.and_eq_true, beq_iff_eq, decide_eq_true_eq, h, toList_inj]
    rw [hq]
    by_cases c : cmpV x y = 0 <;> simp [c]
  simp only [if_pos hn, hz, Bool.false_eq_true, if_false]
  by_cases c : cmpV x y < 0
  · simp only [if_pos c]
    by_cases d : cmpV y z < 0
    · have ht := cmpV_trans c d
      simp only [if_pos d, decide_eq_false (show ¬ cmpV x z ≥ 0 by omega)]
      exact order_last x y z hx hy hs
    · simp only [if_neg d]
      exact order_last x y z hx hy hs
  · simp only [if_neg c]
    exact order_last x y z hx hy hs
theorem order_alive (x y z : XOps.Sv) : Ev (fun k => threshinglaw13_ValueOrder.j0 k true x.f0 x.f1 x.f2 y.f0 y.f1 y.f2 z.f0 z.f1 z.f2) true := by
  refine Ev.succ ?_
  simp only [threshinglaw13_ValueOrder.j0, if_true]
  refine Ev.bind alive_ ?_
  exact Ev.ret rfl
theorem ValueOrder : threshinglaw13_ValueOrder.Pure := by
  intro q hq
  obtain ⟨⟨_, _, hs⟩, _, _⟩ := hq
  suffices h : Ev (fun k => threshinglaw13_ValueOrder.f k q.f0.f0 q.f0.f1 q.f0.f2 q.f1.f0 q.f1.f1 q.f1.f2 q.f2.f0 q.f2.f1 q.f2.f2) true by
    obtain ⟨K, hK⟩ := h
    exact ⟨K, hK K (Nat.le_refl _)⟩
  simp only [threshinglaw13_ValueOrder.f, is_, Option.bind_some]
  by_cases h0 : XOps.isValB q.f0 = true
  · simp only [h0, if_true]
    by_cases h1 : XOps.isValB q.f1 = true
    · simp only [h1, if_true]
      by_cases h2 : XOps.isValB q.f2 = true
      · simp only [h2, Bool.not_true]
        exact order_all q.f0 q.f1 q.f2 h0 h1 hs
      · simp only [Bool.not_eq_true] at h2
        simp only [h2, Bool.not_false]
        exact order_alive q.f0 q.f1 q.f2
    · simp only [Bool.not_eq_true] at h1
      simp only [h1, Bool.false_eq_true, if_false]
      exact order_alive q.f0 q.f1 q.f2
  · simp only [Bool.not_eq_true] at h0
    simp only [h0, Bool.false_eq_true, if_false]
    exact order_alive q.f0 q.f1 q.f2
end Go.Proofs.YtmkkbkbfhjndcaaDoor.Pure
