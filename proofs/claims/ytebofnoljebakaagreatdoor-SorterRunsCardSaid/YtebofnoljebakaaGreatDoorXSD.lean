/- Plain words for layer 19: what is sorted, what is in order. -/
import Derived.Test.YtebofnoljebakaaGreatDoorXSC
set_option linter.unusedVariables false
set_option linter.unusedSimpArgs false
set_option linter.unusedSectionVars false
namespace Go.Proofs.YtebofnoljebakaaGreatDoor.Stb
open Go.RowKit Go.Sort Go.Proofs
theorem insRef_perm {α : Type} {lt : α → α → Bool} (x : α) : ∀ (l : List α), (insRef lt x l).Perm (x :: l) := by
  intro l
  induction l with
  | nil => exact List.Perm.refl _
  | cons y t ih =>
    rw [insRef]; split
    · exact List.Perm.refl _
    · exact (List.Perm.cons y ih).trans (List.Perm.swap x y t)
end Go.Proofs.YtebofnoljebakaaGreatDoor.Stb
namespace Go.Proofs.YtebofnoljebakaaGreatDoor.Stb
open Go.RowKit Go.Sort Go.Proofs Go.Proofs.YtebofnoljebakaaGreatDoor.PX
abbrev Gr := S43
def grpStep (out : List Gr) (x : XSort.It) : List Gr :=
  match out.getLast? with
  | some g => if g.f0 = x.f0 then out.dropLast ++ [⟨g.f0, g.f1 ++ [x.f1]⟩] else out ++ [⟨x.f0, [x.f1]⟩]
  | none => [⟨x.f0, [x.f1]⟩]
def groupsL (l : List XSort.It) : List Gr := l.foldl grpStep []
theorem grp_keys (out : List Gr) (x : XSort.It) : (grpStep out x).map (·.f0) = if (out.map (·.f0)).getLast? = some x.f0 then out.map (·.f0) else out.map (·.f0) ++ [x.f0] := by
  unfold grpStep
  rw [List.getLast?_map]
  cases h : out.getLast? with
  | none =>
    have : out = [] := List.getLast?_eq_none_iff.1 h
    subst this; simp
  | some g =>
    obtain ⟨i, rfl⟩ : ∃ i, out = i ++ [g] := by
      obtain ⟨hne, hg⟩ := List.getLast?_eq_some_iff.1 h
      exact ⟨_, hg⟩
    simp only [Option.map_some, Option.some.injEq]
    by_cases hk : g.f0 = x.f0
    · rw [if_pos hk, if_pos hk]; simp
    · rw [if_neg hk, if_neg hk]; simp
theorem grp_last (out : List Gr) (x : XSort.It) : ((grpStep out x).map (·.f0)).getLast? = some x.f0 := by
  rw [grp_keys]
  split
  · rename_i h; exact h
  · simp
theorem groups_succ {l : List XSort.It} {i : Nat} {x : XSort.It} (h : l[i]? = some x) : groupsL (l.take (i + 1)) = grpStep (groupsL (l.take i)) x := by
  unfold groupsL
  rw [List.take_add_one, h, List.foldl_append]
  rfl
theorem groups_last {l : List XSort.It} {i : Nat} {x : XSort.It} (h : l[i]? = some x) {init : List Gr} {last : Gr} (e : init ++ [last] = groupsL (l.take (i + 1))) : last.f0 = x.f0 := by
  have := grp_last (groupsL (l.take i)) x
  rw [← groups_succ h, ← e] at this
  simpa using this
theorem grp_same {init : List Gr} {last : Gr} {x : XSort.It} (h : last.f0 = x.f0) : grpStep (init ++ [last]) x = init ++ [⟨last.f0, last.f1 ++ [x.f1]⟩] := by
  unfold grpStep
  simp [h]
theorem grp_other {init : List Gr} {last : Gr} {x : XSort.It} (h : last.f0 ≠ x.f0) : grpStep (init ++ [last]) x = init ++ [last] ++ [⟨x.f0, [] ++ [x.f1]⟩] := by
  unfold grpStep
  simp [h]
theorem grp_bound (m : Nat) (out : List Gr) (x : XSort.It) (h : out.length ≤ m ∧ ∀ g ∈ out, g.f1.length ≤ m) : (grpStep out x).length ≤ m + 1 ∧ ∀ g ∈ grpStep out x, g.f1.length ≤ m + 1 := by
  unfold grpStep
  cases hq : out.getLast? with
  | none => exact ⟨by simp, fun g hg => by obtain rfl := List.mem_singleton.1 hg; simp⟩
  | some q =>
    obtain ⟨i, rfl⟩ : ∃ i, out = i ++ [q] := by
      obtain ⟨hne, hg⟩ := List.getLast?_eq_some_iff.1 hq
      exact ⟨_, hg⟩
    have hl := h.1
    rw [List.length_append, List.length_singleton] at hl
    dsimp only
    split
    · rw [List.dropLast_concat]
      refine ⟨by rw [List.length_append, List.length_singleton]; omega, fun g hg => ?_⟩
      rcases List.mem_append.1 hg with hg | hg
      · have := h.2 g (List.mem_append_left _ hg); omega
      · obtain rfl := List.mem_singleton.1 hg
        have := h.2 q (List.mem_append_right _ (List.mem_singleton.2 rfl))
        simp only [List.length_append, List.length_singleton]; omega
    · refine ⟨by rw [List.length_append, List.length_append, List.length_singleton, List.length_singleton]; omega, fun g hg => ?_⟩
      rcases List.mem_append.1 hg with hg | hg
      · have := h.2 g hg; omega
      · obtain rfl := List.mem_singleton.1 hg
        simp
theorem groups_bound_ : ∀ (l : List XSort.It) (m : Nat) (out : List Gr), (out.length ≤ m ∧ ∀ g ∈ out, g.f1.length ≤ m) → (l.foldl grpStep out).length ≤ m + l.length ∧ ∀ g ∈ l.foldl grpStep out, g.f1.length ≤ m + l.length := by
  intro l
  induction l with
  | nil => intro m out h; exact h
  | cons x t ih =>
    intro m out h
    have := ih (m + 1) _ (grp_bound m out x h)
    rw [List.foldl_cons, List.length_cons, show m + (t.length + 1) = m + 1 + t.length by omega]
    exact this
theorem groups_bound (l : List XSort.It) : (groupsL l).length ≤ l.length ∧ ∀ g ∈ groupsL l, g.f1.length ≤ l.length := by
  have := groups_bound_ l 0 [] ⟨Nat.le_refl _, fun g hg => by cases hg⟩
  rw [Nat.zero_add] at this
  exact this
end Go.Proofs.YtebofnoljebakaaGreatDoor.Stb
namespace Go.Proofs.YtebofnoljebakaaGreatDoor.XSort
open Go.RowKit Go.Lib Go.Sort Go.Proofs.YtebofnoljebakaaGreatDoor.Stb Go.Proofs Go.Proofs.YtebofnoljebakaaGreatDoorW.PrintWords Go.Proofs.YtebofnoljebakaaGreatDoorW.PrintLast Go.Proofs.YtebofnoljebakaaGreatDoorW.PrintMore Go.Proofs.YtebofnoljebakaaGreatDoor.PX
theorem own_form {w : World} {base n : Nat} {e : TypeId} {size : Nat} {v : Value} {xs : List Value} (h : w.ownsRow base e size v (n + 1) xs) : ∃ g cap, v = .slice (some ⟨g, 0, none⟩) (n + 1) cap := by
  rcases h.2 with ⟨_, h0⟩ | ⟨g, cap, cur, rfl, _⟩
  · omega
  · exact ⟨g, cap, rfl⟩
theorem R_ofown {α : Type} {d : Kd α} {e base : Nat} {w : World} {ok : Nat → Prop} {v : Value} {xs : List α} (hE : d.E = []) (h : d.R e w base ok v xs) : d.R e w base (fun k => ok k ∧ some k = v.ownBlock) v xs := by
  obtain ⟨h0, inner, ho, hr⟩ := h
  refine ⟨fun k hk => ⟨h0 k hk, hk.symm⟩, inner, ho, hr.imp_ (fun p c hp => d.M_mono (fun k hk => ?_) (d.M_bound hp))⟩
  obtain ⟨_, _, _, q, hq, _⟩ := hk
  rw [hE] at hq
  cases hq
structure GS (w0 : World) (init : List Gr) (last : Gr) (g cap : Nat) (u : Value) (W : World) : Prop where
  out : ∃ ci, W.ownsRow w0.heap.size 43 2 (.slice (some ⟨g, 0, none⟩) (init.length + 1) cap) (init.length + 1) (ci ++ [.string last.f0, u]) ∧ ∃ f, Reps ((Kd.tag f k43).M W w0.heap.size (fun k => k ≠ g ∧ some k ≠ u.ownBlock)) 2 init.zipIdx ci
  row : Kd.R k24 24 W w0.heap.size (fun k => k ≠ g) u last.f1
  below : Below w0.heap.size w0 W
theorem own_same {w : World} {base n : Nat} {e : TypeId} {size : Nat} {v : Value} {xs ys : List Value} (h : w.ownsRow base e size v n xs) (h' : w.ownsRow base e size v n ys) : xs = ys := by
  rcases h.2 with ⟨rfl, rfl⟩ | ⟨g, cap, cur, rfl, _, hb, _, _, _, ht⟩
  · have a := h.1; have b := h'.1
    rw [Nat.zero_mul] at a b
    rw [List.length_eq_zero_iff.1 a, List.length_eq_zero_iff.1 b]
  · rcases h'.2 with ⟨hv, _⟩ | ⟨g', cap', cur', hv, _, hb', _, _, _, ht'⟩
    · cases hv
    · injection hv with ha _ _
      injection ha with ha
      injection ha with ha _ _
      subst ha
      rw [hb] at hb'
      have e := Option.some.inj hb'
      injection e with e1 _ _
      subst e1
      rw [← ht, ht']
theorem GS.then_ {w0 : World} {init : List Gr} {last : Gr} {g cap : Nat} {u : Value} {W W1 : World} (h : GS w0 init last g cap u W) (hb : Below W.heap.size W W1) : GS w0 init last g cap u W1 := by
  obtain ⟨ci, ho, f, hr⟩ := h.out
  exact ⟨⟨ci, own_move ho (fun k hk => hb.block k (own_lt ho k hk)), f, hr.imp_ fun p c hp => Kd.M_below hp hb⟩, Kd.R_below h.row hb, h.below.trans (hb.mono h.below.size)⟩
theorem GS.cell {w0 : World} {init : List Gr} {last : Gr} {g cap : Nat} {u : Value} {W : World} (h : GS w0 init last g cap u W) : ∃ cur, W.heap[g]? = some (.cells cur 43 (0, 0)) ∧ cur[init.length * 2 + 1]? = some u := by
  obtain ⟨ci, ho, f, hr⟩ := h.out
  have hlen : ci.length = init.length * 2 := by have := hr.1; rwa [List.length_zipIdx] at this
  rcases ho.2 with ⟨hv, _⟩ | ⟨g', cap', cur, hv, _, hb, _, _, _, ht⟩
  · cases hv
  · injection hv with ha _ _
    injection ha with ha
    injection ha with ha _ _
    subst ha
    refine ⟨cur, hb, ?_⟩
    have e : (cur.toList.take ((init.length + 1) * 2))[init.length * 2 + 1]? = some u := by
      rw [ht, List.getElem?_append_right (by omega), show init.length * 2 + 1 - ci.length = 1 by omega]; rfl
    rw [List.getElem?_take_of_lt (by omega)] at e
    simpa using e
theorem GS.item {w0 : World} {init : List Gr} {last : Gr} {g cap : Nat} {u : Value} {W : World} (h : GS w0 init last g cap u W) {b : Nat} {cs : Array Value} (hx : W.heap[b]? = some (.cells cs 38 (0, 0))) : b ≠ g ∧ some b ≠ u.ownBlock := by
  obtain ⟨ci, ho, f, hr⟩ := h.out
  refine ⟨fun e => own_ne ho hx (by decide) (by rw [e]; rfl), Kd.R_ne h.row hx (by decide)⟩
theorem GS.apart {w0 : World} {init : List Gr} {last : Gr} {g cap : Nat} {u : Value} {W : World} (h : GS w0 init last g cap u W) : some g ≠ u.ownBlock ∧ g < W.heap.size ∧ w0.heap.size ≤ g := by
  obtain ⟨ci, ho, f, hr⟩ := h.out
  exact ⟨fun e => h.row.1 g e.symm rfl, own_lt ho g rfl, own_base ho g rfl⟩
theorem GS.more {w0 : World} {init : List Gr} {last : Gr} {g cap : Nat} {u u' : Value} {W W1 : World} (h : GS w0 init last g cap u W) (x : S24) (hR : Kd.R k24 24 W1 w0.heap.size (fun k => k ≠ g) u' (last.f1 ++ [x])) (hb : Below w0.heap.size w0 W1) (hg : W.grownBy W1 u.ownBlock)
    (hat : u'.ownBlock = u.ownBlock ∨ ∃ b, u'.ownBlock = some b ∧ W.heap.size ≤ b) : GS w0 init ⟨last.f0, last.f1 ++ [x]⟩ g cap u' (W1.setCell ⟨g, init.length * 2 + 1, none⟩ u') := by
  obtain ⟨ci, ho, f, hr⟩ := h.out
  have hgW : g < W.heap.size := own_lt ho g rfl
  have hgb : w0.heap.size ≤ g := own_base ho g rfl
  have hne : some g ≠ u.ownBlock := fun e => h.row.1 g e.symm rfl
  have ho1 := own_move (w1 := W1) ho (fun k hk => by
    have : g = k := by simpa [Value.ownBlock] using hk
    subst this; exact hg.block g hgW hne)
  have ho2 := (World.ownsRow.stored ho1 (init.length * 2 + 1) u').1
  have hlen : ci.length = init.length * 2 := by have := hr.1; rwa [List.length_zipIdx] at this
  have hset : (ci ++ [.string last.f0, u]).set (init.length * 2 + 1) u' = ci ++ [.string last.f0, u'] := by
    rw [List.set_append_right _ _ (by omega), show init.length * 2 + 1 - ci.length = 1 by omega]; rfl
  rw [hset] at ho2
  refine ⟨⟨ci, ho2, f, hr.imp_ fun p c hp => ?_⟩, Kd.R_far hR (fun k hk => hk) _, below_set hb hgb⟩
  refine Kd.M_far (p := ⟨g, init.length * 2 + 1, none⟩) ?_ (fun k hk => hk.1) u'
  have hp1 := (Kd.tag f k43).M_bound hp
  have hp2 := Kd.M_grown hp1 hg (fun k hk => hk.1.2)
  refine (Kd.tag f k43).M_mono (fun k hk => ⟨hk.1.1, ?_⟩) hp2
  rcases hat with e | ⟨b, e, hle⟩
  · rw [e]; exact hk.1.2
  · rw [e]; intro z
    have : k = b := Option.some.inj z
    have := hk.2.2.1
    omega
theorem GS.fresh {w0 : World} {init : List Gr} {last : Gr} {g cap g' cap' : Nat} {u : Value} {W W1 : World} (h : GS w0 init last g cap u W) (K : ByteArray)
    {xs : List Value} (ho0 : W.ownsRow w0.heap.size 43 2 (.slice (some ⟨g, 0, none⟩) (init.length + 1) cap) (init.length + 1) xs) (ho1 : W1.ownsRow w0.heap.size 43 2 (.slice (some ⟨g', 0, none⟩) (init.length + 2) cap') (init.length + 2) (xs ++ [.string K, .slice none 0 0]))
    (hb : Below w0.heap.size w0 W1) (hg : W.grownBy W1 (some g)) (hat : g' = g ∨ W.heap.size ≤ g') : GS w0 (init ++ [last]) ⟨K, []⟩ g' cap' (.slice none 0 0) W1 := by
  obtain ⟨ci, ho, f, hr⟩ := h.out
  have hrow := Kd.R_bound h.row
  have hrow1 := Kd.R_grown hrow hg (fun k hk => by intro e; exact hk.1 (Option.some.inj e))
  have hne' : ∀ k, k ≠ g → k < W.heap.size → k ≠ g' := fun k h1 h2 => by rcases hat with e | e <;> omega
  refine ⟨⟨ci ++ [.string last.f0, u], ?_, fun k => if some k = u.ownBlock then init.length else f k, ?_⟩, Kd.R_nil _ _ _ _ _, hb⟩
  · have := ho1
    rw [← own_same ho ho0] at this
    simpa using this
  · rw [List.zipIdx_append]
    refine Reps.snoc (hr.imp_ fun p c hp => ?_) ?_ rfl
    · have hp2 := Kd.M_grown ((Kd.tag f k43).M_bound hp) hg (fun k hk e => hk.1.1 (Option.some.inj e))
      exact (k43).M_mono (fun k hk => ⟨⟨hne' k hk.1.1.1 hk.1.2.2.1, by simp [Value.ownBlock]⟩, by
        show (if some k = u.ownBlock then init.length else f k) = p.2
        rw [if_neg hk.1.1.2]; exact hk.2⟩) hp2
    · rw [Nat.zero_add]
      exact k43_mkM _ _ _ _ (Kd.R_mono (R_ofown (by rfl) hrow1) (fun k hk => ⟨⟨hne' k hk.1.1 hk.1.2.2.1, by simp [Value.ownBlock]⟩, by
        show (if some k = u.ownBlock then init.length else f k) = init.length
        rw [if_pos hk.2]⟩))
theorem GS.first {w0 W1 : World} (K : ByteArray) {g' cap' : Nat} (ho1 : W1.ownsRow w0.heap.size 43 2 (.slice (some ⟨g', 0, none⟩) 1 cap') 1 [.string K, .slice none 0 0]) (hb : Below w0.heap.size w0 W1) : GS w0 [] ⟨K, []⟩ g' cap' (.slice none 0 0) W1 :=
  ⟨⟨[], ho1, fun _ => 0, ⟨rfl, fun j p hj => by simp at hj⟩⟩, Kd.R_nil _ _ _ _ _, hb⟩
theorem GS.row_ {w0 : World} {init : List Gr} {last : Gr} {g cap : Nat} {u : Value} {W : World} (h : GS w0 init last g cap u W) : Kd.S k43 43 W w0.heap.size (fun _ => True) (.slice (some ⟨g, 0, none⟩) (init.length + 1) cap) (init ++ [last]) := by
  obtain ⟨ci, ho, f, hr⟩ := h.out
  have hlen : (init ++ [last]).zipIdx.length = init.length + 1 := by simp
  refine ⟨fun k => if some k = u.ownBlock then init.length else f k, fun _ _ => trivial, ci ++ [.string last.f0, u], ?_, ?_⟩
  · rw [hlen]; exact ho
  · rw [List.zipIdx_append]
    refine Reps.snoc (hr.imp_ fun p c hp => ?_) ?_ rfl
    · exact (k43).M_mono (fun k hk => ⟨⟨trivial, fun e => hk.1.1 (by simpa [Value.ownBlock] using e)⟩, by
        show (if some k = u.ownBlock then init.length else f k) = p.2
        rw [if_neg hk.1.2]; exact hk.2⟩) hp
    · rw [Nat.zero_add]
      exact k43_mkM _ _ _ _ (Kd.R_mono (R_ofown (by rfl) h.row) (fun k hk => ⟨⟨trivial, fun e => hk.1 (by simpa [Value.ownBlock] using e)⟩, by
        show (if some k = u.ownBlock then init.length else f k) = init.length
        rw [if_pos hk.2]⟩))
end Go.Proofs.YtebofnoljebakaaGreatDoor.XSort
namespace Go.Proofs.YtebofnoljebakaaGreatDoor.XSort
open Go.RowKit Go.Lib Go.Sort Go.Proofs.YtebofnoljebakaaGreatDoor.Stb Go.Proofs Go.Proofs.YtebofnoljebakaaGreatDoorW.PrintWords Go.Proofs.YtebofnoljebakaaGreatDoorW.PrintLast Go.Proofs.YtebofnoljebakaaGreatDoorW.PrintMore Go.Proofs.YtebofnoljebakaaGreatDoor.PX
attribute [local go_sem ↓ high] szI
theorem infoG : (Tryz.prog.info? 43).map (fun i => (i.zero, i.size, i.bytes)) = some (some (.agg #[.string (⟨#[]⟩ : ByteArray), .slice none 0 0]), 2, 40) := by kernel_rfl
theorem infoV4 : (Tryz.prog.info? 24).map (fun i => (i.zero, i.size, i.bytes)) = some (some (.agg #[.bool false, .int .i64 0, .string (⟨#[]⟩ : ByteArray)]), 3, 32) := by kernel_rfl
theorem tl_inj {a b : ByteArray} (h : a.toList = b.toList) : a = b := by
  obtain ⟨⟨a⟩⟩ := a
  obtain ⟨⟨b⟩⟩ := b
  rw [ByteArray.toList_eq, ByteArray.toList_eq] at h
  simpa using h
inductive GSt (W : World) (l : List It) (i : Nat) (s5 : Value) (wr : World) : Prop
  | none_ (h : i = 0) (hs : s5 = .slice none 0 0) (hb : Below W.heap.size W wr)
  | some_ (h : 0 < i) (init : List Gr) (last : Gr) (g cap : Nat) (u : Value) (hs : s5 = .slice (some ⟨g, 0, none⟩) (init.length + 1) cap) (hG : GS W init last g cap u wr) (he : init ++ [last] = groupsL (l.take i))
theorem GSt.below {W : World} {l : List It} {i : Nat} {s5 : Value} {wr : World} (h : GSt W l i s5 wr) : Below W.heap.size W wr := by
  cases h with
  | none_ _ _ hb => exact hb
  | some_ _ _ _ _ _ _ _ hG _ => exact hG.below
theorem GSt.then_ {W : World} {l : List It} {i : Nat} {s5 : Value} {wr wx : World} (h : GSt W l i s5 wr) (hb : Below wr.heap.size wr wx) : GSt W l i s5 wx := by
  cases h with
  | none_ h hs h0 => exact .none_ h hs (h0.trans (hb.mono h0.size))
  | some_ h init last g cap u hs hG he => exact .some_ h init last g cap u hs (hG.then_ hb) he
set_option maxHeartbeats 4000000 in
set_option maxRecDepth 100000 in
theorem groups_calls {J : Array Value} (A : Option Addr) (c : Nat) (l : List It) (W : World) (hr : Kd.C k38 W A l.length l) (hl : l.length < 1000000000000) :
    Calls Tryz.prog 15 #[.agg J, .slice A l.length c] W fun e w' => ∃ v0_ : Value, e = .returned v0_ ∧ Kd.S k43 43 w' W.heap.size (fun _ => True) v0_ (groupsL l) ∧ Below W.heap.size W w' := by
  have HR : Aside _ := hr
  have B0 : Aside (Below W.heap.size W (W.alloc (.cells J 26))) := below_alloc (Below.refl _ _) _
  clear hr
  go_enter Tryz.func15, Tryz.ntmps15
  go_wp2
  go_loopg [5, 11] l.length (fun kx s5 s11 wr => ∃ i : Nat, s11 = .int .i64 i ∧ i ≤ l.length ∧ l.length - i ≤ kx ∧ Aside (GSt W l i s5 wr))
  case atStart => exact ⟨0, rfl, Nat.zero_le _, Nat.le_refl _, .none_ rfl rfl B0.out⟩
  case round =>
    clear B0
    obtain ⟨i, rfl, hil, hik, hst⟩ := hrel
    by_cases hlt : i < l.length
    · have hltz : (i : Int) < (l.length : Int) := by omega
      obtain ⟨ad, rfl, _⟩ := HR.out.2.2 (by omega)
      have lj := load_el (Kd.C_below HR.out hst.out.below) i (by omega)
      obtain ⟨x, hx⟩ : ∃ x, x = l.toArray[i]! := ⟨_, rfl⟩
      rw [← hx] at lj
      have hxi0 : l[i]? = some x := by rw [hx, getElem!_pos l.toArray i (by simpa using hlt)]; simp
      have hxi : Hid _ := hxi0
      clear hx hxi0
      simp only [encI] at lj
      have hgi : ¬ ((i : Int) < 0) := by omega
      go_upto_region 5 with fail
      rename (4 : Nat) = kI => hk4
      clear hk4
      have hbx := blk_new wr (.cells #[.string x.f0, .bool x.f1.f0, .int .i64 x.f1.f1, .string x.f1.f2] 38)
      have hst5 : Aside _ := hst.out.then_ (below_alloc (Below.refl wr.heap.size wr) (.cells #[.string x.f0, .bool x.f1.f0, .int .i64 x.f1.f1, .string x.f1.f2] 38))
      generalize hbxx : wr.heap.size = bx at *
      generalize hw5 : wr.alloc (.cells #[.string x.f0, .bool x.f1.f0, .int .i64 x.f1.f1, .string x.f1.f2] 38) = w5 at *
      have x0 := (blk_cell hbx 0).trans rfl
      clear hst lj hw5
      go_cut [28] (fun s28 wx => ∃ b : Bool, s28 = .bool b ∧ Hid (b = true ↔ i = 0 ∨ ∀ p, l[i - 1]? = some p → p.f0 ≠ x.f0) ∧ Below w5.heap.size w5 wx)
      case first =>
        by_cases h0 : i = 0
        · subst h0
          have hz0 : ((0 : Nat) : Int) = 0 := rfl
          go_big_region
          all_goals (go_wp2_with fail; go_meet)
          exact ⟨true, rfl, by show _ ↔ _; simp, by first | exact Below.refl _ _ | exact below_drew (Below.refl _ _)⟩
        · obtain ⟨q, hq⟩ : ∃ q, q = i - 1 := ⟨_, rfl⟩
          have hqi : i - 1 = q := hq.symm
          obtain ⟨p, hp⟩ : ∃ p, l[q]? = some p := ⟨_, List.getElem?_eq_getElem (show q < l.length by omega)⟩
          have hw1 : IntKind.i64.wrap ((i : Int) - 1) = (q : Int) := by rw [IntKind.wrap_i64]; omega
          have hi0 : ¬ (i : Int) = 0 := by omega
          have hi0z : ((i : Int) == 0) = false := by simp; omega
          have hq0 : ¬ ((q : Int) < 0) := by omega
          have hqlz : (q : Int) < (l.length : Int) := by omega
          have hqn : q < l.length := by omega
          obtain ⟨ad', c', e', _, hK, hc0⟩ := Kd.C_get (Kd.C_below HR.out hst5.out.below) p (q : Int) (by omega) hqlz
          obtain rfl := Option.some.inj e'
          obtain rfl := k38_open hK
          have hpp : l.getD q p = p := by rw [List.getD_eq_getElem?_getD, hp]; rfl
          rw [Int.toNat_natCast, hpp] at hc0
          have lp : w5.cell? (ad.add (q * 4)) = some (.string p.f0) := hc0 0 _ rfl
          have Hp : Hid _ := hp
          have Hq : Hid _ := hqi
          clear hp hq hqi hc0 hK hpp
          by_cases hk : p.f0 = x.f0
          · go_big_region
            go_wp2_with fail
            go_meet
            case rel => exact ⟨false, rfl, by show _ ↔ _; simp only [Bool.false_eq_true, false_iff, not_or]; exact ⟨h0, fun h => h p (by rw [Hq.out]; exact Hp.out) hk⟩, by first | exact Below.refl _ _ | exact below_drew (Below.refl _ _)⟩
          · go_big_region
            go_wp2_with fail
            go_meet
            have hkt : (p.f0.toList == x.f0.toList) = false := by
              rw [beq_eq_false_iff_ne]; exact fun e => hk (tl_inj e)
            case rel => exact ⟨true, by rw [hkt]; rfl, by show _ ↔ _; simp only [true_iff]; exact Or.inr (fun p' hp' => by rw [Hq.out, Hp.out] at hp'; obtain rfl := Option.some.inj hp'; exact hk), by first | exact Below.refl _ _ | exact below_drew (Below.refl _ _)⟩
      case rest =>
      obtain ⟨b, rfl, hb, hB⟩ := hcut
      have hst6 : Aside _ := hst5.out.then_ hB
      have hbx6 := (hB.block bx (blk_lt hbx)).trans hbx
      have hB6 : Aside _ := hst6.out.below
      clear hst5 hbx x0 hB
      have x0 := (blk_cell hbx6 0).trans rfl
      go_upto_if 28 with fail
      go_cut [5] (fun s5 wx => ∃ (init : List Gr) (last : Gr) (g cap : Nat) (u : Value), s5 = .slice (some ⟨g, 0, none⟩) (init.length + 1) cap ∧ wx.heap[bx]? = some (.cells #[.string x.f0, .bool x.f1.f0, .int .i64 x.f1.f1, .string x.f1.f2] 38 (0, 0)) ∧ GS W init last g cap u wx ∧ Hid (init ++ [⟨last.f0, last.f1 ++ [x.f1]⟩] = groupsL (l.take (i + 1))))
      case first =>
        cases b with
        | false =>
          obtain ⟨h0, hk⟩ : i ≠ 0 ∧ ∃ p, l[i - 1]? = some p ∧ p.f0 = x.f0 := by
            have hb : false = true ↔ _ := hb
            simp only [Bool.false_eq_true, false_iff, not_or] at hb
            refine ⟨hb.1, l[i - 1], List.getElem?_eq_getElem (by omega), Classical.byContradiction fun h => hb.2 fun p hp => ?_⟩
            rw [List.getElem?_eq_getElem (by omega)] at hp
            obtain rfl := Option.some.inj hp
            exact h
          cases hst6.out with
          | none_ h _ _ => exact absurd h h0
          | some_ _ init last g cap u hs hG he =>
            subst hs
            go_wp2_with fail
            go_meet
            case rel =>
              obtain ⟨p, hp, hpk⟩ := hk
              obtain ⟨j, rfl⟩ : ∃ j, i = j + 1 := ⟨i - 1, by omega⟩
              have hl := groups_last hp he
              exact ⟨init, last, g, cap, u, rfl, hbx6, hG, by show _ = _; rw [groups_succ hxi.out, ← he, grp_same (hl.trans hpk)]⟩
        | true =>
          cases hst6.out with
          | none_ h hs hb0 =>
            subst h hs
            go_wp2_with (at_builtin; (refine print_append_cells (w0 := W) (W := wc) W.heap.size rfl (.tmp 29) (.tmp 33) 39 43 (.agg #[.string (⟨#[]⟩ : ByteArray), .slice none 0 0]) 2 40 rfl Tryz.underlying39 infoG rfl (by decide) (by decide) (.slice none 0 0) 0 [] [.string x.f0, .slice none 0 0] ?hs ?hx rfl ?h1 (World.ownsRow_nil _ _ _ _) hB6.out hB6.out.size ?hk ?hkk; (case hs => rfl); (case hx => first | rfl | exact xh); (case h1 => intro u hu; simp at hu; rcases hu with h | h <;> rw [h] <;> rfl); (case hk => omega); intro v1 w1 ho1 hb1 hg1 hat1; obtain ⟨g1, cap1, rfl⟩ := own_form ho1; have HO1 : Aside _ := ho1; have HG1 : Aside _ := hg1; have HA1 : Aside _ := hat1; have HB1 : Aside _ := hb1; clear ho1 hg1 hat1 hb1))
            go_meet
            case rel =>
              refine ⟨[], ⟨x.f0, []⟩, g1, cap1, .slice none 0 0, rfl, (HG1.out.block bx (blk_lt hbx6) (by simp [Value.ownBlock])).trans hbx6, GS.first x.f0 HO1.out HB1.out, ?_⟩
              show _ = _
              rw [groups_succ hxi.out]; rfl
          | some_ h0 init last g cap u hs hG he =>
            subst hs
            obtain ⟨ci, ho, _⟩ := hG.out
            obtain ⟨hbd, _⟩ := groups_bound (l.take i)
            rw [← he, List.length_append, List.length_singleton, List.length_take] at hbd
            have hlast : last.f0 ≠ x.f0 := by
              have hb : true = true ↔ _ := hb
              simp only [true_iff] at hb
              obtain ⟨j, rfl⟩ : ∃ j, i = j + 1 := ⟨i - 1, by omega⟩
              rcases hb with h | h
              · omega
              · have hp : l[j]? = some l[j] := List.getElem?_eq_getElem (by omega)
                rw [groups_last hp he]
                exact h _ hp
            have hH : Hid _ := he
            have hL : Hid _ := hlast
            have hGG : Aside _ := hG
            have hbxg := (hG.item hbx6).1
            clear he hlast hG hb
            go_wp2_with (at_builtin; (refine print_append_cells (w0 := W) (W := wc) W.heap.size rfl (.tmp 29) (.tmp 33) 39 43 (.agg #[.string (⟨#[]⟩ : ByteArray), .slice none 0 0]) 2 40 rfl Tryz.underlying39 infoG rfl (by decide) (by decide) (.slice (some ⟨g, 0, none⟩) (init.length + 1) cap) (init.length + 1) (ci ++ [.string last.f0, u]) [.string x.f0, .slice none 0 0] ?hs2 ?hx2 rfl ?h12 ho hB6.out hB6.out.size ?hk2 ?hkk2; (case hs2 => rfl); (case hx2 => first | rfl | exact xh); (case h12 => intro u hu; simp at hu; rcases hu with h | h <;> rw [h] <;> rfl); (case hk2 => omega); intro v1 w1 ho1 hb1 hg1 hat1; obtain ⟨g1, cap1, rfl⟩ := own_form ho1; have HO1 : Aside _ := ho1; have HG1 : Aside _ := hg1; have HA1 : Aside _ := hat1; have HB1 : Aside _ := hb1; clear ho1 hg1 hat1 hb1))
            go_meet
            case rel =>
              refine ⟨init ++ [last], ⟨x.f0, []⟩, g1, cap1, .slice none 0 0, by simp, (HG1.out.block bx (blk_lt hbx6) (by simpa [Value.ownBlock] using hbxg)).trans hbx6, GS.fresh hGG.out x.f0 ho HO1.out HB1.out HG1.out ?_, ?_⟩
              · rcases HA1.out with e | ⟨b, e, hle⟩
                · left; simpa [Value.ownBlock] using e
                · right
                  have : g1 = b := by simpa [Value.ownBlock] using e
                  rw [this]; exact hle
              · show _ = _
                rw [groups_succ hxi.out, ← hH.out, grp_other hL.out]
      case rest =>
      obtain ⟨init, last, g, cap, u, rfl, hbx7, hG7, hE7⟩ := hcut
      obtain ⟨hbd, hbv⟩ := groups_bound (l.take (i + 1))
      have hE7' : init ++ [⟨last.f0, last.f1 ++ [x.f1]⟩] = groupsL (l.take (i + 1)) := hE7
      rw [← hE7'] at hbd hbv
      have hbv := hbv ⟨last.f0, last.f1 ++ [x.f1]⟩ (List.mem_append_right _ (List.mem_singleton.2 rfl))
      rw [List.length_append, List.length_singleton, List.length_take] at hbd
      simp only [List.length_append, List.length_singleton, List.length_take] at hbv
      clear hE7'
      obtain ⟨m, hm⟩ : ∃ m, init.length = m := ⟨_, rfl⟩
      obtain ⟨q, hq⟩ : ∃ q, last.f1.length = q := ⟨_, rfl⟩
      obtain ⟨A2, cv, hu⟩ := Kd.R_slice hG7.row
      rw [hq] at hu
      subst hu
      obtain ⟨cur, hcur, hcu⟩ := hG7.cell
      rw [hm] at hcu
      have cS : wc.cell? ⟨g, m * 2 + 1, none⟩ = some (.slice A2 q cv) := (blk_cell hcur _).trans hcu
      have y0 := (blk_cell hbx7 0).trans rfl
      have y1 := (blk_cell hbx7 1).trans rfl
      have y2 := (blk_cell hbx7 2).trans rfl
      have y3 := (blk_cell hbx7 3).trans rfl
      obtain ⟨hgu, hgl, hgb⟩ := hG7.apart
      have hvl := blk_lt hbx7
      have HG7 : Aside _ := hG7
      have HCU : Aside (wc.heap[g]? = some (.cells cur 43 (0, 0)) ∧ cur[m * 2 + 1]? = some (.slice A2 q cv)) := ⟨hcur, hcu⟩
      have hm0 : ¬ ((m : Int) < 0) := by omega
      have hq40 : (q + 1) * 32 ≤ 140737488355328 := by omega
      rw [hm]
      obtain ⟨n1, hn1⟩ : ∃ n1, m + 1 = n1 := ⟨_, rfl⟩
      have hw7 : IntKind.i64.wrap ((n1 : Int) - 1) = (m : Int) := by rw [IntKind.wrap_i64]; omega
      have hmn : (m : Int) < (n1 : Int) := by omega
      have hmn' : m < n1 := by omega
      rw [hn1]
      have HM : Hid (init.length = m) := hm
      have HQ : Hid (last.f1.length = q) := hq
      have HN : Hid (m + 1 = n1) := hn1
      clear hG7 hcu hcur hm hq hn1 hbd hbv hst6 hbx6 hB6 x0
      have hG8 : Aside _ := HG7.out.then_ (below_drew (Below.refl _ _))
      go_wp2_with fail
      go_region_law (first | (refine Kd.R_append_step k24 (w0 := W) (W := wc.drew) W.heap.size (by rfl) (.tmp 44) (.tmp 47) 41 24 (.agg #[.bool false, .int .i64 0, .string (⟨#[]⟩ : ByteArray)]) 32 (by rfl) Tryz.underlying41 infoV4 rfl (by decide) (by decide) (.slice A2 q cv) last.f1 x.f1 [.bool x.f1.f0, .int .i64 x.f1.f1, .string x.f1.f2] (fun k => k ≠ g) (fun _ => False) (by rfl) (by rfl) (k24_mkM _ _ _ x.f1) (fun _ hk => hk.elim) (fun k hk => by have hk' : wc.heap.size ≤ k := hk; omega) (Kd.R_drew HG7.out.row) (below_drew1 HG7.out.below) HG7.out.below.size (by rw [HQ.out]; exact hq40) ?_; intro v1 w1 ho1 hb1 hg1 hat1; obtain ⟨A1, k1, hv1⟩ := Kd.R_slice ho1; obtain ⟨N1, hN1⟩ : ∃ N1, (last.f1 ++ [x.f1]).length = N1 := ⟨_, rfl⟩; rw [hN1] at hv1; subst hv1; clear hN1; have hB1 := blk_grown (show wc.drew.heap[g]? = _ from HCU.out.1) hg1 hgu; have b0 := (blk_cell hB1 (m * 2 + 1)).trans HCU.out.2; have g0 := blk_frozen hB1 (m * 2 + 1)))
      all_goals
        (go_wp2
         go_roundg (l.length - (i + 1))
         case measure => omega
         case rel =>
          refine ⟨i + 1, by go_num, by omega, Nat.le_refl _, .some_ (by omega) init ⟨last.f0, last.f1 ++ [x.f1]⟩ g cap (.slice A1 N1 k1) (by rw [HM.out, HN.out]) ?_ hE7.out⟩
          have := GS.more hG8.out x.f1 ho1 hb1 hg1 hat1
          rw [HM.out] at this
          exact this)
    · have hltz : ¬ (i : Int) < (l.length : Int) := by omega
      obtain rfl : i = l.length := by omega
      go_wp2_with fail
      go_ret
      cases hst.out with
      | none_ h hs hb =>
        have : l = [] := List.length_eq_zero_iff.1 h
        subst this hs
        exact ⟨_, rfl, Kd.S_nil _ _ _ _ _, hb⟩
      | some_ h init last g cap u hs hG he =>
        subst hs
        refine ⟨_, rfl, ?_, hG.below⟩
        rw [List.take_length] at he
        rw [← he]
        exact hG.row_
end Go.Proofs.YtebofnoljebakaaGreatDoor.XSort
namespace Go.Proofs.YtebofnoljebakaaGreatDoor.XSort
open Go.RowKit Go.Lib Go.Sort Go.Proofs.YtebofnoljebakaaGreatDoor.Stb Go.Proofs Go.Proofs.YtebofnoljebakaaGreatDoorW.PrintWords Go.Proofs.YtebofnoljebakaaGreatDoorW.PrintLast Go.Proofs.YtebofnoljebakaaGreatDoorW.PrintMore Go.Proofs.YtebofnoljebakaaGreatDoor.PX
abbrev J0 : Array Value := #[.bool false, .slice none 0 0, .slice none 0 0, .slice none 0 0, .int .i64 0, .slice none 0 0, .bool false, .int .i64 0, .string ⟨#[]⟩, .bool false, .int .i64 0, .bool false, .bool false, .int .i64 0]
def itA : It := ⟨⟨#[97]⟩, ⟨false, 0, ⟨#[]⟩⟩⟩
def itB1 : It := ⟨⟨#[98]⟩, ⟨false, 1, ⟨#[]⟩⟩⟩
def itB2 : It := ⟨⟨#[98]⟩, ⟨false, 2, ⟨#[]⟩⟩⟩
abbrev litC : Array Value := #[.string ⟨#[98]⟩, .bool false, .int .i64 1, .string ⟨#[]⟩, .string ⟨#[97]⟩, .bool false, .int .i64 0, .string ⟨#[]⟩, .string ⟨#[98]⟩, .bool false, .int .i64 2, .string ⟨#[]⟩]
theorem lit_items (W : World) : Kd.C k38 (W.alloc (.cells litC 38)) (some ⟨W.heap.size, 0, none⟩) 3 [itB1, itA, itB2] := by
  refine ⟨rfl, by decide, fun _ => ⟨_, rfl, fun j p hj => ?_⟩⟩
  have hb := blk_new W (.cells litC 38)
  refine ⟨[.string p.f0, .bool p.f1.f0, .int .i64 p.f1.f1, .string p.f1.f2], rfl, k38_mk _ _, fun i u hu => ?_⟩
  have h4 : (k38).sz = 4 := rfl
  rw [h4, Addr.add_mid, Nat.zero_add, blk_cell hb]
  match j with
  | 0 =>
    obtain rfl : itB1 = p := by simpa using hj
    match i with
    | 0 | 1 | 2 | 3 => simpa [itA, itB1, itB2] using hu
    | i + 4 => simp at hu
  | 1 =>
    obtain rfl : itA = p := by simpa using hj
    match i with
    | 0 | 1 | 2 | 3 => simpa [itA, itB1, itB2] using hu
    | i + 4 => simp at hu
  | 2 =>
    obtain rfl : itB2 = p := by simpa using hj
    match i with
    | 0 | 1 | 2 | 3 => simpa [itA, itB1, itB2] using hu
    | i + 4 => simp at hu
  | j + 3 => simp at hj
theorem sorted_cells {W : World} {base : Nat} {ok : Nat → Prop} {v : Value} (h : Kd.R k38 38 W base ok v [itA, itB1, itB2]) : ∃ g cap, v = .slice (some ⟨g, 0, none⟩) 3 cap := by
  obtain ⟨g, cap, hv, _⟩ := Kd.R_form h (by decide)
  exact ⟨g, cap, hv⟩
theorem sorted_get {W : World} {base g cap : Nat} {ok : Nat → Prop} (h : Kd.R k38 38 W base ok (.slice (some ⟨g, 0, none⟩) 3 cap) [itA, itB1, itB2]) : W.cell? ⟨g, 0, none⟩ = some (.string ⟨#[97]⟩) ∧ W.cell? ⟨g, 6, none⟩ = some (.int .i64 1) ∧ Kd.C k38 W (some ⟨g, 0, none⟩) 3 [itA, itB1, itB2] := by
  obtain ⟨_, _, hC⟩ := Kd.R_reads' h
  have hC' : Kd.C k38 W (some ⟨g, 0, none⟩) 3 [itA, itB1, itB2] := hC
  obtain ⟨ad, e, h0, _, _, _⟩ := at_T38 hC' 0 (by decide) (by decide)
  obtain rfl := Option.some.inj e
  obtain ⟨ad, e, _, _, h1, _⟩ := at_T38 hC' 1 (by decide) (by decide)
  obtain rfl := Option.some.inj e
  exact ⟨h0, h1, hC'⟩
theorem two_groups : (groupsL [itA, itB1, itB2]).length = 2 := by kernel_rfl
set_option maxHeartbeats 1000000 in
set_option maxRecDepth 100000 in
theorem alive_walk (AH : ByteArray → ByteArray → Bool) (hS : SWO fun x y : It => AH x.f0 y.f0) (hso : sortRef (fun x y : It => AH x.f0 y.f0) [itB1, itA, itB2] = [itA, itB1, itB2]) (W : World)
    (hA : ∀ W', Below W.heap.size W W' → ∀ x ∈ [itB1, itA, itB2], ∀ y ∈ [itB1, itA, itB2], Calls Tryz.prog 39 #[.agg J0, .string x.f0, .string y.f0] W' fun e w' => e = .returned (.bool (AH x.f0 y.f0)) ∧ Below W'.heap.size W' w') :
    Calls Tryz.prog 9 #[] W fun e w' => e = .returned (.bool true) ∧ Below W.heap.size W w' := by
  have hb0 := below_alloc (Below.refl W.heap.size W) (.cells litC 38)
  have HS := sort_calls AH hS (J := J0) rfl (some ⟨W.heap.size, 0, none⟩) 3 [itB1, itA, itB2] (W.alloc (.cells litC 38)) (lit_items W) (by decide) (fun W' hb => hA W' (hb0.trans (hb.mono hb0.size)))
  rw [hso] at HS
  have HS1 := Lib.hid HS
  have HB0 := Lib.hid hb0
  clear hb0 hA HS
  go_enter Tryz.func9, Tryz.ntmps9
  go_upto_region 2 with (go_at_call 10; refine HS1.out.mono ?_; rintro e w1 ⟨v1, rfl, hR, hb⟩; obtain ⟨g, cap, rfl⟩ := sorted_cells hR; have HR1 : Aside _ := hR; have HB1 : Aside _ := HB0.out.trans (hb.mono HB0.out.size); clear hR hb)
  go_upto_region 3 with (go_at_call 27; refine (new_some _ _ _ _ _ _ _ _ _ _ _ _ _ _ 1 (by decide) _).mono ?_; rintro e w2 ⟨⟨gb, rfl⟩, hb⟩; have HR2 : Aside _ := Kd.R_below HR1.out hb; have HB2 : Aside _ := HB1.out.trans (hb.mono HB1.out.size); clear hb)
  go_upto_region 4 with (go_at_call 27; refine (new_none 0 (by decide) _).mono ?_; rintro e w3 ⟨rfl, hb⟩; have HR3 : Aside _ := Kd.R_below HR2.out hb; have HB3 : Aside _ := HB2.out.trans (hb.mono HB2.out.size); clear hb; obtain ⟨c0, c6, hC⟩ := sorted_get HR3.out; have HC : Aside _ := hC; clear hC)
  go_wp2_with (go_at_call 15; refine (groups_calls _ _ [itA, itB1, itB2] _ HC.out (by decide)).mono ?_; rintro e w4 ⟨v4, rfl, hR, hb⟩; obtain ⟨A4, c4, hv4⟩ := Kd.S_slice hR; rw [two_groups] at hv4; subst hv4; have HB4 : Aside _ := HB3.out.trans (hb.mono HB3.out.size); clear hR hb)
  go_ret
  exact ⟨rfl, HB4.out⟩
end Go.Proofs.YtebofnoljebakaaGreatDoor.XSort
