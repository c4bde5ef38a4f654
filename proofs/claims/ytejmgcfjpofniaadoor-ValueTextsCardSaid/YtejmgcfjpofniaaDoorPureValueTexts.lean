/- The pure statement of ValueTexts. -/
import Derived.Test.YtejmgcfjpofniaaDoorPXx
import Derived.Test.YtejmgcfjpofniaaDoorLNum
import Derived.Test.YtejmgcfjpofniaaDoorLVal
import Derived.Lib.IndexMore
import Derived.Lib.IndexBytes
set_option linter.unusedVariables false
set_option linter.unusedSimpArgs false
namespace Go.Proofs.YtejmgcfjpofniaaDoor.Pure
open Go.RowKit Go.Proofs Go.Proofs.YtejmgcfjpofniaaDoor Go.Proofs.YtejmgcfjpofniaaDoor.PX Go.Proofs.YtejmgcfjpofniaaDoorW.PrintWords Go.Proofs.YtejmgcfjpofniaaDoorL
def I64 (x : Int) : Prop := -9223372036854775808 ≤ x ∧ x ≤ 9223372036854775807
theorem go_op {o : Int} (l : List XOps.Sv) (hv : l.any (fun x => !XOps.isValB x) = false) (hn : ∀ v ∈ l, I64 v.f1) (hl : l.length ≤ 1000000) {b : Bool} (h2 : XOps.resultF o (l.map (·.f0)) = (b, 0)) {r : XOps.Sv} (h3 : opV o (l.getD 0 XOps.zv) (l.getD 1 XOps.zv) (l.getD 2 XOps.zv) = r) :
    Ev (fun k => threshinglaw13_ValueTexts.go k o l) (r, 0) := by
  have := do_ o l hl hn
  rw [doV_of (by rw [hv]; simp) h2 h3] at this
  exact Ev.map _ this rfl
theorem clip_of {s : ByteArray} (h : s.size ≤ 1000) : textV s = ⟨true, 0, s⟩ := by unfold textV; rw [clip_small h]
theorem tx_f {s : ByteArray} (h : s.size ≤ 1000) : threshinglaw13_ValueTexts.tx s = some ⟨true, 0, s⟩ := by
  unfold threshinglaw13_ValueTexts.tx
  rw [text_f, clip_small h]
  rfl
theorem ba_ext {a b : ByteArray} (h : a.data.toList = b.data.toList) : a = b := ByteArray.ext (Array.toList_inj.1 h)
theorem sz (a : ByteArray) : a.data.toList.length = a.size := data_length a
/-! ### letters that are turned -/
theorem turn_fin : ∀ n : Fin 256, XTurn.turnB 97 (XTurn.turnB 65 (XTurn.turnB 97 (n.val : Int))) = XTurn.turnB 97 (n.val : Int) ∧ 0 ≤ XTurn.turnB 97 (n.val : Int) ∧ XTurn.turnB 97 (n.val : Int) ≤ 255 ∧ 0 ≤ XTurn.turnB 65 (n.val : Int) ∧ XTurn.turnB 65 (n.val : Int) ≤ 255 := by decide +kernel
theorem turn_int (c : Int) (h : 0 ≤ c ∧ c ≤ 255) : XTurn.turnB 97 (XTurn.turnB 65 (XTurn.turnB 97 c)) = XTurn.turnB 97 c ∧ (0 ≤ XTurn.turnB 97 c ∧ XTurn.turnB 97 c ≤ 255) ∧ 0 ≤ XTurn.turnB 65 c ∧ XTurn.turnB 65 c ≤ 255 := by
  have := turn_fin ⟨c.toNat, by omega⟩
  rw [show ((c.toNat : Nat) : Int) = c by omega] at this
  exact ⟨this.1, ⟨this.2.1, this.2.2.1⟩, this.2.2.2⟩
theorem bytes_turn97 {l : List Int} (h : Bytes l) : Bytes (XTurn.turnL 97 l) := by
  intro x hx
  simp only [XTurn.turnL, List.mem_map] at hx
  obtain ⟨c, hc, rfl⟩ := hx
  exact (turn_int c (h c hc)).2.1
theorem bytes_turn65 {l : List Int} (h : Bytes l) : Bytes (XTurn.turnL 65 l) := by
  intro x hx
  simp only [XTurn.turnL, List.mem_map] at hx
  obtain ⟨c, hc, rfl⟩ := hx
  exact (turn_int c (h c hc)).2.2
theorem turn_size (f : Int) (s : ByteArray) : (turnS f s).size = s.size := by
  unfold turnS
  rw [size_str]
  simp [XTurn.turnL, bytesOf_length]
theorem turn_three (s : ByteArray) : turnS 97 (turnS 65 (turnS 97 s)) = turnS 97 s := by
  unfold turnS
  rw [bytes_str (bytes_turn97 (Bytes.of_str s)), bytes_str (bytes_turn65 (bytes_turn97 (Bytes.of_str s)))]
  congr 1
  simp only [XTurn.turnL, List.map_map]
  apply List.map_congr_left
  intro c hc
  exact (turn_int c (Bytes.of_str s c hc)).1
/-! ### parts of a text -/
theorem slice_list (s : ByteArray) (a b : Int) (ha : 0 ≤ a) (ha2 : a ≤ s.size) (hb : 0 ≤ b) : (sliceS s a b).data.toList = (s.data.toList.drop a.toNat).take b.toNat := by
  unfold sliceS fromS
  have e : (mn (mx a 0) (s.size : Int)).toNat = a.toNat := by
    unfold mn mx
    repeat' split <;> omega
  rw [e, Lib.extract_data, Lib.extract_to_end, List.drop_zero]
  have h2 : (s.extract a.toNat s.size).size = s.size - a.toNat := by
    rw [← sz, Lib.extract_to_end, List.length_drop, sz]
  rw [h2]
  by_cases c : b ≤ ((s.size - a.toNat : Nat) : Int)
  · congr 1
    unfold mn mx
    repeat' split <;> omega
  · rw [List.take_of_length_le (by rw [List.length_drop, sz]; unfold mn mx; repeat' split <;> omega), List.take_of_length_le (by rw [List.length_drop, sz]; omega)]
theorem slice_size (s : ByteArray) (a b : Int) (ha : 0 ≤ a) (ha2 : a ≤ s.size) (hb : 0 ≤ b) : (sliceS s a b).size ≤ s.size := by
  rw [← sz, slice_list s a b ha ha2 hb, ← sz s]
  simp only [List.length_take, List.length_drop]
  omega
theorem ValueTexts : threshinglaw13_ValueTexts.Pure := by
  intro s t at_ hs ht hat
  refine Ev.rounds (?_ : Ev (fun k => threshinglaw13_ValueTexts.f k s t at_) true)
  unfold threshinglaw13_ValueTexts.f
  by_cases hg : s.size > 1000 ∨ t.size > 1000
  · simp only [if_pos hg]
    exact alive_
  simp only [if_neg hg]
  have hs1 : s.size ≤ 1000 := by omega
  have ht1 : t.size ≤ 1000 := by omega
  unfold threshinglaw13_ValueTexts.g
  simp only [tx_f hs1, tx_f ht1, Option.bind_some]
  obtain ⟨kk, hkk, k0, k1⟩ : ∃ kk : Int, kk = mn (mx at_ 0) (s.size : Int) ∧ 0 ≤ kk ∧ kk ≤ s.size := by
    refine ⟨_, rfl, ?_, (mn_le _ _).2⟩
    exact mn_ge (mx_ge _ _).2 (by omega)
  rw [← hkk]
  clear hkk
  have vt : ∀ x : ByteArray, x.size ≤ 1000 → XOps.isValB (⟨true, 0, x⟩ : XOps.Sv) = true := fun x hx => by
    have := text_val x
    rw [clip_of hx] at this
    exact this
  have vn : ∀ n : Int, XOps.isValB (⟨false, n, ⟨#[]⟩⟩ : XOps.Sv) = true := num_val
  have nt : I64 0 := by unfold I64; omega
  have nk : I64 kk := by unfold I64; omega
  have ns : I64 (s.size : Int) := by unfold I64; omega
  have ntl : I64 (t.size : Int) := by unfold I64; omega
  have A1 : (sliceS s 0 kk).size ≤ 1000 := by have := slice_size s 0 kk (by omega) (by omega) k0; omega
  have A2 : (sliceS s kk (s.size : Int)).size ≤ 1000 := by have := slice_size s kk (s.size : Int) k0 k1 (by omega); omega
  have three : ∀ (x : ByteArray) (a b : Int), x.size ≤ 1000 → I64 a → I64 b → Ev (fun k => threshinglaw13_ValueTexts.go k 11 [⟨true, 0, x⟩, ⟨false, a, ⟨#[]⟩⟩, ⟨false, b, ⟨#[]⟩⟩]) (textV (sliceS x a b), 0) := fun x a b hx ha hb => by
    refine go_op _ (by simp only [List.any_cons, List.any_nil, vt x hx, vn]; rfl) ?_ (by simp) (b := true) (show XOps.resultF 11 [true, false, false] = (true, 0) by decide) rfl
    intro v hv
    simp only [List.mem_cons, List.not_mem_nil, or_false] at hv
    rcases hv with rfl | rfl | rfl
    · exact nt
    · exact ha
    · exact hb
  have two : ∀ (o : Int) (x y : ByteArray) (b : Bool) (r : XOps.Sv), x.size ≤ 1000 → y.size ≤ 1000 → XOps.resultF o [true, true] = (b, 0) → opV o ⟨true, 0, x⟩ ⟨true, 0, y⟩ XOps.zv = r → Ev (fun k => threshinglaw13_ValueTexts.go k o [⟨true, 0, x⟩, ⟨true, 0, y⟩]) (r, 0) := fun o x y b r hx hy h2 h3 => by
    refine go_op _ (by simp only [List.any_cons, List.any_nil, vt x hx, vt y hy]; rfl) ?_ (by simp) (b := b) h2 h3
    intro v hv
    simp only [List.mem_cons, List.not_mem_nil, or_false] at hv
    rcases hv with rfl | rfl
    · exact nt
    · exact nt
  have one : ∀ (o : Int) (x : ByteArray) (r : XOps.Sv), x.size ≤ 1000 → XOps.resultF o [true] = (true, 0) → opV o ⟨true, 0, x⟩ XOps.zv XOps.zv = r → Ev (fun k => threshinglaw13_ValueTexts.go k o [⟨true, 0, x⟩]) (r, 0) := fun o x r hx h2 h3 => by
    refine go_op _ (by simp only [List.any_cons, List.any_nil, vt x hx]; rfl) ?_ (by simp) (b := true) h2 h3
    intro v hv
    simp only [List.mem_cons, List.not_mem_nil, or_false] at hv
    subst hv
    exact nt
  refine Ev.bind (three s 0 kk hs1 nt nk) ?_
  refine Ev.bind (three s kk (s.size : Int) hs1 nk ns) ?_
  rw [clip_of A1, clip_of A2]
  refine Ev.bind (two 9 _ _ true (textV (sliceS s 0 kk ++ sliceS s kk (s.size : Int))) A1 A2 (by decide) rfl) ?_
  have hj : sliceS s 0 kk ++ sliceS s kk (s.size : Int) = s := by
    apply ba_ext
    rw [ByteArray.data_append, Array.toList_append, slice_list s 0 kk (by omega) (by omega) k0, slice_list s kk _ k0 k1 (by omega)]
    rw [show (0 : Int).toNat = 0 from rfl, List.drop_zero, List.take_of_length_le (i := ((s.size : Int)).toNat) (by rw [List.length_drop, sz]; omega), List.take_append_drop]
  rw [hj, clip_of hs1]
  refine Ev.bind (two 21 s t false (numV (Lib.index s.data.toList t.data.toList)) hs1 ht1 (by decide) rfl) ?_
  have hi := Lib.index_le s.data.toList t.data.toList
  have hi0 := Lib.index_ge s.data.toList t.data.toList
  have hroom := Lib.index_room s.data.toList t.data.toList
  have hspec := Lib.index_spec s.data.toList t.data.toList
  obtain ⟨ix, hix⟩ : ∃ ix, Lib.index s.data.toList t.data.toList = ix := ⟨_, rfl⟩
  rw [hix] at hi hi0 hroom hspec ⊢
  rw [sz] at hi
  refine Ev.bind (three s ix (t.size : Int) hs1 (by unfold I64; omega) ntl) ?_
  refine Ev.bind (one 12 s (textV (turnS 97 s)) hs1 (by decide) rfl) ?_
  have T1 : (turnS 97 s).size ≤ 1000 := by rw [turn_size]; exact hs1
  have T2 : (turnS 65 (turnS 97 s)).size ≤ 1000 := by rw [turn_size, turn_size]; exact hs1
  rw [clip_of T1]
  refine Ev.bind (one 13 _ (textV (turnS 65 (turnS 97 s))) T1 (by decide) rfl) ?_
  rw [clip_of T2]
  refine Ev.bind (one 12 _ (textV (turnS 97 (turnS 65 (turnS 97 s)))) T2 (by decide) rfl) ?_
  rw [turn_three, clip_of T1]
  have hp : ix < 0 ∨ textV (sliceS s ix (t.size : Int)) = (⟨true, 0, t⟩ : XOps.Sv) := by
    by_cases c : ix < 0
    · exact .inl c
    · right
      have hm : sliceS s ix (t.size : Int) = t := by
        apply ba_ext
        rw [slice_list s ix _ (by omega) hi (by omega)]
        rcases hspec with ⟨h, _⟩ | ⟨i, h, h2, h3, _⟩
        · omega
        · have hr := hroom (by omega)
          rw [sz, sz] at hr
          have ei : ix.toNat = i := by omega
          rw [ei, show ((t.size : Int)).toNat = t.data.toList.length by rw [sz]; omega]
          rw [Lib.occAt_iff_take _ _ _ (by rw [sz, sz]; omega)] at h3
          simpa using h3
      rw [hm, clip_of ht1]
  obtain ⟨K, hK⟩ := alive_
  refine ⟨K, fun k hk => if_pos ⟨hK k hk, rfl, ⟨rfl, rfl, rfl⟩, hp.imp id fun h => by rw [h]; exact ⟨rfl, rfl, rfl⟩, ⟨rfl, rfl, rfl⟩, turn_size 97 s⟩⟩
end Go.Proofs.YtejmgcfjpofniaaDoor.Pure
