/-
  Acts: more than the statements of layer 02 look at, an act of a buffer, a row of acts handed in: by this session. Conditions: as typed.
-/
import Derived.Test.YtfhnepihbofabaaDoorGap15
import Derived.Test.YtfhnepihbofabaaDoorPx0
namespace Go.Proofs.YtfhnepihbofabaaDoor.X
open Go Go.RowKit Go.Lib Go.Shelf Go.Proofs.YtfhnepihbofabaaDoorW.PrintWords Go.Proofs.YtfhnepihbofabaaDoor.P Go.Joins Go.ChangeShapes Go.WideShapes Go.Deep
set_option linter.unusedVariables false
/-- More than statements look at? -/
def greatA (t : ByteArray) (l : List S32) : Bool := decide (600 < t.size) || (decide (60 < l.length) || l.any fun d => decide (300 < d.f3.size))
theorem rd32 (l : List S32) (i : Nat) (h : i < l.length) : rd_T32 l (i : Int) = l[i] := by
  simp [rd_T32, List.getD_eq_getElem?_getD, List.getElem?_eq_getElem h]
theorem greatA_l0 (l : List S32) (hl : l.length ≤ 60) : ∀ (f k i : Nat), l.length = i + f → foolscaplaw02_great.l0 (k + f + 1) l (i : Int) = some ((l.drop i).any fun d => decide (300 < d.f3.size)) := by
  intro f
  induction f with
  | zero =>
    intro k i hi
    simp only [foolscaplaw02_great.l0]
    rw [if_neg (by omega), List.drop_eq_nil_of_le (by omega)]
    rfl
  | succ f ih =>
    intro k i hi
    have hlt : i < l.length := by omega
    rw [show k + (f + 1) + 1 = (k + f + 1) + 1 by omega]
    rw [foolscaplaw02_great.l0, if_pos (by omega), if_pos (by omega), rd32 l i hlt, List.drop_eq_getElem_cons hlt, List.any_cons]
    by_cases hg : 300 < l[i].f3.size
    · rw [if_pos (by omega), decide_eq_true hg]
      rfl
    · rw [if_neg (by omega), decide_eq_false hg, show wrap64 ((i : Int) + 1) = ((i + 1 : Nat) : Int) by unfold wrap64; omega, ih k (i + 1) (by omega)]
      rfl
theorem greatA_f (t : ByteArray) (l : List S32) : foolscaplaw02_great.f 70 t l = some (greatA t l) := by
  simp only [foolscaplaw02_great.f, foolscaplaw02_great.j0, greatA]
  by_cases h1 : 600 < t.size
  · rw [if_pos (by omega), if_pos trivial, decide_eq_true h1]
    rfl
  · rw [if_neg (by omega), decide_eq_false h1]
    by_cases h2 : 60 < l.length
    · rw [decide_eq_true h2, decide_eq_true (by omega : (l.length : Int) > 60), if_pos rfl]
      rfl
    · rw [decide_eq_false h2, decide_eq_false (by omega : ¬ (l.length : Int) > 60), if_neg (by simp)]
      have := greatA_l0 l (by omega) l.length (69 - l.length - 1) 0 (by omega)
      rw [show 69 - l.length - 1 + l.length + 1 = 69 by omega] at this
      simpa using this
theorem greatA_w (s : ByteArray) (A : Option Addr) (c : Nat) (l : List S32) (b : Bool) (hb : greatA s l = b) (W : World) (hC : Kd.C k32 W A l.length l) (hc : l.length ≤ c) : Calls Tryd.prog 9 #[.string s, .slice A l.length c] W fun e w' => e = .returned (.bool b) ∧ Below W.heap.size W w' := by
  refine (foolscaplaw02_great.calls 70 s A c l _ W hC hc (greatA_f s l)).mono ?_
  rintro e w' ⟨rfl, m, rfl⟩
  exact ⟨by rw [hb], pw_below_drewN (Below.refl _ _) m⟩
/-- An act's answer. -/
def actA (L : List Int) (a : S32) : List Int × Int := if a.f0.tmod 3 = 2 then delR L a.f1 a.f2 else insR L a.f1 a.f3
set_option maxRecDepth 100000 in
set_option maxHeartbeats 8000000 in
theorem do_a {W : World} {X : Nat → Prop} {g : Nat} {L : List Int} (k at_ n : Int) (s : ByteArray) (h : Buf W X g L) (hs : s.size ≤ 1000000) (hT : XAmb W) :
    Calls Tryd.prog 11 #[.pointer (some ⟨g, 0, none⟩), .agg #[.int .u8 k, .int .i64 at_, .int .i64 n, .string s]] W fun e w' => e = .returned (.int .i64 (actA L ⟨k, at_, n, s⟩).2) ∧ Buf w' X g (actA L ⟨k, at_, n, s⟩).1 ∧ Kp X W w' := by
  have hI := fun (W' : World) (hb : Below W.heap.size W W') => insert_b at_ s (h.below hb) hs (XAmb_below hT hb)
  have hD := fun (W' : World) (hb : Below W.heap.size W W') => delete_b at_ n (h.below hb)
  have hu := Tryd.underlying32
  have HB := Lib.hid h
  clear hT hs h
  obtain ⟨m, hm⟩ : ∃ m, k.tmod 3 = m := ⟨_, rfl⟩
  unfold actA
  rw [hm]
  by_cases h2 : m = 2
  · rw [if_pos h2]
    have hq : (m == (2 : Int)) = true := by rw [h2]; rfl
    clear h2 hI
    go_enter Tryd.func11, Tryd.ntmps11
    go_upto_region 1 with fail
    obtain ⟨W2, hW2⟩ : ∃ x, W.alloc (.cells #[.int .u8 k, .int .i64 at_, .int .i64 n, .string s] 32) = x := ⟨_, rfl⟩
    have hb2 : Below W.heap.size W W2 := hW2 ▸ below_alloc (Below.refl _ _) _
    have hh := (show W2.heap[W.heap.size]? = _ from hW2 ▸ Deep.blk_alloc_new W _)
    have hc := hD W2 hb2
    have HK := Lib.hid (Kp.below0 HB.out.lt hb2)
    have r0 : W2.cell? ⟨W.heap.size, 0, none⟩ = some (.int .u8 k) := (blk_cell hh 0).trans rfl
    have r1 : W2.cell? ⟨W.heap.size, 1, none⟩ = some (.int .i64 at_) := (blk_cell hh 1).trans rfl
    have r2 : W2.cell? ⟨W.heap.size, 2, none⟩ = some (.int .i64 n) := (blk_cell hh 2).trans rfl
    have r3 : W2.cell? ⟨W.heap.size, 3, none⟩ = some (.string s) := (blk_cell hh 3).trans rfl
    rw [hW2]
    clear hW2 hb2 hh hD
    go_wp2_with (go_at_call 22; refine hc.mono ?_; rintro e w3 ⟨rfl, hb3, hk3⟩)
    go_ret
    exact ⟨rfl, hb3, HK.out.trans hk3⟩
  · rw [if_neg h2]
    have hq : (m == (2 : Int)) = false := by rw [beq_eq_false_iff_ne]; exact h2
    clear h2 hD
    go_enter Tryd.func11, Tryd.ntmps11
    go_upto_region 1 with fail
    obtain ⟨W2, hW2⟩ : ∃ x, W.alloc (.cells #[.int .u8 k, .int .i64 at_, .int .i64 n, .string s] 32) = x := ⟨_, rfl⟩
    have hb2 : Below W.heap.size W W2 := hW2 ▸ below_alloc (Below.refl _ _) _
    have hh := (show W2.heap[W.heap.size]? = _ from hW2 ▸ Deep.blk_alloc_new W _)
    have hc := hI W2 hb2
    have HK := Lib.hid (Kp.below0 HB.out.lt hb2)
    have r0 : W2.cell? ⟨W.heap.size, 0, none⟩ = some (.int .u8 k) := (blk_cell hh 0).trans rfl
    have r1 : W2.cell? ⟨W.heap.size, 1, none⟩ = some (.int .i64 at_) := (blk_cell hh 1).trans rfl
    have r2 : W2.cell? ⟨W.heap.size, 2, none⟩ = some (.int .i64 n) := (blk_cell hh 2).trans rfl
    have r3 : W2.cell? ⟨W.heap.size, 3, none⟩ = some (.string s) := (blk_cell hh 3).trans rfl
    rw [hW2]
    clear hW2 hb2 hh hI
    go_wp2_with (go_at_call 18; refine hc.mono ?_; rintro e w3 ⟨rfl, hb3, hk3⟩)
    go_ret
    exact ⟨rfl, hb3, HK.out.trans hk3⟩
theorem insR_bad0 {L : List Int} {at_ : Int} {s : ByteArray} (h : (insR L at_ s).2 ≠ 0) : (insR L at_ s).1 = L := by
  unfold insR at *
  split
  · rfl
  · rename_i t ht
    rw [ht] at h
    simp only at h
    split
    · rename_i h1
      rw [if_pos h1] at h
      split
      · rename_i h2
        rw [if_pos h2] at h
        exact absurd rfl h
      · rfl
    · rfl
theorem insR_ok0 {L : List Int} {at_ : Int} {s : ByteArray} (h : (insR L at_ s).2 = 0) : ∃ (t : List Int) (k : Nat), textOf s = some t ∧ at_ = (k : Int) ∧ k ≤ L.length ∧ L.length + t.length ≤ 20000 ∧ (insR L at_ s).1 = L.take k ++ t ++ L.drop k := by
  unfold insR at *
  split at h
  · cases h
  · rename_i t ht
    split at h
    · rename_i h1
      split at h
      · rename_i h2
        refine ⟨t, at_.toNat, ht, (Int.toNat_of_nonneg h1.1).symm, by omega, by omega, ?_⟩
        simp only [if_pos h1, if_pos h2]
      · cases h
    · cases h
/-- Runes only, and no more than the text may hold. -/
theorem insR_runes {L : List Int} {at_ : Int} {s : ByteArray} (h : allRunes L = true) : allRunes (insR L at_ s).1 = true := by
  by_cases h0 : (insR L at_ s).2 = 0
  · obtain ⟨t, k, ht, _, _, _, hf⟩ := insR_ok0 h0
    rw [hf, allRunes_append, allRunes_append, allRunes_take h, allRunes_drop h, (text_str ht).2]
    rfl
  · rw [insR_bad0 h0]
    exact h
theorem delR_runes {L : List Int} {at_ n : Int} (h : allRunes L = true) : allRunes (delR L at_ n).1 = true := by
  unfold delR
  split
  · simp only
    rw [allRunes_append, allRunes_take h, allRunes_drop h]
    rfl
  · exact h
theorem actA_runes {L : List Int} {a : S32} (h : allRunes L = true) : allRunes (actA L a).1 = true := by
  unfold actA
  split
  · exact delR_runes h
  · exact insR_runes h
section
variable {H : Type} {enc : TypeId × Value → H} {w : World} {base : Nat} {spare : Nat → Bool} {held : Bool}
theorem list4 {l : List Value} (h : l.length = 4) : ∃ a b c d, l = [a, b, c, d] := by
  match l, h with
  | [a, b, c, d], _ => exact ⟨a, b, c, d, rfl⟩
theorem open_rows32 {A : Option Addr} {len cap : Nat} {d : DataW H} {p : List MemPlace} (h : DataW.Trod enc Tryd.prog w base spare held 22 (.slice A len cap) d p) :
    ∃ l : List S32, l.length = len ∧ len ≤ cap ∧ Kd.C k32 w A l.length l := by
  obtain ⟨fuel, hf⟩ := h
  rcases open_slice Tryd.underlying22 hf with ⟨hc, _⟩ | ⟨a, len', cap', m, n, D, Pl, hcs, hb, hl, hm, hmm, hx, hi⟩
  · simp only [Value.cells, List.cons.injEq, Value.slice.injEq, and_true] at hc
    obtain ⟨rfl, rfl, rfl⟩ := hc
    exact ⟨[], rfl, Nat.le_refl _, rfl, by simp, fun h => absurd h (by simp)⟩
  · simp only [Value.cells, List.cons.injEq, Value.slice.injEq, and_true] at hcs
    obtain ⟨rfl, rfl, rfl⟩ := hcs
    have hlm : len ≤ m := by rw [hmm]; split <;> omega
    have hall : ∀ i, ∃ x : S32, i < len → ∀ (j : Nat) (u : Value), [Value.int .u8 x.f0, .int .i64 x.f1, .int .i64 x.f2, .string x.f3][j]? = some u → w.cell? (a.add (i * 4 + j)) = some u := by
      intro i
      by_cases hil : i < len
      · obtain ⟨cs', hc, ht'⟩ := hi i (by omega)
        have hC : Tryd.prog.cellsOf 32 = 4 := by kernel_rfl
        rw [hC] at hc
        obtain ⟨_, hcl, hat⟩ := World.cells?_some hc
        obtain ⟨xs, n', _, _, _, hlen, hg⟩ := DataW.trod_struct Tryd.underlying32 ht'
        obtain ⟨c0, c1, c2, c3, rfl⟩ := list4 hcl
        have hr : ReadsF enc Tryd.prog w base spare held n' _ [c0, c1, c2, c3] xs := ⟨hlen, hg⟩
        obtain ⟨x0, rfl, _⟩ := field_int (by kernel_rfl) hr 0 _ rfl Tryd.underlying5 rfl
        obtain ⟨x1, rfl, _⟩ := field_int (by kernel_rfl) hr 1 _ rfl Tryd.underlying3 rfl
        obtain ⟨x2, rfl, _⟩ := field_int (by kernel_rfl) hr 2 _ rfl Tryd.underlying3 rfl
        obtain ⟨x3, rfl, _⟩ := field_string (by kernel_rfl) hr 3 _ rfl Tryd.underlying9 rfl
        refine ⟨⟨x0, x1, x2, x3⟩, fun _ j u hj => ?_⟩
        have hj3 : j < 4 := by have := (List.getElem?_eq_some_iff.1 hj).1; simpa using this
        have := hat j hj3
        rw [← Go.Deep.add_add]
        rw [this]
        exact hj
      · exact ⟨z32, fun h => absurd h hil⟩
    obtain ⟨f, hf'⟩ := Classical.axiomOfChoice hall
    refine ⟨(List.range len).map f, by simp, hl, ?_⟩
    rw [List.length_map, List.length_range]
    have hcm : cap ≤ 9223372036854775807 := by simpa [maxLen] using hm
    refine ⟨by simp, by omega, fun _ => ⟨a, rfl, fun j x hj => ?_⟩⟩
    obtain ⟨hjl, hx'⟩ := List.getElem?_eq_some_iff.1 hj
    rw [List.length_map, List.length_range] at hjl
    simp only [List.getElem_map, List.getElem_range] at hx'
    subst hx'
    exact ⟨_, rfl, k32_mk w (f j), fun i u hu => hf' j hjl i u hu⟩
end
end Go.Proofs.YtfhnepihbofabaaDoor.X
