/-
  package gap: Insert on a Buffer in memory: by this session. Conditions: as typed.
-/
import Derived.Test.YtfhnepihbofabaaDoorGap6
import Derived.Test.YtfhnepihbofabaaDoorSplit
namespace Go.Proofs.YtfhnepihbofabaaDoor.X
open Go Go.RowKit Go.Lib Go.Shelf Go.Proofs.YtfhnepihbofabaaDoorW.PrintWords
set_option linter.unusedVariables false
/-- A Buffer that holds the runes L. -/
def Buf (W : World) (X : Nat → Prop) (g : Nat) (L : List Int) : Prop := ∃ A m B, A ++ B = L ∧ A.length + m + B.length ≤ 60000 ∧ L.length ≤ 20000 ∧ Zip W X g A m B (fa A) (fa B.reverse)
theorem Buf.lt {W : World} {X : Nat → Prop} {g : Nat} {L : List Int} (h : Buf W X g L) : ∀ k, X k → k < W.heap.size := by
  obtain ⟨A, m, B, _, _, _, h⟩ := h
  exact h.lt
theorem Buf.below {W W' : World} {X : Nat → Prop} {g : Nat} {L : List Int} (h : Buf W X g L) (hb : Below W.heap.size W W') : Buf W' X g L := by
  obtain ⟨A, m, B, h1, h2, h3, h⟩ := h
  exact ⟨A, m, B, h1, h2, h3, h.below hb⟩
theorem Buf.drewN {W : World} {X : Nat → Prop} {g : Nat} {L : List Int} (h : Buf W X g L) (q : Nat) : Buf (W.drewN q) X g L := by
  obtain ⟨A, m, B, h1, h2, h3, h⟩ := h
  exact ⟨A, m, B, h1, h2, h3, h.drewN q⟩
theorem Buf.mono {W : World} {X Y : Nat → Prop} {g : Nat} {L : List Int} (h : Buf W X g L) (hY : ∀ k, Y k → X k) : Buf W Y g L := by
  obtain ⟨A, m, B, h1, h2, h3, h⟩ := h
  exact ⟨A, m, B, h1, h2, h3, h.mono hY⟩
theorem Kp.below0 {W W' : World} {X : Nat → Prop} (hX : ∀ k, X k → k < W.heap.size) (h : Below W.heap.size W W') : Kp X W W' := Kp.below hX h
/-- What is made later may be kept too. -/
theorem Zip.more {W W' : World} {X Y : Nat → Prop} {g m : Nat} {A B ah be : List Int} (h : Zip W X g A m B ah be) (hb : Below W.heap.size W W') (hY : ∀ k, Y k → W.heap.size ≤ k ∧ k < W'.heap.size) : Zip W' (fun k => X k ∨ Y k) g A m B ah be := by
  obtain ⟨mid, vr, va, vb, hm, h⟩ := h
  have h' := h.keep hb.size (fun k hk _ => hb.block k hk)
  refine ⟨mid, vr, va, vb, hm, fun k hk => ?_, fun hk => ?_, h'.blk, h'.room, h'.ra, h'.rb, h'.ab, fun b hb hk => ?_, fun b hb hk => ?_, fun b hb hk => ?_⟩
  · rcases hk with hk | hk
    · exact h'.lt k hk
    · exact (hY k hk).2
  · rcases hk with hk | hk
    · exact h.nx hk
    · have := (hY g hk).1; have := h.glt; omega
  · rcases hk with hk | hk
    · exact h.xr b hb hk
    · have := (hY b hk).1; have := h.lr hb; omega
  · rcases hk with hk | hk
    · exact h.xa b hb hk
    · have := (hY b hk).1; have := h.la hb; omega
  · rcases hk with hk | hk
    · exact h.xb b hb hk
    · have := (hY b hk).1; have := h.lb hb; omega
theorem zip_put {W : World} {X : Nat → Prop} {g m : Nat} {A B ah be : List Int} (h : Zip W X g A (m + 1) B ah be) (x : Int) : ∃ r N cap old, W.cell? ⟨g, 0, none⟩ = some (.slice (some ⟨r, 0, none⟩) N cap) ∧ W.cell? ⟨g, 1, none⟩ = some (.int .i64 (A.length : Nat)) ∧ W.frozen? ⟨g, 1, none⟩ = false ∧ A.length < N ∧ W.cell? ⟨r, A.length, none⟩ = some old ∧ W.frozen? ⟨r, A.length, none⟩ = false ∧ r ≠ g ∧
    ∀ q f1, f1 = A.length + 1 → Zip (((W.drewN q).setCell ⟨r, A.length, none⟩ (.int .i32 x)).setCell ⟨g, 1, none⟩ (.int .i64 (f1 : Nat))) X g (A ++ [x]) m B ah be ∧ Kp X W (((W.drewN q).setCell ⟨r, A.length, none⟩ (.int .i32 x)).setCell ⟨g, 1, none⟩ (.int .i64 (f1 : Nat))) := by
  obtain ⟨mid, vr, va, vb, hm, hz⟩ := h
  have hmp : 0 < mid.length := by omega
  rcases rk_out hz.room with ⟨_, h2⟩ | ⟨r, cap, cur, rfl, _, hh, hle, hmx, hs2, ht⟩
  · exfalso
    have h3 : (A ++ mid ++ B).length = 0 := by rw [h2]; rfl
    rw [List.length_append, List.length_append] at h3
    omega
  · have hlt : A.length < (A ++ mid ++ B).length := by rw [List.length_append, List.length_append]; omega
    have hgr : r ≠ g := hz.gr rfl
    refine ⟨r, _, cap, _, (blk_cell hz.blk 0).trans rfl, (blk_cell hz.blk 1).trans rfl, blk_frozen hz.blk 1, hlt, (blk_cell hh _).trans (ck_at ht (List.getElem?_eq_getElem hlt)), blk_frozen hh _, hgr, fun q f1 hf1 => ?_⟩
    subst hf1
    obtain ⟨W1, hW1⟩ : ∃ x, W.drewN q = x := ⟨_, rfl⟩
    have hh1 : W1.heap[r]? = some (.cells cur 21 (0, 0)) := hW1 ▸ hh
    have hK1 : Kp X W W1 := by rw [← hW1]; exact (Kp.refl W).drewN q
    have hO1 : ∀ k : Nat, W1.heap[k]? = W.heap[k]? := fun k => by rw [← hW1]; rfl
    have hB1 := (hO1 g).trans hz.blk
    rw [hW1]
    have hK : Kp X W ((W1.setCell ⟨r, A.length, none⟩ (.int .i32 x)).setCell ⟨g, 1, none⟩ (.int .i64 ((A.length + 1 : Nat) : Int))) := (hK1.set (hz.xr r rfl) _).set hz.nx _
    obtain ⟨y, rest, hyr⟩ : ∃ y rest, mid = y :: rest := by cases mid with
      | nil => simp at hmp
      | cons y rest => exact ⟨y, rest, rfl⟩
    have hsplit : A ++ [x] ++ mid.tail ++ B = ow (A ++ mid ++ B) A.length [x] := by
      unfold ow
      rw [hyr, List.append_assoc A (y :: rest) B, List.take_left, ← List.drop_drop, List.drop_left]
      simp
    have hox : A.length + [x].length ≤ (A ++ mid ++ B).length := by rw [List.length_singleton]; omega
    have hax : (A ++ [x]).length = A.length + 1 := by simp
    have hlen : (A ++ [x] ++ mid.tail ++ B).length = (A ++ mid ++ B).length := by rw [hsplit, ow_len hox]
    refine ⟨zip_moved hz (A' := A ++ [x]) (mid' := mid.tail) (l := A.length + mid.length) (by rw [List.length_tail]; omega) (by rw [List.length_append, List.length_singleton]; omega) hlen hK (fun k h1 h2 => ?_) ?_ ?_, hK⟩
    · rw [Below.heap_setCell _ _ _ _ h1, Below.heap_setCell _ _ _ _ h2]
      exact hO1 k
    · have hB2 : (W1.setCell ⟨r, A.length, none⟩ (.int .i32 x)).heap[g]? = _ := (Below.heap_setCell _ _ _ _ hgr.symm).trans hB1
      have := blk_put hB2 1 (.int .i64 ((A.length + 1 : Nat) : Int)) rfl
      rw [hax]
      exact this
    · have hR := ((rowk_is hh1 hs2).set A.length (.int .i32 x)).of_block (w' := (W1.setCell ⟨r, A.length, none⟩ (.int .i32 x)).setCell ⟨g, 1, none⟩ (.int .i64 ((A.length + 1 : Nat) : Int))) (Below.heap_setCell _ _ _ _ hgr)
      refine rowk_in hR (by rw [hlen]; exact hle) hmx (fun t y hy => ?_)
      rw [hsplit] at hy
      rcases ow_at hox hy with ⟨h1, h2⟩ | ⟨h1, h2⟩
      · simp only [List.length_singleton] at h1
        have e : t = A.length := by omega
        subst e
        rw [Nat.sub_self] at h2
        cases h2
        simp
      · simp only [List.length_singleton] at h1
        have e : ¬ t = A.length := by omega
        show (if t = A.length then _ else _) = _
        rw [if_neg e, ck_at ht h2]
        rfl
/-- The document's answer: the runes and the error's number. -/
def insR (L : List Int) (at_ : Int) (s : ByteArray) : List Int × Int :=
  match textOf s with
  | none => (L, 2)
  | some t => if 0 ≤ at_ ∧ at_ ≤ (L.length : Int) then if (L.length : Int) + (t.length : Int) ≤ 20000 then (L.take at_.toNat ++ t ++ L.drop at_.toNat, 0) else (L, 4) else (L, 3)
set_option maxRecDepth 100000 in
set_option maxHeartbeats 8000000 in
theorem insert_bad {W : World} {X : Nat → Prop} {g : Nat} {L : List Int} (at_ : Int) (s : ByteArray) (h : Buf W X g L) (hs : s.size ≤ 35184372088832) (hT : XAmb W) (ht : textOf s = none) :
    Calls Tryd.prog 18 #[.pointer (some ⟨g, 0, none⟩), .int .i64 at_, .string s] W fun e w' => e = .returned (.int .i64 2) ∧ Buf w' X g L ∧ Kp X W w' := by
  have hS := split_none s W hs hT ht
  have HB := Lib.hid h
  clear h hs ht
  go_enter Tryd.func18, Tryd.ntmps18
  go_wp2_with (go_at_call 34; refine hS.mono ?_; rintro e w1 ⟨rfl, hb⟩)
  go_ret
  exact ⟨rfl, HB.out.below hb, Kp.below0 HB.out.lt hb⟩
theorem len_b {W : World} {X : Nat → Prop} {g : Nat} {L : List Int} (h : Buf W X g L) :
    Calls Tryd.prog 19 #[.pointer (some ⟨g, 0, none⟩)] W fun e w' => e = .returned (.int .i64 (L.length : Int)) ∧ Buf w' X g L ∧ Kp X W w' := by
  obtain ⟨A, m, B, h1, h2, h3, h⟩ := h
  refine (len_z h (by omega)).mono ?_
  rintro e w' ⟨rfl, q, rfl⟩
  exact ⟨by rw [← h1, List.length_append], ⟨A, m, B, h1, h2, h3, h.drewN q⟩, (Kp.refl W).drewN q⟩
set_option maxRecDepth 100000 in
set_option maxHeartbeats 8000000 in
/-- The checks that fail. -/
theorem insert_no {W : World} {X : Nat → Prop} {g : Nat} {L t : List Int} (at_ : Int) (s : ByteArray) (c : Int) (h : Buf W X g L) (hs : s.size ≤ 35184372088832) (hT : XAmb W) (ht : textOf s = some t) (htl : t.length ≤ 35184372088832) (hc : (at_ < 0 ∧ c = 3) ∨ (0 ≤ at_ ∧ (L.length : Int) < at_ ∧ c = 3) ∨ (0 ≤ at_ ∧ at_ ≤ (L.length : Int) ∧ 20000 < (L.length : Int) + (t.length : Int) ∧ c = 4)) :
    Calls Tryd.prog 18 #[.pointer (some ⟨g, 0, none⟩), .int .i64 at_, .string s] W fun e w' => e = .returned (.int .i64 c) ∧ Buf w' X g L ∧ Kp X W w' := by
  have hS := split_some s W t hs hT ht
  have HB := Lib.hid h
  obtain ⟨n, hn⟩ : ∃ n, L.length = n := ⟨_, rfl⟩
  have hn2 : n ≤ 20000 := by obtain ⟨A, m, B, h1, h2, h3, h⟩ := h; omega
  have hLen : ∀ W', Buf W' X g L → Calls Tryd.prog 19 #[.pointer (some ⟨g, 0, none⟩)] W' fun e w' => e = .returned (.int .i64 (n : Int)) ∧ Buf w' X g L ∧ Kp X W' w' := fun W' h => hn ▸ len_b h
  obtain ⟨k, hk⟩ : ∃ k, t.length = k := ⟨_, rfl⟩
  rw [hn, hk] at hc
  have HN := Lib.hid (And.intro hn hk)
  clear h hs ht hn
  rcases hc with ⟨h1, rfl⟩ | ⟨h1, h2, rfl⟩ | ⟨h1, h2, h3, rfl⟩
  · clear hk htl
    go_enter Tryd.func18, Tryd.ntmps18
    go_wp2_with (go_at_call 34; refine hS.mono ?_; rintro e w1 ⟨v, rfl, hv, hb⟩)
    go_ret
    exact ⟨rfl, HB.out.below hb, Kp.below0 HB.out.lt hb⟩
  · have h1' : ¬ at_ < 0 := by omega
    clear hk htl
    go_enter Tryd.func18, Tryd.ntmps18
    go_wp2_with (first
      | (go_at_call 34; refine hS.mono ?_; rintro e w1 ⟨v, rfl, hv, hb⟩; have hl1 := hLen w1 (HB.out.below hb))
      | (go_at_call 19; refine Calls.mono hl1 ?_; rintro e w2 ⟨rfl, hb2, hk2⟩))
    go_ret
    exact ⟨rfl, hb2, (Kp.below0 HB.out.lt hb).trans hk2⟩
  · have h1' : ¬ at_ < 0 := by omega
    have h2' : ¬ (n : Int) < at_ := by omega
    have e1 : wrap64 (20000 - (n : Int)) = 20000 - (n : Int) := w_id (by omega) (by omega)
    have h3' : 20000 - (n : Int) < (k : Int) := by omega
    clear htl h3
    go_enter Tryd.func18, Tryd.ntmps18
    go_wp2_with (first
      | (go_at_call 34; refine hS.mono ?_; rintro e w1 ⟨v, rfl, hv, hb⟩; obtain ⟨A1, c1, rfl⟩ := Kd.R_slice hv; have hl1 := hLen w1 (HB.out.below hb))
      | (go_at_call 19; refine Calls.mono hl1 ?_; rintro e w2 ⟨rfl, hb2, hk2⟩; have hl2 := hLen w2 hb2; clear hl1)
      | (go_at_call 19; refine Calls.mono hl2 ?_; rintro e w3 ⟨rfl, hb3, hk3⟩))
    go_ret
    exact ⟨rfl, hb3, ((Kp.below0 HB.out.lt hb).trans hk2).trans hk3⟩
end Go.Proofs.YtfhnepihbofabaaDoor.X
