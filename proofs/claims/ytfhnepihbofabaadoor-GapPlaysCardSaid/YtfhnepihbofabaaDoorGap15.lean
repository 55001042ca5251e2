/-
  Two texts as one (Gap14, Gap15): by this session, or printed. Conditions: as typed.
-/
import Derived.Test.YtfhnepihbofabaaDoorGap13
import Derived.Test.YtfhnepihbofabaaDoorTxtA
import Derived.Test.YtfhnepihbofabaaDoorPx4
namespace Go.Proofs.YtfhnepihbofabaaDoor.X
open Go Go.RowKit Go.Lib Go.Shelf Go.Proofs.YtfhnepihbofabaaDoorW.PrintWords
set_option linter.unusedVariables false
theorem text_abc : textOf ⟨#[97, 98, 10, 99]⟩ = some [97, 98, 10, 99] := by kernel_rfl
theorem ins_abc : insR [] 0 ⟨#[97, 98, 10, 99]⟩ = ([97, 98, 10, 99], 0) := by
  unfold insR
  rw [text_abc]
  rfl
theorem place_abc : placeR [97, 98, 10, 99] 3 = (1, 0, 0) := by kernel_rfl
theorem at_abc : atR [97, 98, 10, 99] 0 3 = (0, 3) := by kernel_rfl
theorem fa_abc : (fa [97, 98, 10, 99]).length + 1 = 2 := by kernel_rfl
set_option maxRecDepth 100000 in
set_option maxHeartbeats 8000000 in
theorem alive_w (W : World) (hT : XAmb W) : Calls Tryd.prog 8 #[] W fun e w' => e = .returned (.bool true) ∧ Below W.heap.size W w' := by
  have hN := new_ok (W := W) ⟨#[97, 98, 10, 99]⟩ (by decide) hT (by rw [ins_abc])
  rw [ins_abc] at hN
  obtain ⟨g, hg⟩ : ∃ g, W.heap.size = g := ⟨_, rfl⟩
  have hP : ∀ W', Buf W' (fun k => k < g) g [97, 98, 10, 99] → Calls Tryd.prog 14 #[.pointer (some ⟨g, 0, none⟩), .int .i64 3] W' fun e w' => e = .returned (.tuple #[.int .i64 1, .int .i64 0, .int .i64 0]) ∧ Below W'.heap.size W' w' := fun W' h => by
    have := place_w 3 h
    rw [place_abc] at this
    exact this
  have hA : ∀ W', Buf W' (fun k => k < g) g [97, 98, 10, 99] → Calls Tryd.prog 16 #[.pointer (some ⟨g, 0, none⟩), .int .i64 0, .int .i64 3] W' fun e w' => e = .returned (.tuple #[.int .i64 0, .int .i64 3]) ∧ Below W'.heap.size W' w' := fun W' h => by
    have := at_w 0 3 h
    rw [at_abc] at this
    exact this
  have hL : ∀ W', Buf W' (fun k => k < g) g [97, 98, 10, 99] → Calls Tryd.prog 25 #[.pointer (some ⟨g, 0, none⟩)] W' fun e w' => e = .returned (.int .i64 2) ∧ Below W'.heap.size W' w' := fun W' h => by
    have := lines_w h
    rw [fa_abc] at this
    exact this
  obtain ⟨L, hLL⟩ : ∃ L : List Int, L = [97, 98, 10, 99] := ⟨_, rfl⟩
  rw [← hLL] at hP hA hL hN
  rw [hg] at hN ⊢
  have HG := Lib.hid hg
  clear hT hLL hg
  go_enter Tryd.func8, Tryd.ntmps8
  go_wp2_with (first
    | (go_at_call 10; refine hN.mono ?_; rintro e w1 ⟨rfl, hB, hb⟩; have HC := Lib.hid (And.intro hB (show Below W.heap.size W w1 from HG.out.symm ▸ hb)); clear hN hB hb)
    | (go_at_call 14; refine (hP _ HC.out.1).mono ?_; rintro e w2 ⟨rfl, hb⟩; have HC2 := Lib.hid (And.intro (HC.out.1.below hb) (below_step HC.out.2 hb)); clear HC hb; have HC := HC2; clear HC2)
    | (go_at_call 16; refine (hA _ HC.out.1).mono ?_; rintro e w2 ⟨rfl, hb⟩; have HC2 := Lib.hid (And.intro (HC.out.1.below hb) (below_step HC.out.2 hb)); clear HC hb; have HC := HC2; clear HC2)
    | (go_at_call 25; refine (hL _ HC.out.1).mono ?_; rintro e w2 ⟨rfl, hb⟩; have HC2 := Lib.hid (And.intro (HC.out.1.below hb) (below_step HC.out.2 hb)); clear HC hb; have HC := HC2; clear HC2))
  go_ret
  exact ⟨rfl, HG.out ▸ HC.out.2⟩
/-- An act's answer. -/
def actR (L : List Int) (k at_ n : Int) (s : ByteArray) : List Int × Int := if k % 3 = 2 then delR L at_ n else insR L at_ s
set_option maxRecDepth 100000 in
set_option maxHeartbeats 8000000 in
theorem do_b {W : World} {X : Nat → Prop} {g : Nat} {L : List Int} (k at_ n : Int) (s : ByteArray) (h : Buf W X g L) (hk : 0 ≤ k ∧ k < 256) (hs : s.size ≤ 1000000) (hT : XAmb W) :
    Calls Tryd.prog 11 #[.pointer (some ⟨g, 0, none⟩), .agg #[.int .u8 k, .int .i64 at_, .int .i64 n, .string s]] W fun e w' => e = .returned (.int .i64 (actR L k at_ n s).2) ∧ Buf w' X g (actR L k at_ n s).1 ∧ Kp X W w' := by
  have hI := fun (W' : World) (hb : Below W.heap.size W W') => insert_b at_ s (h.below hb) hs (XAmb_below hT hb)
  have hD := fun (W' : World) (hb : Below W.heap.size W W') => delete_b at_ n (h.below hb)
  have hu := Tryd.underlying32
  have HB := Lib.hid h
  clear hT hs h
  obtain ⟨m, hm⟩ : ∃ m, k.tmod 3 = m := ⟨_, rfl⟩
  have hm2 : k % 3 = m := by rw [← hm, Int.tmod_eq_emod_of_nonneg hk.1]
  have hmw : IntKind.u8.wrap m = m := by
    have : m % 256 = m := by omega
    simpa [IntKind.wrap, IntKind.bits, IntKind.signed] using this
  unfold actR
  rw [hm2]
  by_cases h2 : m = 2
  · rw [if_pos h2]
    have hq : (m == (2 : Int)) = true := by rw [h2]; rfl
    clear h2 hI hm2 hk
    go_enter Tryd.func11, Tryd.ntmps11
    go_upto_region 1 with fail
    obtain ⟨W2, hW2⟩ : ∃ x, W.alloc (.cells #[.int .u8 k, .int .i64 at_, .int .i64 n, .string s] 32) = x := ⟨_, rfl⟩
    have hb2 : Below W.heap.size W W2 := hW2 ▸ below_alloc (Below.refl _ _) _
    have hh := (show W2.heap[W.heap.size]? = _ from hW2 ▸ Deep.blk_alloc_new W _)
    have hc := hD W2 hb2
    have HK := Lib.hid (Kp.below0 HB.out.lt hb2)
    have r0 : W2.cell? ⟨W.heap.size, 0, none⟩ = some (.int .u8 k) := (blk_cell hh 0).trans rfl
    have r1 : W2.cell? ⟨W.heap.size, 1, none⟩ = some (.int .i64 at_) := (blk_cell hh 1).trans rfl
    have r2 : W2.cell? ⟨W.heap.size, 2, none⟩ = some (.int .i64 n) := (blk_cell hh 2).trans rfl
    have r3 : W2.cell? ⟨W.heap.size, 3, none⟩ = some (.string s) := (blk_cell hh 3).trans rfl
    rw [hW2]
    clear hW2 hb2 hh hD
    go_wp2_with (go_at_call 22; refine hc.mono ?_; rintro e w3 ⟨rfl, hb3, hk3⟩)
    go_ret
    exact ⟨rfl, hb3, HK.out.trans hk3⟩
  · rw [if_neg h2]
    have hq : (m == (2 : Int)) = false := by rw [beq_eq_false_iff_ne]; exact h2
    clear h2 hD hm2 hk
    go_enter Tryd.func11, Tryd.ntmps11
    go_upto_region 1 with fail
    obtain ⟨W2, hW2⟩ : ∃ x, W.alloc (.cells #[.int .u8 k, .int .i64 at_, .int .i64 n, .string s] 32) = x := ⟨_, rfl⟩
    have hb2 : Below W.heap.size W W2 := hW2 ▸ below_alloc (Below.refl _ _) _
    have hh := (show W2.heap[W.heap.size]? = _ from hW2 ▸ Deep.blk_alloc_new W _)
    have hc := hI W2 hb2
    have HK := Lib.hid (Kp.below0 HB.out.lt hb2)
    have r0 : W2.cell? ⟨W.heap.size, 0, none⟩ = some (.int .u8 k) := (blk_cell hh 0).trans rfl
    have r1 : W2.cell? ⟨W.heap.size, 1, none⟩ = some (.int .i64 at_) := (blk_cell hh 1).trans rfl
    have r2 : W2.cell? ⟨W.heap.size, 2, none⟩ = some (.int .i64 n) := (blk_cell hh 2).trans rfl
    have r3 : W2.cell? ⟨W.heap.size, 3, none⟩ = some (.string s) := (blk_cell hh 3).trans rfl
    rw [hW2]
    clear hW2 hb2 hh hI
    go_wp2_with (go_at_call 18; refine hc.mono ?_; rintro e w3 ⟨rfl, hb3, hk3⟩)
    go_ret
    exact ⟨rfl, hb3, HK.out.trans hk3⟩
end Go.Proofs.YtfhnepihbofabaaDoor.X
namespace Go.Proofs.YtfhnepihbofabaaDoor.X
open Go Go.RowKit Go.Lib Go.Shelf Go.Proofs.YtfhnepihbofabaaDoorW.PrintWords Go.Proofs.YtfhnepihbofabaaDoor.P
set_option linter.unusedVariables false
theorem filter_take {F : List Int} (hs : F.Pairwise (· < ·)) (a : Int) : F.filter (fun x => decide (x < a)) = F.take (F.filter (fun x => decide (x < a))).length ∧ ∀ k x, (F.filter (fun x => decide (x < a))).length ≤ k → F[k]? = some x → a ≤ x := by
  induction F with
  | nil => exact ⟨rfl, fun k x _ h => by cases h⟩
  | cons y F ih =>
    obtain ⟨h1, h2⟩ := List.pairwise_cons.1 hs
    obtain ⟨i1, i2⟩ := ih h2
    by_cases hy : y < a
    · rw [List.filter_cons_of_pos (by simpa using hy)]
      refine ⟨?_, fun k x hk hx => ?_⟩
      · rw [List.length_cons, List.take_succ_cons, ← i1]
      · rw [List.length_cons] at hk
        cases k with
        | zero => omega
        | succ k => exact i2 k x (by omega) hx
    · have h0 : F.filter (fun x => decide (x < a)) = [] := List.filter_eq_nil_iff.2 (fun x hx => by have := h1 x hx; simp; omega)
      rw [List.filter_cons_of_neg (by simpa using hy), h0]
      refine ⟨rfl, fun k x hk hx => ?_⟩
      cases k with
      | zero => cases hx; omega
      | succ k =>
        have := h1 x (List.mem_of_getElem? hx)
        omega
/-- There and back. -/
theorem pa_back (L : List Int) (i : Nat) (hi : i ≤ L.length) : (placeR L i).2.2 = 0 ∧ atR L (placeR L i).1 (placeR L i).2.1 = ((i : Int), 0) := by
  have hF := fa_sorted L
  have hm : ∀ x ∈ fa L, 0 ≤ x ∧ x < (L.length : Int) := fun x hx => fa_mem hx
  obtain ⟨F, hFF⟩ : ∃ F, fa L = F := ⟨_, rfl⟩
  obtain ⟨n, hn⟩ : ∃ n, L.length = n := ⟨_, rfl⟩
  unfold placeR atR
  rw [hFF] at hF hm ⊢
  rw [hn] at hi hm ⊢
  rw [if_pos (show 0 ≤ (i : Int) ∧ (i : Int) ≤ (n : Int) by omega)]
  obtain ⟨q1, q2⟩ := filter_take hF (i : Int)
  obtain ⟨p, hp⟩ : ∃ p, (F.filter (fun x => decide (x < (i : Int)))).length = p := ⟨_, rfl⟩
  rw [hp] at q1 q2 ⊢
  have hpF : p ≤ F.length := by rw [← hp]; exact List.length_filter_le _ _
  have hlt : ∀ k x, k < p → F[k]? = some x → x < (i : Int) := fun k x hk hx => by
    have : x ∈ F.filter (fun x => decide (x < (i : Int))) := by
      rw [q1]
      exact List.mem_iff_getElem?.2 ⟨k, by rw [List.getElem?_take, if_pos hk]; exact hx⟩
    simpa using (List.mem_filter.1 this).2
  have hg : ∀ k x, F[k]? = some x → F.getD k 0 = x := fun k x hx => by rw [List.getD_eq_getElem?_getD, hx]; rfl
  have hlast : (i : Int) ≤ (if (p : Int) < (F.length : Int) then F.getD p 0 else (n : Int)) := by
    split
    · obtain ⟨x, hx⟩ : ∃ x, F[p]? = some x := ⟨_, List.getElem?_eq_getElem (by omega)⟩
      rw [hg p x hx]
      exact q2 p x (Nat.le_refl _) hx
    · omega
  by_cases h0 : p = 0
  · subst h0
    rw [if_pos rfl]
    refine ⟨rfl, ?_⟩
    show (if 0 ≤ (0 : Int) ∧ (0 : Int) ≤ (F.length : Int) ∧ 0 ≤ (i : Int) then _ else _) = _
    rw [if_pos ⟨by omega, by omega, by omega⟩]
    have e1 : (if (0 : Int) < 0 then F.getD ((0 : Int).toNat - 1) 0 + 1 else 0) = 0 := if_neg (by decide)
    have hl : (i : Int) ≤ (if (0 : Int) < (F.length : Int) then F.getD (0 : Int).toNat 0 else (n : Int)) := hlast
    show (if (if (0 : Int) < (F.length : Int) then F.getD (0 : Int).toNat 0 else (n : Int)) - (if (0 : Int) < 0 then F.getD ((0 : Int).toNat - 1) 0 + 1 else 0) < (i : Int) then _ else ((if (0 : Int) < 0 then F.getD ((0 : Int).toNat - 1) 0 + 1 else 0) + (i : Int), (0 : Int))) = _
    rw [e1, if_neg (by omega)]
    simp
  · rw [if_neg h0]
    refine ⟨rfl, ?_⟩
    obtain ⟨x, hx⟩ : ∃ x, F[p - 1]? = some x := ⟨_, List.getElem?_eq_getElem (by omega)⟩
    have hxi := hlt (p - 1) x (by omega) hx
    show (if 0 ≤ (p : Int) ∧ (p : Int) ≤ (F.length : Int) ∧ 0 ≤ (i : Int) - F.getD (p - 1) 0 - 1 then _ else _) = _
    rw [hg (p - 1) x hx, if_pos ⟨by omega, by omega, by omega⟩]
    have e1 : (if (0 : Int) < (p : Int) then F.getD ((p : Int).toNat - 1) 0 + 1 else 0) = x + 1 := by
      rw [if_pos (by omega), Int.toNat_natCast, hg (p - 1) x hx]
    show (if (if (p : Int) < (F.length : Int) then F.getD (p : Int).toNat 0 else (n : Int)) - (if (0 : Int) < (p : Int) then F.getD ((p : Int).toNat - 1) 0 + 1 else 0) < (i : Int) - x - 1 then _ else ((if (0 : Int) < (p : Int) then F.getD ((p : Int).toNat - 1) 0 + 1 else 0) + ((i : Int) - x - 1), (0 : Int))) = _
    rw [e1, Int.toNat_natCast, if_neg (by omega)]
    congr 1
    omega
theorem joinS_text {s : ByteArray} {l : List Int} (h : textOf s = some l) : joinS l = s := by
  obtain ⟨h1, h2⟩ := text_str h
  unfold joinS
  rw [if_pos h2, h1]
  rfl
theorem great_nil (s : ByteArray) : foolscaplaw02_great.f 5 s [] = some (decide (600 < s.size)) := by
  unfold foolscaplaw02_great.f
  by_cases h : (s.size : Int) > 600
  · have e : decide (600 < s.size) = true := decide_eq_true (by omega)
    rw [if_pos h, e]
    simp [foolscaplaw02_great.j0]
  · have e : decide (600 < s.size) = false := decide_eq_false (by omega)
    rw [if_neg h, e]
    simp [foolscaplaw02_great.j0, foolscaplaw02_great.l0]
theorem ins_slice {L t : List Int} {at_ : Nat} (hat : at_ ≤ L.length) : ((L.take at_ ++ t ++ L.drop at_).drop at_).take t.length = t ∧ (L.take at_ ++ t ++ L.drop at_).take at_ ++ (L.take at_ ++ t ++ L.drop at_).drop (at_ + t.length) = L := by
  have hl : (L.take at_).length = at_ := by rw [List.length_take]; omega
  have h1 : (L.take at_ ++ t ++ L.drop at_).drop at_ = t ++ L.drop at_ := by
    conv => lhs; rw [List.append_assoc, ← hl]
    rw [hl, List.drop_left' hl]
  have h2 : (L.take at_ ++ t ++ L.drop at_).take at_ = L.take at_ := by rw [List.append_assoc, List.take_left' hl]
  refine ⟨by rw [h1, List.take_left' rfl], ?_⟩
  rw [h2, ← List.drop_drop, h1, List.drop_left' rfl, List.take_append_drop]
end Go.Proofs.YtfhnepihbofabaaDoor.X
