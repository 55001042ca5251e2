/-
  The statements' alive and do, by hand: by this session. Conditions: as typed.
-/
import Derived.Test.YtfhnepihbofabaaDoorGap13
namespace Go.Proofs.YtfhnepihbofabaaDoor.X
open Go Go.RowKit Go.Lib Go.Shelf Go.Proofs.YtfhnepihbofabaaDoorW.PrintWords
set_option linter.unusedVariables false
theorem text_abc : textOf ⟨#[97, 98, 10, 99]⟩ = some [97, 98, 10, 99] := by kernel_rfl
theorem ins_abc : insR [] 0 ⟨#[97, 98, 10, 99]⟩ = ([97, 98, 10, 99], 0) := by
  unfold insR
  rw [text_abc]
  rfl
theorem place_abc : placeR [97, 98, 10, 99] 3 = (1, 0, 0) := by kernel_rfl
theorem at_abc : atR [97, 98, 10, 99] 0 3 = (0, 3) := by kernel_rfl
theorem fa_abc : (fa [97, 98, 10, 99]).length + 1 = 2 := by kernel_rfl
set_option maxRecDepth 100000 in
set_option maxHeartbeats 8000000 in
theorem alive_w (W : World) (hT : XAmb W) : Calls Tryd.prog 8 #[] W fun e w' => e = .returned (.bool true) ∧ Below W.heap.size W w' := by
  have hN := new_ok (W := W) ⟨#[97, 98, 10, 99]⟩ (by decide) hT (by rw [ins_abc])
  rw [ins_abc] at hN
  obtain ⟨g, hg⟩ : ∃ g, W.heap.size = g := ⟨_, rfl⟩
  have hP : ∀ W', Buf W' (fun k => k < g) g [97, 98, 10, 99] → Calls Tryd.prog 14 #[.pointer (some ⟨g, 0, none⟩), .int .i64 3] W' fun e w' => e = .returned (.tuple #[.int .i64 1, .int .i64 0, .int .i64 0]) ∧ Below W'.heap.size W' w' := fun W' h => by
    have := place_w 3 h
    rw [place_abc] at this
    exact this
  have hA : ∀ W', Buf W' (fun k => k < g) g [97, 98, 10, 99] → Calls Tryd.prog 16 #[.pointer (some ⟨g, 0, none⟩), .int .i64 0, .int .i64 3] W' fun e w' => e = .returned (.tuple #[.int .i64 0, .int .i64 3]) ∧ Below W'.heap.size W' w' := fun W' h => by
    have := at_w 0 3 h
    rw [at_abc] at this
    exact this
  have hL : ∀ W', Buf W' (fun k => k < g) g [97, 98, 10, 99] → Calls Tryd.prog 25 #[.pointer (some ⟨g, 0, none⟩)] W' fun e w' => e = .returned (.int .i64 2) ∧ Below W'.heap.size W' w' := fun W' h => by
    have := lines_w h
    rw [fa_abc] at this
    exact this
  obtain ⟨L, hLL⟩ : ∃ L : List Int, L = [97, 98, 10, 99] := ⟨_, rfl⟩
  rw [← hLL] at hP hA hL hN
  rw [hg] at hN ⊢
  have HG := Lib.hid hg
  clear hT hLL hg
  go_enter Tryd.func8, Tryd.ntmps8
  go_wp2_with (first
    | (go_at_call 10; refine hN.mono ?_; rintro e w1 ⟨rfl, hB, hb⟩; have HC := Lib.hid (And.intro hB (show Below W.heap.size W w1 from HG.out.symm ▸ hb)); clear hN hB hb)
    | (go_at_call 14; refine (hP _ HC.out.1).mono ?_; rintro e w2 ⟨rfl, hb⟩; have HC2 := Lib.hid (And.intro (HC.out.1.below hb) (below_step HC.out.2 hb)); clear HC hb; have HC := HC2; clear HC2)
    | (go_at_call 16; refine (hA _ HC.out.1).mono ?_; rintro e w2 ⟨rfl, hb⟩; have HC2 := Lib.hid (And.intro (HC.out.1.below hb) (below_step HC.out.2 hb)); clear HC hb; have HC := HC2; clear HC2)
    | (go_at_call 25; refine (hL _ HC.out.1).mono ?_; rintro e w2 ⟨rfl, hb⟩; have HC2 := Lib.hid (And.intro (HC.out.1.below hb) (below_step HC.out.2 hb)); clear HC hb; have HC := HC2; clear HC2))
  go_ret
  exact ⟨rfl, HG.out ▸ HC.out.2⟩
/-- An act's answer. -/
def actR (L : List Int) (k at_ n : Int) (s : ByteArray) : List Int × Int := if k % 3 = 2 then delR L at_ n else insR L at_ s
set_option maxRecDepth 100000 in
set_option maxHeartbeats 8000000 in
theorem do_b {W : World} {X : Nat → Prop} {g : Nat} {L : List Int} (k at_ n : Int) (s : ByteArray) (h : Buf W X g L) (hk : 0 ≤ k ∧ k < 256) (hs : s.size ≤ 1000000) (hT : XAmb W) :
    Calls Tryd.prog 11 #[.pointer (some ⟨g, 0, none⟩), .agg #[.int .u8 k, .int .i64 at_, .int .i64 n, .string s]] W fun e w' => e = .returned (.int .i64 (actR L k at_ n s).2) ∧ Buf w' X g (actR L k at_ n s).1 ∧ Kp X W w' := by
  have hI := fun (W' : World) (hb : Below W.heap.size W W') => insert_b at_ s (h.below hb) hs (XAmb_below hT hb)
  have hD := fun (W' : World) (hb : Below W.heap.size W W') => delete_b at_ n (h.below hb)
  have hu := Tryd.underlying32
  have HB := Lib.hid h
  clear hT hs h
  obtain ⟨m, hm⟩ : ∃ m, k.tmod 3 = m := ⟨_, rfl⟩
  have hm2 : k % 3 = m := by rw [← hm, Int.tmod_eq_emod_of_nonneg hk.1]
  have hmw : IntKind.u8.wrap m = m := by
    have : m % 256 = m := by omega
    simpa [IntKind.wrap, IntKind.bits, IntKind.signed] using this
  unfold actR
  rw [hm2]
  by_cases h2 : m = 2
  · rw [if_pos h2]
    have hq : (m == (2 : Int)) = true := by rw [h2]; rfl
    clear h2 hI hm2 hk
    go_enter Tryd.func11, Tryd.ntmps11
    go_upto_region 1 with fail
    obtain ⟨W2, hW2⟩ : ∃ x, W.alloc (.cells #[.int .u8 k, .int .i64 at_, .int .i64 n, .string s] 32) = x := ⟨_, rfl⟩
    have hb2 : Below W.heap.size W W2 := hW2 ▸ below_alloc (Below.refl _ _) _
    have hh := (show W2.heap[W.heap.size]? = _ from hW2 ▸ Deep.blk_alloc_new W _)
    have hc := hD W2 hb2
    have HK := Lib.hid (Kp.below0 HB.out.lt hb2)
    have r0 : W2.cell? ⟨W.heap.size, 0, none⟩ = some (.int .u8 k) := (blk_cell hh 0).trans rfl
    have r1 : W2.cell? ⟨W.heap.size, 1, none⟩ = some (.int .i64 at_) := (blk_cell hh 1).trans rfl
    have r2 : W2.cell? ⟨W.heap.size, 2, none⟩ = some (.int .i64 n) := (blk_cell hh 2).trans rfl
    have r3 : W2.cell? ⟨W.heap.size, 3, none⟩ = some (.string s) := (blk_cell hh 3).trans rfl
    rw [hW2]
    clear hW2 hb2 hh hD
    go_wp2_with (go_at_call 22; refine hc.mono ?_; rintro e w3 ⟨rfl, hb3, hk3⟩)
    go_ret
    exact ⟨rfl, hb3, HK.out.trans hk3⟩
  · rw [if_neg h2]
    have hq : (m == (2 : Int)) = false := by rw [beq_eq_false_iff_ne]; exact h2
    clear h2 hD hm2 hk
    go_enter Tryd.func11, Tryd.ntmps11
    go_upto_region 1 with fail
    obtain ⟨W2, hW2⟩ : ∃ x, W.alloc (.cells #[.int .u8 k, .int .i64 at_, .int .i64 n, .string s] 32) = x := ⟨_, rfl⟩
    have hb2 : Below W.heap.size W W2 := hW2 ▸ below_alloc (Below.refl _ _) _
    have hh := (show W2.heap[W.heap.size]? = _ from hW2 ▸ Deep.blk_alloc_new W _)
    have hc := hI W2 hb2
    have HK := Lib.hid (Kp.below0 HB.out.lt hb2)
    have r0 : W2.cell? ⟨W.heap.size, 0, none⟩ = some (.int .u8 k) := (blk_cell hh 0).trans rfl
    have r1 : W2.cell? ⟨W.heap.size, 1, none⟩ = some (.int .i64 at_) := (blk_cell hh 1).trans rfl
    have r2 : W2.cell? ⟨W.heap.size, 2, none⟩ = some (.int .i64 n) := (blk_cell hh 2).trans rfl
    have r3 : W2.cell? ⟨W.heap.size, 3, none⟩ = some (.string s) := (blk_cell hh 3).trans rfl
    rw [hW2]
    clear hW2 hb2 hh hI
    go_wp2_with (go_at_call 18; refine hc.mono ?_; rintro e w3 ⟨rfl, hb3, hk3⟩)
    go_ret
    exact ⟨rfl, hb3, HK.out.trans hk3⟩
end Go.Proofs.YtfhnepihbofabaaDoor.X
