/-
  package gap: New and Same: by this session. Conditions: as typed.
-/
import Derived.Test.YtfhnepihbofabaaDoorGap12
namespace Go.Proofs.YtfhnepihbofabaaDoor.X
open Go Go.RowKit Go.Lib Go.Shelf Go.Proofs.YtfhnepihbofabaaDoorW.PrintWords
set_option linter.unusedVariables false
theorem toList_inj {a b : ByteArray} (h : a.toList = b.toList) : a = b := by
  rw [Go.ByteArray.toList_eq, Go.ByteArray.toList_eq] at h
  apply ByteArray.ext
  exact Array.ext' h
theorem beq_text (S T : ByteArray) : (S.toList == T.toList) = decide (S = T) := by
  by_cases h : S = T
  · subst h; simp
  · rw [decide_eq_false h, beq_eq_false_iff_ne]
    exact fun e => h (toList_inj e)
theorem buf_new (W : World) : Buf (W.alloc (.cells #[.slice none 0 0, .int .i64 0, .int .i64 0, .slice none 0 0, .slice none 0 0] 68)) (fun k => k < W.heap.size) W.heap.size [] := by
  have hb := Deep.blk_alloc_new W (.cells #[.slice none 0 0, .int .i64 0, .int .i64 0, .slice none 0 0, .slice none 0 0] 68)
  refine ⟨[], 0, [], rfl, by decide, by decide, [], .slice none 0 0, .slice none 0 0, .slice none 0 0, rfl, fun k hk => ?_, fun hk => Nat.lt_irrefl _ hk, hb, Kd.R_nil _ _ _ _ _, Kd.R_nil _ _ _ _ _, Kd.R_nil _ _ _ _ _, fun b hb => ?_, fun b hb => ?_, fun b hb => ?_, fun b hb => ?_⟩
  · have : k < W.heap.size := hk
    simp
    omega
  all_goals cases hb
set_option maxRecDepth 100000 in
set_option maxHeartbeats 8000000 in
theorem new_ok {W : World} (s : ByteArray) (hs : s.size ≤ 1000000) (hT : XAmb W) (h0 : (insR [] 0 s).2 = 0) :
    Calls Tryd.prog 10 #[.string s] W fun e w' => e = .returned (.tuple #[.pointer (some ⟨W.heap.size, 0, none⟩), .int .i64 0]) ∧ Buf w' (fun k => k < W.heap.size) W.heap.size (insR [] 0 s).1 ∧ Below W.heap.size W w' := by
  have hI := insert_b 0 s (buf_new W) hs (XAmb_below hT (below_alloc (Below.refl _ _) _))
  rw [h0] at hI
  obtain ⟨W2, hW2⟩ : ∃ x, W.alloc (.cells #[.slice none 0 0, .int .i64 0, .int .i64 0, .slice none 0 0, .slice none 0 0] 68) = x := ⟨_, rfl⟩
  rw [hW2] at hI
  have hb2 : Below W.heap.size W W2 := hW2 ▸ below_alloc (Below.refl _ _) _
  have HW := Lib.hid (And.intro hW2 hb2)
  obtain ⟨L, hL⟩ : ∃ L, (insR [] 0 s).1 = L := ⟨_, rfl⟩
  rw [hL] at hI ⊢
  clear hT h0 hs hW2 hb2 hL
  go_enter Tryd.func10, Tryd.ntmps10
  go_wp2_with (go_at_call 18; (try rw [HW.out.1]); refine hI.mono ?_; rintro e w3 ⟨rfl, hb, hk⟩)
  go_ret2
  exact ⟨rfl, hb, HW.out.2.trans hk.out⟩
set_option maxRecDepth 100000 in
set_option maxHeartbeats 8000000 in
theorem new_no {W : World} (s : ByteArray) (hs : s.size ≤ 1000000) (hT : XAmb W) (c : Int) (h1 : (insR [] 0 s).2 = c) (h0 : c ≠ 0) :
    Calls Tryd.prog 10 #[.string s] W fun e w' => e = .returned (.tuple #[.pointer none, .int .i64 c]) ∧ Below W.heap.size W w' := by
  have hI := insert_b 0 s (buf_new W) hs (XAmb_below hT (below_alloc (Below.refl _ _) _))
  rw [h1] at hI
  obtain ⟨W2, hW2⟩ : ∃ x, W.alloc (.cells #[.slice none 0 0, .int .i64 0, .int .i64 0, .slice none 0 0, .slice none 0 0] 68) = x := ⟨_, rfl⟩
  rw [hW2] at hI
  have hb2 : Below W.heap.size W W2 := hW2 ▸ below_alloc (Below.refl _ _) _
  have HW := Lib.hid (And.intro hW2 hb2)
  obtain ⟨L, hL⟩ : ∃ L, (insR [] 0 s).1 = L := ⟨_, rfl⟩
  rw [hL] at hI
  have hc : (c == 0) = false := beq_eq_false_iff_ne.2 h0
  have hc2 : (c != 0) = true := by rw [bne_iff_ne]; exact h0
  clear hT h0 h1 hs hW2 hb2 hL
  go_enter Tryd.func10, Tryd.ntmps10
  go_wp2_with (go_at_call 18; (try rw [HW.out.1]); refine hI.mono ?_; rintro e w3 ⟨rfl, hb, hk⟩)
  go_ret2
  exact ⟨rfl, HW.out.2.trans hk.out⟩
theorem same_nil1 (v : Value) (W : World) : Calls Tryd.prog 24 #[.pointer none, v] W fun e w' => e = .returned (.bool false) ∧ w' = W := by
  go_enter Tryd.func24, Tryd.ntmps24
  go_wp2
  go_ret
  exact ⟨rfl, rfl⟩
theorem same_nil2 (a : Addr) (W : World) : Calls Tryd.prog 24 #[.pointer (some a), .pointer none] W fun e w' => e = .returned (.bool false) ∧ w' = W := by
  go_enter Tryd.func24, Tryd.ntmps24
  go_wp2
  go_ret
  exact ⟨rfl, rfl⟩
set_option maxRecDepth 100000 in
set_option maxHeartbeats 8000000 in
theorem same_w {W : World} {X Y : Nat → Prop} {g k : Nat} {L M : List Int} (h : Buf W X g L) (h' : Buf W Y k M) :
    Calls Tryd.prog 24 #[.pointer (some ⟨g, 0, none⟩), .pointer (some ⟨k, 0, none⟩)] W fun e w' => e = .returned (.bool (decide (L.length = M.length ∧ joinS L = joinS M))) ∧ Below W.heap.size W w' := by
  obtain ⟨n, hn⟩ : ∃ n, L.length = n := ⟨_, rfl⟩
  obtain ⟨m, hm⟩ : ∃ m, M.length = m := ⟨_, rfl⟩
  obtain ⟨S, hS⟩ : ∃ S, joinS L = S := ⟨_, rfl⟩
  obtain ⟨T, hT⟩ : ∃ T, joinS M = T := ⟨_, rfl⟩
  have c1 : ∀ W', Below W.heap.size W W' → Calls Tryd.prog 19 #[.pointer (some ⟨g, 0, none⟩)] W' fun e w' => e = .returned (.int .i64 (n : Int)) ∧ Below W.heap.size W w' := fun W' hb => by
    rw [← hn]
    refine (len_w (h.below hb)).mono ?_
    rintro e w' ⟨rfl, hb2⟩
    exact ⟨rfl, below_step hb hb2⟩
  have c2 : ∀ W', Below W.heap.size W W' → Calls Tryd.prog 19 #[.pointer (some ⟨k, 0, none⟩)] W' fun e w' => e = .returned (.int .i64 (m : Int)) ∧ Below W.heap.size W w' := fun W' hb => by
    rw [← hm]
    refine (len_w (h'.below hb)).mono ?_
    rintro e w' ⟨rfl, hb2⟩
    exact ⟨rfl, below_step hb hb2⟩
  have c3 : ∀ W', Below W.heap.size W W' → Calls Tryd.prog 13 #[.pointer (some ⟨g, 0, none⟩)] W' fun e w' => e = .returned (.string S) ∧ Below W.heap.size W w' := fun W' hb => by
    rw [← hS]
    refine (text_b (h.below hb)).mono ?_
    rintro e w' ⟨rfl, hb2⟩
    exact ⟨rfl, below_step hb hb2⟩
  have c4 : ∀ W', Below W.heap.size W W' → Calls Tryd.prog 13 #[.pointer (some ⟨k, 0, none⟩)] W' fun e w' => e = .returned (.string T) ∧ Below W.heap.size W w' := fun W' hb => by
    rw [← hT]
    refine (text_b (h'.below hb)).mono ?_
    rintro e w' ⟨rfl, hb2⟩
    exact ⟨rfl, below_step hb hb2⟩
  have d1 := c1 W (Below.refl _ _)
  clear c1
  rw [hn, hm, hS, hT]
  clear h h' hn hm hS hT
  by_cases hnm : n = m
  · have he : decide (n = m ∧ S = T) = decide (S = T) := by simp [hnm]
    rw [he]
    have e1 : ((n : Int) == (m : Int)) = true := by rw [beq_iff_eq]; omega
    clear he hnm
    go_enter Tryd.func24, Tryd.ntmps24
    go_wp2_with (first
      | (go_at_call 19; refine d1.mono ?_; rintro e w1 ⟨rfl, hb1⟩; have d2 := c2 w1 hb1; clear d1)
      | (go_at_call 19; refine d2.mono ?_; rintro e w2 ⟨rfl, hb2⟩; have d3 := c3 w2 hb2; clear d2)
      | (go_at_call 13; refine d3.mono ?_; rintro e w3 ⟨rfl, hb3⟩; have d4 := c4 w3 hb3; clear d3)
      | (go_at_call 13; refine d4.mono ?_; rintro e w4 ⟨rfl, hb4⟩))
    go_ret
    exact ⟨by simp [beq_text], hb4⟩
  · have he : decide (n = m ∧ S = T) = false := by simp [hnm]
    rw [he]
    have e1 : ((n : Int) == (m : Int)) = false := by rw [beq_eq_false_iff_ne]; omega
    clear he hnm c3 c4
    go_enter Tryd.func24, Tryd.ntmps24
    go_wp2_with (first
      | (go_at_call 19; refine d1.mono ?_; rintro e w1 ⟨rfl, hb1⟩; have d2 := c2 w1 hb1; clear d1)
      | (go_at_call 19; refine d2.mono ?_; rintro e w2 ⟨rfl, hb2⟩))
    go_ret
    exact ⟨by first | rfl | (simp; done), hb2⟩
end Go.Proofs.YtfhnepihbofabaaDoor.X
