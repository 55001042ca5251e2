/-
  The statement GapBack, walked by hand: it is true of every input: by this session. Conditions: as typed.
-/
import Derived.Test.YtfhnepihbofabaaDoorGap15
namespace Go.Proofs.YtfhnepihbofabaaDoor.X
open Go Go.RowKit Go.Lib Go.Shelf Go.Proofs.YtfhnepihbofabaaDoorW.PrintWords Go.Proofs.YtfhnepihbofabaaDoor.P
set_option linter.unusedVariables false
theorem great_w (s : ByteArray) (b : Bool) (hb : decide (600 < s.size) = b) (W : World) : Calls Tryd.prog 9 #[.string s, .slice none 0 0] W fun e w' => e = .returned (.bool b) ∧ Below W.heap.size W w' := by
  refine (foolscaplaw02_great.calls 5 s none 0 [] _ W (Kd.C_nil _ _) (Nat.le_refl _) (great_nil s)).mono ?_
  rintro e w' ⟨rfl, m, rfl⟩
  exact ⟨by rw [hb], pw_below_drewN (Below.refl _ _) m⟩
theorem insR_bad {L : List Int} {at_ : Int} {s : ByteArray} (h : (insR L at_ s).2 ≠ 0) : (insR L at_ s).1 = L := by
  unfold insR at *
  split
  · rfl
  · rename_i t ht
    rw [ht] at h
    simp only at h
    split
    · rename_i h1
      rw [if_pos h1] at h
      split
      · rename_i h2
        rw [if_pos h2] at h
        exact absurd rfl h
      · rfl
    · rfl
theorem insR_ok {L : List Int} {at_ : Int} {s : ByteArray} (h : (insR L at_ s).2 = 0) : ∃ (t : List Int) (k : Nat), textOf s = some t ∧ at_ = (k : Int) ∧ k ≤ L.length ∧ L.length + t.length ≤ 20000 ∧ (insR L at_ s).1 = L.take k ++ t ++ L.drop k := by
  unfold insR at *
  split at h
  · cases h
  · rename_i t ht
    split at h
    · rename_i h1
      split at h
      · rename_i h2
        refine ⟨t, at_.toNat, ht, (Int.toNat_of_nonneg h1.1).symm, by omega, by omega, ?_⟩
        simp only [if_pos h1, if_pos h2]
      · cases h
    · cases h
set_option maxRecDepth 100000 in
set_option maxHeartbeats 8000000 in
theorem back_g (a0 a1 : ByteArray) (a2 : Int) (W : World) (hT : XAmb W) (hg : 600 < a0.size ∨ 600 < a1.size) :
    Calls Tryd.prog 4 #[.string a0, .string a1, .int .i64 a2] W fun e w' => e = .returned (.bool true) ∧ Below W.heap.size W w' := by
  have hA := alive_w W hT
  by_cases h0 : 600 < a0.size
  · have c0 := great_w a0 true (decide_eq_true h0)
    clear hT hg h0
    go_enter Tryd.func4, Tryd.ntmps4
    go_wp2_with (first
      | (go_at_call 8; refine hA.mono ?_; rintro e w1 ⟨rfl, hb1⟩; clear hA)
      | (go_at_call 9; refine (c0 _).mono ?_; rintro e w2 ⟨rfl, hb2⟩))
    go_ret
    exact ⟨rfl, below_step hb1 hb2⟩
  · have c0 := great_w a0 false (decide_eq_false h0)
    have c1 := great_w a1 true (decide_eq_true (hg.resolve_left h0))
    clear hT hg h0
    go_enter Tryd.func4, Tryd.ntmps4
    go_wp2_with (first
      | (go_at_call 8; refine hA.mono ?_; rintro e w1 ⟨rfl, hb1⟩; clear hA)
      | (go_at_call 9; refine (c0 _).mono ?_; rintro e w2 ⟨rfl, hb2⟩; have hb := below_step hb1 hb2; clear c0 hb1 hb2)
      | (go_at_call 9; refine (c1 _).mono ?_; rintro e w3 ⟨rfl, hb3⟩))
    go_ret
    exact ⟨rfl, below_step hb hb3⟩
set_option maxRecDepth 100000 in
set_option maxHeartbeats 8000000 in
theorem back_n (a0 a1 : ByteArray) (a2 : Int) (W : World) (hT : XAmb W) (h0 : ¬ 600 < a0.size) (h1 : ¬ 600 < a1.size) (hn : (insR [] 0 a0).2 ≠ 0) :
    Calls Tryd.prog 4 #[.string a0, .string a1, .int .i64 a2] W fun e w' => e = .returned (.bool true) ∧ Below W.heap.size W w' := by
  have hA := alive_w W hT
  have c0 := great_w a0 false (decide_eq_false h0)
  have c1 := great_w a1 false (decide_eq_false h1)
  obtain ⟨c, hc⟩ : ∃ c, (insR [] 0 a0).2 = c := ⟨_, rfl⟩
  rw [hc] at hn
  have hN := fun (W' : World) (hb : Below W.heap.size W W') => new_no a0 (by omega) (XAmb_below hT hb) c hc hn
  have hc1 : (c == 0) = false := beq_eq_false_iff_ne.2 hn
  have hc2 : (c != 0) = true := by rw [bne_iff_ne]; exact hn
  clear hT h0 h1 hc hn
  go_enter Tryd.func4, Tryd.ntmps4
  go_wp2_with (first
    | (go_at_call 8; refine hA.mono ?_; rintro e w1 ⟨rfl, hb1⟩; clear hA)
    | (go_at_call 9; refine (c0 _).mono ?_; rintro e w2 ⟨rfl, hb2⟩; have hb := below_step hb1 hb2; clear c0 hb1 hb2)
    | (go_at_call 9; refine (c1 _).mono ?_; rintro e w3 ⟨rfl, hb3⟩; have hc := below_step hb hb3; clear c1 hb hb3)
    | (go_at_call 10; refine (hN _ hc).mono ?_; rintro e w4 ⟨rfl, hb4⟩))
  go_ret
  exact ⟨rfl, below_step hc hb4⟩
theorem kp_out {W W1 w2 : World} {g : Nat} (h : Kp (fun k => k < g) W1 w2) (hg : W.heap.size ≤ g) (hb : Below W.heap.size W W1) : Below W.heap.size W w2 := hb.trans (h.out.mono hg)
set_option maxRecDepth 100000 in
set_option maxHeartbeats 8000000 in
/-- Insert refuses. -/
theorem back_i (a0 a1 : ByteArray) (a2 : Int) (W : World) (hT : XAmb W) (h0 : ¬ 600 < a0.size) (h1 : ¬ 600 < a1.size) (L : List Int) (hn : insR [] 0 a0 = (L, 0)) (hL : textOf a0 = some L) (c : Int) (hi : insR L a2 a1 = (L, c)) (hc0 : c ≠ 0) :
    Calls Tryd.prog 4 #[.string a0, .string a1, .int .i64 a2] W fun e w' => e = .returned (.bool true) ∧ Below W.heap.size W w' := by
  have hA := alive_w W hT
  have c0 := great_w a0 false (decide_eq_false h0)
  have c1 := great_w a1 false (decide_eq_false h1)
  have hN := fun (W' : World) (hb : Below W.heap.size W W') => new_ok (W := W') a0 (by omega) (XAmb_below hT hb) (by rw [hn])
  rw [hn] at hN
  have hTx : ∀ (X : Nat → Prop) (g : Nat) (W' : World), Buf W' X g L → Calls Tryd.prog 13 #[.pointer (some ⟨g, 0, none⟩)] W' fun e w' => e = .returned (.string a0) ∧ Below W'.heap.size W' w' := fun X g W' h => by
    have := text_b h
    rw [joinS_text hL] at this
    exact this
  have hIn : ∀ (X : Nat → Prop) (g : Nat) (W' : World), Buf W' X g L → Below W.heap.size W W' → Calls Tryd.prog 18 #[.pointer (some ⟨g, 0, none⟩), .int .i64 a2, .string a1] W' fun e w' => e = .returned (.int .i64 c) ∧ Buf w' X g L ∧ Kp X W' w' := fun X g W' h hb => by
    have := insert_b a2 a1 h (by omega) (XAmb_below hT hb)
    rw [hi] at this
    exact this
  have hq1 : (c == 0) = false := beq_eq_false_iff_ne.2 hc0
  have hq2 : (c != 0) = true := by rw [bne_iff_ne]; exact hc0
  clear hT h0 h1 hn hL hi hc0
  go_enter Tryd.func4, Tryd.ntmps4
  go_wp2_with (first
    | (go_at_call 8; refine hA.mono ?_; rintro e w1 ⟨rfl, hb1⟩; clear hA)
    | (go_at_call 9; refine (c0 _).mono ?_; rintro e w2 ⟨rfl, hb2⟩; have hb := below_step hb1 hb2; clear c0 hb1 hb2)
    | (go_at_call 9; refine (c1 _).mono ?_; rintro e w3 ⟨rfl, hb3⟩; have hc := below_step hb hb3; clear c1 hb hb3)
    | (go_at_call 10; refine (hN _ hc).mono ?_; rintro e w4 ⟨rfl, hB4, hb4⟩; obtain ⟨g, hg⟩ : ∃ g, w3.heap.size = g := ⟨_, rfl⟩; rw [hg]; rw [hg] at hB4; have hgW : W.heap.size ≤ g := hg ▸ hc.size; have HC := Lib.hid (And.intro hB4 (below_step hc hb4)); have HG := Lib.hid hgW; clear hN hc hB4 hb4 hg hgW)
    | (go_at_call 13; refine (hTx _ _ _ HC.out.1).mono ?_; rintro e w2 ⟨rfl, hb⟩; have HC2 := Lib.hid (And.intro (HC.out.1.below hb) (below_step HC.out.2 hb)); clear HC hb; have HC := HC2; clear HC2)
    | (go_at_call 18; refine (hIn _ _ _ HC.out.1 HC.out.2).mono ?_; rintro e w2 ⟨rfl, hb, hk⟩; have HC2 := Lib.hid (And.intro hb (kp_out hk HG.out HC.out.2)); clear HC hb hk; have HC := HC2; clear HC2))
  go_ret
  exact ⟨by first | rfl | simp, HC.out.2⟩
set_option maxRecDepth 100000 in
set_option maxHeartbeats 16000000 in
/-- All is well. -/
theorem back_ok (a0 a1 : ByteArray) (a2 : Nat) (W : World) (hT : XAmb W) (h0 : ¬ 600 < a0.size) (h1 : ¬ 600 < a1.size) (L t : List Int) (hn : insR [] 0 a0 = (L, 0)) (hL : textOf a0 = some L) (ht : textOf a1 = some t) (hat : a2 ≤ L.length) (hi : insR L a2 a1 = (L.take a2 ++ t ++ L.drop a2, 0)) :
    Calls Tryd.prog 4 #[.string a0, .string a1, .int .i64 a2] W fun e w' => e = .returned (.bool true) ∧ Below W.heap.size W w' := by
  have hA := alive_w W hT
  have c0 := great_w a0 false (decide_eq_false h0)
  have c1 := great_w a1 false (decide_eq_false h1)
  have hN := fun (W' : World) (hb : Below W.heap.size W W') => new_ok (W := W') a0 (by omega) (XAmb_below hT hb) (by rw [hn])
  rw [hn] at hN
  have hTx : ∀ (X : Nat → Prop) (g : Nat) (W' : World), Buf W' X g L → Calls Tryd.prog 13 #[.pointer (some ⟨g, 0, none⟩)] W' fun e w' => e = .returned (.string a0) ∧ Below W'.heap.size W' w' := fun X g W' h => by
    have := text_b h
    rw [joinS_text hL] at this
    exact this
  obtain ⟨M, hM⟩ : ∃ M, L.take a2 ++ t ++ L.drop a2 = M := ⟨_, rfl⟩
  obtain ⟨hs1, hs2⟩ := ins_slice (t := t) hat
  rw [hM] at hi hs1 hs2
  have hMl : M.length = L.length + t.length := by rw [← hM, List.length_append, List.length_append, List.length_take, List.length_drop]; omega
  have hIn : ∀ (X : Nat → Prop) (g : Nat) (W' : World), Buf W' X g L → Below W.heap.size W W' → Calls Tryd.prog 18 #[.pointer (some ⟨g, 0, none⟩), .int .i64 a2, .string a1] W' fun e w' => e = .returned (.int .i64 0) ∧ Buf w' X g M ∧ Kp X W' w' := fun X g W' h hb => by
    have := insert_b a2 a1 h (by omega) (XAmb_below hT hb)
    rw [hi] at this
    exact this
  obtain ⟨n, hnt⟩ : ∃ n, t.length = n := ⟨_, rfl⟩
  obtain ⟨m, hm⟩ : ∃ m, M.length = m := ⟨_, rfl⟩
  have hm2 : m ≤ 100000 := by
    have := textOf_len hL
    have := textOf_len ht
    omega
  have hLn : ∀ (X : Nat → Prop) (g : Nat) (W' : World), Buf W' X g M → Calls Tryd.prog 19 #[.pointer (some ⟨g, 0, none⟩)] W' fun e w' => e = .returned (.int .i64 (m : Int)) ∧ Below W'.heap.size W' w' := fun X g W' h => hm ▸ len_w h
  have hSl : ∀ (X : Nat → Prop) (g : Nat) (W' : World), Buf W' X g M → Calls Tryd.prog 21 #[.pointer (some ⟨g, 0, none⟩), .int .i64 a2, .int .i64 n] W' fun e w' => e = .returned (.tuple #[.string a1, .int .i64 0]) ∧ Below W'.heap.size W' w' := fun X g W' h => by
    have := slice_ok a2 n h (by omega)
    rw [← hnt, hs1, joinS_text ht] at this
    rw [← hnt]
    exact this
  have hDe : ∀ (X : Nat → Prop) (g : Nat) (W' : World), Buf W' X g M → Calls Tryd.prog 22 #[.pointer (some ⟨g, 0, none⟩), .int .i64 a2, .int .i64 n] W' fun e w' => e = .returned (.int .i64 0) ∧ Buf w' X g L ∧ Kp X W' w' := fun X g W' h => by
    have := delete_ok a2 n h (by omega)
    rw [← hnt, hs2] at this
    rw [← hnt]
    exact this
  have hRl : ∀ W', Below W.heap.size W W' → Calls Tryd.prog 20 #[.string a1] W' fun e w' => e = .returned (.int .i64 (n : Int)) ∧ Below W'.heap.size W' w' := fun W' hb => by
    obtain ⟨K, hK⟩ := len_ev a1 (by omega)
    have e := hK K (Nat.le_refl _)
    rw [lenU_of_some ht, hnt] at e
    exact foolscapref01_Len.calls K a1 n W' e
  have hPA : ∀ (i : Nat), i ≤ m → ∃ x y : Int, (∀ (X : Nat → Prop) (g : Nat) (W' : World), Buf W' X g M → Calls Tryd.prog 14 #[.pointer (some ⟨g, 0, none⟩), .int .i64 i] W' fun e w' => e = .returned (.tuple #[.int .i64 x, .int .i64 y, .int .i64 0]) ∧ Below W'.heap.size W' w') ∧ (∀ (X : Nat → Prop) (g : Nat) (W' : World), Buf W' X g M → Calls Tryd.prog 16 #[.pointer (some ⟨g, 0, none⟩), .int .i64 x, .int .i64 y] W' fun e w' => e = .returned (.tuple #[.int .i64 i, .int .i64 0]) ∧ Below W'.heap.size W' w') := fun i him => by
    obtain ⟨q1, q2⟩ := pa_back M i (by omega)
    refine ⟨(placeR M i).1, (placeR M i).2.1, fun X g W' h => ?_, fun X g W' h => ?_⟩
    · have := place_w (i : Int) h
      rw [q1] at this
      exact this
    · have := at_w (placeR M i).1 (placeR M i).2.1 h
      rw [q2] at this
      exact this
  clear hT h0 h1 hn hL ht hat hi hM hs1 hs2 hMl hnt hm
  go_enter Tryd.func4, Tryd.ntmps4
  go_upto_block 0 with (first
    | (go_at_call 8; refine hA.mono ?_; rintro e w1 ⟨rfl, hb1⟩; clear hA)
    | (go_at_call 9; refine (c0 _).mono ?_; rintro e w2 ⟨rfl, hb2⟩; have hb := below_step hb1 hb2; clear c0 hb1 hb2)
    | (go_at_call 9; refine (c1 _).mono ?_; rintro e w3 ⟨rfl, hb3⟩; have hc := below_step hb hb3; clear c1 hb hb3)
    | (go_at_call 10; refine (hN _ hc).mono ?_; rintro e w4 ⟨rfl, hB4, hb4⟩; obtain ⟨g, hg⟩ : ∃ g, w3.heap.size = g := ⟨_, rfl⟩; rw [hg]; rw [hg] at hB4; have hgW : W.heap.size ≤ g := hg ▸ hc.size; have HC := Lib.hid (And.intro hB4 (below_step hc hb4)); have HG := Lib.hid hgW; clear hN hc hB4 hb4 hg hgW)
    | (go_at_call 13; refine (hTx _ _ _ HC.out.1).mono ?_; rintro e w2 ⟨rfl, hb⟩; have HC2 := Lib.hid (And.intro (HC.out.1.below hb) (below_step HC.out.2 hb)); clear HC hb; have HC := HC2; clear HC2)
    | (go_at_call 18; refine (hIn _ _ _ HC.out.1 HC.out.2).mono ?_; rintro e w2 ⟨rfl, hb, hk⟩; have HC2 := Lib.hid (And.intro hb (kp_out hk HG.out HC.out.2)); clear HC hb hk; have HC := HC2; clear HC2))
  clear hIn
  go_wp2
  go_loopg [10, 11, 12, 13, 14, 15] (m + 1) (fun j u10 u11 u12 u13 u14 u15 wr => ∃ i : Nat, u10 = .int .i64 (i : Nat) ∧ Aside0 (i + j = m + 1 ∧ Buf wr (fun k => k < g) g M ∧ Below W.heap.size W wr))
  case atStart => exact ⟨0, rfl, ⟨by omega, HC.out.1, HC.out.2⟩⟩
  case round =>
    obtain ⟨i, rfl, HR⟩ := hrel
    have HR1 := Lib.hid HR.out.1
    have HC : Hid (Buf wr (fun k => k < g) g M ∧ Below W.heap.size W wr) := Lib.hid HR.out.2
    clear HR
    by_cases him : i ≤ m
    · obtain ⟨x, y, hP, hQ⟩ := hPA i him
      have hle : (i : Int) ≤ (m : Int) := by omega
      have hw : wrap64 ((i : Int) + 1) = ((i + 1 : Nat) : Int) := w_nat (by omega) (by omega)
      clear hPA him hTx hSl hDe hRl
      go_wp2_with (first
        | (go_at_call 19; refine (hLn _ _ _ HC.out.1).mono ?_; rintro e w2 ⟨rfl, hb⟩; have HC2 := Lib.hid (And.intro (HC.out.1.below hb) (below_step HC.out.2 hb)); clear HC hb; have HC := HC2; clear HC2)
        | (go_at_call 14; refine (hP _ _ _ HC.out.1).mono ?_; rintro e w2 ⟨rfl, hb⟩; have HC2 := Lib.hid (And.intro (HC.out.1.below hb) (below_step HC.out.2 hb)); clear HC hb; have HC := HC2; clear HC2)
        | (go_at_call 16; refine (hQ _ _ _ HC.out.1).mono ?_; rintro e w2 ⟨rfl, hb⟩; have HC2 := Lib.hid (And.intro (HC.out.1.below hb) (below_step HC.out.2 hb)); clear HC hb; have HC := HC2; clear HC2))
      go_roundg (m - i)
      case measure => have := HR1.out; clear hw; omega
      case rel => exact ⟨i + 1, by first | rfl | (rw [hw]), ⟨by have := HR1.out; clear hw; omega, HC.out.1, HC.out.2⟩⟩
    · have hle : ¬ (i : Int) ≤ (m : Int) := by omega
      clear hPA him
      go_wp2_with (first
        | (go_at_call 19; refine (hLn _ _ _ HC.out.1).mono ?_; rintro e w2 ⟨rfl, hb⟩; have HC2 := Lib.hid (And.intro (HC.out.1.below hb) (below_step HC.out.2 hb)); clear HC hb; have HC := HC2; clear HC2)
        | (go_at_call 20; refine (hRl _ HC.out.2).mono ?_; rintro e w2 ⟨rfl, hb⟩; have HC2 := Lib.hid (And.intro (HC.out.1.below hb) (below_step HC.out.2 hb)); clear HC hb; have HC := HC2; clear HC2)
        | (go_at_call 21; refine (hSl _ _ _ HC.out.1).mono ?_; rintro e w2 ⟨rfl, hb⟩; have HC2 := Lib.hid (And.intro (HC.out.1.below hb) (below_step HC.out.2 hb)); clear HC hb; have HC := HC2; clear HC2)
        | (go_at_call 22; refine (hDe _ _ _ HC.out.1).mono ?_; rintro e w2 ⟨rfl, hb, hk⟩; have HC2 := Lib.hid (And.intro hb (kp_out hk HG.out HC.out.2)); clear HC hb hk; have HC := HC2; clear HC2)
        | (go_at_call 13; refine (hTx _ _ _ HC.out.1).mono ?_; rintro e w2 ⟨rfl, hb⟩; have HC2 := Lib.hid (And.intro (HC.out.1.below hb) (below_step HC.out.2 hb)); clear HC hb; have HC := HC2; clear HC2))
      go_ret
      exact ⟨by first | rfl | simp, HC.out.2⟩
theorem back_true (a0 a1 : ByteArray) (a2 : Int) (W : World) (hT : Aside0 (XAmb W)) :
    Calls Tryd.prog 4 #[.string a0, .string a1, .int .i64 a2] W fun e w' => e = .returned (.bool true) ∧ Below W.heap.size W w' := by
  by_cases h0 : 600 < a0.size
  · exact back_g a0 a1 a2 W hT.out (.inl h0)
  · by_cases h1 : 600 < a1.size
    · exact back_g a0 a1 a2 W hT.out (.inr h1)
    · by_cases hn : (insR [] 0 a0).2 = 0
      · obtain ⟨L, k, hL, hk, hk0, hlen, hfst⟩ := insR_ok hn
        have hk0' : k = 0 := by simpa using hk0
        subst hk0'
        have hfst2 : (insR [] 0 a0).1 = L := by rw [hfst]; simp
        have hpair : insR [] 0 a0 = (L, 0) := Prod.ext hfst2 hn
        by_cases hi : (insR L a2 a1).2 = 0
        · obtain ⟨t, k2, ht, hk2, hk3, hlen2, hf2⟩ := insR_ok hi
          subst hk2
          exact back_ok a0 a1 k2 W hT.out h0 h1 L t hpair hL ht hk3 (Prod.ext hf2 hi)
        · exact back_i a0 a1 a2 W hT.out h0 h1 L hpair hL _ (Prod.ext (insR_bad hi) rfl) hi
      · exact back_n a0 a1 a2 W hT.out h0 h1 hn
end Go.Proofs.YtfhnepihbofabaaDoor.X
