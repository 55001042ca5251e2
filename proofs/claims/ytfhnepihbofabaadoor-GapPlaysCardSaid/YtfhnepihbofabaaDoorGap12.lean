/-
  package gap: At on a Buffer in memory: by this session. Conditions: as typed.
-/
import Derived.Test.YtfhnepihbofabaaDoorGap11
namespace Go.Proofs.YtfhnepihbofabaaDoor.X
open Go Go.RowKit Go.Lib Go.Shelf Go.Proofs.YtfhnepihbofabaaDoorW.PrintWords
set_option linter.unusedVariables false
/-- The place of a line and a column, and the error's number. -/
def atR (L : List Int) (line col : Int) : Int × Int :=
  if 0 ≤ line ∧ line ≤ ((fa L).length : Int) ∧ 0 ≤ col then
    if (if line < ((fa L).length : Int) then (fa L).getD line.toNat 0 else (L.length : Int)) - (if 0 < line then (fa L).getD (line.toNat - 1) 0 + 1 else 0) < col then (0, 3) else ((if 0 < line then (fa L).getD (line.toNat - 1) 0 + 1 else 0) + col, 0)
  else (0, 3)
set_option maxRecDepth 100000 in
set_option maxHeartbeats 8000000 in
theorem at_no {W : World} {X : Nat → Prop} {g : Nat} {L : List Int} (line col : Int) (h : Buf W X g L) (hc : ¬ (0 ≤ line ∧ line ≤ ((fa L).length : Int) ∧ 0 ≤ col)) :
    Calls Tryd.prog 16 #[.pointer (some ⟨g, 0, none⟩), .int .i64 line, .int .i64 col] W fun e w' => e = .returned (.tuple #[.int .i64 0, .int .i64 3]) ∧ Below W.heap.size W w' := by
  have hL := lines_w h
  obtain ⟨N, hN⟩ : ∃ N, (fa L).length = N := ⟨_, rfl⟩
  rw [hN] at hL hc
  obtain ⟨N1, hN1⟩ : ∃ N1, N + 1 = N1 := ⟨_, rfl⟩
  rw [hN1] at hL
  by_cases h1 : line < 0
  · clear hL h hN hc hN1
    go_enter Tryd.func16, Tryd.ntmps16
    go_wp2
    go_ret2
    exact ⟨rfl, Below.refl _ _⟩
  · by_cases h2 : (N1 : Int) ≤ line
    · clear h hN hc hN1
      go_enter Tryd.func16, Tryd.ntmps16
      go_wp2_with (go_at_call 25; refine hL.mono ?_; rintro e w2 ⟨rfl, hb⟩)
      go_ret2
      exact ⟨rfl, hb⟩
    · have h3 : col < 0 := by omega
      clear h hN hc hN1
      go_enter Tryd.func16, Tryd.ntmps16
      go_wp2_with (go_at_call 25; refine hL.mono ?_; rintro e w2 ⟨rfl, hb⟩)
      go_ret2
      exact ⟨rfl, hb⟩
set_option maxRecDepth 100000 in
set_option maxHeartbeats 8000000 in
theorem at_ok {W : World} {X : Nat → Prop} {g : Nat} {L : List Int} (k : Nat) (col a b : Int) (h : Buf W X g L) (hk : k ≤ (fa L).length) (hc : 0 ≤ col) (ha : a = if 0 < k then (fa L).getD (k - 1) 0 + 1 else 0) (hb : b = if k < (fa L).length then (fa L).getD k 0 else (L.length : Int)) :
    Calls Tryd.prog 16 #[.pointer (some ⟨g, 0, none⟩), .int .i64 k, .int .i64 col] W fun e w' => e = .returned (if b - a < col then .tuple #[.int .i64 0, .int .i64 3] else .tuple #[.int .i64 (a + col), .int .i64 0]) ∧ Below W.heap.size W w' := by
  have hL2 : L.length ≤ 20000 := by obtain ⟨A, m, B, h1, h2, h3, h⟩ := h; exact h3
  obtain ⟨n, hn⟩ : ∃ n, L.length = n := ⟨_, rfl⟩
  have hLen : ∀ W', Buf W' X g L → Calls Tryd.prog 19 #[.pointer (some ⟨g, 0, none⟩)] W' fun e w' => e = .returned (.int .i64 (n : Int)) ∧ Below W'.heap.size W' w' := fun W' h => hn ▸ len_w h
  obtain ⟨F, hF⟩ : ∃ F, fa L = F := ⟨_, rfl⟩
  have hFl := fa_len L
  have hFm : ∀ x ∈ F, 0 ≤ x ∧ x < (n : Int) := fun x hx => hn ▸ fa_mem (hF.symm ▸ hx)
  obtain ⟨N, hN⟩ : ∃ N, F.length = N := ⟨_, rfl⟩
  rw [hF, hN, hn] at hFl
  obtain ⟨N1, hN1⟩ : ∃ N1, N + 1 = N1 := ⟨_, rfl⟩
  have hLines : ∀ W', Buf W' X g L → Calls Tryd.prog 25 #[.pointer (some ⟨g, 0, none⟩)] W' fun e w' => e = .returned (.int .i64 (N1 : Int)) ∧ Below W'.heap.size W' w' := fun W' h => by
    have := lines_w h
    rw [hF, hN, hN1] at this
    exact this
  have hFeed : ∀ (k : Nat) (x : Int), F[k]? = some x → ∀ W', Buf W' X g L → Calls Tryd.prog 33 #[.pointer (some ⟨g, 0, none⟩), .int .i64 k] W' fun e w' => e = .returned (.int .i64 x) ∧ Below W'.heap.size W' w' := fun k x hx W' h => feed_w h k x (by rw [hF]; exact hx)
  rw [hF] at ha
  rw [hF, hN, hn] at hb
  rw [hF, hN] at hk
  rw [hn] at hL2
  have HC : Hid (Buf W X g L ∧ Below W.heap.size W W) := Lib.hid (And.intro h (Below.refl _ _))
  clear h hn hF
  have hgd : ∀ (i : Nat) (x : Int), F[i]? = some x → F.getD i 0 = x := fun i x hx => by rw [List.getD_eq_getElem?_getD, hx]; rfl
  have ha2 : 0 ≤ a ∧ a ≤ 20000 := by
    subst ha
    split
    · obtain ⟨x, hx⟩ : ∃ x, F[k - 1]? = some x := ⟨_, List.getElem?_eq_getElem (by omega)⟩
      rw [hgd _ _ hx]
      have := hFm x (List.mem_of_getElem? hx)
      omega
    · omega
  have hb2 : 0 ≤ b ∧ b ≤ 20000 := by
    subst hb
    split
    · obtain ⟨x, hx⟩ : ∃ x, F[k]? = some x := ⟨_, List.getElem?_eq_getElem (by omega)⟩
      rw [hgd _ _ hx]
      have := hFm x (List.mem_of_getElem? hx)
      omega
    · omega
  obtain ⟨d, hd⟩ : ∃ d, b - a = d := ⟨_, rfl⟩
  rw [hd]
  have m2 : N ≤ 1000000000 := by omega
  have m3 : (N1 : Int) - 1 = (N : Int) := by omega
  have m4 : -1000000000 ≤ d ∧ d ≤ 1000000000 := by omega
  have m5 : ¬ (N1 : Int) ≤ (k : Int) := by omega
  have m6 : ¬ (col < 0) := by omega
  have m7 : k ≤ 1000000000 := by omega
  by_cases h0 : 0 < k
  · by_cases h1 : k < N
    · have m8 : ¬ (k : Int) < 0 := by omega
      obtain ⟨p, hp⟩ : ∃ p, k - 1 = p := ⟨_, rfl⟩
      have b1 : (k : Int) - 1 = (p : Int) := by omega
      have b1b : p ≤ 1000000000 := by omega
      obtain ⟨x, hx⟩ : ∃ x, F[p]? = some x := ⟨_, List.getElem?_eq_getElem (by omega)⟩
      have hax : a = x + 1 := by rw [ha, if_pos h0, hp, hgd _ _ hx]
      have hk0 : (0 : Int) < (k : Int) := by omega
      have hf1 := hFeed p x hx
      clear ha hp hx
      obtain ⟨y, hy⟩ : ∃ y, F[k]? = some y := ⟨_, List.getElem?_eq_getElem (by omega)⟩
      have hby : b = y := by rw [hb, if_pos h1, hgd _ _ hy]
      clear hb
      subst hby
      have hf2 := hFeed k b hy
      have hkN : (k : Int) < (N : Int) := by omega
      clear hy
      have HM := Lib.hid (And.intro hd (And.intro ha2 hb2))
      have HA := Lib.hid hax
      have HB1 := Lib.hid b1
      have c1 : -1000000000 ≤ x + 1 ∧ x + 1 ≤ 1000000000 := by rw [← hax]; omega
      by_cases hcd : d < col
      · rw [if_pos hcd]
        have e1 : wrap64 ((N1 : Int) - 1) = (N : Int) := w_nat m3 m2
        have e2 : wrap64 (x + 1) = a := by rw [hax]; exact w_id c1.1 c1.2
        have e3 : wrap64 (b - a) = d := by rw [hd]; exact w_id m4.1 m4.2
        have e4 : wrap64 ((k : Int) - 1) = (p : Int) := w_nat b1 b1b
        clear hN hN1 m2 m3 m4 m7 hFl hL2 hFm hFeed hgd ha2 hb2 hax b1 b1b c1 hd 
        go_enter Tryd.func16, Tryd.ntmps16
        go_wp2_with (first
            | (go_at_call 25; refine (hLines _ HC.out.1).mono ?_; rintro e w2 ⟨rfl, hb⟩; have HC2 := Lib.hid (And.intro (HC.out.1.below hb) (below_step HC.out.2 hb)); clear HC hb; have HC := HC2; clear HC2)
            | (go_at_call 19; refine (hLen _ HC.out.1).mono ?_; rintro e w2 ⟨rfl, hb⟩; have HC2 := Lib.hid (And.intro (HC.out.1.below hb) (below_step HC.out.2 hb)); clear HC hb; have HC := HC2; clear HC2)
            | (go_at_call 33; (first | rw [e4] | rw [HB1.out]); refine (hf1 _ HC.out.1).mono ?_; rintro e w2 ⟨rfl, hb⟩; have HC2 := Lib.hid (And.intro (HC.out.1.below hb) (below_step HC.out.2 hb)); clear HC hb; have HC := HC2; clear HC2)
            | (go_at_call 33; refine (hf2 _ HC.out.1).mono ?_; rintro e w2 ⟨rfl, hb⟩; have HC2 := Lib.hid (And.intro (HC.out.1.below hb) (below_step HC.out.2 hb)); clear HC hb; have HC := HC2; clear HC2))
        go_ret2
        exact ⟨by first | rfl | (simp; done) | (simp; assumption), HC.out.2⟩
      · have q1 : -1000000000 ≤ a + col ∧ a + col ≤ 1000000000 := by omega
        rw [if_neg hcd]
        have e1 : wrap64 ((N1 : Int) - 1) = (N : Int) := w_nat m3 m2
        have e2 : wrap64 (x + 1) = a := by rw [hax]; exact w_id c1.1 c1.2
        have e3 : wrap64 (b - a) = d := by rw [hd]; exact w_id m4.1 m4.2
        have e4 : wrap64 ((k : Int) - 1) = (p : Int) := w_nat b1 b1b
        have e5 : wrap64 (a + col) = a + col := w_id q1.1 q1.2
        clear hN hN1 m2 m3 m4 m7 hFl hL2 hFm hFeed hgd ha2 hb2 hax b1 b1b c1 hd q1 
        go_enter Tryd.func16, Tryd.ntmps16
        go_wp2_with (first
            | (go_at_call 25; refine (hLines _ HC.out.1).mono ?_; rintro e w2 ⟨rfl, hb⟩; have HC2 := Lib.hid (And.intro (HC.out.1.below hb) (below_step HC.out.2 hb)); clear HC hb; have HC := HC2; clear HC2)
            | (go_at_call 19; refine (hLen _ HC.out.1).mono ?_; rintro e w2 ⟨rfl, hb⟩; have HC2 := Lib.hid (And.intro (HC.out.1.below hb) (below_step HC.out.2 hb)); clear HC hb; have HC := HC2; clear HC2)
            | (go_at_call 33; (first | rw [e4] | rw [HB1.out]); refine (hf1 _ HC.out.1).mono ?_; rintro e w2 ⟨rfl, hb⟩; have HC2 := Lib.hid (And.intro (HC.out.1.below hb) (below_step HC.out.2 hb)); clear HC hb; have HC := HC2; clear HC2)
            | (go_at_call 33; refine (hf2 _ HC.out.1).mono ?_; rintro e w2 ⟨rfl, hb⟩; have HC2 := Lib.hid (And.intro (HC.out.1.below hb) (below_step HC.out.2 hb)); clear HC hb; have HC := HC2; clear HC2))
        go_ret2
        exact ⟨by first | rfl | (simp; done) | (simp; assumption), HC.out.2⟩
    · have m8 : ¬ (k : Int) < 0 := by omega
      obtain ⟨p, hp⟩ : ∃ p, k - 1 = p := ⟨_, rfl⟩
      have b1 : (k : Int) - 1 = (p : Int) := by omega
      have b1b : p ≤ 1000000000 := by omega
      obtain ⟨x, hx⟩ : ∃ x, F[p]? = some x := ⟨_, List.getElem?_eq_getElem (by omega)⟩
      have hax : a = x + 1 := by rw [ha, if_pos h0, hp, hgd _ _ hx]
      have hk0 : (0 : Int) < (k : Int) := by omega
      have hf1 := hFeed p x hx
      clear ha hp hx
      have hbn : b = (n : Int) := by rw [hb, if_neg h1]
      clear hb
      subst hbn
      have hkN : ¬ (k : Int) < (N : Int) := by omega
      have HM := Lib.hid (And.intro hd (And.intro ha2 hb2))
      have HA := Lib.hid hax
      have HB1 := Lib.hid b1
      have c1 : -1000000000 ≤ x + 1 ∧ x + 1 ≤ 1000000000 := by rw [← hax]; omega
      by_cases hcd : d < col
      · rw [if_pos hcd]
        have e1 : wrap64 ((N1 : Int) - 1) = (N : Int) := w_nat m3 m2
        have e2 : wrap64 (x + 1) = a := by rw [hax]; exact w_id c1.1 c1.2
        have e3 : wrap64 ((n : Int) - a) = d := by rw [hd]; exact w_id m4.1 m4.2
        have e4 : wrap64 ((k : Int) - 1) = (p : Int) := w_nat b1 b1b
        clear hN hN1 m2 m3 m4 m7 hFl hL2 hFm hFeed hgd ha2 hb2 hax b1 b1b c1 hd 
        go_enter Tryd.func16, Tryd.ntmps16
        go_wp2_with (first
            | (go_at_call 25; refine (hLines _ HC.out.1).mono ?_; rintro e w2 ⟨rfl, hb⟩; have HC2 := Lib.hid (And.intro (HC.out.1.below hb) (below_step HC.out.2 hb)); clear HC hb; have HC := HC2; clear HC2)
            | (go_at_call 19; refine (hLen _ HC.out.1).mono ?_; rintro e w2 ⟨rfl, hb⟩; have HC2 := Lib.hid (And.intro (HC.out.1.below hb) (below_step HC.out.2 hb)); clear HC hb; have HC := HC2; clear HC2)
            | (go_at_call 33; (first | rw [e4] | rw [HB1.out]); refine (hf1 _ HC.out.1).mono ?_; rintro e w2 ⟨rfl, hb⟩; have HC2 := Lib.hid (And.intro (HC.out.1.below hb) (below_step HC.out.2 hb)); clear HC hb; have HC := HC2; clear HC2))
        go_ret2
        exact ⟨by first | rfl | (simp; done) | (simp; assumption), HC.out.2⟩
      · have q1 : -1000000000 ≤ a + col ∧ a + col ≤ 1000000000 := by omega
        rw [if_neg hcd]
        have e1 : wrap64 ((N1 : Int) - 1) = (N : Int) := w_nat m3 m2
        have e2 : wrap64 (x + 1) = a := by rw [hax]; exact w_id c1.1 c1.2
        have e3 : wrap64 ((n : Int) - a) = d := by rw [hd]; exact w_id m4.1 m4.2
        have e4 : wrap64 ((k : Int) - 1) = (p : Int) := w_nat b1 b1b
        have e5 : wrap64 (a + col) = a + col := w_id q1.1 q1.2
        clear hN hN1 m2 m3 m4 m7 hFl hL2 hFm hFeed hgd ha2 hb2 hax b1 b1b c1 hd q1 
        go_enter Tryd.func16, Tryd.ntmps16
        go_wp2_with (first
            | (go_at_call 25; refine (hLines _ HC.out.1).mono ?_; rintro e w2 ⟨rfl, hb⟩; have HC2 := Lib.hid (And.intro (HC.out.1.below hb) (below_step HC.out.2 hb)); clear HC hb; have HC := HC2; clear HC2)
            | (go_at_call 19; refine (hLen _ HC.out.1).mono ?_; rintro e w2 ⟨rfl, hb⟩; have HC2 := Lib.hid (And.intro (HC.out.1.below hb) (below_step HC.out.2 hb)); clear HC hb; have HC := HC2; clear HC2)
            | (go_at_call 33; (first | rw [e4] | rw [HB1.out]); refine (hf1 _ HC.out.1).mono ?_; rintro e w2 ⟨rfl, hb⟩; have HC2 := Lib.hid (And.intro (HC.out.1.below hb) (below_step HC.out.2 hb)); clear HC hb; have HC := HC2; clear HC2))
        go_ret2
        exact ⟨by first | rfl | (simp; done) | (simp; assumption), HC.out.2⟩
  · by_cases h1 : k < N
    · obtain rfl : k = 0 := by omega
      have hz1 : ¬ (N1 : Int) ≤ 0 := by omega
      have hz2 : ¬ N1 ≤ 0 := by omega
      have hz3 : ¬ N1 = 0 := by omega
      have ha0 : a = 0 := ha
      clear ha
      subst ha0
      obtain ⟨y, hy⟩ : ∃ y, F[0]? = some y := ⟨_, List.getElem?_eq_getElem (by omega)⟩
      have hby : b = y := by rw [hb, if_pos h1, hgd _ _ hy]
      clear hb
      subst hby
      have hf2 := hFeed 0 b hy
      have hkN : (0 : Int) < (N : Int) := by omega
      have hkN2 : 0 < N := by omega
      clear hy
      have HM := Lib.hid (And.intro hd (And.intro ha2 hb2))
      by_cases hcd : d < col
      · have q2 : -1000000000 ≤ b ∧ b ≤ 1000000000 := by omega
        have hdb : d = b := by omega
        rw [if_pos hcd]
        have e1 : wrap64 ((N1 : Int) - 1) = (N : Int) := w_nat m3 m2
        have e2 : wrap64 (b) = b := w_id q2.1 q2.2
        subst hdb
        clear hN hN1 m2 m3 m4 m7 hFl hL2 hFm hFeed hgd ha2 hb2 q2 hd 
        go_enter Tryd.func16, Tryd.ntmps16
        go_wp2_with (first
            | (go_at_call 25; refine (hLines _ HC.out.1).mono ?_; rintro e w2 ⟨rfl, hb⟩; have HC2 := Lib.hid (And.intro (HC.out.1.below hb) (below_step HC.out.2 hb)); clear HC hb; have HC := HC2; clear HC2)
            | (go_at_call 19; refine (hLen _ HC.out.1).mono ?_; rintro e w2 ⟨rfl, hb⟩; have HC2 := Lib.hid (And.intro (HC.out.1.below hb) (below_step HC.out.2 hb)); clear HC hb; have HC := HC2; clear HC2)
            | (go_at_call 33; refine (hf2 _ HC.out.1).mono ?_; rintro e w2 ⟨rfl, hb⟩; have HC2 := Lib.hid (And.intro (HC.out.1.below hb) (below_step HC.out.2 hb)); clear HC hb; have HC := HC2; clear HC2))
        go_ret2
        exact ⟨by first | rfl | (simp; done) | (simp; assumption), HC.out.2⟩
      · have q1 : -1000000000 ≤ col ∧ col ≤ 1000000000 := by omega
        have q2 : -1000000000 ≤ b ∧ b ≤ 1000000000 := by omega
        have hdb : d = b := by omega
        rw [if_neg hcd]
        have e1 : wrap64 ((N1 : Int) - 1) = (N : Int) := w_nat m3 m2
        have e2 : wrap64 (b) = b := w_id q2.1 q2.2
        subst hdb
        have e3 : wrap64 col = col := w_id q1.1 q1.2
        clear hN hN1 m2 m3 m4 m7 hFl hL2 hFm hFeed hgd ha2 hb2 q1 q2 hd 
        go_enter Tryd.func16, Tryd.ntmps16
        go_wp2_with (first
            | (go_at_call 25; refine (hLines _ HC.out.1).mono ?_; rintro e w2 ⟨rfl, hb⟩; have HC2 := Lib.hid (And.intro (HC.out.1.below hb) (below_step HC.out.2 hb)); clear HC hb; have HC := HC2; clear HC2)
            | (go_at_call 19; refine (hLen _ HC.out.1).mono ?_; rintro e w2 ⟨rfl, hb⟩; have HC2 := Lib.hid (And.intro (HC.out.1.below hb) (below_step HC.out.2 hb)); clear HC hb; have HC := HC2; clear HC2)
            | (go_at_call 33; refine (hf2 _ HC.out.1).mono ?_; rintro e w2 ⟨rfl, hb⟩; have HC2 := Lib.hid (And.intro (HC.out.1.below hb) (below_step HC.out.2 hb)); clear HC hb; have HC := HC2; clear HC2))
        go_ret2
        exact ⟨by first | rfl | (simp; done) | (simp; assumption), HC.out.2⟩
    · obtain rfl : k = 0 := by omega
      have hz1 : ¬ (N1 : Int) ≤ 0 := by omega
      have hz2 : ¬ N1 ≤ 0 := by omega
      have hz3 : ¬ N1 = 0 := by omega
      have ha0 : a = 0 := ha
      clear ha
      subst ha0
      have hbn : b = (n : Int) := by rw [hb, if_neg h1]
      clear hb
      subst hbn
      have hkN : ¬ (0 : Int) < (N : Int) := by omega
      have hkN2 : ¬ 0 < N := by omega
      have hkN3 : N = 0 := by omega
      have HKN := Lib.hid hkN3
      clear hkN3
      have HM := Lib.hid (And.intro hd (And.intro ha2 hb2))
      by_cases hcd : d < col
      · have q2 : -1000000000 ≤ (n : Int) ∧ (n : Int) ≤ 1000000000 := by omega
        have hdb : d = (n : Int) := by omega
        rw [if_pos hcd]
        have e1 : wrap64 ((N1 : Int) - 1) = (N : Int) := w_nat m3 m2
        have e2 : wrap64 ((n : Int)) = (n : Int) := w_id q2.1 q2.2
        subst hdb
        clear hN hN1 m2 m3 m4 m7 hFl hL2 hFm hFeed hgd ha2 hb2 q2 hd 
        go_enter Tryd.func16, Tryd.ntmps16
        go_wp2_with (first
            | (go_at_call 25; refine (hLines _ HC.out.1).mono ?_; rintro e w2 ⟨rfl, hb⟩; have HC2 := Lib.hid (And.intro (HC.out.1.below hb) (below_step HC.out.2 hb)); clear HC hb; have HC := HC2; clear HC2)
            | (go_at_call 19; refine (hLen _ HC.out.1).mono ?_; rintro e w2 ⟨rfl, hb⟩; have HC2 := Lib.hid (And.intro (HC.out.1.below hb) (below_step HC.out.2 hb)); clear HC hb; have HC := HC2; clear HC2))
        go_ret2
        exact ⟨by first | rfl | (simp; done) | (simp; assumption), HC.out.2⟩
      · have q1 : -1000000000 ≤ col ∧ col ≤ 1000000000 := by omega
        have q2 : -1000000000 ≤ (n : Int) ∧ (n : Int) ≤ 1000000000 := by omega
        have hdb : d = (n : Int) := by omega
        rw [if_neg hcd]
        have e1 : wrap64 ((N1 : Int) - 1) = (N : Int) := w_nat m3 m2
        have e2 : wrap64 ((n : Int)) = (n : Int) := w_id q2.1 q2.2
        subst hdb
        have e3 : wrap64 col = col := w_id q1.1 q1.2
        clear hN hN1 m2 m3 m4 m7 hFl hL2 hFm hFeed hgd ha2 hb2 q1 q2 hd 
        go_enter Tryd.func16, Tryd.ntmps16
        go_wp2_with (first
            | (go_at_call 25; refine (hLines _ HC.out.1).mono ?_; rintro e w2 ⟨rfl, hb⟩; have HC2 := Lib.hid (And.intro (HC.out.1.below hb) (below_step HC.out.2 hb)); clear HC hb; have HC := HC2; clear HC2)
            | (go_at_call 19; refine (hLen _ HC.out.1).mono ?_; rintro e w2 ⟨rfl, hb⟩; have HC2 := Lib.hid (And.intro (HC.out.1.below hb) (below_step HC.out.2 hb)); clear HC hb; have HC := HC2; clear HC2))
        go_ret2
        exact ⟨by first | rfl | (simp; done) | (simp; assumption), HC.out.2⟩
theorem at_w {W : World} {X : Nat → Prop} {g : Nat} {L : List Int} (line col : Int) (h : Buf W X g L) :
    Calls Tryd.prog 16 #[.pointer (some ⟨g, 0, none⟩), .int .i64 line, .int .i64 col] W fun e w' => e = .returned (.tuple #[.int .i64 (atR L line col).1, .int .i64 (atR L line col).2]) ∧ Below W.heap.size W w' := by
  by_cases hc : 0 ≤ line ∧ line ≤ ((fa L).length : Int) ∧ 0 ≤ col
  · obtain ⟨k, rfl⟩ : ∃ k : Nat, line = (k : Int) := ⟨line.toNat, (Int.toNat_of_nonneg hc.1).symm⟩
    obtain ⟨a, ha⟩ : ∃ a, (if 0 < (k : Int) then (fa L).getD ((k : Int).toNat - 1) 0 + 1 else 0) = a := ⟨_, rfl⟩
    obtain ⟨b, hb⟩ : ∃ b, (if (k : Int) < ((fa L).length : Int) then (fa L).getD (k : Int).toNat 0 else (L.length : Int)) = b := ⟨_, rfl⟩
    refine (at_ok (X := X) k col a b h (by omega) hc.2.2 (by rw [← ha]; simp) (by rw [← hb]; simp)).mono ?_
    rintro e w' ⟨rfl, hbel⟩
    refine ⟨?_, hbel⟩
    unfold atR
    rw [if_pos hc, ha, hb]
    by_cases hq : b - a < col
    · rw [if_pos hq, if_pos hq]
    · rw [if_neg hq, if_neg hq]
  · have := at_no line col h hc
    have e : atR L line col = (0, 3) := by unfold atR; rw [if_neg hc]
    rw [e]
    exact this
end Go.Proofs.YtfhnepihbofabaaDoor.X
