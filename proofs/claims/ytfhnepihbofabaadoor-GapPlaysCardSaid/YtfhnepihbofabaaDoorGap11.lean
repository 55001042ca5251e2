/-
  package gap: Place, At, New, Same on Buffers in memory: by this session. Conditions: as typed.
-/
import Derived.Test.YtfhnepihbofabaaDoorGap10
import Derived.Test.YtfhnepihbofabaaDoorGap8
namespace Go.Proofs.YtfhnepihbofabaaDoor.X
open Go Go.RowKit Go.Lib Go.Shelf Go.Proofs.YtfhnepihbofabaaDoorW.PrintWords
set_option linter.unusedVariables false
/-- Line and column of a place, and the error's number. -/
def placeR (L : List Int) (at_ : Int) : Int × Int × Int :=
  if 0 ≤ at_ ∧ at_ ≤ (L.length : Int) then
    if ((fa L).filter (· < at_)).length = 0 then (0, at_, 0) else (((((fa L).filter (· < at_)).length : Nat) : Int), at_ - (fa L).getD (((fa L).filter (· < at_)).length - 1) 0 - 1, 0)
  else (0, 0, 3)
theorem filter_cut {F : List Int} {at_ : Int} {p : Nat} (hp : p ≤ F.length) (h1 : ∀ k x, k < p → F[k]? = some x → x < at_) (h2 : ∀ k x, p ≤ k → F[k]? = some x → at_ ≤ x) : (F.filter (· < at_)).length = p := by
  have e : F.filter (fun x => decide (x < at_)) = F.take p := by
    conv => lhs; rw [← List.take_append_drop p F]
    rw [List.filter_append, List.filter_eq_self.2 (fun x hx => ?_), List.filter_eq_nil_iff.2 (fun x hx => ?_), List.append_nil]
    · obtain ⟨k, hk⟩ := List.mem_iff_getElem?.1 hx
      rw [List.getElem?_drop] at hk
      have := h2 (p + k) x (Nat.le_add_right _ _) hk
      simp only [decide_eq_true_eq]
      omega
    · obtain ⟨k, hk⟩ := List.mem_iff_getElem?.1 hx
      rw [List.getElem?_take] at hk
      split at hk
      · rename_i h3
        exact decide_eq_true (h1 k x h3 hk)
      · cases hk
  rw [e, List.length_take]
  omega
set_option maxRecDepth 100000 in
set_option maxHeartbeats 8000000 in
theorem place_no {W : World} {X : Nat → Prop} {g : Nat} {L : List Int} (at_ : Int) (h : Buf W X g L) (hc : ¬ (0 ≤ at_ ∧ at_ ≤ (L.length : Int))) :
    Calls Tryd.prog 14 #[.pointer (some ⟨g, 0, none⟩), .int .i64 at_] W fun e w' => e = .returned (.tuple #[.int .i64 0, .int .i64 0, .int .i64 3]) ∧ Below W.heap.size W w' := by
  have hL := len_w h
  obtain ⟨n, hn⟩ : ∃ n, L.length = n := ⟨_, rfl⟩
  rw [hn] at hL hc
  by_cases h1 : at_ < 0
  · clear hL h hn hc
    go_enter Tryd.func14, Tryd.ntmps14
    go_wp2
    go_ret3
    exact ⟨rfl, Below.refl _ _⟩
  · have h2 : (n : Int) < at_ := by omega
    clear h hn hc
    go_enter Tryd.func14, Tryd.ntmps14
    go_wp2_with (go_at_call 19; refine hL.mono ?_; rintro e w2 ⟨rfl, hb⟩)
    go_ret3
    exact ⟨rfl, hb⟩
set_option maxRecDepth 100000 in
set_option maxHeartbeats 8000000 in
theorem place_ok {W : World} {X : Nat → Prop} {g : Nat} {L : List Int} (at_ : Nat) (h : Buf W X g L) (hc : at_ ≤ L.length) :
    Calls Tryd.prog 14 #[.pointer (some ⟨g, 0, none⟩), .int .i64 at_] W fun e w' => e = .returned (.tuple #[.int .i64 (placeR L at_).1, .int .i64 (placeR L at_).2.1, .int .i64 (placeR L at_).2.2]) ∧ Below W.heap.size W w' := by
  have hL2 : L.length ≤ 20000 := by obtain ⟨A, m, B, h1, h2, h3, h⟩ := h; exact h3
  obtain ⟨n, hn⟩ : ∃ n, L.length = n := ⟨_, rfl⟩
  have hLen : ∀ W', Buf W' X g L → Calls Tryd.prog 19 #[.pointer (some ⟨g, 0, none⟩)] W' fun e w' => e = .returned (.int .i64 (n : Int)) ∧ Below W'.heap.size W' w' := fun W' h => hn ▸ len_w h
  obtain ⟨F, hF⟩ : ∃ F, fa L = F := ⟨_, rfl⟩
  have hFl := fa_len L
  have hFm : ∀ x ∈ F, 0 ≤ x ∧ x < (n : Int) := fun x hx => hn ▸ fa_mem (hF.symm ▸ hx)
  obtain ⟨N, hN⟩ : ∃ N, F.length = N := ⟨_, rfl⟩
  rw [hF, hN] at hFl
  have hLines : ∀ W', Buf W' X g L → Calls Tryd.prog 25 #[.pointer (some ⟨g, 0, none⟩)] W' fun e w' => e = .returned (.int .i64 ((N + 1 : Nat) : Int)) ∧ Below W'.heap.size W' w' := fun W' h => by
    have := lines_w h
    rw [hF, hN] at this
    exact this
  have hFeed : ∀ W' (k : Nat) (x : Int), F[k]? = some x → Buf W' X g L → Calls Tryd.prog 33 #[.pointer (some ⟨g, 0, none⟩), .int .i64 k] W' fun e w' => e = .returned (.int .i64 x) ∧ Below W'.heap.size W' w' := fun W' k x hx h => feed_w h k x (by rw [hF]; exact hx)
  have hR : placeR L at_ = if (F.filter (· < (at_ : Int))).length = 0 then (0, (at_ : Int), 0) else ((((F.filter (· < (at_ : Int))).length : Nat) : Int), (at_ : Int) - F.getD ((F.filter (· < (at_ : Int))).length - 1) 0 - 1, 0) := by
    unfold placeR
    rw [if_pos (by omega), hF]
  have hsort := fa_sorted L
  rw [hF] at hsort
  obtain ⟨R, hRR⟩ : ∃ R, placeR L at_ = R := ⟨_, rfl⟩
  rw [hRR] at hR ⊢
  have HR := Lib.hid hR
  have HN := Lib.hid (And.intro (And.intro hN hsort) hFm)
  rw [hn] at hc
  have h1' : ¬ (at_ : Int) < 0 := by omega
  have h2' : ¬ (n : Int) < (at_ : Int) := by omega
  have e1 : wrap64 (((N + 1 : Nat) : Int) - 1) = (N : Int) := w_nat (by omega) (by omega)
  have hNb : N ≤ 20000 := by omega
  have HC : Hid (Buf W X g L ∧ Below W.heap.size W W) := Lib.hid (And.intro h (Below.refl _ _))
  rw [hn] at hL2
  have HAT := Lib.hid (And.intro hc hL2)
  clear h hn hL2 hF hFl hN hR hRR hsort hFm hc
  go_enter Tryd.func14, Tryd.ntmps14
  go_upto_block 0 with (first
    | (go_at_call 19; refine (hLen _ HC.out.1).mono ?_; rintro e w2 ⟨rfl, hb⟩; have HC2 := Lib.hid (And.intro (HC.out.1.below hb) (below_step HC.out.2 hb)); clear HC hb; have HC := HC2; clear HC2)
    | (go_at_call 25; refine (hLines _ HC.out.1).mono ?_; rintro e w2 ⟨rfl, hb⟩; have HC2 := Lib.hid (And.intro (HC.out.1.below hb) (below_step HC.out.2 hb)); clear HC hb; have HC := HC2; clear HC2))
  clear hLen hLines
  go_wp2
  have HE1 := Lib.hid e1
  clear e1
  go_loopg [7, 8, 9] N (fun j u7 u8 u9 wr => ∃ lo hi : Nat, u7 = .int .i64 (lo : Nat) ∧ u8 = .int .i64 (hi : Nat) ∧ Aside0 (lo + j = hi ∧ hi ≤ N ∧ (∀ k x, k < lo → F[k]? = some x → x < (at_ : Int)) ∧ (∀ k x, hi ≤ k → F[k]? = some x → (at_ : Int) ≤ x) ∧ Buf wr X g L ∧ Below W.heap.size W wr))
  case atStart =>
    refine ⟨0, N, rfl, by first | rfl | (rw [HE1.out]), ⟨by omega, Nat.le_refl _, fun k x hk _ => absurd hk (Nat.not_lt_zero _), fun k x hk hx => ?_, HC.out.1, HC.out.2⟩⟩
    rw [List.getElem?_eq_none (by rw [HN.out.1.1]; exact hk)] at hx
    cases hx
  case round =>
    obtain ⟨lo, hi, rfl, rfl, HR0⟩ := hrel
    have HR1 := Lib.hid HR0.out
    have HC : Hid (Buf wr X g L ∧ Below W.heap.size W wr) := Lib.hid HR0.out.2.2.2.2
    clear HR0
    by_cases hlh : lo < hi
    · obtain ⟨s, hs⟩ : ∃ s, lo + hi = s := ⟨_, rfl⟩
      obtain ⟨m, hm⟩ : ∃ m, s / 2 = m := ⟨_, rfl⟩
      have hhN : hi ≤ N := HR1.out.2.1
      have hmN : m < F.length := by rw [HN.out.1.1]; omega
      obtain ⟨x, hx⟩ : ∃ x, F[m]? = some x := ⟨_, List.getElem?_eq_getElem hmN⟩
      have a1 : (lo : Int) + (hi : Int) = (s : Int) := by omega
      have a2 : s ≤ 1000000000 := by omega
      have a3 : m ≤ 1000000000 := by omega
      have a4 : ((m : Int) + 1) = ((m + 1 : Nat) : Int) := by omega
      have a5 : m + 1 ≤ 1000000000 := by omega
      have hl1 : (lo : Int) < (hi : Int) := by omega
      have hmlo : lo ≤ m ∧ m < hi := by omega
      have d1 : Int.tdiv (s : Int) 2 = (m : Int) := by rw [Int.tdiv_eq_ediv_of_nonneg (by omega)]; omega
      have e2 : wrap64 ((lo : Int) + (hi : Int)) = (s : Int) := w_nat a1 a2
      have e3 : wrap64 (m : Int) = (m : Int) := w_nat rfl a3
      have e4 : wrap64 ((m : Int) + 1) = ((m + 1 : Nat) : Int) := w_nat a4 a5
      have hcall := fun W' hB => hFeed W' m x hx hB
      have HX := Lib.hid (And.intro hx hmlo)
      clear hs hm hhN hmN hx a1 a2 a3 a4 a5 hmlo
      by_cases hxa : x < (at_ : Int)
      · go_wp2_with (go_at_call 33; refine (hcall _ HC.out.1).mono ?_; rintro e w2 ⟨rfl, hb⟩; have HC2 := Lib.hid (And.intro (HC.out.1.below hb) (below_step HC.out.2 hb)); clear HC hb; have HC := HC2; clear HC2)
        go_roundg (hi - (m + 1))
        case measure => have := HR1.out.1; have := HX.out.2; clear e2 e3 e4; omega
        case rel =>
          clear e2 e3
          refine ⟨m + 1, hi, by first | rfl | rw [e4], rfl, ⟨?_, HR1.out.2.1, fun k y hk hy => ?_, HR1.out.2.2.2.1, HC.out.1, HC.out.2⟩⟩
          · have := HX.out.2; clear e4; omega
          · rcases Nat.lt_or_ge k m with hkm | hkm
            · have := (List.pairwise_iff_getElem.1 HN.out.1.2) k m (List.getElem?_eq_some_iff.1 hy).1 (List.getElem?_eq_some_iff.1 HX.out.1).1 hkm
              have g1 := (List.getElem?_eq_some_iff.1 hy).2
              have g2 := (List.getElem?_eq_some_iff.1 HX.out.1).2
              rw [g1, g2] at this
              exact Int.lt_trans this hxa
            · have hkm2 : k = m := by clear e4; omega
              subst hkm2
              rw [HX.out.1] at hy
              cases hy
              exact hxa
      · go_wp2_with (go_at_call 33; refine (hcall _ HC.out.1).mono ?_; rintro e w2 ⟨rfl, hb⟩; have HC2 := Lib.hid (And.intro (HC.out.1.below hb) (below_step HC.out.2 hb)); clear HC hb; have HC := HC2; clear HC2)
        go_roundg (m - lo)
        case measure => have := HR1.out.1; have := HX.out.2; clear e2 e3 e4; omega
        case rel =>
          clear e2 e3 e4
          refine ⟨lo, m, rfl, rfl, ⟨?_, ?_, HR1.out.2.2.1, fun k y hk hy => ?_, HC.out.1, HC.out.2⟩⟩
          · have := HX.out.2; omega
          · have := HX.out.2; have := HR1.out.2.1; omega
          · rcases Nat.lt_or_ge m k with hkm | hkm
            · have := (List.pairwise_iff_getElem.1 HN.out.1.2) m k (List.getElem?_eq_some_iff.1 HX.out.1).1 (List.getElem?_eq_some_iff.1 hy).1 hkm
              have g1 := (List.getElem?_eq_some_iff.1 hy).2
              have g2 := (List.getElem?_eq_some_iff.1 HX.out.1).2
              rw [g1, g2] at this
              omega
            · have hkm2 : k = m := by omega
              subst hkm2
              rw [HX.out.1] at hy
              cases hy
              omega
    · have hl1 : ¬ (lo : Int) < (hi : Int) := by omega
      have hp : lo = hi := by have := HR1.out.1; omega
      have hpl : (F.filter (· < (at_ : Int))).length = lo := filter_cut (by rw [HN.out.1.1]; have := HR1.out.2.1; omega) HR1.out.2.2.1 (fun k x hk hx => HR1.out.2.2.2.1 k x (by omega) hx)
      have hRv := HR.out
      rw [hpl] at hRv
      have hlN : lo ≤ N := by have := HR1.out.2.1; omega
      clear hp hpl
      by_cases h0 : lo = 0
      · rw [if_pos h0] at hRv
        subst hRv
        subst h0
        go_wp2
        go_ret3
        exact ⟨rfl, HC.out.2⟩
      · rw [if_neg h0] at hRv
        have h01 : (((lo : Int)) == 0) = false := by rw [beq_eq_false_iff_ne]; omega
        have h02 : ¬ (lo : Int) = 0 := by omega
        obtain ⟨p, hp⟩ : ∃ p, lo - 1 = p := ⟨_, rfl⟩
        have hpN : p < F.length := by rw [HN.out.1.1]; omega
        obtain ⟨x, hx⟩ : ∃ x, F[p]? = some x := ⟨_, List.getElem?_eq_getElem hpN⟩
        rw [hp, List.getD_eq_getElem?_getD, hx] at hRv
        have hxb := HN.out.2 x (List.mem_of_getElem? hx)
        have hnb := HAT.out
        have b1 : (lo : Int) - 1 = (p : Int) := by omega
        have b2 : p ≤ 1000000000 := by omega
        obtain ⟨q, hq⟩ : ∃ q, (at_ : Int) - x = q := ⟨_, rfl⟩
        obtain ⟨q1, hq1⟩ : ∃ q1, q - 1 = q1 := ⟨_, rfl⟩
        have b3 : -1000000000 ≤ q ∧ q ≤ 1000000000 ∧ -1000000000 ≤ q1 ∧ q1 ≤ 1000000000 := by
          have hq1' := hnb.1
          have hq2' := hnb.2
          omega
        subst hRv
        have e5 : wrap64 ((lo : Int) - 1) = (p : Int) := w_nat b1 b2
        have e6 : wrap64 ((at_ : Int) - x) = q := by rw [hq]; exact w_id b3.1 b3.2.1
        have e7 : wrap64 (q - 1) = q1 := by rw [hq1]; exact w_id b3.2.2.1 b3.2.2.2
        have hcall := fun W' hB => hFeed W' p x hx hB
        have HQ := Lib.hid (And.intro hq hq1)
        have HB1 := Lib.hid b1
        clear hq hq1 hx b1 b2 b3 hpN hp hxb hnb
        go_wp2_with (go_at_call 33; (first | rw [HB1.out] | rw [e5]); refine (hcall _ HC.out.1).mono ?_; rintro e w2 ⟨rfl, hb⟩; have HC2 := Lib.hid (And.intro (HC.out.1.below hb) (below_step HC.out.2 hb)); clear HC hb; have HC := HC2; clear HC2)
        go_ret3
        exact ⟨by rw [← HQ.out.2, ← HQ.out.1]; rfl, HC.out.2⟩
theorem place_w {W : World} {X : Nat → Prop} {g : Nat} {L : List Int} (at_ : Int) (h : Buf W X g L) :
    Calls Tryd.prog 14 #[.pointer (some ⟨g, 0, none⟩), .int .i64 at_] W fun e w' => e = .returned (.tuple #[.int .i64 (placeR L at_).1, .int .i64 (placeR L at_).2.1, .int .i64 (placeR L at_).2.2]) ∧ Below W.heap.size W w' := by
  by_cases hc : 0 ≤ at_ ∧ at_ ≤ (L.length : Int)
  · have := place_ok (X := X) at_.toNat h (by omega)
    rw [Int.toNat_of_nonneg hc.1] at this
    exact this
  · have := place_no at_ h hc
    have e : placeR L at_ = (0, 0, 3) := by unfold placeR; rw [if_neg hc]
    rw [e]
    exact this
end Go.Proofs.YtfhnepihbofabaaDoor.X
