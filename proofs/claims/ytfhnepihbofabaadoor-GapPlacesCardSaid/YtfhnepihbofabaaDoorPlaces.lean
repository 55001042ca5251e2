/-
  The document's Place and At (printed) are placeR and atR: by this session. Conditions: as typed.
-/
import Derived.Test.YtfhnepihbofabaaDoorGap15
import Derived.Test.YtfhnepihbofabaaDoorPx3
namespace Go.Proofs.YtfhnepihbofabaaDoor.X
open Go Go.RowKit Go.Lib Go.Shelf Go.Proofs.YtfhnepihbofabaaDoorW.PrintWords Go.Proofs.YtfhnepihbofabaaDoor.P
set_option linter.unusedVariables false
/-- Line and column behind all of a list. -/
def lc (l : List Int) : Int × Int := (((fa l).length : Int), if (fa l).length = 0 then (l.length : Int) else (l.length : Int) - (fa l).getD ((fa l).length - 1) 0 - 1)
theorem lc_feed (l : List Int) : lc (l ++ [10]) = ((lc l).1 + 1, 0) := by
  unfold lc
  rw [fa_snoc, if_pos rfl]
  have h : ((fa l) ++ [(l.length : Int)]).length = (fa l).length + 1 := by simp
  rw [h, if_neg (by omega)]
  refine Prod.ext ?_ ?_
  · simp
  · simp [List.getD_eq_getElem?_getD]
    omega
theorem lc_rune (l : List Int) {r : Int} (hr : r ≠ 10) : lc (l ++ [r]) = ((lc l).1, (lc l).2 + 1) := by
  unfold lc
  rw [fa_snoc, if_neg hr, List.append_nil]
  have h : (l ++ [r]).length = l.length + 1 := by simp
  rw [h]
  refine Prod.ext rfl ?_
  simp only
  split <;> omega
theorem fa_filter (L : List Int) (i : Nat) (hi : i ≤ L.length) : (fa L).filter (fun x => decide (x < (i : Int))) = fa (L.take i) := by
  have hl : (L.take i).length = i := by rw [List.length_take]; omega
  conv => lhs; rw [← List.take_append_drop i L, fa_append, hl]
  rw [List.filter_append, List.filter_eq_self.2 (fun x hx => by have := (fa_mem hx).2; rw [hl] at this; exact decide_eq_true this), List.filter_eq_nil_iff.2 (fun x hx => by
    obtain ⟨y, hy, rfl⟩ := List.mem_map.1 hx
    have := (fa_mem hy).1
    simp
    omega), List.append_nil]
theorem place_lc (L : List Int) (i : Nat) (hi : i ≤ L.length) : placeR L i = ((lc (L.take i)).1, (lc (L.take i)).2, 0) := by
  unfold placeR lc
  have hl : (L.take i).length = i := by rw [List.length_take]; omega
  rw [if_pos (by omega), fa_filter L i hi, hl]
  have hp : fa L = fa (L.take i) ++ (fa (L.drop i)).map (· + (i : Int)) := by
    conv => lhs; rw [← List.take_append_drop i L, fa_append, hl]
  by_cases h0 : (fa (L.take i)).length = 0
  · rw [if_pos h0, if_pos h0, h0]
    rfl
  · rw [if_neg h0, if_neg h0]
    have : (fa L).getD ((fa (L.take i)).length - 1) 0 = (fa (L.take i)).getD ((fa (L.take i)).length - 1) 0 := by
      rw [List.getD_eq_getElem?_getD, List.getD_eq_getElem?_getD, hp, List.getElem?_append_left (by omega)]
    rw [this]
theorem ref_place_l0 (L : List Int) (hL : L.length ≤ 100000) (at_ : Nat) (hat : at_ ≤ L.length) : ∀ (f k i : Nat) (x y : Int), at_ = i + f → lc (L.take i) = (x, y) → -1000000 ≤ y ∧ y ≤ (i : Int) ∧ 0 ≤ x ∧ x ≤ (i : Int) → foolscapref02_Place.l0 (k + f + 1) L (at_ : Int) x y (i : Int) = some ((lc (L.take at_)).1, (lc (L.take at_)).2, 0) := by
  intro f
  induction f with
  | zero =>
    intro k i x y hi hxy hb
    have e : i = at_ := by omega
    subst e
    rw [foolscapref02_Place.l0, if_neg (by omega), hxy]
  | succ f ih =>
    intro k i x y hi hxy hb
    have hlt : i < L.length := by omega
    have htk : L.take (i + 1) = L.take i ++ [L[i]] := List.take_succ_eq_append_getElem hlt
    have hrd : rd L (i : Int) = L[i] := by simp [rd, List.getD_eq_getElem?_getD, List.getElem?_eq_getElem hlt]
    have w1 : wrap64 ((i : Int) + 1) = ((i + 1 : Nat) : Int) := w_nat (by omega) (by omega)
    have w2 : wrap64 (x + 1) = x + 1 := w_id (by clear w1; omega) (by clear w1; omega)
    have w3 : wrap64 (y + 1) = y + 1 := w_id (by clear w1 w2; omega) (by clear w1 w2; omega)
    rw [show k + (f + 1) + 1 = (k + f + 1) + 1 by clear w1 w2 w3; omega, foolscapref02_Place.l0, if_pos (by clear w1 w2 w3; omega), if_pos (by clear w1 w2 w3; omega), if_pos (by clear w1 w2 w3; omega), hrd]
    by_cases hq : L[i] = 10
    · rw [if_pos hq, w1, w2]
      exact ih k (i + 1) (x + 1) 0 (by clear w1 w2 w3; omega) (by rw [htk, hq, lc_feed, hxy]) (by clear w1 w2 w3; omega)
    · rw [if_neg hq, w1, w3]
      exact ih k (i + 1) x (y + 1) (by clear w1 w2 w3; omega) (by rw [htk, lc_rune _ hq, hxy]) (by clear w1 w2 w3; omega)
theorem ref_place (L : List Int) (hL : L.length ≤ 100000) (at_ : Int) (k : Nat) : foolscapref02_Place.f (k + L.length + 3) L at_ = some (placeR L at_) := by
  unfold foolscapref02_Place.f
  by_cases h1 : at_ < 0
  · rw [if_pos h1, show k + L.length + 3 = (k + L.length + 2) + 1 by omega, foolscapref02_Place.j0, if_pos rfl]
    unfold placeR
    rw [if_neg (by omega)]
  · rw [if_neg h1, show k + L.length + 3 = (k + L.length + 2) + 1 by omega, foolscapref02_Place.j0]
    by_cases h2 : at_ > (L.length : Int)
    · rw [decide_eq_true h2, if_pos rfl]
      unfold placeR
      rw [if_neg (by omega)]
    · rw [decide_eq_false h2, if_neg (by simp)]
      obtain ⟨a, rfl⟩ : ∃ a : Nat, at_ = (a : Int) := ⟨at_.toNat, (Int.toNat_of_nonneg (by omega)).symm⟩
      have := ref_place_l0 L hL a (by omega) a (k + L.length + 1 - a) 0 0 0 (by omega) (by simp [lc, fa]) (by omega)
      rw [show k + L.length + 1 - a + a + 1 = k + L.length + 2 by omega] at this
      rw [place_lc L a (by omega)]
      exact this
theorem atR_two (L : List Int) (line col : Int) : (atR L line col).2 = 0 ∨ atR L line col = (0, 3) := by
  unfold atR
  by_cases hc : 0 ≤ line ∧ line ≤ ((fa L).length : Int) ∧ 0 ≤ col
  · rw [if_pos hc]
    obtain ⟨a, ha⟩ : ∃ a, (if 0 < line then (fa L).getD (line.toNat - 1) 0 + 1 else 0) = a := ⟨_, rfl⟩
    obtain ⟨b, hb⟩ : ∃ b, (if line < ((fa L).length : Int) then (fa L).getD line.toNat 0 else (L.length : Int)) = b := ⟨_, rfl⟩
    rw [ha, hb]
    by_cases hq : b - a < col
    · rw [if_pos hq]
      exact .inr rfl
    · rw [if_neg hq]
      exact .inl rfl
  · rw [if_neg hc]
    exact .inr rfl
theorem at_back (L : List Int) (line col : Int) (h : (atR L line col).2 = 0) : ∃ r : Nat, r ≤ L.length ∧ placeR L r = (line, col, 0) := by
  have hF := fa_sorted L
  have hm : ∀ x ∈ fa L, 0 ≤ x ∧ x < (L.length : Int) := fun x hx => fa_mem hx
  unfold atR at h
  obtain ⟨F, hFF⟩ : ∃ F, fa L = F := ⟨_, rfl⟩
  obtain ⟨n, hn⟩ : ∃ n, L.length = n := ⟨_, rfl⟩
  unfold placeR
  rw [hFF] at hF hm h ⊢
  rw [hn] at hm h ⊢
  have hg : ∀ k x, F[k]? = some x → F.getD k 0 = x := fun k x hx => by rw [List.getD_eq_getElem?_getD, hx]; rfl
  have hlt : ∀ i j x y, i < j → F[i]? = some x → F[j]? = some y → x < y := fun i j x y hij hx hy => by
    have := (List.pairwise_iff_getElem.1 hF) i j (List.getElem?_eq_some_iff.1 hx).1 (List.getElem?_eq_some_iff.1 hy).1 hij
    rw [(List.getElem?_eq_some_iff.1 hx).2, (List.getElem?_eq_some_iff.1 hy).2] at this
    exact this
  by_cases hc : 0 ≤ line ∧ line ≤ (F.length : Int) ∧ 0 ≤ col
  · rw [if_pos hc] at h
    obtain ⟨k, rfl⟩ : ∃ k : Nat, line = (k : Int) := ⟨line.toNat, (Int.toNat_of_nonneg hc.1).symm⟩
    rw [Int.toNat_natCast] at h
    obtain ⟨a, ha⟩ : ∃ a, (if 0 < (k : Int) then F.getD (k - 1) 0 + 1 else 0) = a := ⟨_, rfl⟩
    obtain ⟨b, hb⟩ : ∃ b, (if (k : Int) < (F.length : Int) then F.getD k 0 else (n : Int)) = b := ⟨_, rfl⟩
    rw [ha, hb] at h
    by_cases hq : b - a < col
    · rw [if_pos hq] at h
      cases h
    · have hkF : k ≤ F.length := by omega
      have hba : b ≤ (n : Int) := by
        rw [← hb]
        split
        · obtain ⟨x, hx⟩ : ∃ x, F[k]? = some x := ⟨_, List.getElem?_eq_getElem (by omega)⟩
          rw [hg k x hx]
          have := hm x (List.mem_of_getElem? hx)
          omega
        · omega
      have ha0 : 0 ≤ a := by
        rw [← ha]
        split
        · obtain ⟨x, hx⟩ : ∃ x, F[k - 1]? = some x := ⟨_, List.getElem?_eq_getElem (by omega)⟩
          rw [hg _ x hx]
          have := hm x (List.mem_of_getElem? hx)
          omega
        · omega
      obtain ⟨r, hr⟩ : ∃ r : Nat, a + col = (r : Int) := ⟨(a + col).toNat, (Int.toNat_of_nonneg (by omega)).symm⟩
      have hcut : (F.filter (fun x => decide (x < (r : Int)))).length = k := by
        refine filter_cut hkF (fun j x hj hx => ?_) (fun j x hj hx => ?_)
        · obtain ⟨y, hy⟩ : ∃ y, F[k - 1]? = some y := ⟨_, List.getElem?_eq_getElem (by omega)⟩
          have hay : a = y + 1 := by rw [← ha, if_pos (by omega), hg _ y hy]
          rcases Nat.lt_or_ge j (k - 1) with h1 | h1
          · have := hlt j (k - 1) x y h1 hx hy
            omega
          · have e : j = k - 1 := by omega
            subst e
            rw [hy] at hx
            cases hx
            omega
        · have hkl : k < F.length := by have := (List.getElem?_eq_some_iff.1 hx).1; omega
          obtain ⟨y, hy⟩ : ∃ y, F[k]? = some y := ⟨_, List.getElem?_eq_getElem hkl⟩
          have hby : b = y := by rw [← hb, if_pos (by omega), hg _ y hy]
          rcases Nat.lt_or_ge k j with h1 | h1
          · have := hlt k j y x h1 hy hx
            omega
          · have e : j = k := by omega
            subst e
            rw [hy] at hx
            cases hx
            omega
      refine ⟨r, by omega, ?_⟩
      rw [if_pos (by omega), hcut]
      by_cases h0 : k = 0
      · subst h0
        rw [if_pos rfl]
        have : a = 0 := by rw [← ha, if_neg (by omega)]
        refine Prod.ext rfl (Prod.ext ?_ rfl)
        show (r : Int) = col
        omega
      · rw [if_neg h0]
        have hay : a = F.getD (k - 1) 0 + 1 := by rw [← ha, if_pos (by omega)]
        refine Prod.ext rfl (Prod.ext ?_ rfl)
        show (r : Int) - F.getD (k - 1) 0 - 1 = col
        omega
  · rw [if_neg hc] at h
    cases h
theorem ref_at_l0 (L : List Int) (hL : L.length ≤ 100000) (line col : Int) : ∀ (f k i : Nat), L.length + 1 = i + f → (∀ j : Nat, j < i → ¬ ((placeR L j).1 = line ∧ (placeR L j).2.1 = col)) → foolscapref02_At.l0 (k + f + (L.length + 5)) L line col (i : Int) = some (atR L line col) := by
  intro f
  induction f with
  | zero =>
    intro k i hi hno
    rw [show k + 0 + (L.length + 5) = (k + L.length + 4) + 1 by omega, foolscapref02_At.l0, if_neg (by omega)]
    rcases atR_two L line col with h | h
    · obtain ⟨r, hr, hp⟩ := at_back L line col h
      exact absurd ⟨by rw [hp], by rw [hp]⟩ (hno r (by omega))
    · rw [h]
  | succ f ih =>
    intro k i hi hno
    rw [show k + (f + 1) + (L.length + 5) = (k + f + (L.length + 5)) + 1 by omega, foolscapref02_At.l0, if_pos (by omega), show k + f + (L.length + 5) = (k + f + 2) + L.length + 3 by omega, ref_place L hL (i : Int) (k + f + 2), Option.bind_some]
    have hnext : ¬ ((placeR L i).1 = line ∧ (placeR L i).2.1 = col) → foolscapref02_At.l0 ((k + f + 2) + L.length + 3) L line col (wrap64 ((i : Int) + 1)) = some (atR L line col) := fun hn => by
      rw [w_nat (show (i : Int) + 1 = ((i + 1 : Nat) : Int) by omega) (by omega), show (k + f + 2) + L.length + 3 = k + f + (L.length + 5) by omega]
      refine ih k (i + 1) (by omega) (fun j hj => ?_)
      rcases Nat.lt_or_ge j i with h1 | h1
      · exact hno j h1
      · have e : j = i := by omega
        subst e
        exact hn
    by_cases h1 : (placeR L i).1 = line
    · rw [if_pos h1]
      by_cases h2 : (placeR L i).2.1 = col
      · rw [if_pos h2]
        have := (pa_back L i (by omega)).2
        rw [h1, h2] at this
        rw [this]
      · rw [if_neg h2]
        exact hnext (fun h => h2 h.2)
    · rw [if_neg h1]
      exact hnext (fun h => h1 h.1)
theorem ref_at (L : List Int) (hL : L.length ≤ 100000) (line col : Int) : foolscapref02_At.f (2 * L.length + 6) L line col = some (atR L line col) := by
  have := ref_at_l0 L hL line col (L.length + 1) 0 0 (by omega) (fun j hj => absurd hj (Nat.not_lt_zero _))
  rw [show 0 + (L.length + 1) + (L.length + 5) = 2 * L.length + 6 by omega] at this
  exact this
end Go.Proofs.YtfhnepihbofabaaDoor.X
