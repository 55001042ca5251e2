/-
  The law FindNext of layer 33 as a plain statement, proved, by this session. Conditions: as typed.
-/
import Derived.Test.YtabhfloclcmjnaaDoorPure33
import Derived.Test.YtabhfloclcmjnaaDoorPx5
namespace Go.Proofs.YtabhfloclcmjnaaDoor.Pure
open Go Go.RowKit Go.Proofs.YtabhfloclcmjnaaDoorW.PrintWords Go.Proofs.YtabhfloclcmjnaaDoor.P Go.Proofs.YtabhfloclcmjnaaDoor.X Go.Proofs.YtabhfloclcmjnaaDoor.Kmp
set_option linter.unusedVariables false

theorem less_f (a b : Int) : cmp_Less_int.f a b = some (decide (a < b)) := by
  unfold cmp_Less_int.f cmp_isNaN_int.f
  simp
theorem isNaN_f (a : Int) : slices_isNaN_int.f a = some false := by
  unfold slices_isNaN_int.f
  simp
/-- What a search tells: where it would stand, and whether it does. -/
theorem bs_l0 (qs : List Nat) (a : Int) (hq : ∀ i j (h1 : i < j) (h2 : j < qs.length), qs[i] < qs[j]) (hl : qs.length ≤ 1000) : ∀ d (lo hi k : Nat), hi - lo ≤ d → lo ≤ hi → hi ≤ qs.length → d < k →
    (∀ j (h : j < qs.length), j < lo → (qs[j] : Int) < a) → (∀ j (h : j < qs.length), hi ≤ j → a ≤ (qs[j] : Int)) →
    ∃ r : Nat, r ≤ qs.length ∧ (∀ j (h : j < qs.length), j < r → (qs[j] : Int) < a) ∧ (∀ j (h : j < qs.length), r ≤ j → a ≤ (qs[j] : Int)) ∧
      slices_BinarySearch_int_int.l0 k (zs qs) a (qs.length : Int) (lo : Int) (hi : Int) = some ((r : Int), decide (∃ h : r < qs.length, (qs[r] : Int) = a))
  | d, lo, hi, k, hd, hlh, hhl, hk, hlo, hhi => by
    obtain ⟨k, rfl⟩ : ∃ x, k = x + 1 := ⟨k - 1, by omega⟩
    by_cases h : lo < hi
    · cases d with
      | zero => omega
      | succ d =>
        have hmid : (lo + hi) / 2 < hi := by omega
        have hmid2 : lo ≤ (lo + hi) / 2 := by omega
        have e : wrap64 ((IntKind.u64.wrap (wrap64 ((lo : Int) + (hi : Int)))) / 2) = (((lo + hi) / 2 : Nat) : Int) := by
          rw [w64 (x := (lo : Int) + (hi : Int)) (by omega) (by omega)]
          have e2 : IntKind.u64.wrap ((lo : Int) + (hi : Int)) = ((lo + hi : Nat) : Int) := by
            rw [show (lo : Int) + (hi : Int) = ((lo + hi : Nat) : Int) by omega]
            simp [IntKind.wrap, IntKind.signed, IntKind.bits]
            omega
          rw [e2, w64 (by omega) (by omega)]
          omega
        obtain ⟨mid, hm⟩ : ∃ mid, (lo + hi) / 2 = mid := ⟨_, rfl⟩
        rw [hm] at hmid hmid2 e
        have hml : mid < qs.length := by omega
        simp only [slices_BinarySearch_int_int.l0]
        rw [if_pos (by omega), e, if_pos (by omega), if_pos (by rw [zs_length]; omega), rd_zs qs mid hml, less_f, Option.bind_some]
        by_cases hlt : ((qs[mid] : Nat) : Int) < a
        · rw [if_pos (decide_eq_true hlt), w64 (by omega) (by omega), show (mid : Int) + 1 = ((mid + 1 : Nat) : Int) by omega]
          refine bs_l0 qs a hq hl d (mid + 1) hi k (by omega) (by omega) hhl (by omega) (fun j hj h1 => ?_) hhi
          by_cases he : j = mid
          · subst he; exact hlt
          · have := hq j mid (by omega) hml; omega
        · rw [if_neg (by rw [decide_eq_true_iff]; exact hlt)]
          refine bs_l0 qs a hq hl d lo mid k (by omega) (by omega) (by omega) (by omega) hlo (fun j hj h1 => ?_)
          by_cases he : j = mid
          · subst he; omega
          · have := hq mid j (by omega) hj; omega
    · have hle : lo = hi := by omega
      subst hle
      refine ⟨lo, hhl, hlo, hhi, ?_⟩
      simp only [slices_BinarySearch_int_int.l0]
      rw [if_neg (by omega)]
      by_cases h1 : lo < qs.length
      · rw [if_pos (by omega), if_pos (by omega), if_pos (by rw [zs_length]; omega), rd_zs qs lo h1]
        by_cases h2 : ((qs[lo] : Nat) : Int) = a
        · rw [if_pos h2, decide_eq_true ⟨h1, h2⟩]
        · rw [if_neg h2, isNaN_f, Option.bind_some, if_neg (by simp), decide_eq_false (fun ⟨_, h3⟩ => h2 h3)]
      · rw [if_neg (by omega), decide_eq_false (fun ⟨h3, _⟩ => h1 h3)]
theorem sorted_places (l p : List Int) : ∀ i j (h1 : i < j) (h2 : j < (places l p).length), (places l p)[i] < (places l p)[j] := by
  intro i j h1 h2
  have h : List.Pairwise (· < ·) (places l p) := List.Pairwise.filter _ List.pairwise_lt_range
  exact List.pairwise_iff_getElem.1 h i j (by omega) h2 h1
theorem mem_places {l p : List Int} {i : Nat} (hp : p ≠ []) : i ∈ places l p ↔ st l p i = true := by
  unfold places
  rw [List.mem_filter, List.mem_range]
  constructor
  · exact fun h => h.2
  · intro h
    refine ⟨?_, h⟩
    rcases Nat.lt_or_ge i l.length with h1 | h1
    · exact h1
    · have := List.length_pos_iff.2 hp
      rw [st_far hp (by omega)] at h; cases h

/-- The next place from a on. -/
theorem next_up (l p : List Int) (hp : p ≠ []) (hl : l.length ≤ 1000) (hpl : p.length ≤ 1000) (q : Option Nat) : ∀ d (a k : Nat), l.length + 1 - a ≤ d → a ≤ l.length + 1 → 2 * d + p.length + 4 < k →
    (match q with | some q => a ≤ q ∧ q ≤ l.length ∧ st l p q = true ∧ ∀ i, a ≤ i → i < q → st l p i = false | none => ∀ i, a ≤ i → st l p i = false) →
    foolscapref33_Next.l0 k false l p (a : Int) = some (match q with | some q => ((q : Int), 0) | none => (0, 14))
  | d, a, k, hd, hal, hk, hc => by
    obtain ⟨k, rfl⟩ : ∃ x, k = x + 2 := ⟨k - 2, by omega⟩
    simp only [foolscapref33_Next.l0]
    rw [if_pos (by omega)]
    simp only [foolscapref33_Next.j2]
    by_cases h : a ≤ l.length
    · rw [if_pos (decide_eq_true (by omega)), stands_nat l p a k hp (by omega) (by omega) (by omega), Option.bind_some]
      cases hs : st l p a with
      | true =>
        rw [if_pos rfl]
        cases q with
        | none => have := hc a (Nat.le_refl _); rw [hs] at this; cases this
        | some q =>
          obtain ⟨h1, h2, h3, h4⟩ := hc
          have : q = a := by
            rcases Nat.lt_or_ge a q with h5 | h5
            · have := h4 a (Nat.le_refl _) h5; rw [hs] at this; cases this
            · omega
          subst this; rfl
      | false =>
        rw [if_neg (by simp), if_neg (by simp), w64 (by omega) (by omega), show (a : Int) + 1 = ((a + 1 : Nat) : Int) by omega]
        cases d with
        | zero => omega
        | succ d =>
          refine next_up l p hp hl hpl q d (a + 1) k (by omega) (by omega) (by omega) ?_
          cases q with
          | none => exact fun i hi => hc i (by omega)
          | some q =>
            obtain ⟨h1, h2, h3, h4⟩ := hc
            have : q ≠ a := by rintro rfl; rw [h3] at hs; cases hs
            exact ⟨by omega, h2, h3, fun i h5 h6 => h4 i (by omega) h6⟩
    · rw [if_neg (by rw [decide_eq_true_iff]; omega)]
      cases q with
      | none => rfl
      | some q => obtain ⟨h1, h2, _⟩ := hc; omega
/-- The last place up to a - 1. -/
theorem next_down (l p : List Int) (hp : p ≠ []) (hl : l.length ≤ 1000) (hpl : p.length ≤ 1000) (q : Option Nat) : ∀ (a k : Nat), a ≤ l.length + 1 → 2 * a + p.length + 6 < k →
    (match q with | some q => q < a ∧ st l p q = true ∧ ∀ i, q < i → i < a → st l p i = false | none => ∀ i, i < a → st l p i = false) →
    foolscapref33_Next.l0 k true l p ((a : Int) - 1) = some (match q with | some q => ((q : Int), 0) | none => (0, 14))
  | 0, k, ha, hk, hc => by
    obtain ⟨k, rfl⟩ : ∃ x, k = x + 2 := ⟨k - 2, by omega⟩
    simp only [foolscapref33_Next.l0]
    rw [if_neg (by omega)]
    simp only [foolscapref33_Next.j2]
    rw [if_neg (by simp)]
    cases q with
    | none => rfl
    | some q => exact absurd hc.1 (by omega)
  | a + 1, k, ha, hk, hc => by
    obtain ⟨k, rfl⟩ : ∃ x, k = x + 2 := ⟨k - 2, by omega⟩
    rw [show ((a + 1 : Nat) : Int) - 1 = (a : Int) by omega]
    simp only [foolscapref33_Next.l0]
    rw [if_pos (by omega)]
    simp only [foolscapref33_Next.j2]
    rw [if_pos (decide_eq_true (by omega)), stands_nat l p a k hp (by omega) (by omega) (by omega), Option.bind_some]
    cases hs : st l p a with
    | true =>
      rw [if_pos rfl]
      cases q with
      | none => have := hc a (by omega); rw [hs] at this; cases this
      | some q =>
        obtain ⟨h1, h2, h3⟩ := hc
        have : q = a := by
          rcases Nat.lt_or_ge q a with h5 | h5
          · have := h3 a h5 (by omega); rw [hs] at this; cases this
          · omega
        subst this; rfl
    | false =>
      rw [if_neg (by simp), if_pos trivial, w64 (by omega) (by omega)]
      refine next_down l p hp hl hpl q a k (by omega) (by omega) ?_
      cases q with
      | none => exact fun i hi => hc i (by omega)
      | some q =>
        obtain ⟨h1, h2, h3⟩ := hc
        have : q ≠ a := by rintro rfl; rw [h2] at hs; cases hs
        exact ⟨by omega, h2, fun i h5 h6 => h3 i h5 (by omega)⟩

theorem places_f (s t : ByteArray) (hs : s.size ≤ 1000) (ht : t.size ≤ 1000) (from_ : Int) :
    find_places.f s t from_ = some (match askedR s t with | (l, p, e) => if e = 0 then (if from_ < 0 ∨ from_ > (l.length : Int) then ([], 3) else (zs (places l p), 0)) else ([], e)) := by
  unfold find_places.f find_everywhere.f
  rw [if_pos (by omega), if_pos (by omega), Option.bind_some]
  unfold everyR askedR
  cases h2 : textOf t with
  | none => cases h1 : textOf s <;> simp
  | some p =>
    cases h1 : textOf s with
    | none => simp
    | some l =>
      by_cases hp : p = []
      · subst hp; simp
      · simp only [if_neg hp]
        rw [if_pos trivial, if_pos trivial, found_places hp]
        by_cases h3 : from_ < 0
        · rw [if_pos h3, if_pos (.inl h3)]
        · rw [if_neg h3]
          unfold runes_Len.f
          rw [if_pos (by omega), Option.bind_some, lenU_of_some h1]
          by_cases h4 : from_ > (l.length : Int)
          · rw [if_pos h4, if_pos (.inr h4)]
          · rw [if_neg h4, if_neg (by omega)]; rfl
theorem FindNext : foolscaplaw33_FindNext.Pure := by
  intro s t a hs0 ht0 ha0
  refine ⟨50 + 9950, ?_⟩
  unfold foolscaplaw33_FindNext.f
  rw [alive_ev, Option.bind_some, if_pos rfl]
  obtain ⟨k, hk⟩ : ∃ k, 50 + 9950 = k + 1 ∧ k = 9999 := ⟨9999, rfl, rfl⟩
  rw [hk.1]
  by_cases h1 : (s.size : Int) > 600
  · rw [if_pos h1]; simp [foolscaplaw33_FindNext.j0]
  · rw [if_neg h1]
    simp only [foolscaplaw33_FindNext.j0]
    by_cases h2 : (t.size : Int) > 600
    · rw [if_pos (decide_eq_true h2)]
    · rw [if_neg (by rw [decide_eq_true_iff]; exact h2)]
      unfold find_Next.f find_Last.f foolscapref33_Next.f
      rw [places_f s t (by omega) (by omega), asked_f s t (by omega) (by omega) _ (by omega)]
      simp only [Option.bind_some]
      unfold askedR
      cases h3 : textOf s with
      | none => simp
      | some l =>
        cases h4 : textOf t with
        | none => simp
        | some p =>
          by_cases hp : p = []
          · subst hp; simp
          · simp only [if_neg hp]
            have hl := text_le h3
            have hpl := text_le h4
            have hm := List.length_pos_iff.2 hp
            obtain ⟨j, rfl⟩ : ∃ x, k = x + 1 := ⟨k - 1, by omega⟩
            by_cases h5 : a < 0
            · simp [h5, foolscapref33_Next.j0]
            · by_cases h6 : a > (l.length : Int)
              · simp [h5, h6, foolscapref33_Next.j0]
              · have h7 : ¬ (a < 0 ∨ a > (l.length : Int)) := by omega
                have hc : (places l p).length ≤ l.length := by
                  have := List.length_filter_le (fun i => st l p i) (List.range l.length)
                  rwa [List.length_range] at this
                obtain ⟨r, hr, hlo, hhi, hb⟩ := bs_l0 (places l p) a (sorted_places l p) (by omega) (places l p).length 0 (places l p).length (j + 1) (by omega) (Nat.zero_le _) (Nat.le_refl _) (by omega) (fun _ _ h => by omega) (fun _ h h' => by omega)
                have hbs : slices_BinarySearch_int_int.f (j + 1) (zs (places l p)) a = some ((r : Int), decide (∃ h : r < (places l p).length, ((places l p)[r] : Int) = a)) := by
                  unfold slices_BinarySearch_int_int.f
                  rw [zs_length]
                  exact hb
                have hmem : ∀ i, st l p i = true → ∃ x, ∃ h : x < (places l p).length, (places l p)[x] = i := fun i hi => List.mem_iff_getElem.1 ((mem_places hp).2 hi)
                have hst : ∀ x (h : x < (places l p).length), st l p (places l p)[x] = true := fun x h => (mem_places hp).1 (List.getElem_mem h)
                have hle : ∀ x (h : x < (places l p).length), (places l p)[x] < l.length := fun x h => List.mem_range.1 (List.mem_filter.1 (List.getElem_mem h)).1
                -- the next one
                have hup : foolscapref33_Next.l0 j false l p a = some (if h : r < (places l p).length then (((places l p)[r] : Int), 0) else (0, 14)) := by
                  have h8 := next_up l p hp (by omega) (by omega) (if h : r < (places l p).length then some (places l p)[r] else none) (l.length + 1) a.toNat j (by omega) (by omega) (by omega) (by
                    by_cases h9 : r < (places l p).length
                    · rw [dif_pos h9]
                      have := hhi r h9 (Nat.le_refl _)
                      refine ⟨by omega, Nat.le_of_lt (hle r h9), hst r h9, fun i h10 h11 => ?_⟩
                      rw [Bool.eq_false_iff]
                      intro h12
                      obtain ⟨x, hx, rfl⟩ := hmem i h12
                      have h13 : x < r := by
                        rcases Nat.lt_or_ge x r with h | h
                        · exact h
                        · by_cases he : x = r
                          · subst he; omega
                          · have := sorted_places l p r x (by omega) hx; omega
                      have := hlo x hx h13
                      omega
                    · rw [dif_neg h9]
                      intro i h10
                      rw [Bool.eq_false_iff]
                      intro h12
                      obtain ⟨x, hx, rfl⟩ := hmem i h12
                      have := hlo x hx (by omega)
                      omega)
                  rw [Int.toNat_of_nonneg (by omega)] at h8
                  rw [h8]
                  by_cases h9 : r < (places l p).length
                  · simp only [dif_pos h9]
                  · simp only [dif_neg h9]
                have hdn : foolscapref33_Next.l0 j true l p a = some (if h : ∃ h : r < (places l p).length, ((places l p)[r] : Int) = a then (a, 0) else if h : 0 < r then (((places l p)[r - 1]'(by omega) : Int), 0) else (0, 14)) := by
                  have h8 := next_down l p hp (by omega) (by omega) (if h : ∃ h : r < (places l p).length, ((places l p)[r] : Int) = a then some a.toNat else if h : 0 < r then some ((places l p)[r - 1]'(by omega)) else none) (a.toNat + 1) j (by omega) (by omega) (by
                    by_cases h9 : ∃ h : r < (places l p).length, ((places l p)[r] : Int) = a
                    · rw [dif_pos h9]
                      obtain ⟨h10, h11⟩ := h9
                      refine ⟨by omega, ?_, fun i _ _ => by omega⟩
                      rw [show a.toNat = (places l p)[r] by omega]
                      exact hst r h10
                    · rw [dif_neg h9]
                      have hno : ∀ x (hx : x < (places l p).length), r ≤ x → a < ((places l p)[x] : Int) := fun x hx hrx => by
                        have h10 := hhi x hx hrx
                        by_cases he : x = r
                        · subst he
                          by_cases h11 : ((places l p)[x] : Int) = a
                          · exact absurd ⟨hx, h11⟩ h9
                          · omega
                        · have h12 := hhi r (by omega) (Nat.le_refl _)
                          have := sorted_places l p r x (by omega) hx
                          omega
                      by_cases h13 : 0 < r
                      · rw [dif_pos h13]
                        have := hlo (r - 1) (by omega) (by omega)
                        refine ⟨by omega, hst _ _, fun i h14 h15 => ?_⟩
                        rw [Bool.eq_false_iff]
                        intro h16
                        obtain ⟨x, hx, rfl⟩ := hmem i h16
                        rcases Nat.lt_or_ge x r with h | h
                        · by_cases he : x = r - 1
                          · subst he; omega
                          · have := sorted_places l p x (r - 1) (by omega) (by omega); omega
                        · have := hno x hx h; omega
                      · rw [dif_neg h13]
                        intro i h14
                        rw [Bool.eq_false_iff]
                        intro h16
                        obtain ⟨x, hx, rfl⟩ := hmem i h16
                        have := hno x hx (by omega); omega)
                  rw [show ((a.toNat + 1 : Nat) : Int) - 1 = a by omega] at h8
                  rw [h8]
                  by_cases h9 : ∃ h : r < (places l p).length, ((places l p)[r] : Int) = a
                  · simp only [dif_pos h9]
                    rw [Int.toNat_of_nonneg (by omega)]
                  · simp only [dif_neg h9]
                    by_cases h13 : 0 < r
                    · simp only [dif_pos h13]
                    · simp only [dif_neg h13]
                simp only [if_neg h7, if_neg h5, if_true, hbs, Option.bind_some, foolscapref33_Next.j0, decide_eq_false h6, Bool.false_eq_true, if_false, hup, hdn, zs_length, decide_eq_true_eq]
                have eU : (if (r : Int) = ((places l p).length : Int) then some ((0 : Int), (14 : Int)) else if 0 ≤ (r : Int) then if (r : Int) < ((places l p).length : Int) then some (rd (zs (places l p)) (r : Int), 0) else none else none) = some (if h : r < (places l p).length then (((places l p)[r] : Int), 0) else (0, 14)) := by
                  by_cases h9 : r < (places l p).length
                  · rw [if_neg (by omega), if_pos (by omega), if_pos (by omega), rd_zs _ _ h9, dif_pos h9]
                  · rw [if_pos (by omega), dif_neg h9]
                have eD : (if ∃ h : r < (places l p).length, ((places l p)[r] : Int) = a then some (a, (0 : Int)) else if (r : Int) = 0 then some (0, 14) else if 0 ≤ wrap64 ((r : Int) - 1) then if wrap64 ((r : Int) - 1) < ((places l p).length : Int) then some (rd (zs (places l p)) (wrap64 ((r : Int) - 1)), 0) else none else none) =
                    some (if h : ∃ h : r < (places l p).length, ((places l p)[r] : Int) = a then (a, 0) else if h : 0 < r then (((places l p)[r - 1]'(by omega) : Int), 0) else (0, 14)) := by
                  by_cases h9 : ∃ h : r < (places l p).length, ((places l p)[r] : Int) = a
                  · rw [if_pos h9, dif_pos h9]
                  · rw [if_neg h9, dif_neg h9]
                    by_cases h13 : 0 < r
                    · rw [if_neg (by omega), w64 (by omega) (by omega), if_pos (by omega), if_pos (by omega), dif_pos h13, show (r : Int) - 1 = ((r - 1 : Nat) : Int) by omega, rd_zs _ _ (by omega)]
                    · rw [if_pos (by omega), dif_neg h13]
                rw [eU, Option.bind_some, eD, Option.bind_some, if_pos rfl, if_pos rfl, if_pos rfl]
                simp
end Go.Proofs.YtabhfloclcmjnaaDoor.Pure
