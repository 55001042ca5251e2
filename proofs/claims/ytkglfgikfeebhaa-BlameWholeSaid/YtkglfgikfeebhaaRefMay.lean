/-
  The reference's May of cells tells what cells.New does: by this session. Conditions: as typed.
-/
import Derived.Test.YtkglfgikfeebhaaNew
import Derived.Test.YtkglfgikfeebhaaPx3
namespace Go.Proofs.Ytkglfgikfeebhaa.X
open Go Go.RowKit Go.Lib Go.Proofs.YtkglfgikfeebhaaW.PrintWords Go.Proofs.Ytkglfgikfeebhaa.P
set_option linter.unusedVariables false
/-- Does one ahead of i, from j on, have i's key? -/
def dupAt (l : List S46) (i j : Nat) : Prop := ∃ t, j ≤ t ∧ t < i ∧ kC (l.getD t z46) = kC (l.getD i z46)
theorem may_l2 (l : List S46) (hl : l.length ≤ 20000) (i : Nat) (hi : i < l.length) : ∀ (f k j : Nat), i = j + f →
    (dupAt l i j → foolscapref12_May.l2 (k + f + 1) l (i : Int) (j : Int) = some 15) ∧ (¬ dupAt l i j → foolscapref12_May.l2 (k + f + 1) l (i : Int) (j : Int) = foolscapref12_May.l1 k l ((i + 1 : Nat) : Int)) := by
  intro f
  induction f with
  | zero =>
    intro k j hj
    refine ⟨fun ⟨t, h1, h2, _⟩ => by omega, fun _ => ?_⟩
    rw [show k + 0 + 1 = k + 1 by omega, foolscapref12_May.l2, if_neg (by omega), w_s i (by omega)]
  | succ f ih =>
    intro k j hj
    have hr : ∀ t : Nat, rd_T46 l (t : Int) = l.getD t z46 := fun t => rfl
    have hstep : foolscapref12_May.l2 (k + (f + 1) + 1) l (i : Int) (j : Int) = if kC (l.getD j z46) = kC (l.getD i z46) then some 15 else foolscapref12_May.l2 (k + f + 1) l (i : Int) ((j + 1 : Nat) : Int) := by
      rw [show k + (f + 1) + 1 = (k + f + 1) + 1 by omega, foolscapref12_May.l2, if_pos (by omega), if_pos (by omega), if_pos (by omega), if_pos (by omega), if_pos (by omega), hr, hr, w_s j (by omega)]
      generalize l.getD j z46 = x
      generalize l.getD i z46 = y
      generalize foolscapref12_May.l2 (k + f + 1) l (i : Int) ((j + 1 : Nat) : Int) = r
      unfold kC
      by_cases h1 : x.f0.f0 = y.f0.f0 <;> by_cases h2 : x.f0.f1 = y.f0.f1 <;> by_cases h3 : x.f1 = y.f1 <;> simp [h1, h2, h3]
    rw [hstep]
    by_cases hs : kC (l.getD j z46) = kC (l.getD i z46)
    · rw [if_pos hs]
      exact ⟨fun _ => rfl, fun h => absurd ⟨j, Nat.le_refl _, by omega, hs⟩ h⟩
    · rw [if_neg hs]
      have hd : dupAt l i j ↔ dupAt l i (j + 1) := by
        constructor
        · rintro ⟨t, h1, h2, h3⟩
          have : t ≠ j := fun e => hs (e ▸ h3)
          exact ⟨t, by omega, h2, h3⟩
        · rintro ⟨t, h1, h2, h3⟩
          exact ⟨t, by omega, h2, h3⟩
      have := ih k (j + 1) (by omega)
      exact ⟨fun h => this.1 (hd.1 h), fun h => this.2 (fun e => h (hd.2 e))⟩
/-- No two of the first i have one key. -/
def noDup (l : List S46) (i : Nat) : Prop := ∀ s, s < i → ¬ dupAt l s 0
theorem may_l1 (l : List S46) (hl : l.length ≤ 20000) : ∀ (g k i : Nat), l.length = i + g →
    ((∃ s, i ≤ s ∧ s < l.length ∧ dupAt l s 0) → foolscapref12_May.l1 (k + g * (l.length + 2) + 1) l (i : Int) = some 15) ∧ ((∀ s, i ≤ s → s < l.length → ¬ dupAt l s 0) → foolscapref12_May.l1 (k + g * (l.length + 2) + 1) l (i : Int) = some 0) := by
  intro g
  induction g with
  | zero =>
    intro k i hi
    refine ⟨fun ⟨s, h1, h2, _⟩ => by omega, fun _ => ?_⟩
    rw [show k + 0 * (l.length + 2) + 1 = k + 1 by omega, foolscapref12_May.l1, if_neg (by omega), if_neg (by omega)]
  | succ g ih =>
    intro k i hi
    have hlt : i < l.length := by omega
    have e1 : k + (g + 1) * (l.length + 2) + 1 = (((k + l.length - i) + g * (l.length + 2) + 1) + i + 1) + 1 := by
      rw [Nat.add_mul]
      omega
    have hstep : foolscapref12_May.l1 (k + (g + 1) * (l.length + 2) + 1) l (i : Int) = foolscapref12_May.l2 (((k + l.length - i) + g * (l.length + 2) + 1) + i + 1) l (i : Int) ((0 : Nat) : Int) := by
      rw [e1, foolscapref12_May.l1, if_pos (by omega)]
      rfl
    have h2 := may_l2 l hl i hlt i ((k + l.length - i) + g * (l.length + 2) + 1) 0 (by omega)
    have h3 := ih (k + l.length - i) (i + 1) (by omega)
    rw [hstep]
    by_cases hd : dupAt l i 0
    · refine ⟨fun _ => h2.1 hd, fun h => absurd hd (h i (Nat.le_refl _) hlt)⟩
    · rw [h2.2 hd]
      refine ⟨fun ⟨s, h4, h5, h6⟩ => h3.1 ⟨s, ?_, h5, h6⟩, fun h => h3.2 (fun s h4 h5 => h s (by omega) h5)⟩
      have : s ≠ i := fun e => hd (e ▸ h6)
      omega
theorem is_f (r : Int) : foolscapref01_Is.f r = some (Lib.validRune r) := by
  unfold foolscapref01_Is.f
  show _ = some (decide ((0 ≤ r ∧ r < 55296) ∨ (57343 < r ∧ r ≤ 1114111)))
  by_cases h1 : r ≥ 0
  · rw [if_pos h1]
    by_cases h2 : r ≤ 1114111
    · rw [if_pos h2]
      by_cases h3 : r < 55296
      · rw [if_pos h3, decide_eq_true (.inl ⟨h1, h3⟩)]
      · rw [if_neg h3]
        congr 1
        apply decide_eq_decide.2
        omega
    · rw [if_neg h2]
      congr 1
      exact (decide_eq_false (by omega)).symm
  · rw [if_neg h1]
    congr 1
    exact (decide_eq_false (by omega)).symm
theorem may_x (x : S46) (R : Option Int) : ((foolscapref06_MayName.f x.f0.f0 x.f0.f1).bind fun t111 => (if t111 = true then (if x.f1 < 0 then (some 1) else (if x.f1 > 199 then (some 1) else ((foolscapref01_Is.f x.f2).bind fun t115 => (if t115 = true then R else (some 1))))) else (some 1))) = if mayB x = true then R else some 1 := by
  obtain ⟨⟨a, b⟩, o, r, d⟩ := x
  simp only [is_f, Option.bind_some]
  unfold foolscapref06_MayName.f mayB
  by_cases h1 : 1 ≤ a <;> by_cases h2 : a ≤ 16 <;> by_cases h3 : 1 ≤ b <;> by_cases h4 : b ≤ 1099511627776 <;> by_cases h5 : o < 0 <;> by_cases h6 : o > 199 <;> cases hv : Lib.validRune r <;> simp [h1, h2, h3, h4, h5, h6] <;> omega
theorem may_l0 (l : List S46) (hl : l.length ≤ 20000) : ∀ (f k i : Nat), l.length = i + f →
    foolscapref12_May.l0 (k + f + 1) l (i : Int) = if (l.drop i).all mayB = true then foolscapref12_May.l1 k l 0 else some 1 := by
  intro f
  induction f with
  | zero =>
    intro k i hi
    rw [show k + 0 + 1 = k + 1 by omega, foolscapref12_May.l0, if_neg (by omega), List.drop_of_length_le (by omega)]
    simp
  | succ f ih =>
    intro k i hi
    have hlt : i < l.length := by omega
    rw [show k + (f + 1) + 1 = (k + f + 1) + 1 by omega, foolscapref12_May.l0, if_pos (by omega), if_pos (by omega), may_x, rd46 l i hlt, w_s i (by omega), ih k (i + 1) (by omega), List.drop_eq_getElem_cons hlt, List.all_cons]
    by_cases hm : mayB l[i] = true
    · rw [if_pos hm, hm, Bool.true_and]
    · rw [if_neg hm, if_neg (by simp [hm])]
theorem nodup_dup (l : List S46) : (l.map kC).Nodup ↔ ∀ s, s < l.length → ¬ dupAt l s 0 := by
  have hg : ∀ (t : Nat) (h : t < l.length), l.getD t z46 = l[t] := fun t h => by simp [List.getD_eq_getElem?_getD, List.getElem?_eq_getElem h]
  unfold List.Nodup
  rw [List.pairwise_iff_getElem]
  constructor
  · rintro h s hs ⟨t, _, h2, h3⟩
    rw [hg t (by omega), hg s hs] at h3
    have := h t s (by rw [List.length_map]; omega) (by rw [List.length_map]; exact hs) h2
    rw [List.getElem_map, List.getElem_map] at this
    exact this h3
  · intro h i j hi hj hij
    rw [List.length_map] at hi hj
    rw [List.getElem_map, List.getElem_map]
    intro e
    exact h j hj ⟨i, Nat.zero_le _, hij, by rw [hg i hi, hg j hj]; exact e⟩
/-- The reference's May of cells is what cells.New tells. -/
theorem may_f (l : List S46) (hl : l.length ≤ 20000) : foolscapref12_May.f (0 + l.length * (l.length + 2) + 1 + l.length + 1) l = some (codeN l) := by
  unfold foolscapref12_May.f
  have h0 := may_l0 l hl l.length (0 + l.length * (l.length + 2) + 1) 0 (by omega)
  have h1 := may_l1 l hl l.length 0 0 (by omega)
  rw [List.drop_zero] at h0
  refine h0.trans ?_
  unfold codeN
  by_cases hm : l.all mayB = true
  · rw [if_pos hm, if_pos hm]
    by_cases hd : (l.map kC).Nodup
    · rw [if_pos hd]
      exact h1.2 (fun s _ hs => (nodup_dup l).1 hd s hs)
    · rw [if_neg hd]
      refine h1.1 ?_
      by_cases he : ∃ s, 0 ≤ s ∧ s < l.length ∧ dupAt l s 0
      · exact he
      · exact absurd ((nodup_dup l).2 (fun s hs hdu => he ⟨s, Nat.zero_le _, hs, hdu⟩)) hd
  · rw [if_neg hm, if_neg hm]
theorem may_ge (l : List S46) (hl : l.length ≤ 20000) (d : Nat) : foolscapref12_May.f (d + (0 + l.length * (l.length + 2) + 1 + l.length + 1)) l = some (codeN l) := by
  have h0 := may_l0 l hl l.length (d + (0 + l.length * (l.length + 2) + 1)) 0 (by omega)
  have h1 := may_l1 l hl l.length d 0 (by omega)
  rw [List.drop_zero] at h0
  unfold foolscapref12_May.f
  rw [show d + (0 + l.length * (l.length + 2) + 1 + l.length + 1) = d + (0 + l.length * (l.length + 2) + 1) + l.length + 1 by omega]
  refine h0.trans ?_
  rw [show d + (0 + l.length * (l.length + 2) + 1) = d + l.length * (l.length + 2) + 1 by omega]
  unfold codeN
  by_cases hm : l.all mayB = true
  · rw [if_pos hm, if_pos hm]
    by_cases hd : (l.map kC).Nodup
    · rw [if_pos hd]
      exact h1.2 (fun s _ hs => (nodup_dup l).1 hd s hs)
    · rw [if_neg hd]
      refine h1.1 ?_
      by_cases he : ∃ s, 0 ≤ s ∧ s < l.length ∧ dupAt l s 0
      · exact he
      · exact absurd ((nodup_dup l).2 (fun s hs hdu => he ⟨s, Nat.zero_le _, hs, hdu⟩)) hd
  · rw [if_neg hm, if_neg hm]
set_option linter.unusedVariables false
theorem rmay_w (A : Option Addr) (c : Nat) (l : List S46) (w : World) (hC : Kd.C k46 w A l.length l) (hc : l.length ≤ c) (hl : l.length ≤ 20000) :
    Calls Try.prog 11 #[.slice A l.length c] w fun e w' => e = .returned (.int .i64 (codeN l)) ∧ Below w.heap.size w w' := foolscapref12_May.calls _ A c l _ w hC hc (may_f l hl)
end Go.Proofs.Ytkglfgikfeebhaa.X
