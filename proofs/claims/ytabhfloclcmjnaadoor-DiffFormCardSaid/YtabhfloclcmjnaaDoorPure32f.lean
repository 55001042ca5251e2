/-
  The law DiffForm as a plain statement: by this session. Conditions: as typed.
-/
import Derived.Test.YtabhfloclcmjnaaDoorDifC
import Derived.Test.YtabhfloclcmjnaaDoorPx6
namespace Go.Proofs.YtabhfloclcmjnaaDoor.Pure
open Go Go.RowKit Go.Proofs.YtabhfloclcmjnaaDoorW.PrintWords Go.Proofs.YtabhfloclcmjnaaDoor.P Go.Proofs.YtabhfloclcmjnaaDoor.X Go.Proofs.YtabhfloclcmjnaaDoor.Lcs
set_option linter.unusedVariables false
/-! ### the law -/
theorem form_l0 (s : ByteArray) (K : Nat) (ps : List (Nat × List Int)) (m : List S40) (hr : ∀ p ∈ ps, allRunes p.2 = true) (hl : ps.length ≤ 10000) (hend : ∀ k i, K ≤ k → ¬ i < (ps.length : Int) → foolscaplaw32_DiffForm.l0 (k + 1) s (ps.map encP) m i = some true) :
    ∀ d i k, i + d = ps.length → K + d + 1 ≤ k → FormP (if i = 0 then none else some (ps.getD (i - 1) (0, [])).1) (ps.drop i) → foolscaplaw32_DiffForm.l0 k s (ps.map encP) m (i : Int) = some true
  | 0, i, k, hi, hk, hf => by
    obtain ⟨k, rfl⟩ : ∃ x, k = x + 1 := ⟨k - 1, by omega⟩
    exact hend k i (by omega) (by omega)
  | d + 1, i, k, hi, hk, hf => by
    obtain ⟨k, rfl⟩ : ∃ x, k = x + 1 := ⟨k - 1, by omega⟩
    have hlt : i < ps.length := by omega
    have hrd : ∀ j : Nat, j < ps.length → rd_T40 (ps.map encP) (j : Int) = encP (ps.getD j (0, [])) := fun j hj => by
      unfold rd_T40
      rw [Int.toNat_natCast, List.getD_eq_getElem?_getD, List.getElem?_map, List.getElem?_eq_getElem hj, List.getD_eq_getElem?_getD, List.getElem?_eq_getElem hj]
      rfl
    have hgi : ps.getD i (0, []) = ps[i] := by rw [List.getD_eq_getElem?_getD, List.getElem?_eq_getElem hlt]; rfl
    rw [List.drop_eq_getElem_cons hlt] at hf
    obtain ⟨⟨kk, t⟩, hp⟩ : ∃ p, ps[i] = p := ⟨_, rfl⟩
    have hrt := hr ps[i] (List.getElem_mem hlt)
    rw [hp] at hf hgi hrt
    obtain ⟨f1, f2, f3, f4⟩ := hf
    have htx : (encP (kk, t)).f1.toList ≠ [] := text_ne hrt f2
    have hnext : FormP (if i + 1 = 0 then none else some (ps.getD (i + 1 - 1) (0, [])).1) (ps.drop (i + 1)) := by
      rw [if_neg (by omega), Nat.add_sub_cancel, hgi]
      exact f4
    have ih := form_l0 s K ps m hr hl hend d (i + 1) k (by omega) (by omega) hnext
    rw [foolscaplaw32_DiffForm.l0, if_pos (by rw [List.length_map]; omega), if_pos (by omega), hrd i hlt, hgi, if_neg htx]
    have e0 : (encP (kk, t)).f0 = (kk : Int) := rfl
    rw [e0, if_neg (by omega), if_neg (by omega), w64e (x := (i : Int) + 1) (by omega) (by omega), show (i : Int) + 1 = ((i + 1 : Nat) : Int) by omega]
    by_cases hi0 : i = 0
    · subst hi0
      rw [if_neg (by omega)]
      exact ih
    · rw [if_pos (by omega), w64e (x := (i : Int) - 1) (by omega) (by omega), if_pos (by omega), if_pos (by rw [List.length_map]; omega), show (i : Int) - 1 = ((i - 1 : Nat) : Int) by omega, hrd (i - 1) (by omega)]
      have hq := f1 (ps.getD (i - 1) (0, [])).1 (if_neg hi0)
      have e1 : (encP (ps.getD (i - 1) (0, []))).f0 = ((ps.getD (i - 1) (0, [])).1 : Int) := rfl
      rw [e1, if_neg (by omega)]
      by_cases h2 : (kk : Int) = 2
      · rw [if_pos h2, if_neg (by omega)]
        exact ih
      · rw [if_neg h2]
        exact ih
theorem DiffForm : foolscaplaw32_DiffForm.Pure := by
  intro s t hs0 ht0
  refine ⟨250000 + 2, ?_⟩
  unfold foolscaplaw32_DiffForm.f
  rw [alive_at 250002 (by omega), Option.bind_some, if_pos rfl]
  by_cases h1 : (s.size : Int) > 300
  · rw [if_pos h1, foolscaplaw32_DiffForm.j0, if_pos rfl]
  rw [if_neg h1]
  by_cases h2 : (t.size : Int) > 300
  · rw [decide_eq_true h2, foolscaplaw32_DiffForm.j0, if_pos rfl]
  rw [decide_eq_false h2, foolscaplaw32_DiffForm.j0, if_neg (by simp), diff_f s t (by omega) (by omega) _ (by omega), Option.bind_some, diff_f t s (by omega) (by omega) _ (by omega), Option.bind_some]
  cases hx : textOf s with
  | none =>
    cases hy : textOf t with
    | none => unfold diffR; rw [hx, hy]; rfl
    | some y => unfold diffR; rw [hx, hy]; rfl
  | some x =>
    cases hy : textOf t with
    | none => unfold diffR; rw [hx, hy]; rfl
    | some y =>
      have hxl := text_len hx
      have hyl := text_len hy
      have hD1 : diffR s t = ((partsR x y).map encP, 0) := by unfold diffR; rw [hx, hy]; exact if_neg (by omega)
      have hD2 : diffR t s = ((partsR y x).map encP, 0) := by unfold diffR; rw [hx, hy]; exact if_neg (by omega)
      have hD3 : diffR s s = ((partsR x x).map encP, 0) := by unfold diffR; rw [hx]; exact if_neg (by omega)
      have rx := (text_str hx).2
      have ry := (text_str hy).2
      have hpl := parts_len x y
      have hpl2 := parts_len y x
      have hpl3 := parts_len x x
      rw [hD1, hD2]
      simp only
      rw [if_pos trivial, show ((0 : Int) != 0) = false from rfl, foolscaplaw32_DiffForm.j1, if_neg (by simp)]
      have h := form_l0 s 240000 (partsR x y) ((partsR y x).map encP) (parts_runes rx ry) (by omega) (fun k i hk hi => by
        rw [foolscaplaw32_DiffForm.l0, if_neg (by rw [List.length_map]; exact hi), diff_f s s (by omega) (by omega) _ (by omega), Option.bind_some, hD3]
        rw [cost_parts rx ry (by omega) (by omega) k (by omega), Option.bind_some, cost_parts ry rx (by omega) (by omega) k (by omega), Option.bind_some, C_symm x y, if_pos rfl]
        simp only
        rw [if_pos trivial, cost_parts rx rx (by omega) (by omega) k (by omega), Option.bind_some, C_self, if_pos (by rfl), List.length_map]
        rw [decide_eq_true (by have := parts_self x; omega)]) (partsR x y).length 0 250000 (by omega) (by omega) (by rw [if_pos rfl, List.drop_zero]; exact mrg3_form _ _ _ _ none (fun h => absurd rfl h) (fun _ => .inl rfl))
      exact h
end Go.Proofs.YtabhfloclcmjnaaDoor.Pure
