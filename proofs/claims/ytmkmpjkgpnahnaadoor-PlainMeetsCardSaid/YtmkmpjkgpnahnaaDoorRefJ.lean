/-
  What foolscapref01's Join and Len tell, and the program's own Len, Split, Join as functions, by this session. Conditions: as typed.
-/
import Derived.Test.YtmkmpjkgpnahnaaDoorTxtA
import Derived.Test.YtmkmpjkgpnahnaaDoorPx8
namespace Go.Proofs.YtmkmpjkgpnahnaaDoor.X
open Go Go.RowKit Go.Shelf Go.Proofs.YtmkmpjkgpnahnaaDoorW.PrintWords Go.Proofs.YtmkmpjkgpnahnaaDoor.P
set_option linter.unusedVariables false

theorem rd_at (l : List Int) (i : Nat) (h : i < l.length) : rd l (i : Int) = l[i] := by
  simp [rd, List.getD_eq_getElem?_getD, List.getElem?_eq_getElem h]
theorem join_l0 (l : List Int) (hl : l.length ≤ 17592186044416) : ∀ (f k i : Nat), l.length = i + f → allRunes (l.take i) = true →
    foolscapref01_Join.l0 (k + f + 1) l ((l.take i).flatMap Lib.encodeRuneZ) (i : Int) = some (if allRunes l = true then (strOf l, true) else (⟨#[]⟩, false)) := by
  intro f
  induction f with
  | zero =>
    intro k i hi ha
    obtain ⟨m, hm⟩ : ∃ m, k + 0 = m := ⟨_, rfl⟩
    rw [hm]
    simp only [foolscapref01_Join.l0]
    rw [if_neg (by omega)]
    rw [show l.take i = l by rw [List.take_of_length_le (by omega)]] at ha ⊢
    rw [if_pos ha]
    rfl
  | succ f ih =>
    intro k i hi ha
    obtain ⟨m, hm⟩ : ∃ m, k + f + 1 = m := ⟨_, rfl⟩
    rw [show k + (f + 1) + 1 = m + 1 by omega]
    simp only [foolscapref01_Join.l0]
    have hlt : i < l.length := by omega
    rw [if_pos (by omega), if_pos (by omega), rd_at l i hlt, is_f, Option.bind_some]
    have htk : l.take (i + 1) = l.take i ++ [l[i]] := by rw [List.take_succ_eq_append_getElem hlt]
    by_cases hv : Lib.validRune l[i] = true
    · have hv' : (0 ≤ l[i] ∧ l[i] < 55296) ∨ (57343 < l[i] ∧ l[i] ≤ 1114111) := of_decide_eq_true hv
      rw [if_pos hv, bytes_f _ (by omega) (by omega) hv, Option.bind_some]
      have h1 := flat_len (l.take i)
      have h2 : (l.take i).length ≤ i := List.length_take_le _ _
      have h3 := (Lib.encodeRuneZ_length l[i]).2
      rw [if_pos (by omega), show wrap64 ((i : Int) + 1) = ((i + 1 : Nat) : Int) by unfold wrap64; omega]
      have h4 : (l.take i).flatMap Lib.encodeRuneZ ++ Lib.encodeRuneZ l[i] = (l.take (i + 1)).flatMap Lib.encodeRuneZ := by rw [htk, List.flatMap_append, List.flatMap_singleton]
      rw [h4, ← hm]
      exact ih k (i + 1) (by omega) (by rw [htk, allRunes_append, ha]; simp [allRunes, hv])
    · rw [if_neg hv]
      have hno : allRunes l = false := by
        rw [← Bool.not_eq_true]
        exact fun h => hv (List.all_eq_true.1 h _ (List.getElem_mem hlt))
      rw [hno]
      rfl
theorem join_ev (l : List Int) (hl : l.length ≤ 17592186044416) : Ev (fun k => foolscapref01_Join.f k l) (if allRunes l = true then (strOf l, true) else (⟨#[]⟩, false)) :=
  ⟨l.length + 1, fun k hk => by
    have h := join_l0 l hl l.length (k - l.length - 1) 0 (by omega) rfl
    rw [show k - l.length - 1 + l.length + 1 = k by omega] at h
    exact h⟩
theorem len_ev (s : ByteArray) (hs : s.size ≤ 35184372088831) : Ev (fun k => foolscapref01_Len.f k s) (lenU s) := by
  obtain ⟨K, hK⟩ := split_ev s hs
  refine ⟨K, fun k hk => ?_⟩
  have e := hK k hk
  unfold foolscapref01_Len.f
  dsimp only at e ⊢
  rw [e, Option.bind_some]
  cases ht : textOf s with
  | none => rw [lenU_of_none ht]; rfl
  | some l => rw [lenU_of_some ht]; rfl
theorem join_f (l : List Int) (hl : l.length ≤ 17592186044416) : runes_Join.f l = some (if allRunes l = true then (strOf l, 0) else (⟨#[]⟩, 2)) := by
  unfold runes_Join.f
  rw [if_pos hl]
  rfl
theorem len_f (s : ByteArray) (hs : s.size ≤ 35184372088832) : runes_Len.f s = some (lenU s) := by
  unfold runes_Len.f
  rw [if_pos (by omega)]
theorem splitf_some {s : ByteArray} {l : List Int} (hs : s.size ≤ 35184372088832) (h : textOf s = some l) : runes_Split.f s = some (l, 0) := by
  unfold runes_Split.f
  rw [if_pos hs, h]
theorem splitf_none {s : ByteArray} (hs : s.size ≤ 35184372088832) (h : textOf s = none) : runes_Split.f s = some ([], 2) := by
  unfold runes_Split.f
  rw [if_pos hs, h]
end Go.Proofs.YtmkmpjkgpnahnaaDoor.X
