/-
  The document's side of layer 1, as plain Lean: Join, Same, Len and Cut, by this session. Conditions: as typed.
-/
import Derived.Test.YteceigbiemohnaaDoorTxt
import Derived.Test.YteceigbiemohnaaDoorPx3
import Derived.Test.YteceigbiemohnaaDoorPx4
import Derived.Test.YteceigbiemohnaaDoorPx1
namespace Go.Proofs.YteceigbiemohnaaDoor.X
open Go Go.RowKit Go.Proofs.YteceigbiemohnaaDoorW.PrintWords Go.Proofs.YteceigbiemohnaaDoor.P
set_option linter.unusedVariables false

theorem alive01 : foolscaplaw01_alive.f = some true := by kernel_rfl

theorem rd_at (l : List Int) (i : Nat) (h : i < l.length) : rd l (i : Int) = l[i] := by
  simp [rd, List.getD_eq_getElem?_getD, List.getElem?_eq_getElem h]
theorem join_l0 (l : List Int) (hl : l.length ≤ 17592186044416) : ∀ (f k i : Nat), l.length = i + f → allRunes (l.take i) = true →
    foolscapref01_Join.l0 (k + f + 1) l ((l.take i).flatMap Lib.encodeRuneZ) (i : Int) = some (if allRunes l = true then (strOf l, true) else (⟨#[]⟩, false)) := by
  intro f
  induction f with
  | zero =>
    intro k i hi ha
    obtain ⟨m, hm⟩ : ∃ m, k + 0 = m := ⟨_, rfl⟩
    rw [hm]
    simp only [foolscapref01_Join.l0]
    rw [if_neg (by omega)]
    rw [show l.take i = l by rw [List.take_of_length_le (by omega)]] at ha ⊢
    rw [if_pos ha]
    rfl
  | succ f ih =>
    intro k i hi ha
    obtain ⟨m, hm⟩ : ∃ m, k + f + 1 = m := ⟨_, rfl⟩
    rw [show k + (f + 1) + 1 = m + 1 by omega]
    simp only [foolscapref01_Join.l0]
    have hlt : i < l.length := by omega
    rw [if_pos (by omega), if_pos (by omega), rd_at l i hlt, is_f, Option.bind_some]
    have htk : l.take (i + 1) = l.take i ++ [l[i]] := by rw [List.take_succ_eq_append_getElem hlt]
    by_cases hv : Lib.validRune l[i] = true
    · have hv' : (0 ≤ l[i] ∧ l[i] < 55296) ∨ (57343 < l[i] ∧ l[i] ≤ 1114111) := of_decide_eq_true hv
      rw [if_pos hv, bytes_f _ (by omega) (by omega) hv, Option.bind_some]
      have h1 := flat_len (l.take i)
      have h2 : (l.take i).length ≤ i := List.length_take_le _ _
      have h3 := (Lib.encodeRuneZ_length l[i]).2
      rw [if_pos (by omega), show wrap64 ((i : Int) + 1) = ((i + 1 : Nat) : Int) by unfold wrap64; omega]
      have h4 : (l.take i).flatMap Lib.encodeRuneZ ++ Lib.encodeRuneZ l[i] = (l.take (i + 1)).flatMap Lib.encodeRuneZ := by rw [htk, List.flatMap_append, List.flatMap_singleton]
      rw [h4, ← hm]
      exact ih k (i + 1) (by omega) (by rw [htk, allRunes_append, ha]; simp [allRunes, hv])
    · rw [if_neg hv]
      have hno : allRunes l = false := by
        rw [← Bool.not_eq_true]
        exact fun h => hv (List.all_eq_true.1 h _ (List.getElem_mem hlt))
      rw [hno]
      rfl
theorem join_ev (l : List Int) (hl : l.length ≤ 17592186044416) : Ev (fun k => foolscapref01_Join.f k l) (if allRunes l = true then (strOf l, true) else (⟨#[]⟩, false)) :=
  ⟨l.length + 1, fun k hk => by
    have h := join_l0 l hl l.length (k - l.length - 1) 0 (by omega) rfl
    rw [show k - l.length - 1 + l.length + 1 = k by omega] at h
    exact h⟩

theorem same_l0 (a b : List Int) (hl : a.length = b.length) (hm : a.length ≤ 9223372036854775806) : ∀ (f k i : Nat), a.length = i + f → a.take i = b.take i →
    foolscapref01_Same.l0 (k + f + 1) a b (i : Int) = some (decide (a = b)) := by
  intro f
  induction f with
  | zero =>
    intro k i hi he
    obtain ⟨m, hm⟩ : ∃ m, k + 0 = m := ⟨_, rfl⟩
    rw [hm]
    simp only [foolscapref01_Same.l0]
    rw [if_neg (by omega)]
    rw [List.take_of_length_le (by omega), List.take_of_length_le (by omega)] at he
    rw [decide_eq_true he]
  | succ f ih =>
    intro k i hi he
    obtain ⟨m, hm⟩ : ∃ m, k + f + 1 = m := ⟨_, rfl⟩
    rw [show k + (f + 1) + 1 = m + 1 by omega]
    simp only [foolscapref01_Same.l0]
    have h1 : i < a.length := by omega
    have h2 : i < b.length := by omega
    rw [if_pos (by omega), if_pos (by omega), if_pos (by omega), rd_at a i h1, rd_at b i h2]
    by_cases hv : a[i] = b[i]
    · rw [if_pos hv, show wrap64 ((i : Int) + 1) = ((i + 1 : Nat) : Int) by unfold wrap64; omega, ← hm]
      exact ih k (i + 1) (by omega) (by rw [List.take_succ_eq_append_getElem h1, List.take_succ_eq_append_getElem h2, he, hv])
    · rw [if_neg hv, decide_eq_false]
      rintro rfl
      exact hv rfl
theorem same_ev (a b : List Int) (hm : a.length ≤ 9223372036854775806) : Ev (fun k => foolscapref01_Same.f k a b) (decide (a = b)) :=
  ⟨a.length + 1, fun k hk => by
    unfold foolscapref01_Same.f
    dsimp only
    by_cases hl : a.length = b.length
    · rw [if_pos (by omega)]
      have h := same_l0 a b hl hm a.length (k - a.length - 1) 0 (by omega) rfl
      rw [show k - a.length - 1 + a.length + 1 = k by omega] at h
      exact h
    · rw [if_neg (by omega), decide_eq_false]
      rintro rfl
      exact hl rfl⟩
theorem len_ev (s : ByteArray) (hs : s.size ≤ 35184372088831) : Ev (fun k => foolscapref01_Len.f k s) (lenU s) := by
  obtain ⟨K, hK⟩ := split_ev s hs
  refine ⟨K, fun k hk => ?_⟩
  have e := hK k hk
  unfold foolscapref01_Len.f
  dsimp only at e ⊢
  rw [e, Option.bind_some]
  cases ht : textOf s with
  | none => rw [lenU_of_none ht]; rfl
  | some l => rw [lenU_of_some ht]; rfl
/-- What is cut out of a text. -/
def cutOf (s : ByteArray) (i n : Int) : ByteArray × Int :=
  match textOf s with
  | none => (⟨#[]⟩, 2)
  | some l => if i < 0 ∨ (l.length : Int) < i ∨ n < 0 ∨ (l.length : Int) - i < n then (⟨#[]⟩, 3) else (strOf ((l.drop i.toNat).take n.toNat), 0)
theorem cutOf_none {s : ByteArray} {i n : Int} (h : textOf s = none) : cutOf s i n = (⟨#[]⟩, 2) := by unfold cutOf; rw [h]
theorem cutOf_range {s : ByteArray} {i n : Int} {l : List Int} (h : textOf s = some l) (hr : i < 0 ∨ (l.length : Int) < i ∨ n < 0 ∨ (l.length : Int) - i < n) : cutOf s i n = (⟨#[]⟩, 3) := by
  unfold cutOf; rw [h]; exact if_pos hr
theorem cutOf_ok {s : ByteArray} {i n : Int} {l : List Int} (h : textOf s = some l) (hr : ¬ (i < 0 ∨ (l.length : Int) < i ∨ n < 0 ∨ (l.length : Int) - i < n)) : cutOf s i n = (strOf ((l.drop i.toNat).take n.toNat), 0) := by
  unfold cutOf; rw [h]; exact if_neg hr
theorem cut_ev (s : ByteArray) (hs : s.size ≤ 2000) (i n : Int) : Ev (fun k => foolscapref01_Cut.f k s i n) (cutOf s i n) := by
  obtain ⟨K, hK⟩ := split_ev s (by omega)
  cases ht : textOf s with
  | none =>
    refine ⟨K, fun k hk => ?_⟩
    have e := hK k hk
    unfold foolscapref01_Cut.f
    dsimp only at e ⊢
    rw [e, ht, cutOf_none ht]
    rfl
  | some l =>
    have hll := textOf_length ht
    have har := (text_str ht).2
    by_cases hr : i < 0 ∨ (l.length : Int) < i ∨ n < 0 ∨ (l.length : Int) - i < n
    · refine ⟨K, fun k hk => ?_⟩
      rw [cutOf_range ht hr]
      have e := hK k hk
      unfold foolscapref01_Cut.f
      dsimp only at e ⊢
      rw [e, ht, Option.bind_some]
      simp only [if_true]
      by_cases c1 : i < 0
      · rw [if_pos c1]
      · rw [if_neg c1]
        by_cases c2 : i > (l.length : Int)
        · rw [if_pos c2]
        · rw [if_neg c2]
          by_cases c3 : n < 0
          · rw [if_pos c3]
          · rw [if_neg c3, if_pos (by unfold wrap64; omega)]
    · obtain ⟨K2, hK2⟩ := join_ev ((l.take (i + n).toNat).drop i.toNat) (by simp; omega)
      refine ⟨max K K2, fun k hk => ?_⟩
      rw [cutOf_ok ht hr]
      have e := hK k (by omega)
      have e2 := hK2 k (by omega)
      unfold foolscapref01_Cut.f
      dsimp only at e e2 ⊢
      rw [e, ht, Option.bind_some]
      simp only [if_true]
      have hw : wrap64 (i + n) = i + n := by unfold wrap64; omega
      rw [if_neg (by omega), if_neg (by omega), if_neg (by omega), if_neg (by unfold wrap64; omega), hw, if_pos (by omega), if_pos (by omega), if_pos (by omega), e2]
      rw [if_pos (allRunes_drop (allRunes_take har _) _), Option.bind_some, List.drop_take, show (i + n).toNat - i.toNat = n.toNat by omega]
theorem cut_f (s : ByteArray) (hs : s.size ≤ 35184372088832) (i n : Int) : runes_Cut.f s i n = some (cutOf s i n) := by
  unfold runes_Cut.f
  rw [if_pos hs]
  cases ht : textOf s with
  | none => rw [cutOf_none ht]
  | some l =>
    have h := text_str ht
    by_cases hr : i < 0 ∨ (l.length : Int) < i ∨ n < 0 ∨ (l.length : Int) - i < n
    · rw [cutOf_range ht hr]; simp only [if_pos hr]
    · rw [cutOf_ok ht hr]
      simp only [if_neg hr]
      rw [h.1, cutR_str h.2]
theorem join_f (l : List Int) (hl : l.length ≤ 17592186044416) : runes_Join.f l = some (if allRunes l = true then (strOf l, 0) else (⟨#[]⟩, 2)) := by
  unfold runes_Join.f
  rw [if_pos hl]
  rfl
theorem len_f (s : ByteArray) (hs : s.size ≤ 35184372088832) : runes_Len.f s = some (lenU s) := by
  unfold runes_Len.f
  rw [if_pos (by omega)]
theorem splitf_some {s : ByteArray} {l : List Int} (hs : s.size ≤ 35184372088832) (h : textOf s = some l) : runes_Split.f s = some (l, 0) := by
  unfold runes_Split.f
  rw [if_pos hs, h]
theorem splitf_none {s : ByteArray} (hs : s.size ≤ 35184372088832) (h : textOf s = none) : runes_Split.f s = some ([], 2) := by
  unfold runes_Split.f
  rw [if_pos hs, h]
end Go.Proofs.YteceigbiemohnaaDoor.X
