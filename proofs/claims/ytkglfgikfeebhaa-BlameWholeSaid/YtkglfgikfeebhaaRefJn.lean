/-
  What foolscapref01's Join tells: by this session. Conditions: as typed.
-/
import Derived.Test.YtkglfgikfeebhaaRefMay
import Derived.Test.YtkglfgikfeebhaaJoin
import Derived.Test.YtkglfgikfeebhaaPx10
namespace Go.Proofs.Ytkglfgikfeebhaa.X
open Go Go.RowKit Go.Shelf Go.Proofs.YtkglfgikfeebhaaW.PrintWords Go.Proofs.Ytkglfgikfeebhaa.P
set_option linter.unusedVariables false
def strOf (l : List Int) : ByteArray := strOfNums (l.flatMap Lib.encodeRuneZ)
theorem allRunes_append (a b : List Int) : allRunes (a ++ b) = (allRunes a && allRunes b) := by simp [allRunes]
theorem bytes_f (r : Int) (h0 : 0 ≤ r) (h1 : r ≤ 1114111) (hv : Lib.validRune r = true) : foolscapref01_Bytes.f r = some (Lib.encodeRuneZ r) := by
  have hv' : (0 ≤ r ∧ r < 55296) ∨ (57343 < r ∧ r ≤ 1114111) := of_decide_eq_true hv
  have hw : wrap64 r = r := by unfold wrap64; omega
  unfold foolscapref01_Bytes.f
  rw [hw]
  by_cases c1 : r < 128
  · rw [if_pos c1, Lib.encodeRuneZ_one h0 (by omega)]
    congr 2; omega
  · rw [if_neg c1]
    by_cases c2 : r < 2048
    · rw [if_pos c2, Lib.encodeRuneZ_two (by omega) (by omega)]
      have e1 : wrap64 (192 + wrap64 (Int.tdiv r 64)) % 256 = 192 + r / 64 := by rw [Int.tdiv_eq_ediv_of_nonneg h0]; unfold wrap64; omega
      have e2 : wrap64 (128 + Int.tmod r 64) % 256 = 128 + r % 64 := by rw [Int.tmod_eq_emod_of_nonneg h0]; unfold wrap64; omega
      rw [e1, e2]
    · rw [if_neg c2]
      by_cases c3 : r < 65536
      · rw [if_pos c3, Lib.encodeRuneZ_three (by omega)]
        have e1 : wrap64 (224 + wrap64 (Int.tdiv r 4096)) % 256 = 224 + r / 4096 := by rw [Int.tdiv_eq_ediv_of_nonneg h0]; unfold wrap64; omega
        have e0 : wrap64 (Int.tdiv r 64) = r / 64 := by rw [Int.tdiv_eq_ediv_of_nonneg h0]; unfold wrap64; omega
        have e2 : wrap64 (128 + Int.tmod (wrap64 (Int.tdiv r 64)) 64) % 256 = 128 + r / 64 % 64 := by rw [e0, Int.tmod_eq_emod_of_nonneg (by omega)]; unfold wrap64; omega
        have e3 : wrap64 (128 + Int.tmod r 64) % 256 = 128 + r % 64 := by rw [Int.tmod_eq_emod_of_nonneg h0]; unfold wrap64; omega
        rw [e1, e2, e3]
      · rw [if_neg c3, Lib.encodeRuneZ_four (by omega) h1]
        have e1 : wrap64 (240 + wrap64 (Int.tdiv r 262144)) % 256 = 240 + r / 262144 := by rw [Int.tdiv_eq_ediv_of_nonneg h0]; unfold wrap64; omega
        have e0 : wrap64 (Int.tdiv r 64) = r / 64 := by rw [Int.tdiv_eq_ediv_of_nonneg h0]; unfold wrap64; omega
        have e4 : wrap64 (Int.tdiv r 4096) = r / 4096 := by rw [Int.tdiv_eq_ediv_of_nonneg h0]; unfold wrap64; omega
        have e5 : wrap64 (128 + Int.tmod (wrap64 (Int.tdiv r 4096)) 64) % 256 = 128 + r / 4096 % 64 := by rw [e4, Int.tmod_eq_emod_of_nonneg (by omega)]; unfold wrap64; omega
        have e2 : wrap64 (128 + Int.tmod (wrap64 (Int.tdiv r 64)) 64) % 256 = 128 + r / 64 % 64 := by rw [e0, Int.tmod_eq_emod_of_nonneg (by omega)]; unfold wrap64; omega
        have e3 : wrap64 (128 + Int.tmod r 64) % 256 = 128 + r % 64 := by rw [Int.tmod_eq_emod_of_nonneg h0]; unfold wrap64; omega
        rw [e1, e5, e2, e3]

theorem rd_at (l : List Int) (i : Nat) (h : i < l.length) : rd l (i : Int) = l[i] := by
  simp [rd, List.getD_eq_getElem?_getD, List.getElem?_eq_getElem h]
theorem join_l0 (l : List Int) (hl : l.length ≤ 17592186044416) : ∀ (f k i : Nat), l.length = i + f → allRunes (l.take i) = true →
    foolscapref01_Join.l0 (k + f + 1) l ((l.take i).flatMap Lib.encodeRuneZ) (i : Int) = some (if allRunes l = true then (strOf l, true) else (⟨#[]⟩, false)) := by
  intro f
  induction f with
  | zero =>
    intro k i hi ha
    obtain ⟨m, hm⟩ : ∃ m, k + 0 = m := ⟨_, rfl⟩
    rw [hm]
    simp only [foolscapref01_Join.l0]
    rw [if_neg (by omega)]
    rw [show l.take i = l by rw [List.take_of_length_le (by omega)]] at ha ⊢
    rw [if_pos ha]
    rfl
  | succ f ih =>
    intro k i hi ha
    obtain ⟨m, hm⟩ : ∃ m, k + f + 1 = m := ⟨_, rfl⟩
    rw [show k + (f + 1) + 1 = m + 1 by omega]
    simp only [foolscapref01_Join.l0]
    have hlt : i < l.length := by omega
    rw [if_pos (by omega), if_pos (by omega), rd_at l i hlt, is_f, Option.bind_some]
    have htk : l.take (i + 1) = l.take i ++ [l[i]] := by rw [List.take_succ_eq_append_getElem hlt]
    by_cases hv : Lib.validRune l[i] = true
    · have hv' : (0 ≤ l[i] ∧ l[i] < 55296) ∨ (57343 < l[i] ∧ l[i] ≤ 1114111) := of_decide_eq_true hv
      rw [if_pos hv, bytes_f _ (by omega) (by omega) hv, Option.bind_some]
      have h1 := flat_len (l.take i)
      have h2 : (l.take i).length ≤ i := List.length_take_le _ _
      have h3 := (Lib.encodeRuneZ_length l[i]).2
      rw [if_pos (by omega), show wrap64 ((i : Int) + 1) = ((i + 1 : Nat) : Int) by unfold wrap64; omega]
      have h4 : (l.take i).flatMap Lib.encodeRuneZ ++ Lib.encodeRuneZ l[i] = (l.take (i + 1)).flatMap Lib.encodeRuneZ := by rw [htk, List.flatMap_append, List.flatMap_singleton]
      rw [h4, ← hm]
      exact ih k (i + 1) (by omega) (by rw [htk, allRunes_append, ha]; simp [allRunes, hv])
    · rw [if_neg hv]
      have hno : allRunes l = false := by
        rw [← Bool.not_eq_true]
        exact fun h => hv (List.all_eq_true.1 h _ (List.getElem_mem hlt))
      rw [hno]
      rfl
theorem join_ev (l : List Int) (hl : l.length ≤ 17592186044416) : Ev (fun k => foolscapref01_Join.f k l) (if allRunes l = true then (strOf l, true) else (⟨#[]⟩, false)) :=
  ⟨l.length + 1, fun k hk => by
    have h := join_l0 l hl l.length (k - l.length - 1) 0 (by omega) rfl
    rw [show k - l.length - 1 + l.length + 1 = k by omega] at h
    exact h⟩
end Go.Proofs.Ytkglfgikfeebhaa.X
