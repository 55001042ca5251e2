/-
  The laws of layer 1 as plain statements, proved, by this session: RunesCut, RunesSplit, RunesJoin, RunesBack, RunesOne. Conditions: as typed.
-/
import Derived.Test.YteceigbiemohnaaDoorRef1b
import Derived.OpenShut
import Derived.Test.YteceigbiemohnaaDoorPx3
import Derived.Test.YteceigbiemohnaaDoorPx4
import Derived.Test.YteceigbiemohnaaDoorPx5
namespace Go.Proofs.YteceigbiemohnaaDoor.Pure
open Go Go.RowKit Go.Proofs.YteceigbiemohnaaDoorW.PrintWords Go.Proofs.YteceigbiemohnaaDoor.P Go.Proofs.YteceigbiemohnaaDoor.X
set_option linter.unusedVariables false

theorem RunesCut : foolscaplaw01_RunesCut.Pure := by
  intro s i n hs hi hn
  unfold foolscaplaw01_RunesCut.f
  rw [alive01]
  simp only [Option.bind_some, if_true]
  by_cases hl : (s.size : Int) > 2000
  · exact ⟨0, by rw [if_pos hl]⟩
  · simp only [if_neg hl, cut_f s (by omega) i n, Option.bind_some]
    obtain ⟨K, hK⟩ := cut_ev s (by omega) i n
    refine ⟨K, ?_⟩
    have e := hK K (Nat.le_refl _)
    dsimp only at e
    rw [e, Option.bind_some, if_pos rfl]
    simp

theorem RunesJoin : foolscaplaw01_RunesJoin.Pure := by
  intro l _ _ _
  unfold foolscaplaw01_RunesJoin.f
  rw [alive01]
  simp only [Option.bind_some, if_true]
  by_cases hl : (l.length : Int) > 2000
  · exact ⟨0, by rw [if_pos hl]⟩
  · obtain ⟨K, hK⟩ := join_ev l (by omega)
    refine ⟨K, ?_⟩
    have e := hK K (Nat.le_refl _)
    dsimp only at e
    rw [if_neg hl, join_f l (by omega), Option.bind_some, e, Option.bind_some]
    by_cases ha : allRunes l = true
    · simp only [if_pos ha, if_true]
      rfl
    · simp only [if_neg ha, if_true]
      rfl

theorem may_f (s : ByteArray) (hs : s.size ≤ 2000) : runes_May.f s = some (decide (0 ≤ lenU s)) := by
  unfold runes_May.f
  rw [len_f s (by omega), Option.bind_some]

theorem RunesSplit : foolscaplaw01_RunesSplit.Pure := by
  intro s hs
  unfold foolscaplaw01_RunesSplit.f
  rw [alive01]
  simp only [Option.bind_some, if_true]
  by_cases hl : (s.size : Int) > 2000
  · exact ⟨0, by rw [if_pos hl]⟩
  · obtain ⟨K, hK⟩ := split_ev s (by omega)
    obtain ⟨K2, hK2⟩ := len_ev s (by omega)
    cases ht : textOf s with
    | none =>
      refine ⟨max K K2 + 1, ?_⟩
      have e := hK (max K K2 + 1) (by omega)
      have e2 := hK2 (max K K2 + 1) (by omega)
      dsimp only at e e2
      rw [if_neg hl, e, e2, may_f s (by omega)]
      rw [splitf_none (by omega) ht, len_f s (by omega), ht]
      simp only [Option.bind_some]
      rw [lenU_of_none ht]
      rfl
    | some l =>
      have hll := textOf_length ht
      obtain ⟨K3, hK3⟩ := same_ev l l (by omega)
      refine ⟨max (max K K2) K3 + 1, ?_⟩
      have e := hK (max (max K K2) K3 + 1) (by omega)
      have e2 := hK2 (max (max K K2) K3 + 1) (by omega)
      have e3 := hK3 (max (max K K2) K3) (by omega)
      dsimp only at e e2 e3
      rw [if_neg hl, e, e2, may_f s (by omega)]
      rw [splitf_some (by omega) ht, len_f s (by omega), ht]
      simp only [Option.bind_some]
      rw [lenU_of_some ht, decide_eq_true (by omega)]
      simp only [bne_self_eq_false, Bool.false_eq_true, if_false]
      simp only [foolscaplaw01_RunesSplit.j0]
      simp only [Bool.false_eq_true, if_false, if_true]
      rw [e3]
      simp

theorem RunesBack : foolscaplaw01_RunesBack.Pure := by
  intro s i hs hi
  have hi1 := bounds_i64 hi
  unfold foolscaplaw01_RunesBack.f
  rw [alive01]
  simp only [Option.bind_some, if_true]
  by_cases hl : (s.size : Int) > 2000
  · exact ⟨0, by rw [if_pos hl]⟩
  · refine ⟨1, ?_⟩
    rw [if_neg hl]
    cases ht : textOf s with
    | none =>
      rw [splitf_none (by omega) ht]
      rfl
    | some l =>
      have hll := textOf_length ht
      obtain ⟨hse, har⟩ := text_str ht
      rw [splitf_some (by omega) ht]
      simp only [Option.bind_some, if_true]
      rw [join_f l (by omega), if_pos har]
      simp only [Option.bind_some, if_true]
      rw [← hse]
      simp only [bne_self_eq_false]
      simp only [foolscaplaw01_RunesBack.j0]
      simp only [Bool.false_eq_true, if_false]
      rw [cut_f s (by omega), Option.bind_some]
      by_cases hr : i < 0 ∨ (l.length : Int) < i
      · rw [cutOf_range ht (by omega)]
        simp only
        rw [if_neg (by omega)]
        by_cases c : i < 0
        · rw [if_pos c]
        · rw [if_neg c, decide_eq_true (by omega)]
      · rw [cutOf_ok ht (by omega)]
        simp only [if_true]
        rw [show wrap64 ((l.length : Int) - i) = (l.length : Int) - i by unfold wrap64; omega, cut_f s (by omega), Option.bind_some, cutOf_ok ht (by omega)]
        simp only [if_true]
        have h1 : strOf ((l.drop (0 : Int).toNat).take i.toNat) = strOf (l.take i.toNat) := by simp
        have h2 : (l.drop i.toNat).take ((l.length : Int) - i).toNat = l.drop i.toNat := by
          apply List.take_of_length_le
          rw [List.length_drop]; omega
        rw [h1, h2, ← strOf_append, List.take_append_drop, ← hse]
        have h3 := strOf_le (l.take i.toNat)
        have h4 := strOf_le (l.drop i.toNat)
        have h5 : (l.take i.toNat).length ≤ l.length := by simp; omega
        have h6 : (l.drop i.toNat).length ≤ l.length := by simp
        rw [if_pos (by omega), if_pos rfl, len_f _ (by omega), Option.bind_some, lenU_of_some (textOf_str (allRunes_take har _))]
        congr 1
        rw [beq_iff_eq]
        simp
        omega

theorem RunesOne : foolscaplaw01_RunesOne.Pure := by
  intro a b _ _ _ _ _ _
  unfold foolscaplaw01_RunesOne.f
  rw [alive01]
  simp only [Option.bind_some, if_true]
  by_cases hl : (a.length : Int) > 2000
  · exact ⟨1, by rw [if_pos hl]; rfl⟩
  · by_cases hl2 : (b.length : Int) > 2000
    · exact ⟨1, by rw [if_neg hl, decide_eq_true hl2]; rfl⟩
    · obtain ⟨K, hK⟩ := same_ev a a (by omega)
      obtain ⟨K2, hK2⟩ := same_ev a b (by omega)
      refine ⟨max K K2 + 3, ?_⟩
      rw [if_neg hl, decide_eq_false hl2]
      simp only [foolscaplaw01_RunesOne.j0]
      simp only [Bool.false_eq_true, if_false]
      rw [join_f a (by omega), join_f b (by omega)]
      simp only [Option.bind_some]
      by_cases ha : allRunes a = true
      · by_cases hb : allRunes b = true
        · rw [if_pos ha, if_pos hb]
          simp only [if_true, bne_self_eq_false]
          simp only [foolscaplaw01_RunesOne.j1]
          simp only [Bool.false_eq_true, if_false]
          have h1 := strOf_le a
          have h2 := strOf_le b
          rw [splitf_some (by omega) (textOf_str ha)]
          simp only [Option.bind_some, if_true]
          have e3 := hK (max K K2 + 1) (by omega)
          have e4 := hK2 (max K K2 + 1) (by omega)
          dsimp only at e3 e4
          rw [e3, Option.bind_some, decide_eq_true rfl]
          simp only [if_true]
          rw [e4, Option.bind_some]
          have h3 : ((strOf a).toList == (strOf b).toList) = decide (a = b) := by
            by_cases hab : a = b
            · subst hab; simp
            · rw [decide_eq_false hab, beq_eq_false_iff_ne]
              intro h
              apply hab
              apply strOf_inj ha hb
              apply ByteArray.ext
              apply Array.ext'
              rw [← Lib.toList_data, ← Lib.toList_data, h]
          have h4 := strOf_le (a ++ b)
          rw [List.length_append] at h4
          rw [h3, beq_self_eq_true, if_pos rfl, if_pos (by omega), ← strOf_append, len_f _ (by omega), Option.bind_some, lenU_of_some (textOf_str (by rw [allRunes_append, ha, hb]; rfl))]
          congr 1
          rw [beq_iff_eq, List.length_append]
          unfold wrap64; omega
        · rw [if_pos ha, if_neg hb]
          rfl
      · rw [if_neg ha]
        by_cases hb : allRunes b = true
        · rw [if_pos hb]; rfl
        · rw [if_neg hb]; rfl
end Go.Proofs.YteceigbiemohnaaDoor.Pure
