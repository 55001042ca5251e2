/-
  Plain facts for GapBack: Place and At go there and back; what is inserted is sliced, and deleted again: by this session. Conditions: as typed.
-/
import Derived.Test.YtfhnepihbofabaaDoorGap14
import Derived.Test.YtfhnepihbofabaaDoorTxtA
import Derived.Test.YtfhnepihbofabaaDoorPx4
namespace Go.Proofs.YtfhnepihbofabaaDoor.X
open Go Go.RowKit Go.Lib Go.Shelf Go.Proofs.YtfhnepihbofabaaDoorW.PrintWords Go.Proofs.YtfhnepihbofabaaDoor.P
set_option linter.unusedVariables false
theorem filter_take {F : List Int} (hs : F.Pairwise (· < ·)) (a : Int) : F.filter (fun x => decide (x < a)) = F.take (F.filter (fun x => decide (x < a))).length ∧ ∀ k x, (F.filter (fun x => decide (x < a))).length ≤ k → F[k]? = some x → a ≤ x := by
  induction F with
  | nil => exact ⟨rfl, fun k x _ h => by cases h⟩
  | cons y F ih =>
    obtain ⟨h1, h2⟩ := List.pairwise_cons.1 hs
    obtain ⟨i1, i2⟩ := ih h2
    by_cases hy : y < a
    · rw [List.filter_cons_of_pos (by simpa using hy)]
      refine ⟨?_, fun k x hk hx => ?_⟩
      · rw [List.length_cons, List.take_succ_cons, ← i1]
      · rw [List.length_cons] at hk
        cases k with
        | zero => omega
        | succ k => exact i2 k x (by omega) hx
    · have h0 : F.filter (fun x => decide (x < a)) = [] := List.filter_eq_nil_iff.2 (fun x hx => by have := h1 x hx; simp; omega)
      rw [List.filter_cons_of_neg (by simpa using hy), h0]
      refine ⟨rfl, fun k x hk hx => ?_⟩
      cases k with
      | zero => cases hx; omega
      | succ k =>
        have := h1 x (List.mem_of_getElem? hx)
        omega
/-- There and back. -/
theorem pa_back (L : List Int) (i : Nat) (hi : i ≤ L.length) : (placeR L i).2.2 = 0 ∧ atR L (placeR L i).1 (placeR L i).2.1 = ((i : Int), 0) := by
  have hF := fa_sorted L
  have hm : ∀ x ∈ fa L, 0 ≤ x ∧ x < (L.length : Int) := fun x hx => fa_mem hx
  obtain ⟨F, hFF⟩ : ∃ F, fa L = F := ⟨_, rfl⟩
  obtain ⟨n, hn⟩ : ∃ n, L.length = n := ⟨_, rfl⟩
  unfold placeR atR
  rw [hFF] at hF hm ⊢
  rw [hn] at hi hm ⊢
  rw [if_pos (show 0 ≤ (i : Int) ∧ (i : Int) ≤ (n : Int) by omega)]
  obtain ⟨q1, q2⟩ := filter_take hF (i : Int)
  obtain ⟨p, hp⟩ : ∃ p, (F.filter (fun x => decide (x < (i : Int)))).length = p := ⟨_, rfl⟩
  rw [hp] at q1 q2 ⊢
  have hpF : p ≤ F.length := by rw [← hp]; exact List.length_filter_le _ _
  have hlt : ∀ k x, k < p → F[k]? = some x → x < (i : Int) := fun k x hk hx => by
    have : x ∈ F.filter (fun x => decide (x < (i : Int))) := by
      rw [q1]
      exact List.mem_iff_getElem?.2 ⟨k, by rw [List.getElem?_take, if_pos hk]; exact hx⟩
    simpa using (List.mem_filter.1 this).2
  have hg : ∀ k x, F[k]? = some x → F.getD k 0 = x := fun k x hx => by rw [List.getD_eq_getElem?_getD, hx]; rfl
  have hlast : (i : Int) ≤ (if (p : Int) < (F.length : Int) then F.getD p 0 else (n : Int)) := by
    split
    · obtain ⟨x, hx⟩ : ∃ x, F[p]? = some x := ⟨_, List.getElem?_eq_getElem (by omega)⟩
      rw [hg p x hx]
      exact q2 p x (Nat.le_refl _) hx
    · omega
  by_cases h0 : p = 0
  · subst h0
    rw [if_pos rfl]
    refine ⟨rfl, ?_⟩
    show (if 0 ≤ (0 : Int) ∧ (0 : Int) ≤ (F.length : Int) ∧ 0 ≤ (i : Int) then _ else _) = _
    rw [if_pos ⟨by omega, by omega, by omega⟩]
    have e1 : (if (0 : Int) < 0 then F.getD ((0 : Int).toNat - 1) 0 + 1 else 0) = 0 := if_neg (by decide)
    have hl : (i : Int) ≤ (if (0 : Int) < (F.length : Int) then F.getD (0 : Int).toNat 0 else (n : Int)) := hlast
    show (if (if (0 : Int) < (F.length : Int) then F.getD (0 : Int).toNat 0 else (n : Int)) - (if (0 : Int) < 0 then F.getD ((0 : Int).toNat - 1) 0 + 1 else 0) < (i : Int) then _ else ((if (0 : Int) < 0 then F.getD ((0 : Int).toNat - 1) 0 + 1 else 0) + (i : Int), (0 : Int))) = _
    rw [e1, if_neg (by omega)]
    simp
  · rw [if_neg h0]
    refine ⟨rfl, ?_⟩
    obtain ⟨x, hx⟩ : ∃ x, F[p - 1]? = some x := ⟨_, List.getElem?_eq_getElem (by omega)⟩
    have hxi := hlt (p - 1) x (by omega) hx
    show (if 0 ≤ (p : Int) ∧ (p : Int) ≤ (F.length : Int) ∧ 0 ≤ (i : Int) - F.getD (p - 1) 0 - 1 then _ else _) = _
    rw [hg (p - 1) x hx, if_pos ⟨by omega, by omega, by omega⟩]
    have e1 : (if (0 : Int) < (p : Int) then F.getD ((p : Int).toNat - 1) 0 + 1 else 0) = x + 1 := by
      rw [if_pos (by omega), Int.toNat_natCast, hg (p - 1) x hx]
    show (if (if (p : Int) < (F.length : Int) then F.getD (p : Int).toNat 0 else (n : Int)) - (if (0 : Int) < (p : Int) then F.getD ((p : Int).toNat - 1) 0 + 1 else 0) < (i : Int) - x - 1 then _ else ((if (0 : Int) < (p : Int) then F.getD ((p : Int).toNat - 1) 0 + 1 else 0) + ((i : Int) - x - 1), (0 : Int))) = _
    rw [e1, Int.toNat_natCast, if_neg (by omega)]
    congr 1
    omega
theorem joinS_text {s : ByteArray} {l : List Int} (h : textOf s = some l) : joinS l = s := by
  obtain ⟨h1, h2⟩ := text_str h
  unfold joinS
  rw [if_pos h2, h1]
  rfl
theorem great_nil (s : ByteArray) : foolscaplaw02_great.f 5 s [] = some (decide (600 < s.size)) := by
  unfold foolscaplaw02_great.f
  by_cases h : (s.size : Int) > 600
  · have e : decide (600 < s.size) = true := decide_eq_true (by omega)
    rw [if_pos h, e]
    simp [foolscaplaw02_great.j0]
  · have e : decide (600 < s.size) = false := decide_eq_false (by omega)
    rw [if_neg h, e]
    simp [foolscaplaw02_great.j0, foolscaplaw02_great.l0]
theorem ins_slice {L t : List Int} {at_ : Nat} (hat : at_ ≤ L.length) : ((L.take at_ ++ t ++ L.drop at_).drop at_).take t.length = t ∧ (L.take at_ ++ t ++ L.drop at_).take at_ ++ (L.take at_ ++ t ++ L.drop at_).drop (at_ + t.length) = L := by
  have hl : (L.take at_).length = at_ := by rw [List.length_take]; omega
  have h1 : (L.take at_ ++ t ++ L.drop at_).drop at_ = t ++ L.drop at_ := by
    conv => lhs; rw [List.append_assoc, ← hl]
    rw [hl, List.drop_left' hl]
  have h2 : (L.take at_ ++ t ++ L.drop at_).take at_ = L.take at_ := by rw [List.append_assoc, List.take_left' hl]
  refine ⟨by rw [h1, List.take_left' rfl], ?_⟩
  rw [h2, ← List.drop_drop, h1, List.drop_left' rfl, List.take_append_drop]
end Go.Proofs.YtfhnepihbofabaaDoor.X
