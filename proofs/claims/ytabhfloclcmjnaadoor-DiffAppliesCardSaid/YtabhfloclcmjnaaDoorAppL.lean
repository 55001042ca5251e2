/-
  DiffApplies: any text behind any parts, their cost, and their changes, are the document's: by this session. Conditions: as typed.
-/
import Derived.Test.YtabhfloclcmjnaaDoorAppS
import Derived.Test.YtabhfloclcmjnaaDoorPx23
namespace Go.Proofs.YtabhfloclcmjnaaDoor.X
open Go Go.RowKit Go.Shelf Go.Proofs.YtabhfloclcmjnaaDoorW.PrintWords Go.Proofs.YtabhfloclcmjnaaDoor.P
set_option linter.unusedVariables false
theorem rd46_at (l : List S46) (i : Nat) (h : i < l.length) : rd_T46 l (i : Int) = l[i] := by
  unfold rd_T46
  rw [Int.toNat_natCast, List.getD_eq_getElem?_getD, List.getElem?_eq_getElem h]
  rfl
theorem rd45_at (l : List S45) (i : Nat) (h : i < l.length) : rd_T45 l (i : Int) = l[i] := by
  unfold rd_T45
  rw [Int.toNat_natCast, List.getD_eq_getElem?_getD, List.getElem?_eq_getElem h]
  rfl
theorem applies_l0 (a s : ByteArray) (e : Int) (c : List S46) (hl : c.length ≤ 1000) (K : Nat) (hEnd : e = 0 → ∀ k, K ≤ k → diff_Do.f k a c = some (s, 0)) : ∀ d i k, i + d = c.length → K + d + 1 ≤ k → foolscaplaw32_DiffApplies.l0 k a s e c (c.map to45) (i : Int) = some true
  | 0, i, k, hi, hk => by
    obtain ⟨k, rfl⟩ : ∃ x, k = x + 1 := ⟨k - 1, by omega⟩
    rw [foolscaplaw32_DiffApplies.l0, if_neg (by omega)]
    by_cases h : e = 0
    · rw [if_pos h, hEnd h k (by omega), Option.bind_some, if_pos rfl, beq_self_eq_true]
    · rw [if_neg h]
  | d + 1, i, k, hi, hk => by
    obtain ⟨k, rfl⟩ : ∃ x, k = x + 1 := ⟨k - 1, by omega⟩
    have hlt : i < c.length := by omega
    have hlt2 : i < (c.map to45).length := by rw [List.length_map]; exact hlt
    have hw : wrap64 ((i : Int) + 1) = ((i + 1 : Nat) : Int) := by rw [w64d (by omega) (by omega)]; omega
    have e45 : (c.map to45)[i] = to45 c[i] := List.getElem_map ..
    rw [foolscaplaw32_DiffApplies.l0, if_pos (by omega), if_pos (by omega), if_pos (by omega), rd46_at c i hlt, rd45_at _ i hlt2, e45, hw, if_neg (by simp [to45]), applies_l0 a s e c hl K hEnd d (i + 1) k (by omega) (by omega)]
theorem applies_ev (a : ByteArray) (l : List S93) : ∃ k, foolscaplaw32_DiffApplies.f k a l = some true := by
  by_cases hg : (decide (400 < a.size) || (decide (60 < l.length) || l.any fun x => decide (400 < x.f1.size))) = true
  · refine ⟨200000, ?_⟩
    unfold foolscaplaw32_DiffApplies.f
    rw [alive_at _ (by omega), Option.bind_some, if_pos rfl, great_f a l _ (by omega), hg, Option.bind_some, if_pos rfl]
  · have hg' : ¬ (400 < a.size) ∧ ¬ (60 < l.length) ∧ ∀ x ∈ l, ¬ (400 < x.f1.size) := by
      rw [Bool.not_eq_true, Bool.or_eq_false_iff, Bool.or_eq_false_iff, decide_eq_false_iff_not, decide_eq_false_iff_not, List.any_eq_false] at hg
      exact ⟨hg.1, hg.2.1, fun x hx => by have := hg.2.2 x hx; simpa using this⟩
    obtain ⟨ha, hl, hx⟩ := hg'
    have hx' : ∀ x ∈ l, x.f1.size ≤ 400 := fun x h => by have := hx x h; omega
    have hz : ∀ p ∈ l.map to40, p.f1.size ≤ 2000 := fun p hp => by
      obtain ⟨y, hy, rfl⟩ := List.mem_map.1 hp
      have := hx' y hy
      show y.f1.size ≤ _
      omega
    have hlm : (l.map to40).length ≤ 1000 := by rw [List.length_map]; omega
    obtain ⟨K1, h1⟩ := rapp_ev a l (by omega) (by omega) hx'
    obtain ⟨K2, h2⟩ := rcost_ev l (by omega) hx'
    obtain ⟨K3, h3⟩ := rchg_ev l (by omega) hx'
    obtain ⟨m, hm⟩ : ∃ m, l.map to40 = m := ⟨_, rfl⟩
    rw [hm] at h1 h2 h3 hz hlm
    obtain ⟨c, r, hc1, hc2⟩ : ∃ (c : List S46) (r : Int), diff_Changes.f m = some (c, r) ∧ ((if askR m = 0 then (((chgF m 0 false []).map to45).reverse, 0) else ([], askR m)) : List S45 × Int) = (c.map to45, r) ∧ (askR m = 0 → c = (chgF m 0 false []).reverse) ∧ c.length ≤ 1000 := by
      unfold diff_Changes.f
      rw [if_pos ⟨hlm, List.all_eq_true.2 fun p hp => decide_eq_true (hz p hp)⟩]
      by_cases h : askR m = 0
      · rw [if_pos h, if_pos h]
        refine ⟨_, _, rfl, by rw [List.map_reverse], fun _ => rfl, ?_⟩
        have := (chgF_bd m 0 0 false [] hz (by simp) (by simp)).1
        rw [List.length_reverse]
        omega
      · rw [if_neg h, if_neg h]
        exact ⟨_, _, rfl, rfl, fun h2 => absurd h2 h, by simp⟩
    obtain ⟨hc2, hc3, hc4⟩ := hc2
    rw [hc2] at h3
    have hEnd : (applyR a m).2 = 0 → ∀ k, 30010 ≤ k → diff_Do.f k a c = some ((applyR a m).1, 0) := by
      unfold applyR
      intro h k hk
      by_cases q1 : 0 ≤ lenU a
      · rw [if_pos q1] at h ⊢
        by_cases q2 : askR m = 0
        · rw [if_pos q2] at h ⊢
          by_cases q3 : wasB m = a
          · rw [if_pos q3] at h ⊢
            rw [hc3 q2, ← q3]
            exact do_changes m q2 hlm hz (by rw [q3]; omega) k hk
          · rw [if_neg q3] at h
            cases h
        · rw [if_neg q2] at h
          exact absurd h q2
      · rw [if_neg q1] at h
        cases h
    refine ⟨K1 + K2 + K3 + 240000 + 1, ?_⟩
    have g1 := h1 (K1 + K2 + K3 + 240000 + 1) (by omega)
    have g2 := h2 (K1 + K2 + K3 + 240000 + 1) (by omega)
    have g3 := h3 (K1 + K2 + K3 + 240000 + 1) (by omega)
    dsimp only at g1 g2 g3
    unfold foolscaplaw32_DiffApplies.f
    rw [alive_at _ (by omega), Option.bind_some, if_pos rfl, great_f a l _ (by omega), Bool.eq_false_iff.2 hg, Option.bind_some, if_neg (by simp), of_f l (by omega) _ (by omega), hm, Option.bind_some, apply_f a m (by omega) hlm hz _ (by omega), Option.bind_some, g1, Option.bind_some, Option.bind_some, hc1, Option.bind_some, g3, Option.bind_some, if_pos rfl, if_pos rfl, if_pos rfl, if_pos (by rw [List.length_map]), Option.bind_some, cost_f m (by omega) (fun p hp => by have := hz p hp; omega) _ (by omega), Option.bind_some, g2, Option.bind_some, foolscaplaw32_DiffApplies.j0, if_neg (by simp)]
    exact applies_l0 a _ _ c hc4 30010 hEnd c.length 0 _ (by omega) (by omega)
theorem applies_true (a0 : ByteArray) (A1 : Option Addr) (len1 cap1 : Nat) (l1 : List S93) (W : World) (hT : Aside0 (XAmb W)) (w1 : l1.length = len1 ∧ len1 ≤ cap1 ∧ Kd.C k93 W A1 l1.length l1) :
    Calls Tryd.prog 10 #[.string a0, .slice A1 len1 cap1] W fun e w' => e = .returned (.bool true) ∧ Below W.heap.size W w' := by
  obtain ⟨rfl, hc, hC⟩ := w1
  obtain ⟨k, hk⟩ := applies_ev a0 l1
  exact foolscaplaw32_DiffApplies.calls k a0 A1 cap1 l1 true W hT hC hc hk
end Go.Proofs.YtabhfloclcmjnaaDoor.X
