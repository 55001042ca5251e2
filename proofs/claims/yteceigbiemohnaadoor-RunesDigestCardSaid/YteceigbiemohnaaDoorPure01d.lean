/-
  The law RunesDigest as a plain statement, proved, by this session. Conditions: as typed.
-/
import Derived.Test.YteceigbiemohnaaDoorPx3
import Derived.Test.YteceigbiemohnaaDoorPx1
namespace Go.Proofs.YteceigbiemohnaaDoor.Pure
open Go Go.RowKit Go.Proofs.YteceigbiemohnaaDoorW.PrintWords Go.Proofs.YteceigbiemohnaaDoor.P Go.Proofs.YteceigbiemohnaaDoor.X
set_option linter.unusedVariables false

theorem dig_eq (s : ByteArray) : ∀ (k : Nat) (h i : Int), runes_Digest.l0 k s h (s.size : Int) i = foolscapref01_Digest.l0 k s h i := by
  intro k
  induction k with
  | zero => intro h i; rfl
  | succ k ih =>
    intro h i
    simp only [runes_Digest.l0, foolscapref01_Digest.l0]
    by_cases c : i < (s.size : Int)
    · by_cases c2 : 0 ≤ i
      · simp only [if_pos c, if_pos c2, ih]
      · simp only [if_pos c, if_neg c2]
    · simp only [if_neg c]
theorem dig_ends (s : ByteArray) (hs : s.size ≤ 9223372036854775806) : ∀ (f k i : Nat) (h : Int), i + f = s.size → ∃ r, ∀ m, foolscapref01_Digest.l0 (m + f + 1) s h (i : Int) = some r := by
  intro f
  induction f with
  | zero =>
    intro k i h hi
    refine ⟨h, fun m => ?_⟩
    obtain ⟨n, hn⟩ : ∃ n, m + 0 = n := ⟨_, rfl⟩
    rw [hn]
    simp only [foolscapref01_Digest.l0]
    rw [if_neg (by omega)]
  | succ f ih =>
    intro k i h hi
    obtain ⟨r, hr⟩ := ih k (i + 1) (IntKind.u64.wrap ((Go.bits .xor .u64 h (IntKind.u64.wrap (bt s (i : Int)))) * 1099511628211)) (by omega)
    refine ⟨r, fun m => ?_⟩
    obtain ⟨n, hn⟩ : ∃ n, m + f + 1 = n := ⟨_, rfl⟩
    rw [show m + (f + 1) + 1 = n + 1 by omega]
    simp only [foolscapref01_Digest.l0]
    rw [if_pos (by omega), if_pos (by omega), show wrap64 ((i : Int) + 1) = ((i + 1 : Nat) : Int) by unfold wrap64; omega, ← hn]
    exact hr m
theorem dig_ev (s : ByteArray) (hs : s.size ≤ 9223372036854775806) : ∃ r, ∀ m, s.size + 1 ≤ m → runes_Digest.f m s = some r ∧ foolscapref01_Digest.f m s = some r := by
  obtain ⟨r, hr⟩ := dig_ends s hs s.size 0 0 14695981039346656037 (by omega)
  refine ⟨r, fun m hm => ?_⟩
  have h := hr (m - s.size - 1)
  rw [show m - s.size - 1 + s.size + 1 = m by omega] at h
  refine ⟨?_, h⟩
  unfold runes_Digest.f
  rw [dig_eq]
  exact h
theorem dig_nil (m : Nat) : runes_Digest.f (m + 1) (⟨#[]⟩ : ByteArray) = some 14695981039346656037 := by
  unfold runes_Digest.f
  simp only [runes_Digest.l0]
  rw [if_neg (by decide)]

theorem RunesDigest : foolscaplaw01_RunesDigest.Pure := by
  intro s t hs ht
  have al : foolscaplaw01_alive.f = some true := by kernel_rfl
  unfold foolscaplaw01_RunesDigest.f
  rw [al]
  simp only [Option.bind_some, if_true]
  by_cases hl : (s.size : Int) > 2000
  · exact ⟨1, by rw [if_pos hl]; rfl⟩
  · by_cases hl2 : (t.size : Int) > 2000
    · exact ⟨1, by rw [if_neg hl, decide_eq_true hl2]; rfl⟩
    · obtain ⟨r, hr⟩ := dig_ev s (by omega)
      obtain ⟨q, hq⟩ := dig_ev (s ++ t) (by rw [ByteArray.size_append]; omega)
      rw [ByteArray.size_append] at hq
      refine ⟨s.size + t.size + 3, ?_⟩
      obtain ⟨m, hm⟩ : ∃ m, s.size + t.size + 2 = m := ⟨_, rfl⟩
      rw [show s.size + t.size + 3 = m + 1 by omega, if_neg hl, decide_eq_false hl2]
      simp only [foolscaplaw01_RunesDigest.j0]
      simp only [Bool.false_eq_true, if_false]
      rw [(hr m (by omega)).1, (hr m (by omega)).2, (hq m (by omega)).1, (hq m (by omega)).2]
      simp only [Option.bind_some, if_true]
      rw [if_pos (by omega), show m = (m - 1) + 1 by omega, dig_nil, Option.bind_some]
      rfl
end Go.Proofs.YteceigbiemohnaaDoor.Pure
