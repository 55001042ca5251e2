/-
  The keys that cells.New has seen: by this session. Conditions: as typed.
-/
import Derived.Test.YtkglfgikfeebhaaKey
import Derived.Test.YtkglfgikfeebhaaPx0
namespace Go.Proofs.Ytkglfgikfeebhaa.X
open Go Go.RowKit Go.Lib Go.Maps Go.WideMaps Go.Proofs.Ytkglfgikfeebhaa.P
set_option linter.unusedVariables false
def kC (x : S46) : Int × Int × Int := (x.f0.f0, x.f0.f1, x.f1)
def kV (k : Int × Int × Int) : Value := .agg #[.int .i64 k.1, .int .i64 k.2.1, .int .i64 k.2.2]
theorem kV_inj {a b : Int × Int × Int} (h : kV a = kV b) : a = b := by
  obtain ⟨a1, a2, a3⟩ := a
  obtain ⟨b1, b2, b3⟩ := b
  simp [kV] at h
  simp [h]
/-- The map has just these keys. -/
def Seen (D : DataW Unit) (ks : List (Int × Int × Int)) : Prop :=
  Tidy D ∧ (∀ k kl, keyOf Try.prog 75 (kV k) = some kl → (has D kl = true ↔ k ∈ ks)) ∧ Maps.size D ≤ ks.length ∧ (Maps.size D = ks.length ↔ ks.Nodup)
theorem Seen.none : Seen (.map []) [] := ⟨tidy_empty, fun k kl _ => by simp [has], by simp [Maps.size], by simp [Maps.size]⟩
theorem Seen.step {D : DataW Unit} {ks : List (Int × Int × Int)} (h : Seen D ks) {k : Int × Int × Int} {kl : Lit} (hk : keyOf Try.prog 75 (kV k) = some kl) (d : DataW Unit) (ht : Tidy (D.put kl d)) : Seen (D.put kl d) (ks ++ [k]) := by
  obtain ⟨h1, h2, h3, h4⟩ := h
  have K := Keyed.of_law law_id
  have hs := size_put (k := kl) h1 d
  have hhas := h2 k kl hk
  refine ⟨ht, fun k' kl' hk' => ?_, ?_, ?_⟩
  · by_cases e : kl' = kl
    · subst e
      have : k' = k := kV_inj (K.inj hk' hk)
      subst this
      rw [has_put_same h1.isMap (K.key hk)]
      simp
    · rw [has_put_other e, h2 k' kl' hk']
      have hne : k' ≠ k := fun e2 => e (by subst e2; rw [hk] at hk'; exact (Option.some.inj hk').symm)
      simp [hne]
  · rw [hs, List.length_append, List.length_singleton]
    split <;> omega
  · rw [hs, List.length_append, List.length_singleton, List.nodup_append]
    by_cases hh : has D kl = true
    · rw [if_pos hh]
      have hm := hhas.1 hh
      constructor
      · intro e
        omega
      · intro e
        exact absurd rfl (e.2.2 k hm k (by simp))
    · rw [if_neg hh]
      have hm : k ∉ ks := fun h => hh (hhas.2 h)
      constructor
      · intro e
        refine ⟨h4.1 (by omega), by simp, fun a ha b hb => ?_⟩
        rw [List.mem_singleton.1 hb]
        exact fun e => hm (e ▸ ha)
      · intro e
        have := h4.2 e.1
        omega
end Go.Proofs.Ytkglfgikfeebhaa.X
