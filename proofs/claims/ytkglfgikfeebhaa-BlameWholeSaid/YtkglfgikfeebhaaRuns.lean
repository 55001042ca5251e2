/-
  Two texts as one (NewK, Runs): by this session, or printed. Conditions: as typed.
-/
import Derived.Test.YtkglfgikfeebhaaKey
import Derived.Test.YtkglfgikfeebhaaPx0
namespace Go.Proofs.Ytkglfgikfeebhaa.X
open Go Go.RowKit Go.Lib Go.Maps Go.WideMaps Go.Proofs.Ytkglfgikfeebhaa.P
set_option linter.unusedVariables false
def kC (x : S46) : Int × Int × Int := (x.f0.f0, x.f0.f1, x.f1)
def kV (k : Int × Int × Int) : Value := .agg #[.int .i64 k.1, .int .i64 k.2.1, .int .i64 k.2.2]
theorem kV_inj {a b : Int × Int × Int} (h : kV a = kV b) : a = b := by
  obtain ⟨a1, a2, a3⟩ := a
  obtain ⟨b1, b2, b3⟩ := b
  simp [kV] at h
  simp [h]
/-- The map has just these keys. -/
def Seen (D : DataW Unit) (ks : List (Int × Int × Int)) : Prop :=
  Tidy D ∧ (∀ k kl, keyOf Try.prog 75 (kV k) = some kl → (has D kl = true ↔ k ∈ ks)) ∧ Maps.size D ≤ ks.length ∧ (Maps.size D = ks.length ↔ ks.Nodup)
theorem Seen.none : Seen (.map []) [] := ⟨tidy_empty, fun k kl _ => by simp [has], by simp [Maps.size], by simp [Maps.size]⟩
theorem Seen.step {D : DataW Unit} {ks : List (Int × Int × Int)} (h : Seen D ks) {k : Int × Int × Int} {kl : Lit} (hk : keyOf Try.prog 75 (kV k) = some kl) (d : DataW Unit) (ht : Tidy (D.put kl d)) : Seen (D.put kl d) (ks ++ [k]) := by
  obtain ⟨h1, h2, h3, h4⟩ := h
  have K := Keyed.of_law law_id
  have hs := size_put (k := kl) h1 d
  have hhas := h2 k kl hk
  refine ⟨ht, fun k' kl' hk' => ?_, ?_, ?_⟩
  · by_cases e : kl' = kl
    · subst e
      have : k' = k := kV_inj (K.inj hk' hk)
      subst this
      rw [has_put_same h1.isMap (K.key hk)]
      simp
    · rw [has_put_other e, h2 k' kl' hk']
      have hne : k' ≠ k := fun e2 => e (by subst e2; rw [hk] at hk'; exact (Option.some.inj hk').symm)
      simp [hne]
  · rw [hs, List.length_append, List.length_singleton]
    split <;> omega
  · rw [hs, List.length_append, List.length_singleton, List.nodup_append]
    by_cases hh : has D kl = true
    · rw [if_pos hh]
      have hm := hhas.1 hh
      constructor
      · intro e
        omega
      · intro e
        exact absurd rfl (e.2.2 k hm k (by simp))
    · rw [if_neg hh]
      have hm : k ∉ ks := fun h => hh (hhas.2 h)
      constructor
      · intro e
        refine ⟨h4.1 (by omega), by simp, fun a ha b hb => ?_⟩
        rw [List.mem_singleton.1 hb]
        exact fun e => hm (e ▸ ha)
      · intro e
        have := h4.2 e.1
        omega
end Go.Proofs.Ytkglfgikfeebhaa.X
namespace Go.Proofs.Ytkglfgikfeebhaa.X
open Go Go.RowKit Go.Proofs.YtkglfgikfeebhaaW.PrintWords Go.Proofs.Ytkglfgikfeebhaa.P
set_option linter.unusedVariables false
/-- A cell put to the runs, g telling whether it goes on with the one ahead. -/
def addR (g : S46 → S46 → Bool) (xss : List (List S46)) (x : S46) : List (List S46) :=
  match xss.getLast? with
  | none => [[x]]
  | some r => match r.getLast? with
    | none => xss ++ [[x]]
    | some y => if g y x = true then xss.dropLast ++ [r ++ [x]] else xss ++ [[x]]
theorem addR_nil (g : S46 → S46 → Bool) (x : S46) : addR g [] x = [[x]] := rfl
theorem addR_on {g : S46 → S46 → Bool} {yss : List (List S46)} {r : List S46} {y x : S46} (h : g y x = true) : addR g (yss ++ [r ++ [y]]) x = yss ++ [r ++ [y] ++ [x]] := by
  unfold addR
  simp [h]
theorem addR_new {g : S46 → S46 → Bool} {yss : List (List S46)} {r : List S46} {y x : S46} (h : g y x = false) : addR g (yss ++ [r ++ [y]]) x = yss ++ [r ++ [y]] ++ [[x]] := by
  unfold addR
  simp [h]
def runsOf (g : S46 → S46 → Bool) (M : List S46) : List (List S46) := M.foldl (addR g) []
theorem runsOf_snoc (g : S46 → S46 → Bool) (M : List S46) (x : S46) : runsOf g (M ++ [x]) = addR g (runsOf g M) x := by
  unfold runsOf
  rw [List.foldl_append]
  rfl
/-- The last run ends in the last cell; no run is empty; laid end to end they are the cells. -/
theorem runsOf_ends (g : S46 → S46 → Bool) : ∀ (M : List S46) (y : S46), (∃ yss r, runsOf g (M ++ [y]) = yss ++ [r ++ [y]]) ∧ (∀ r ∈ runsOf g (M ++ [y]), r ≠ []) ∧ (runsOf g (M ++ [y])).flatten = M ++ [y] := by
  have all : ∀ (n : Nat) (M : List S46), M.length = n → ∀ y, (∃ yss r, runsOf g (M ++ [y]) = yss ++ [r ++ [y]]) ∧ (∀ r ∈ runsOf g (M ++ [y]), r ≠ []) ∧ (runsOf g (M ++ [y])).flatten = M ++ [y] := by
   intro n
   induction n with
   | zero =>
    intro M hM y
    rw [List.length_eq_zero_iff.1 hM]
    exact ⟨⟨[], [], rfl⟩, by simp [runsOf, addR], by simp [runsOf, addR]⟩
   | succ n ih0 =>
    intro M hM y
    have hne : M ≠ [] := fun e => by rw [e] at hM; cases hM
    obtain ⟨M', z, rfl⟩ : ∃ M' z, M = M' ++ [z] := ⟨M.dropLast, M.getLast hne, (List.dropLast_concat_getLast hne).symm⟩
    have ih := fun z => ih0 M' (by simpa using hM) z
    obtain ⟨⟨yss, r, h1⟩, h2, h3⟩ := ih z
    rw [runsOf_snoc, h1]
    rw [h1] at h2 h3
    cases hg : g z y with
    | true =>
      rw [addR_on hg]
      refine ⟨⟨yss, r ++ [z], rfl⟩, fun s hs => ?_, ?_⟩
      · rcases List.mem_append.1 hs with h | h
        · exact h2 s (List.mem_append_left _ h)
        · rw [List.mem_singleton.1 h]
          simp
      · rw [← h3]
        simp
    | false =>
      rw [addR_new hg]
      refine ⟨⟨yss ++ [r ++ [z]], [], rfl⟩, fun s hs => ?_, ?_⟩
      · rcases List.mem_append.1 hs with h | h
        · exact h2 s h
        · rw [List.mem_singleton.1 h]
          simp
      · rw [List.flatten_append, h3]
        simp
  exact fun M y => all M.length M rfl y
end Go.Proofs.Ytkglfgikfeebhaa.X
