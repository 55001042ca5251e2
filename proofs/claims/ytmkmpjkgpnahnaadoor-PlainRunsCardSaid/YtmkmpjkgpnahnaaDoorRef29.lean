/-
  Layer 29's reference run of deeds, as a function on lists: by this session. Conditions: as typed.
-/
import Derived.Test.YtmkmpjkgpnahnaaDoorRefJ
import Derived.Test.YtmkmpjkgpnahnaaDoorRef29a
import Derived.Test.YtmkmpjkgpnahnaaDoorPx9
namespace Go.Proofs.YtmkmpjkgpnahnaaDoor.X
open Go Go.RowKit Go.Shelf Go.Proofs.YtmkmpjkgpnahnaaDoorW.PrintWords Go.Proofs.YtmkmpjkgpnahnaaDoor.P
set_option linter.unusedVariables false
/-- A deed upon runes. -/
def doM (r : List Int) (d : S23) : Option (List Int) :=
  if mayB d.f0 d.f1 d.f2 d.f3 d.f4 r.length = true then some (r.take d.f2.toNat ++ textL d.f4 ++ r.drop (d.f2 + d.f3).toNat) else none
def runM : List Int → List S23 → Option (List Int)
  | r, [] => some r
  | r, d :: l => (doM r d).bind fun r => runM r l
def runR (t : ByteArray) (l : List S23) : ByteArray × Int :=
  match textOf t with
  | none => (⟨#[]⟩, 2)
  | some r => match runM r l with
    | none => (⟨#[]⟩, 1)
    | some r => (strOf r, 0)
theorem textL_runes (t : ByteArray) : allRunes (textL t) = true := by
  unfold textL
  cases h : textOf t with
  | none => rfl
  | some l => exact (text_str h).2
theorem run_l0 (l : List S23) (hl : l.length ≤ 1000) : ∀ (f i : Nat) (r : List Int), l.length = i + f → r.length ≤ 21000 → allRunes r = true →
    Ev (fun k => foolscapref29_Run.l0 k l r (i : Int)) (match runM r (l.drop i) with | none => (⟨#[]⟩, 1) | some r => (strOf r, 0)) := by
  intro f
  induction f with
  | zero =>
    intro i r hi hr ha
    obtain ⟨K, hK⟩ := join_ev r (by omega)
    refine ⟨K + 1, fun k hk => ?_⟩
    obtain ⟨m, rfl⟩ : ∃ m, k = m + 1 := ⟨k - 1, by omega⟩
    have h : foolscapref01_Join.f m r = _ := hK m (by omega)
    simp only [foolscapref29_Run.l0]
    rw [if_neg (by omega), h, List.drop_eq_nil_of_le (by omega), if_pos ha]
    rfl
  | succ f ih =>
    intro i r hi hr ha
    have hlt : i < l.length := by omega
    obtain ⟨K1, h1⟩ := may29_ev l[i].f0 l[i].f1 l[i].f2 l[i].f3 l[i].f4 (r.length : Int) (by omega)
    rw [List.drop_eq_getElem_cons hlt, runM]
    unfold doM
    by_cases hm : mayB l[i].f0 l[i].f1 l[i].f2 l[i].f3 l[i].f4 r.length = true
    · rw [if_pos hm]
      obtain ⟨a1, a2, a3, a4, b2, b3, b4, b5, b6, _⟩ := mayB_of hm
      obtain ⟨K2, h2⟩ := split_ev l[i].f4 (by omega)
      have htl := textL_len l[i].f4
      have e1 : (r.take l[i].f2.toNat).length = l[i].f2.toNat := by rw [List.length_take]; omega
      have e2 : (r.drop (l[i].f2 + l[i].f3).toNat).length = r.length - (l[i].f2 + l[i].f3).toNat := List.length_drop
      have e3 : (r.take l[i].f2.toNat ++ textL l[i].f4 ++ r.drop (l[i].f2 + l[i].f3).toNat).length ≤ 21000 := by
        rw [List.length_append, List.length_append, e1, e2]
        omega
      have e4 : allRunes (r.take l[i].f2.toNat ++ textL l[i].f4 ++ r.drop (l[i].f2 + l[i].f3).toNat) = true := by
        rw [allRunes_append, allRunes_append, allRunes_take ha, allRunes_drop ha, textL_runes]
        rfl
      obtain ⟨K3, h3⟩ := ih (i + 1) _ (by omega) e3 e4
      rw [Option.bind_some]
      refine ⟨K1 + K2 + K3 + 1, fun k hk => ?_⟩
      obtain ⟨m, rfl⟩ : ∃ m, k = m + 1 := ⟨k - 1, by omega⟩
      have g1 : foolscapref29_May.f m l[i].f0 l[i].f1 l[i].f2 l[i].f3 l[i].f4 (r.length : Int) = _ := h1 m (by omega)
      obtain ⟨b, g2⟩ : ∃ b, foolscapref01_Split.f m l[i].f4 = some (textL l[i].f4, b) := by
        have e := h2 m (by omega)
        dsimp only at e
        unfold textL
        cases hq : textOf l[i].f4 with
        | none => rw [hq] at e; exact ⟨_, e⟩
        | some q => rw [hq] at e; exact ⟨_, e⟩
      have g3 := h3 m (by omega)
      dsimp only at g3
      simp only [foolscapref29_Run.l0]
      rw [if_pos (by omega), if_pos (by omega), rd23 l i hlt, g1, Option.bind_some, if_pos hm, g2, Option.bind_some, Option.bind_some, if_pos b2, if_pos b3, Option.bind_some]
      simp only [List.nil_append]
      rw [if_pos (by rw [e1]; simp; omega), Option.bind_some, if_pos (by rw [e1]; omega), Option.bind_some, show wrap64 (l[i].f2 + l[i].f3) = l[i].f2 + l[i].f3 by unfold wrap64; omega, if_pos (by omega), if_pos (by omega), Option.bind_some,
        if_pos (by rw [List.length_append, e1, e2]; omega), show wrap64 ((i : Int) + 1) = ((i + 1 : Nat) : Int) by unfold wrap64; omega]
      exact g3
    · rw [if_neg hm]
      refine ⟨K1 + 1, fun k hk => ?_⟩
      obtain ⟨m, rfl⟩ : ∃ m, k = m + 1 := ⟨k - 1, by omega⟩
      have g1 : foolscapref29_May.f m l[i].f0 l[i].f1 l[i].f2 l[i].f3 l[i].f4 (r.length : Int) = _ := h1 m (by omega)
      simp only [foolscapref29_Run.l0]
      rw [if_pos (by omega), if_pos (by omega), rd23 l i hlt, g1, Option.bind_some, if_neg hm]
      rfl
theorem run29_ev (t : ByteArray) (l : List S23) (ht : t.size ≤ 21000) (hl : l.length ≤ 1000) : Ev (fun k => foolscapref29_Run.f k t l) (runR t l) := by
  obtain ⟨K1, h1⟩ := split_ev t (by omega)
  unfold runR
  cases hx : textOf t with
  | none =>
    refine ⟨K1, fun k hk => ?_⟩
    have g1 : foolscapref01_Split.f k t = _ := h1 k hk
    rw [hx] at g1
    simp only [foolscapref29_Run.f]
    rw [g1]
    rfl
  | some r =>
    have := text_len hx
    obtain ⟨K2, h2⟩ := run_l0 l hl l.length 0 r (by omega) (by omega) (text_str hx).2
    refine ⟨K1 + K2, fun k hk => ?_⟩
    have g1 : foolscapref01_Split.f k t = _ := h1 k (by omega)
    have g2 := h2 k (by omega)
    dsimp only at g2
    rw [hx] at g1
    simp only [foolscapref29_Run.f]
    rw [g1, Option.bind_some, if_pos rfl]
    exact g2
end Go.Proofs.YtmkmpjkgpnahnaaDoor.X
