/-
  A site's own text: the program's is the reference's: by this session. Conditions: as typed.
-/
import Derived.Test.YtkglfgikfeebhaaOwnP
import Derived.Test.YtkglfgikfeebhaaRefJn
namespace Go.Proofs.Ytkglfgikfeebhaa.X
open Go Go.RowKit Go.Lib Go.Proofs.YtkglfgikfeebhaaW.PrintWords Go.Proofs.Ytkglfgikfeebhaa.P
set_option linter.unusedVariables false
theorem ofSite_len (site : Int) (l : List S46) : (ofSite site (liveL l)).length ≤ l.length := by
  unfold ofSite liveL
  rw [List.length_map]
  exact Nat.le_trans (List.length_filter_le _ _) (List.length_filter_le _ _)
theorem ofSite_runes {site : Int} {l : List S46} (h : l.all mayB = true) : allRunes (ofSite site (liveL l)) = true := by
  unfold allRunes
  refine List.all_eq_true.2 fun r hr => ?_
  obtain ⟨x, hx, rfl⟩ := List.mem_map.1 hr
  have hx2 : x ∈ l := (List.mem_filter.1 ((List.mem_filter.1 hx).1)).1
  have := List.all_eq_true.1 h x hx2
  simp only [mayB, Bool.and_eq_true] at this
  exact this.2
/-- What both tell. -/
def ownT (l : List S46) (site : Int) : ByteArray := if codeN l = 0 then strOf (ofSite site (liveL l)) else ⟨#[]⟩
theorem own_b_f (l : List S46) (hl : l.length ≤ 20000) (site : Int) (k : Nat) : blame_Own.f (k + l.length + 1) l site = some (ownT l site) := by
  unfold blame_Own.f blame_live.f ownT
  rw [if_pos hl, Option.bind_some]
  by_cases h0 : codeN l = 0
  · rw [if_pos h0, if_pos h0]
    have hM : (liveL l).length ≤ l.length := List.length_filter_le _ _
    have h := own_b site (liveL l) (by omega) (liveL l).length (k + l.length - (liveL l).length) 0 [] (by omega) (by simp)
    rw [show k + l.length - (liveL l).length + (liveL l).length + 1 = k + l.length + 1 by omega, List.drop_zero, List.nil_append] at h
    refine h.trans ?_
    have ha : l.all mayB = true := by
      unfold codeN at h0
      by_cases h : l.all mayB = true
      · exact h
      · rw [if_neg h] at h0
        cases h0
    have hlen := ofSite_len site l
    unfold runes_Join.f
    rw [if_pos (by omega), if_pos (ofSite_runes ha)]
    rfl
  · rw [if_neg h0, if_neg h0]
    have h := own_b site [] (by simp) 0 (k + l.length) 0 [] rfl (Nat.le_refl _)
    refine h.trans ?_
    rfl
theorem own_r_f (l : List S46) (hl : l.length ≤ 20000) (site : Int) : ∃ K, ∀ k, K ≤ k → foolscapref30_Own.f k l site = some (ownT l site) := by
  obtain ⟨K1, hK1⟩ := join_ev (ofSite site (liveL l)) (by have := ofSite_len site l; omega)
  refine ⟨K1 + (0 + l.length * (l.length + 2) + 1 + l.length + 1) + l.length + 1, fun k hk => ?_⟩
  have hm := may_ge l hl (k - (0 + l.length * (l.length + 2) + 1 + l.length + 1))
  rw [show k - (0 + l.length * (l.length + 2) + 1 + l.length + 1) + (0 + l.length * (l.length + 2) + 1 + l.length + 1) = k by omega] at hm
  unfold foolscapref30_Own.f ownT
  rw [hm, Option.bind_some]
  by_cases h0 : codeN l = 0
  · rw [if_pos h0, if_pos h0]
    have h := own_r site l hl l.length (k - l.length - 1) 0 [] (by omega) (by simp)
    rw [show k - l.length - 1 + l.length + 1 = k by omega, List.drop_zero, List.nil_append] at h
    refine h.trans ?_
    have ha : l.all mayB = true := by
      unfold codeN at h0
      by_cases h : l.all mayB = true
      · exact h
      · rw [if_neg h] at h0
        cases h0
    have hj : foolscapref01_Join.f (k - l.length - 1) (ofSite site (liveL l)) = _ := hK1 (k - l.length - 1) (by omega)
    rw [hj, if_pos (ofSite_runes ha)]
    rfl
  · rw [if_neg h0, if_neg h0]
end Go.Proofs.Ytkglfgikfeebhaa.X
