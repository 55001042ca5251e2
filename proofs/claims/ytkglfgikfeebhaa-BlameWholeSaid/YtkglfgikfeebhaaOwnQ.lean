/-
  Two texts as one (OwnP, OwnQ): by this session, or printed. Conditions: as typed.
-/
import Derived.Test.YtkglfgikfeebhaaRefMay
import Derived.Test.YtkglfgikfeebhaaRound
import Derived.Test.YtkglfgikfeebhaaPx9
import Derived.Test.YtkglfgikfeebhaaPx10
import Derived.Test.YtkglfgikfeebhaaRefJn
namespace Go.Proofs.Ytkglfgikfeebhaa.X
open Go Go.RowKit Go.Lib Go.Proofs.YtkglfgikfeebhaaW.PrintWords Go.Proofs.Ytkglfgikfeebhaa.P
set_option linter.unusedVariables false
/-- A site's runes. -/
def ofSite (site : Int) (l : List S46) : List Int := (l.filter fun x => decide (x.f0.f0 = site)).map (·.f2)
theorem own_b (site : Int) (M : List S46) (hM : M.length ≤ 20000) : ∀ (f k i : Nat) (acc : List Int), M.length = i + f → acc.length ≤ i →
    blame_Own.l0 (k + f + 1) site acc M (M.length : Int) (i : Int) = (runes_Join.f (acc ++ ofSite site (M.drop i))).bind fun b => some b.1 := by
  intro f
  induction f with
  | zero =>
    intro k i acc hi ha
    rw [show k + 0 + 1 = k + 1 by omega, blame_Own.l0, if_neg (by omega), List.drop_of_length_le (by omega)]
    simp [ofSite]
  | succ f ih =>
    intro k i acc hi ha
    have hlt : i < M.length := by omega
    rw [show k + (f + 1) + 1 = (k + f + 1) + 1 by omega, blame_Own.l0, if_pos (by omega), if_pos (by omega), if_pos (by omega), rd46 M i hlt, w_s i (by omega), List.drop_eq_getElem_cons hlt]
    by_cases hs : M[i].f0.f0 = site
    · rw [if_pos hs, if_pos (by omega), ih k (i + 1) _ (by omega) (by rw [List.length_append, List.length_singleton]; omega), show ofSite site (M[i] :: M.drop (i + 1)) = M[i].f2 :: ofSite site (M.drop (i + 1)) by unfold ofSite; rw [List.filter_cons, if_pos (decide_eq_true hs), List.map_cons], List.append_assoc]
      rfl
    · rw [if_neg hs, ih k (i + 1) acc (by omega) (by omega), show ofSite site (M[i] :: M.drop (i + 1)) = ofSite site (M.drop (i + 1)) by unfold ofSite; rw [List.filter_cons, if_neg (by simpa using hs)]]
theorem own_r (site : Int) (l : List S46) (hl : l.length ≤ 20000) : ∀ (f k i : Nat) (acc : List Int), l.length = i + f → acc.length ≤ i →
    foolscapref30_Own.l0 (k + f + 1) l site acc (i : Int) = (foolscapref01_Join.f k (acc ++ ofSite site (liveL (l.drop i)))).bind fun b => some b.1 := by
  intro f
  induction f with
  | zero =>
    intro k i acc hi ha
    rw [show k + 0 + 1 = k + 1 by omega, foolscapref30_Own.l0, if_neg (by omega), List.drop_of_length_le (by omega)]
    simp [ofSite, liveL]
  | succ f ih =>
    intro k i acc hi ha
    have hlt : i < l.length := by omega
    rw [show k + (f + 1) + 1 = (k + f + 1) + 1 by omega, foolscapref30_Own.l0, if_pos (by omega), if_pos (by omega), rd46 l i hlt, w_s i (by omega), List.drop_eq_getElem_cons hlt]
    by_cases hd : l[i].f3 = true
    · rw [show liveL (l[i] :: l.drop (i + 1)) = liveL (l.drop (i + 1)) by unfold liveL; rw [List.filter_cons, if_neg (by rw [hd]; decide)]]
      by_cases hs : l[i].f0.f0 = site
      · rw [if_pos hs, if_pos hd, ih k (i + 1) acc (by omega) (by omega)]
      · rw [if_neg hs, ih k (i + 1) acc (by omega) (by omega)]
    · rw [show liveL (l[i] :: l.drop (i + 1)) = l[i] :: liveL (l.drop (i + 1)) by unfold liveL; rw [List.filter_cons, if_pos (by simpa using hd)]]
      by_cases hs : l[i].f0.f0 = site
      · rw [if_pos hs, if_neg hd, if_pos (by omega), ih k (i + 1) _ (by omega) (by rw [List.length_append, List.length_singleton]; omega), show ofSite site (l[i] :: liveL (l.drop (i + 1))) = l[i].f2 :: ofSite site (liveL (l.drop (i + 1))) by unfold ofSite; rw [List.filter_cons, if_pos (decide_eq_true hs), List.map_cons], List.append_assoc]
        rfl
      · rw [if_neg hs, ih k (i + 1) acc (by omega) (by omega), show ofSite site (l[i] :: liveL (l.drop (i + 1))) = ofSite site (liveL (l.drop (i + 1))) by unfold ofSite; rw [List.filter_cons, if_neg (by simpa using hs)]]
end Go.Proofs.Ytkglfgikfeebhaa.X
namespace Go.Proofs.Ytkglfgikfeebhaa.X
open Go Go.RowKit Go.Lib Go.Proofs.YtkglfgikfeebhaaW.PrintWords Go.Proofs.Ytkglfgikfeebhaa.P
set_option linter.unusedVariables false
theorem ofSite_len (site : Int) (l : List S46) : (ofSite site (liveL l)).length ≤ l.length := by
  unfold ofSite liveL
  rw [List.length_map]
  exact Nat.le_trans (List.length_filter_le _ _) (List.length_filter_le _ _)
theorem ofSite_runes {site : Int} {l : List S46} (h : l.all mayB = true) : allRunes (ofSite site (liveL l)) = true := by
  unfold allRunes
  refine List.all_eq_true.2 fun r hr => ?_
  obtain ⟨x, hx, rfl⟩ := List.mem_map.1 hr
  have hx2 : x ∈ l := (List.mem_filter.1 ((List.mem_filter.1 hx).1)).1
  have := List.all_eq_true.1 h x hx2
  simp only [mayB, Bool.and_eq_true] at this
  exact this.2
/-- What both tell. -/
def ownT (l : List S46) (site : Int) : ByteArray := if codeN l = 0 then strOf (ofSite site (liveL l)) else ⟨#[]⟩
theorem own_b_f (l : List S46) (hl : l.length ≤ 20000) (site : Int) (k : Nat) : blame_Own.f (k + l.length + 1) l site = some (ownT l site) := by
  unfold blame_Own.f blame_live.f ownT
  rw [if_pos hl, Option.bind_some]
  by_cases h0 : codeN l = 0
  · rw [if_pos h0, if_pos h0]
    have hM : (liveL l).length ≤ l.length := List.length_filter_le _ _
    have h := own_b site (liveL l) (by omega) (liveL l).length (k + l.length - (liveL l).length) 0 [] (by omega) (by simp)
    rw [show k + l.length - (liveL l).length + (liveL l).length + 1 = k + l.length + 1 by omega, List.drop_zero, List.nil_append] at h
    refine h.trans ?_
    have ha : l.all mayB = true := by
      unfold codeN at h0
      by_cases h : l.all mayB = true
      · exact h
      · rw [if_neg h] at h0
        cases h0
    have hlen := ofSite_len site l
    unfold runes_Join.f
    rw [if_pos (by omega), if_pos (ofSite_runes ha)]
    rfl
  · rw [if_neg h0, if_neg h0]
    have h := own_b site [] (by simp) 0 (k + l.length) 0 [] rfl (Nat.le_refl _)
    refine h.trans ?_
    rfl
theorem own_r_f (l : List S46) (hl : l.length ≤ 20000) (site : Int) : ∃ K, ∀ k, K ≤ k → foolscapref30_Own.f k l site = some (ownT l site) := by
  obtain ⟨K1, hK1⟩ := join_ev (ofSite site (liveL l)) (by have := ofSite_len site l; omega)
  refine ⟨K1 + (0 + l.length * (l.length + 2) + 1 + l.length + 1) + l.length + 1, fun k hk => ?_⟩
  have hm := may_ge l hl (k - (0 + l.length * (l.length + 2) + 1 + l.length + 1))
  rw [show k - (0 + l.length * (l.length + 2) + 1 + l.length + 1) + (0 + l.length * (l.length + 2) + 1 + l.length + 1) = k by omega] at hm
  unfold foolscapref30_Own.f ownT
  rw [hm, Option.bind_some]
  by_cases h0 : codeN l = 0
  · rw [if_pos h0, if_pos h0]
    have h := own_r site l hl l.length (k - l.length - 1) 0 [] (by omega) (by simp)
    rw [show k - l.length - 1 + l.length + 1 = k by omega, List.drop_zero, List.nil_append] at h
    refine h.trans ?_
    have ha : l.all mayB = true := by
      unfold codeN at h0
      by_cases h : l.all mayB = true
      · exact h
      · rw [if_neg h] at h0
        cases h0
    have hj : foolscapref01_Join.f (k - l.length - 1) (ofSite site (liveL l)) = _ := hK1 (k - l.length - 1) (by omega)
    rw [hj, if_pos (ofSite_runes ha)]
    rfl
  · rw [if_neg h0, if_neg h0]
end Go.Proofs.Ytkglfgikfeebhaa.X
