/-
  What BlameWhole adds up, on plain lists: by this session. Conditions: as typed.
-/
import Derived.Test.YtkglfgikfeebhaaPartsP
import Derived.Test.YtkglfgikfeebhaaOwnQ
import Derived.Test.YtkglfgikfeebhaaRSites
import Derived.Test.YtkglfgikfeebhaaDec
namespace Go.Proofs.Ytkglfgikfeebhaa.X
open Go Go.RowKit Go.Lib Go.Proofs.YtkglfgikfeebhaaW.PrintWords Go.Proofs.Ytkglfgikfeebhaa.P
set_option linter.unusedVariables false
/-- Each goes on with the one ahead. -/
def Chn (g : S46 → S46 → Bool) (r : List S46) : Prop := ∀ k (h : k + 1 < r.length), g r[k] r[k + 1] = true
theorem chn_snoc {g : S46 → S46 → Bool} {r : List S46} {y x : S46} (h : Chn g (r ++ [y])) (hg : g y x = true) : Chn g (r ++ [y] ++ [x]) := by
  intro k hk
  simp only [List.length_append, List.length_singleton] at hk
  rcases Nat.lt_or_ge (k + 1) (r.length + 1) with h1 | h1
  · rw [List.getElem_append_left (bs := [x]) (show k < (r ++ [y]).length by simp; omega), List.getElem_append_left (bs := [x]) (show k + 1 < (r ++ [y]).length by simp; omega)]
    exact h k (by simp; omega)
  · have hkr : k = r.length := by omega
    subst hkr
    have e1 : (r ++ [y] ++ [x])[r.length]'(by simp) = y := by simp
    have e2 : (r ++ [y] ++ [x])[r.length + 1]'(by simp) = x := by simp
    rw [e1, e2]
    exact hg
theorem runs_chn (g : S46 → S46 → Bool) : ∀ (n : Nat) (M : List S46), M.length = n → ∀ r ∈ runsOf g M, Chn g r := by
  have h1 : ∀ x : S46, Chn g [x] := fun x k hk => absurd hk (by simp)
  intro n
  induction n with
  | zero =>
    intro M hM r hr
    rw [List.length_eq_zero_iff.1 hM] at hr
    cases hr
  | succ n ih =>
    intro M hM r hr
    have hne : M ≠ [] := fun e => by rw [e] at hM; cases hM
    obtain ⟨M', x, rfl⟩ : ∃ M' z, M = M' ++ [z] := ⟨M.dropLast, M.getLast hne, (List.dropLast_concat_getLast hne).symm⟩
    have hM' : M'.length = n := by simpa using hM
    rw [runsOf_snoc] at hr
    rcases List.eq_nil_or_concat M' with rfl | ⟨M2, y, e⟩
    · rw [List.mem_singleton.1 (show r ∈ [[x]] from hr)]
      exact h1 x
    · subst e
      rw [List.concat_eq_append] at hr hM'
      obtain ⟨⟨yss, q, h4⟩, h5, h6⟩ := runsOf_ends g M2 y
      have ih2 := ih _ hM'
      rw [h4] at hr ih2
      cases hg : g y x with
      | true =>
        rw [addR_on hg] at hr
        rcases List.mem_append.1 hr with h | h
        · exact ih2 r (List.mem_append_left _ h)
        · rw [List.mem_singleton.1 h]
          exact chn_snoc (ih2 _ (by simp)) hg
      | false =>
        rw [addR_new hg] at hr
        rcases List.mem_append.1 hr with h | h
        · exact ih2 r h
        · rw [List.mem_singleton.1 h]
          exact h1 x
/-- A run is of one name, its offsets count up. -/
theorem run_same {r : List S46} (hc : Chn goesB r) (hb : ∀ x ∈ r, 0 ≤ x.f1 ∧ x.f1 < 200) : ∀ k (h : k < r.length), r[k].f0.f0 = (r.headD z46).f0.f0 ∧ r[k].f0.f1 = (r.headD z46).f0.f1 ∧ r[k].f1 = (r.headD z46).f1 + (k : Int) := by
  intro k
  induction k with
  | zero =>
    intro h
    cases r with
    | nil => exact absurd h (by simp)
    | cons a b => exact ⟨rfl, rfl, by simp⟩
  | succ k ih =>
    intro h
    obtain ⟨h1, h2, h3⟩ := ih (by omega)
    have hg := hc k h
    have hx := hb _ (List.getElem_mem (show k < r.length by omega))
    simp only [goesB, Bool.and_eq_true, beq_iff_eq] at hg
    obtain ⟨⟨g1, g2⟩, g3⟩ := hg
    have hw : wrap64 (r[k].f1 + 1) = r[k].f1 + 1 := by unfold wrap64; omega
    rw [hw] at g3
    exact ⟨by rw [← g1, h1], by rw [← g2, h2], by rw [← g3, h3]; omega⟩
/-- How many cells a site has among these. -/
def sN (xs : List S46) (j : Nat) : Nat := (xs.filter fun x => decide (x.f0.f0 = (j : Int))).length
theorem sN_le (xs : List S46) (j : Nat) : sN xs j ≤ xs.length := List.length_filter_le _ _
theorem sN_app (xs ys : List S46) (j : Nat) : sN (xs ++ ys) j = sN xs j + sN ys j := by
  unfold sN
  rw [List.filter_append, List.length_append]
theorem sN_run {r : List S46} {s : Nat} (h : ∀ x ∈ r, x.f0.f0 = (s : Int)) (j : Nat) : sN r j = if s = j then r.length else 0 := by
  unfold sN
  by_cases hj : s = j
  · subst hj
    rw [if_pos rfl, List.filter_eq_self.2 (fun x hx => decide_eq_true (h x hx))]
  · rw [if_neg hj, List.length_eq_zero_iff, List.filter_eq_nil_iff]
    intro x hx
    rw [h x hx, decide_eq_true_eq]
    omega
def sRow (xs : List S46) : Array Value := ((List.range 17).map fun j => Value.int .i64 (sN xs j : Nat)).toArray
theorem sRow_get (l : List S46) (j : Nat) (h : j < 17) : (sRow l)[j]? = some (.int .i64 (sN l j : Nat)) := by
  simp [sRow, h]
theorem sRow_size (l : List S46) : (sRow l).size = 17 := by simp [sRow]
theorem sRow_nil : sRow [] = #[.int .i64 0, .int .i64 0, .int .i64 0, .int .i64 0, .int .i64 0, .int .i64 0, .int .i64 0, .int .i64 0, .int .i64 0, .int .i64 0, .int .i64 0, .int .i64 0, .int .i64 0, .int .i64 0, .int .i64 0, .int .i64 0, .int .i64 0] := by
  simp [sRow, sN, List.range, List.range.loop]
theorem sRow_add (xs : List S46) {r : List S46} {s : Nat} (h : ∀ x ∈ r, x.f0.f0 = (s : Int)) (hs : s < 17) : (sRow xs).setIfInBounds s (.int .i64 ((sN xs s + r.length : Nat) : Int)) = sRow (xs ++ r) := by
  apply Array.ext_getElem?
  intro j
  rw [Array.getElem?_setIfInBounds]
  by_cases hj : s = j
  · rw [if_pos hj, if_pos (by rw [sRow_size]; exact hs), ← hj, sRow_get _ _ hs, sN_app, sN_run h, if_pos rfl]
  · rw [if_neg hj]
    by_cases hj2 : j < 17
    · rw [sRow_get _ _ hj2, sRow_get _ _ hj2, sN_app, sN_run h, if_neg hj, Nat.add_zero]
    · rw [Array.getElem?_eq_none (by rw [sRow_size]; omega), Array.getElem?_eq_none (by rw [sRow_size]; omega)]
theorem may_off {l : List S46} (h : codeN l = 0) {x : S46} (hx : x ∈ l) : 0 ≤ x.f1 ∧ x.f1 < 200 := by
  have h1 : mayB x = true := by
    by_cases hm : mayB x = true
    · exact hm
    · obtain ⟨i, hi, e⟩ := List.mem_iff_getElem.1 hx
      exact absurd (codeN_bad (l := l) (i := i) (by rw [List.getElem?_eq_getElem hi, e]) (by simpa using hm)) (by rw [h]; decide)
  simp only [mayB, Bool.and_eq_true, decide_eq_true_eq] at h1
  omega
/-- What is counted as live, by the program: the live cells of the site. -/
theorem cN_sN {l : List S46} (h : codeN l = 0) (s : Nat) : cN l (s * 2) = sN (liveL l) s := by
  unfold cN sN liveL
  rw [List.filter_filter]
  congr 1
  apply List.filter_congr
  intro x hx
  have := may_site h hx
  unfold cIx
  cases hd : x.f3 <;> simp <;> omega
theorem ofSite_sN (M : List S46) (s : Nat) : (ofSite (s : Int) M).length = sN M s := by
  unfold ofSite sN
  rw [List.length_map]
/-- A row that is told of a site. -/
theorem sites_row {l : List S46} (h : codeN l = 0) {x : Int × Int × Int} (hx : x ∈ sitesT l) : ∃ s : Nat, 1 ≤ s ∧ s ≤ 16 ∧ x.1 = (s : Int) ∧ x.2.1 = ((sN (liveL l) s : Nat) : Int) ∧ (Conv.runesFrom (ownT l (s : Int)) (ownT l (s : Int)).size 0 #[]).size = sN (liveL l) s := by
  unfold sitesT at hx
  rw [if_pos h] at hx
  unfold sitesK at hx
  obtain ⟨s, hs, he⟩ := List.mem_filterMap.1 hx
  have hs17 := List.mem_range.1 hs
  split at he
  · cases he
  · rename_i hz
    injection he with he
    subst he
    have hs0 : s ≠ 0 := by
      rintro rfl
      have := sitesK_one h
      have h2 := sitesK_succ l 0
      rw [if_neg hz, this] at h2
      simp [sitesK] at h2
    refine ⟨s, by omega, by omega, rfl, by rw [← cN_sN h], ?_⟩
    have ha : l.all mayB = true := by
      have h0 := h
      unfold codeN at h0
      by_cases h : l.all mayB = true
      · exact h
      · rw [if_neg h] at h0
        cases h0
    rw [ownT, if_pos h, runes_of _ (ofSite_runes ha), ofSite_sN]
theorem sitesT_le (l : List S46) : (sitesT l).length ≤ 17 := by
  unfold sitesT
  split
  · exact sitesK_length l 17
  · exact Nat.zero_le _
end Go.Proofs.Ytkglfgikfeebhaa.X
