/-
  What diff.Do tells, in plain Lean: changes done one behind the other: by this session. Conditions: as typed.
-/
import Derived.Test.YtabhfloclcmjnaaDoorTxtD
import Derived.Test.YtabhfloclcmjnaaDoorPx8
namespace Go.Proofs.YtabhfloclcmjnaaDoor.X
open Go Go.RowKit Go.Shelf Go.Proofs.YtabhfloclcmjnaaDoorW.PrintWords Go.Proofs.YtabhfloclcmjnaaDoor.P
set_option linter.unusedVariables false
/-- A change: from where on, how many runes, by what. -/
abbrev Chg := Int × Int × ByteArray
def chgOk (r : List Int) (x : Chg) : Prop := 0 ≤ x.1 ∧ x.1 ≤ (r.length : Int) ∧ 0 ≤ x.2.1 ∧ x.2.1 ≤ (r.length : Int) - x.1
instance (r : List Int) (x : Chg) : Decidable (chgOk r x) := by unfold chgOk; infer_instance
def chg (r : List Int) (x : Chg) : List Int := r.take x.1.toNat ++ ((textOf x.2.2).getD [] ++ r.drop (x.1 + x.2.1).toNat)
def runD : List Int → List Chg → Option (List Int)
  | r, [] => some r
  | r, x :: l => if chgOk r x then runD (chg r x) l else none
def allText (l : List Chg) : Bool := l.all fun x => decide (0 ≤ lenU x.2.2)
/-- A text behind changes. -/
def doR (a : ByteArray) (l : List Chg) : ByteArray × Int :=
  match textOf a with
  | none => (⟨#[]⟩, 2)
  | some r => if allText l = true then (match runD r l with | some r' => (strOf r', 0) | none => (⟨#[]⟩, 3)) else (⟨#[]⟩, 2)
def tri46 (x : S46) : Chg := (x.f0, x.f1, x.f2)
theorem textOf_of_len {s : ByteArray} (h : 0 ≤ lenU s) : ∃ l, textOf s = some l := by
  cases ht : textOf s with
  | none => rw [lenU_of_none ht] at h; omega
  | some l => exact ⟨l, rfl⟩
theorem chg_runes {r : List Int} (h : allRunes r = true) (x : Chg) : allRunes (chg r x) = true := by
  unfold chg
  rw [allRunes_append, allRunes_append, allRunes_take h, allRunes_drop h]
  cases ht : textOf x.2.2 with
  | none => rfl
  | some t => rw [Option.getD_some, (text_str ht).2]; rfl
theorem chg_len {r : List Int} {x : Chg} (h : chgOk r x) : (chg r x).length ≤ r.length + x.2.2.size := by
  unfold chg
  obtain ⟨h1, h2, h3, h4⟩ := h
  have ht : ((textOf x.2.2).getD []).length ≤ x.2.2.size := by
    cases ht : textOf x.2.2 with
    | none => simp
    | some t => exact text_len ht
  simp only [List.length_append, List.length_take, List.length_drop]
  omega
theorem rd46_get (l : List S46) (i : Nat) (h : i < l.length) : rd_T46 l (i : Int) = l[i] := by
  unfold rd_T46
  rw [Int.toNat_natCast, List.getD_eq_getElem?_getD, List.getElem?_eq_getElem h]
  rfl
theorem may_f (s : ByteArray) (hs : s.size ≤ 35184372088832) : runes_May.f s = some (decide (0 ≤ lenU s)) := by
  unfold runes_May.f
  rw [len_f s hs]
  rfl
theorem w64d {x : Int} (h : -100000000000 ≤ x) (h2 : x ≤ 100000000000) : wrap64 x = x := by unfold wrap64; omega
theorem concat3 (a b c : List Int) (ha : a.length ≤ 10000000000) (hb : b.length ≤ 10000000000) (hc : c.length ≤ 10000000000) : slices_Concat.f [a, b, c] = some (a ++ (b ++ c)) := by
  unfold slices_Concat.f
  rw [if_pos (by simp; omega), if_pos (by simp)]
  simp
theorem do_l1 (l : List S46) (hx : ∀ x ∈ l, x.f2.size ≤ 2000000 ∧ 0 ≤ lenU x.f2) (hl : l.length ≤ 1000) : ∀ d i k (r : List Int), i + d = l.length → 2 * d + 1 ≤ k → r.length ≤ 1000000 + 2000000 * i → allRunes r = true →
    diff_Do.l1 k r l (l.length : Int) (i : Int) = some (match runD r ((l.drop i).map tri46) with | some r' => (strOf r', 0) | none => (⟨#[]⟩, 3))
  | 0, i, k, r, hi, hk, hr, ha => by
    obtain ⟨k, rfl⟩ : ∃ x, k = x + 1 := ⟨k - 1, by omega⟩
    simp only [diff_Do.l1]
    rw [if_neg (by omega), List.drop_eq_nil_of_le (by omega), join_f r (by omega), if_pos ha, Option.bind_some]
    rfl
  | d + 1, i, k, r, hi, hk, hr, ha => by
    obtain ⟨k, rfl⟩ : ∃ x, k = x + 1 + 1 := ⟨k - 2, by omega⟩
    have hlt : i < l.length := by omega
    obtain ⟨hx1, hx2⟩ := hx l[i] (List.getElem_mem hlt)
    obtain ⟨t, ht⟩ := textOf_of_len hx2
    have htl := text_len ht
    rw [List.drop_eq_getElem_cons hlt, List.map_cons]
    simp only [runD]
    rw [diff_Do.l1, if_pos (by omega), if_pos (by omega), if_pos (by omega), rd46_get l i hlt]
    obtain ⟨x, hxe⟩ : ∃ x, l[i] = x := ⟨_, rfl⟩
    rw [hxe] at hx1 ht htl ⊢
    have hbad : ¬ chgOk r (tri46 x) → diff_Do.j2 (k + 1) r l (l.length : Int) (i : Int) true x.f0 x.f1 x.f2 = some (match (none : Option (List Int)) with | some r' => (strOf r', 0) | none => (⟨#[]⟩, 3)) := fun _ => by
      rw [diff_Do.j2, if_pos rfl]
    by_cases c1 : x.f0 < 0
    · have hn : ¬ chgOk r (tri46 x) := fun h => by have := h.1; simp only [tri46] at this; omega
      rw [if_pos c1, if_neg hn, hbad hn]
    rw [if_neg c1]
    by_cases c2 : x.f0 > (r.length : Int)
    · have hn : ¬ chgOk r (tri46 x) := fun h => by have := h.2.1; simp only [tri46] at this; omega
      rw [if_pos c2, if_neg hn, hbad hn]
    rw [if_neg c2]
    by_cases c3 : x.f1 < 0
    · have hn : ¬ chgOk r (tri46 x) := fun h => by have := h.2.2.1; simp only [tri46] at this; omega
      rw [if_pos c3, if_neg hn, hbad hn]
    rw [if_neg c3, w64d (by omega) (by omega)]
    by_cases c4 : x.f1 > (r.length : Int) - x.f0
    · have hn : ¬ chgOk r (tri46 x) := fun h => by have := h.2.2.2; simp only [tri46] at this; omega
      rw [decide_eq_true c4, if_neg hn, hbad hn]
    have hok : chgOk r (tri46 x) := ⟨by simp only [tri46]; omega, by simp only [tri46]; omega, by simp only [tri46]; omega, by simp only [tri46]; omega⟩
    rw [decide_eq_false c4, if_pos hok, diff_Do.j2, if_neg (by simp), splitf_some (by omega) ht, Option.bind_some]
    rw [w64d (x := x.f0 + x.f1) (by omega) (by omega), if_pos (by omega), if_pos (by omega), if_pos (by omega), if_pos (by omega)]
    have hc : slices_Concat.f [r.take x.f0.toNat, t, r.drop (x.f0 + x.f1).toNat] = some (chg r (tri46 x)) := by
      rw [concat3 _ _ _ (by rw [List.length_take]; omega) (by omega) (by rw [List.length_drop]; omega)]
      simp only [chg, tri46, ht, Option.getD_some]
    simp only
    rw [hc, Option.bind_some, w64d (by omega) (by omega), show (i : Int) + 1 = ((i + 1 : Nat) : Int) by omega]
    have hcl := chg_len hok
    simp only [tri46] at hcl
    exact do_l1 l hx hl d (i + 1) k (chg r (tri46 x)) (by omega) (by omega) (by simp only [tri46] at hcl ⊢; omega) (chg_runes ha _)
theorem do_l0 (l : List S46) (hx : ∀ x ∈ l, x.f2.size ≤ 2000000) (hl : l.length ≤ 1000) (r : List Int) : ∀ d i k (e : Int), i + d = l.length → d + 1 ≤ k → (e = 0 ∨ e = 2) →
    diff_Do.l0 k l r e l (l.length : Int) (i : Int) = if e = 0 ∧ allText ((l.drop i).map tri46) = true then diff_Do.l1 (k - d - 1) r l (l.length : Int) 0 else some (⟨#[]⟩, 2)
  | 0, i, k, e, hi, hk, he => by
    obtain ⟨k, rfl⟩ : ∃ x, k = x + 1 := ⟨k - 1, by omega⟩
    rw [diff_Do.l0, if_neg (by omega), List.drop_eq_nil_of_le (by omega)]
    rcases he with rfl | rfl
    · rw [if_pos rfl, if_pos ⟨rfl, rfl⟩]; rfl
    · rw [if_neg (by omega), if_neg (by omega)]
  | d + 1, i, k, e, hi, hk, he => by
    obtain ⟨k, rfl⟩ : ∃ x, k = x + 1 := ⟨k - 1, by omega⟩
    have hlt : i < l.length := by omega
    rw [diff_Do.l0, if_pos (by omega), if_pos (by omega), if_pos (by omega), rd46_get l i hlt, w64d (by omega) (by omega), show (i : Int) + 1 = ((i + 1 : Nat) : Int) by omega, List.drop_eq_getElem_cons hlt, List.map_cons]
    have hz := hx l[i] (List.getElem_mem hlt)
    rw [may_f _ (by omega), Option.bind_some]
    simp only [allText, List.all_cons, Bool.and_eq_true, decide_eq_true_eq, tri46]
    rw [show k + 1 - (d + 1) - 1 = k - d - 1 by omega]
    rcases he with rfl | rfl
    · rw [if_pos rfl]
      by_cases hm : 0 ≤ lenU l[i].f2
      · rw [if_pos hm, do_l0 l hx hl r d (i + 1) k 0 (by omega) (by omega) (.inl rfl)]
        simp only [hm, true_and, allText]
      · rw [if_neg hm, do_l0 l hx hl r d (i + 1) k 2 (by omega) (by omega) (.inr rfl), if_neg (by omega), if_neg (fun h => hm h.2.1)]
    · rw [if_neg (by omega), do_l0 l hx hl r d (i + 1) k 2 (by omega) (by omega) (.inr rfl), if_neg (by omega), if_neg (by omega)]
/-- The program's Do. -/
theorem do_f (a : ByteArray) (l : List S46) (hs : a.size ≤ 1000000) (hx : ∀ x ∈ l, x.f2.size ≤ 2000000) (hl : l.length ≤ 1000) (k : Nat) (hk : 30010 ≤ k) : diff_Do.f k a l = some (doR a (l.map tri46)) := by
  unfold diff_Do.f doR
  cases ht : textOf a with
  | none =>
    rw [splitf_none (by omega) ht, Option.bind_some]
    simp only
    have h := do_l0 l hx hl [] l.length 0 k 2 (by omega) (by omega) (.inr rfl)
    rw [if_neg (by omega)] at h
    exact h
  | some r =>
    rw [splitf_some (by omega) ht, Option.bind_some]
    simp only
    have h := do_l0 l hx hl r l.length 0 k 0 (by omega) (by omega) (.inl rfl)
    rw [List.drop_zero] at h
    refine h.trans ?_
    by_cases hA : allText (l.map tri46) = true
    · rw [if_pos ⟨rfl, hA⟩, if_pos hA]
      have htl := text_len ht
      have h1 := do_l1 l (fun x hxm => ⟨hx x hxm, by
        have := List.all_eq_true.1 hA (tri46 x) (List.mem_map_of_mem hxm)
        simpa [tri46] using of_decide_eq_true this⟩) hl l.length 0 (k - l.length - 1) r (by omega) (by omega) (by omega) (text_str ht).2
      rw [List.drop_zero] at h1
      exact h1
    · rw [if_neg (fun h => hA h.2), if_neg hA]
end Go.Proofs.YtabhfloclcmjnaaDoor.X
