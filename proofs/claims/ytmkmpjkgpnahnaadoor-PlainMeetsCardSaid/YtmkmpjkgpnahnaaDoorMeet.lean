/-
  Two deeds upon one list meet, in plain Lean, by this session. Conditions: as typed.
-/
import Derived.KernelRfl
namespace Go.Proofs.YtmkmpjkgpnahnaaDoor.Meet
def ins (r : List Int) (i : Nat) (t : List Int) : List Int := r.take i ++ t ++ r.drop i
def del (r : List Int) (i n : Nat) : List Int := r.take i ++ r.drop (i + n)
theorem get_ins {r t : List Int} {i : Nat} (hi : i ≤ r.length) (k : Nat) : (ins r i t)[k]? = if k < i then r[k]? else if k < i + t.length then t[k - i]? else r[k - t.length]? := by
  unfold ins
  have e : (r.take i).length = i := by rw [List.length_take]; omega
  by_cases h1 : k < i
  · rw [if_pos h1, List.append_assoc, List.getElem?_append_left (by omega), List.getElem?_take_of_lt h1]
  · rw [if_neg h1, List.append_assoc, List.getElem?_append_right (by omega), e]
    by_cases h2 : k < i + t.length
    · rw [if_pos h2, List.getElem?_append_left (by omega)]
    · rw [if_neg h2, List.getElem?_append_right (by omega), List.getElem?_drop]
      congr 1; omega
theorem get_del {r : List Int} {i n : Nat} (hi : i ≤ r.length) (k : Nat) : (del r i n)[k]? = if k < i then r[k]? else r[k + n]? := by
  unfold del
  have e : (r.take i).length = i := by rw [List.length_take]; omega
  by_cases h1 : k < i
  · rw [if_pos h1, List.getElem?_append_left (by omega), List.getElem?_take_of_lt h1]
  · rw [if_neg h1, List.getElem?_append_right (by omega), e, List.getElem?_drop]
    congr 1; omega
theorem len_ins {r t : List Int} {i : Nat} (hi : i ≤ r.length) : (ins r i t).length = r.length + t.length := by
  unfold ins; simp only [List.length_append, List.length_take, List.length_drop]; omega
theorem len_del {r : List Int} {i n : Nat} (hi : i + n ≤ r.length) : (del r i n).length = r.length - n := by
  unfold del; simp only [List.length_append, List.length_take, List.length_drop]; omega
/-- Two insertions: the one at i, ahead of or at j, stays; the other goes on. -/
theorem ins_ins {r t u : List Int} {i j : Nat} (h : i ≤ j) (hj : j ≤ r.length) : ins (ins r j u) i t = ins (ins r i t) (j + t.length) u := by
  refine List.ext_getElem? fun k => ?_
  rw [get_ins (by rw [len_ins hj]; omega), get_ins hj, get_ins hj, get_ins (by rw [len_ins (by omega)]; omega), get_ins (by omega), get_ins (by omega)]
  by_cases h1 : k < i
  · rw [if_pos h1, if_pos (show k < j by omega), if_pos (show k < j + t.length by omega), if_pos h1]
  · rw [if_neg h1]
    by_cases h2 : k < i + t.length
    · rw [if_pos h2, if_pos (show k < j + t.length by omega), if_neg h1, if_pos h2]
    · rw [if_neg h2]
      by_cases h3 : k < j + t.length
      · rw [if_pos (show k - t.length < j by omega), if_pos h3, if_neg h1, if_neg h2]
      · rw [if_neg (show ¬ k - t.length < j by omega), if_neg h3]
        by_cases h4 : k < j + t.length + u.length
        · rw [if_pos (show k - t.length < j + u.length by omega), if_pos h4]
          congr 1; omega
        · rw [if_neg (show ¬ k - t.length < j + u.length by omega), if_neg h4, if_neg (show ¬ k - u.length < i by omega), if_neg (show ¬ k - u.length < i + t.length by omega)]
          congr 1; omega
/-- An insertion ahead of a deletion. -/
theorem ins_del_ahead {r t : List Int} {i j n : Nat} (h : i ≤ j) (hj : j + n ≤ r.length) : ins (del r j n) i t = del (ins r i t) (j + t.length) n := by
  refine List.ext_getElem? fun k => ?_
  rw [get_ins (by rw [len_del hj]; omega), get_del (by omega), get_del (by omega), get_del (by rw [len_ins (by omega)]; omega), get_ins (by omega), get_ins (by omega)]
  by_cases h1 : k < i
  · rw [if_pos h1, if_pos (show k < j by omega), if_pos (show k < j + t.length by omega), if_pos h1]
  · rw [if_neg h1]
    by_cases h2 : k < i + t.length
    · rw [if_pos h2, if_pos (show k < j + t.length by omega), if_neg h1, if_pos h2]
    · rw [if_neg h2]
      by_cases h3 : k < j + t.length
      · rw [if_pos (show k - t.length < j by omega), if_pos h3, if_neg h1, if_neg h2]
      · rw [if_neg (show ¬ k - t.length < j by omega), if_neg h3, if_neg (show ¬ k + n < i by omega), if_neg (show ¬ k + n < i + t.length by omega)]
        congr 1; omega
/-- An insertion behind a deletion. -/
theorem ins_del_behind {r t : List Int} {i j n : Nat} (h : j + n ≤ i) (hi : i ≤ r.length) : ins (del r j n) (i - n) t = del (ins r i t) j n := by
  refine List.ext_getElem? fun k => ?_
  rw [get_ins (by rw [len_del (by omega)]; omega), get_del (by omega), get_del (by omega), get_del (by rw [len_ins (by omega)]; omega), get_ins (by omega), get_ins (by omega)]
  by_cases h1 : k < j
  · rw [if_pos (show k < i - n by omega), if_pos h1, if_pos h1, if_pos (show k < i by omega)]
  · rw [if_neg h1, if_neg h1]
    by_cases h2 : k < i - n
    · rw [if_pos h2, if_pos (show k + n < i by omega)]
    · rw [if_neg h2, if_neg (show ¬ k + n < i by omega)]
      by_cases h3 : k < i - n + t.length
      · rw [if_pos h3, if_pos (show k + n < i + t.length by omega)]
        congr 1; omega
      · rw [if_neg h3, if_neg (show ¬ k + n < i + t.length by omega), if_neg (show ¬ k - t.length < j by omega)]
        congr 1; omega
/-- An insertion within a deletion: the deletion goes on in two parts. -/
theorem ins_del_within {r t : List Int} {i j n : Nat} (h1 : j < i) (h2 : i < j + n) (hn : j + n ≤ r.length) : ins (del r j n) j t = del (del (ins r i t) (i + t.length) (n - (i - j))) j (i - j) := by
  refine List.ext_getElem? fun k => ?_
  rw [get_ins (by rw [len_del (by omega)]; omega), get_del (by omega), get_del (by omega), get_del (by rw [len_del (by rw [len_ins (by omega)]; omega), len_ins (by omega)]; omega), get_del (by rw [len_ins (by omega)]; omega), get_del (by rw [len_ins (by omega)]; omega), get_ins (by omega), get_ins (by omega), get_ins (by omega)]
  by_cases k1 : k < j
  · rw [if_pos k1, if_pos k1, if_pos k1, if_pos (show k < i + t.length by omega), if_pos (show k < i by omega)]
  · rw [if_neg k1, if_neg k1]
    by_cases k2 : k < j + t.length
    · rw [if_pos k2, if_pos (show k + (i - j) < i + t.length by omega), if_neg (show ¬ k + (i - j) < i by omega), if_pos (show k + (i - j) < i + t.length by omega)]
      congr 1; omega
    · rw [if_neg k2, if_neg (show ¬ k + (i - j) < i + t.length by omega), if_neg (show ¬ k - t.length < j by omega), get_ins (by omega), if_neg (show ¬ k + (i - j) + (n - (i - j)) < i by omega), if_neg (show ¬ k + (i - j) + (n - (i - j)) < i + t.length by omega)]
      congr 1; omega
/-- Two deletions: where the one goes on behind the other, and how much is left of it. -/
def dd (i n j m : Nat) : Nat × Nat :=
  if min (i + n) (j + m) ≤ max i j then (if j + m ≤ i then i - m else i, n) else (min i j, n - (min (i + n) (j + m) - max i j))
theorem del_del {r : List Int} {i n j m : Nat} (hn : 0 < n) (hm : 0 < m) (hi : i + n ≤ r.length) (hj : j + m ≤ r.length) : del (del r j m) (dd i n j m).1 (dd i n j m).2 = del (del r i n) (dd j m i n).1 (dd j m i n).2 := by
  have e1 : (dd i n j m).1 ≤ (del r j m).length := by rw [len_del hj]; unfold dd; split <;> (try split) <;> simp only <;> omega
  have e2 : (dd j m i n).1 ≤ (del r i n).length := by rw [len_del hi]; unfold dd; split <;> (try split) <;> simp only <;> omega
  refine List.ext_getElem? fun k => ?_
  rw [get_del e1, get_del e2, get_del (by omega), get_del (by omega), get_del (by omega), get_del (by omega)]
  by_cases h1 : i + n ≤ j
  · have d1 : dd i n j m = (i, n) := by unfold dd; rw [if_pos (by omega), if_neg (by omega)]
    have d2 : dd j m i n = (j - n, m) := by unfold dd; rw [if_pos (by omega), if_pos (by omega)]
    simp only [d1, d2]
    repeat' split
    all_goals first | omega | rfl | (congr 1; omega)
  · by_cases h2 : j + m ≤ i
    · have d1 : dd i n j m = (i - m, n) := by unfold dd; rw [if_pos (by omega), if_pos (by omega)]
      have d2 : dd j m i n = (j, m) := by unfold dd; rw [if_pos (by omega), if_neg (by omega)]
      simp only [d1, d2]
      repeat' split
      all_goals first | omega | rfl | (congr 1; omega)
    · have d1 : dd i n j m = (min i j, n - (min (i + n) (j + m) - max i j)) := by unfold dd; rw [if_neg (by omega)]
      have d2 : dd j m i n = (min j i, m - (min (j + m) (i + n) - max j i)) := by unfold dd; rw [if_neg (by omega)]
      simp only [d1, d2]
      repeat' split
      all_goals first | omega | rfl | (congr 1; omega)
end Go.Proofs.YtmkmpjkgpnahnaaDoor.Meet
