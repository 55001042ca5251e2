/-
  Two deeds upon one text meet: by this session. Conditions: as typed.
-/
import Derived.Test.YtmkmpjkgpnahnaaDoorRef29
import Derived.Test.YtmkmpjkgpnahnaaDoorMeet
namespace Go.Proofs.YtmkmpjkgpnahnaaDoor.X
open Go Go.RowKit Go.Shelf Go.Proofs.YtmkmpjkgpnahnaaDoorW.PrintWords Go.Proofs.YtmkmpjkgpnahnaaDoor.P Go.Proofs.YtmkmpjkgpnahnaaDoor.Meet
set_option linter.unusedVariables false
/-- A deed that may be upon n runes. -/
def mayD (d : S23) (n : Nat) : Bool := mayB d.f0 d.f1 d.f2 d.f3 d.f4 n
/-- The parts of a deed behind another one. -/
def inclD (a b : S23) : List S23 := ((inclP a.f0 a.f1 a.f2 a.f3 a.f4 b.f0 b.f1 b.f2 b.f3 b.f4).1).map toR
theorem textL_one {t : ByteArray} (h : 1 ≤ lenU t) : ((textL t).length : Int) = lenU t ∧ szU t = (textL t).length := by
  unfold textL szU
  cases hx : textOf t with
  | none => rw [lenU_of_none hx] at h; omega
  | some l =>
    rw [lenU_of_some hx]
    refine ⟨rfl, ?_⟩
    show max (0 : Int) (l.length : Int) = (l.length : Int)
    omega
theorem textL_nil {t : ByteArray} (h : t.toList = []) : textL t = [] := by
  have h0 := textL_len t
  rw [size_of_nil h] at h0
  exact List.length_eq_zero_iff.1 (by omega)
/-- An insertion that may be. -/
structure IsI (d : S23) (i : Nat) (A : List Int) : Prop where
  k : d.f1 = 1
  p : d.f2 = i
  l : d.f3 = 0
  t : textL d.f4 = A
  s : 1 ≤ d.f0 ∧ d.f0 ≤ 16
  z : d.f4.size ≤ 800 ∧ 1 ≤ lenU d.f4 ∧ lenU d.f4 ≤ 200
/-- A deletion that may be. -/
structure IsD (d : S23) (i n : Nat) : Prop where
  k : d.f1 = 2
  p : d.f2 = i
  l : d.f3 = n
  n1 : 1 ≤ n
  t : d.f4.toList = []
  s : 1 ≤ d.f0 ∧ d.f0 ≤ 16
theorem kinds {d : S23} {n : Nat} (h : mayD d n = true) : (∃ i A, IsI d i A ∧ i ≤ n ∧ n ≤ 20000) ∨ ∃ i m, IsD d i m ∧ i + m ≤ n ∧ n ≤ 20000 := by
  obtain ⟨a1, a2, a3, a4, b2, b3, b4, b5, b6, hk⟩ := mayB_of h
  rcases hk with ⟨k, l, u1, u2⟩ | ⟨k, l, u1, u2⟩
  · exact .inl ⟨d.f2.toNat, textL d.f4, ⟨k, by omega, l, rfl, ⟨a3, a4⟩, ⟨b6, u1, u2⟩⟩, by omega, by omega⟩
  · exact .inr ⟨d.f2.toNat, d.f3.toNat, ⟨k, by omega, by omega, by omega, u2, ⟨a3, a4⟩⟩, by omega, by omega⟩
theorem IsI.may {d : S23} {i n : Nat} {A : List Int} (h : IsI d i A) (hi : i ≤ n) (hn : n ≤ 20000) : mayD d n = true := by
  unfold mayD mayB
  rw [decide_eq_true_eq]
  have hp := h.p
  have hs := h.s
  have hz := h.z
  exact ⟨by omega, by omega, hs.1, hs.2, .inl ⟨h.k, by omega, by omega, h.l, hz.1, hz.2.1, hz.2.2⟩⟩
theorem IsD.may {d : S23} {i m n : Nat} (h : IsD d i m) (hi : i + m ≤ n) (hn : n ≤ 20000) : mayD d n = true := by
  unfold mayD mayB
  rw [decide_eq_true_eq]
  have hp := h.p
  have hl := h.l
  have hs := h.s
  have h1 := h.n1
  exact ⟨by omega, by omega, hs.1, hs.2, .inr ⟨h.k, by omega, by omega, by omega, by omega, h.t⟩⟩
theorem IsI.len {d : S23} {i : Nat} {A : List Int} (h : IsI d i A) : szU d.f4 = (A.length : Int) ∧ 1 ≤ A.length ∧ A.length ≤ 200 := by
  have := textL_one h.z.2.1
  rw [h.t] at this
  have hz := h.z
  omega
theorem IsI.run {d : S23} {i : Nat} {A r : List Int} (h : IsI d i A) (hi : i ≤ r.length) (hn : r.length ≤ 20000) : doM r d = some (ins r i A) := by
  have hm := h.may hi hn
  unfold doM
  unfold mayD at hm
  rw [if_pos hm, h.p, h.l, h.t]
  unfold ins
  simp
theorem IsD.run {d : S23} {i m : Nat} {r : List Int} (h : IsD d i m) (hi : i + m ≤ r.length) (hn : r.length ≤ 20000) : doM r d = some (del r i m) := by
  have hm := h.may hi hn
  unfold doM
  unfold mayD at hm
  rw [if_pos hm, h.p, h.l, textL_nil h.t]
  unfold del
  rw [List.append_nil, show ((i : Int)).toNat = i by omega, show ((i : Int) + (m : Int)).toNat = i + m by omega]
theorem run_one (r : List Int) (d : S23) : runM r [d] = doM r d := by
  simp only [runM]
  cases doM r d <;> rfl
theorem run_cons {r S : List Int} {d : S23} {l : List S23} (h : doM r d = some S) : runM r (d :: l) = runM S l := by
  simp only [runM]
  rw [h]
  rfl
/-- They meet. -/
def Meets (r : List Int) (a b : S23) : Prop := ∃ S, runM r (a :: inclD b a) = some S ∧ runM r (b :: inclD a b) = some S
theorem Meets.symm {r : List Int} {a b : S23} (h : Meets r a b) : Meets r b a := by
  obtain ⟨S, h1, h2⟩ := h
  exact ⟨S, h2, h1⟩
theorem meets_ii {r : List Int} {a b : S23} {i j : Nat} {A B : List Int} (ha : IsI a i A) (hb : IsI b j B) (hi : i ≤ r.length) (hj : j ≤ r.length) (hr : r.length ≤ 19000) (hs : j < i ∨ i = j ∧ b.f0 < a.f0) : Meets r a b := by
  obtain ⟨ea, la⟩ := ha.len
  obtain ⟨eb, lb⟩ := hb.len
  have hab : inclD a b = [⟨a.f0, a.f1, (i + B.length : Nat), a.f3, a.f4⟩] := by
    unfold inclD inclP
    rw [if_pos ha.k, if_pos hb.k, if_pos (by rw [ha.p, hb.p]; omega), ha.p, eb]
    simp [toR]
  have hba : inclD b a = [b] := by
    unfold inclD inclP
    rw [if_pos hb.k, if_pos ha.k, if_neg (by rw [ha.p, hb.p]; omega)]
    simp [toR]
  have ha' : IsI ⟨a.f0, a.f1, (i + B.length : Nat), a.f3, a.f4⟩ (i + B.length) A := ⟨ha.k, rfl, ha.l, ha.t, ha.s, ha.z⟩
  have l1 := len_ins (t := A) hi
  have l2 := len_ins (t := B) hj
  refine ⟨ins (ins r i A) j B, ?_, ?_⟩
  · rw [hba, run_cons (ha.run hi (by omega)), run_one, hb.run (by omega) (by omega)]
  · rw [hab, run_cons (hb.run hj (by omega)), run_one, ha'.run (by omega) (by omega), ← ins_ins (by omega) hi]
theorem meets_id {r : List Int} {a b : S23} {i j n : Nat} {A : List Int} (ha : IsI a i A) (hb : IsD b j n) (hi : i ≤ r.length) (hj : j + n ≤ r.length) (hr : r.length ≤ 19000) : Meets r a b := by
  obtain ⟨ea, la⟩ := ha.len
  have hn := hb.n1
  have l1 := len_ins (t := A) hi
  have l2 := len_del hj
  by_cases c1 : i ≤ j
  · have hab : inclD a b = [a] := by
      unfold inclD inclP
      rw [if_pos ha.k, if_neg (by rw [hb.k]; omega), if_pos (by rw [ha.p, hb.p]; omega)]
      simp [toR]
    have hba : inclD b a = [⟨b.f0, b.f1, (j + A.length : Nat), b.f3, b.f4⟩] := by
      unfold inclD inclP
      rw [if_neg (by rw [hb.k]; omega), if_pos ha.k, if_pos (by rw [ha.p, hb.p]; omega), hb.p, ea]
      simp [toR]
    have hb' : IsD ⟨b.f0, b.f1, (j + A.length : Nat), b.f3, b.f4⟩ (j + A.length) n := ⟨hb.k, rfl, hb.l, hb.n1, hb.t, hb.s⟩
    refine ⟨ins (del r j n) i A, ?_, ?_⟩
    · rw [hba, run_cons (ha.run hi (by omega)), run_one, hb'.run (by omega) (by omega), ← ins_del_ahead c1 hj]
    · rw [hab, run_cons (hb.run hj (by omega)), run_one, ha.run (by omega) (by omega)]
  · by_cases c2 : j + n ≤ i
    · have hab : inclD a b = [⟨a.f0, a.f1, (i - n : Nat), a.f3, a.f4⟩] := by
        unfold inclD inclP
        rw [if_pos ha.k, if_neg (by rw [hb.k]; omega), if_neg (by rw [ha.p, hb.p]; omega)]
        by_cases c3 : j + n < i
        · rw [if_pos (by rw [ha.p, hb.p, hb.l]; omega), ha.p, hb.l, show ((i : Int) - (n : Int)) = ((i - n : Nat) : Int) by omega]
          simp [toR]
        · rw [if_neg (by rw [ha.p, hb.p, hb.l]; omega), hb.p, show (j : Int) = ((i - n : Nat) : Int) by omega]
          simp [toR]
      have hba : inclD b a = [b] := by
        unfold inclD inclP
        rw [if_neg (by rw [hb.k]; omega), if_pos ha.k, if_neg (by rw [ha.p, hb.p]; omega), if_pos (by rw [ha.p, hb.p, hb.l]; omega)]
        simp [toR]
      have ha' : IsI ⟨a.f0, a.f1, (i - n : Nat), a.f3, a.f4⟩ (i - n) A := ⟨ha.k, rfl, ha.l, ha.t, ha.s, ha.z⟩
      refine ⟨ins (del r j n) (i - n) A, ?_, ?_⟩
      · rw [hba, run_cons (ha.run hi (by omega)), run_one, hb.run (by omega) (by omega), ← ins_del_behind c2 hi]
      · rw [hab, run_cons (hb.run hj (by omega)), run_one, ha'.run (by omega) (by omega)]
    · have hab : inclD a b = [⟨a.f0, a.f1, (j : Nat), a.f3, a.f4⟩] := by
        unfold inclD inclP
        rw [if_pos ha.k, if_neg (by rw [hb.k]; omega), if_neg (by rw [ha.p, hb.p]; omega), if_neg (by rw [ha.p, hb.p, hb.l]; omega), hb.p]
        simp [toR]
      have hba : inclD b a = [⟨b.f0, b.f1, (i + A.length : Nat), (n - (i - j) : Nat), b.f4⟩, ⟨b.f0, b.f1, (j : Nat), (i - j : Nat), b.f4⟩] := by
        unfold inclD inclP
        rw [if_neg (by rw [hb.k]; omega), if_pos ha.k, if_neg (by rw [ha.p, hb.p]; omega), if_neg (by rw [ha.p, hb.p, hb.l]; omega), ha.p, hb.p, hb.l, ea, show ((n : Int) - ((i : Int) - (j : Int))) = ((n - (i - j) : Nat) : Int) by omega, show ((i : Int) - (j : Int)) = ((i - j : Nat) : Int) by omega]
        simp [toR]
      have ha' : IsI ⟨a.f0, a.f1, (j : Nat), a.f3, a.f4⟩ j A := ⟨ha.k, rfl, ha.l, ha.t, ha.s, ha.z⟩
      have hb1 : IsD ⟨b.f0, b.f1, (i + A.length : Nat), (n - (i - j) : Nat), b.f4⟩ (i + A.length) (n - (i - j)) := ⟨hb.k, rfl, rfl, by omega, hb.t, hb.s⟩
      have hb2 : IsD ⟨b.f0, b.f1, (j : Nat), (i - j : Nat), b.f4⟩ j (i - j) := ⟨hb.k, rfl, rfl, by omega, hb.t, hb.s⟩
      have l3 := len_del (r := ins r i A) (i := i + A.length) (n := n - (i - j)) (by omega)
      refine ⟨ins (del r j n) j A, ?_, ?_⟩
      · rw [hba, run_cons (ha.run hi (by omega)), run_cons (hb1.run (by omega) (by omega)), run_one, hb2.run (by omega) (by omega), ← ins_del_within (by omega) (by omega) hj]
      · rw [hab, run_cons (hb.run hj (by omega)), run_one, ha'.run (by omega) (by omega)]
/-- A deletion behind a deletion: what is left of it, if anything. -/
theorem incl_dd {a b : S23} {i n j m : Nat} (ha : IsD a i n) (hb : IsD b j m) :
    inclD a b = if (dd i n j m).2 = 0 then [] else [⟨a.f0, a.f1, ((dd i n j m).1 : Nat), ((dd i n j m).2 : Nat), a.f4⟩] := by
  have h1 := ha.n1
  have h2 := hb.n1
  unfold inclD inclP
  rw [if_neg (by rw [ha.k]; omega), if_neg (by rw [hb.k]; omega), ha.p, ha.l, hb.p, hb.l]
  by_cases c1 : i + n ≤ j
  · have d1 : dd i n j m = (i, n) := by unfold dd; rw [if_pos (by omega), if_neg (by omega)]
    rw [if_pos (by omega), d1, if_neg (by simp only; omega)]
    simp [toR]
  · rw [if_neg (by omega)]
    by_cases c2 : j + m ≤ i
    · have d1 : dd i n j m = (i - m, n) := by unfold dd; rw [if_pos (by omega), if_pos (by omega)]
      rw [if_pos (by omega), d1, if_neg (by simp only; omega), show ((i : Int) - (m : Int)) = ((i - m : Nat) : Int) by omega]
      simp [toR]
    · rw [if_neg (by omega)]
      have d1 : dd i n j m = (min i j, n - (min (i + n) (j + m) - max i j)) := by unfold dd; rw [if_neg (by omega)]
      rw [d1]
      by_cases c3 : n = min (i + n) (j + m) - max i j
      · rw [if_pos (by omega), if_pos (by simp only; omega)]
        rfl
      · rw [if_neg (by omega), if_neg (by simp only; omega), show min (i : Int) (j : Int) = ((min i j : Nat) : Int) by omega, show (n : Int) - (min ((i : Int) + n) ((j : Int) + m) - max (i : Int) j) = ((n - (min (i + n) (j + m) - max i j) : Nat) : Int) by omega]
        simp [toR]
theorem dd_le {i n j m N : Nat} (hi : i + n ≤ N) (hj : j + m ≤ N) (hn : 1 ≤ n) (hm : 1 ≤ m) : (dd i n j m).1 + (dd i n j m).2 ≤ N - m := by
  unfold dd
  split
  · split <;> simp only <;> omega
  · simp only
    omega
theorem run_dd {r : List Int} {a b : S23} {i n j m : Nat} (ha : IsD a i n) (hb : IsD b j m) (hi : i + n ≤ r.length) (hj : j + m ≤ r.length) (hr : r.length ≤ 19000) :
    runM r (b :: inclD a b) = some (del (del r j m) (dd i n j m).1 (dd i n j m).2) := by
  have l2 := len_del hj
  have hle := dd_le hi hj ha.n1 hb.n1
  rw [run_cons (hb.run hj (by omega)), incl_dd ha hb]
  by_cases c : (dd i n j m).2 = 0
  · rw [if_pos c, c]
    simp [runM, del]
  · rw [if_neg c, run_one]
    have ha' : IsD ⟨a.f0, a.f1, ((dd i n j m).1 : Nat), ((dd i n j m).2 : Nat), a.f4⟩ (dd i n j m).1 (dd i n j m).2 := ⟨ha.k, rfl, rfl, by omega, ha.t, ha.s⟩
    rw [ha'.run (by omega) (by omega)]
/-- TWO MEET. -/
theorem meets (r : List Int) (a b : S23) (hs : a.f0 ≠ b.f0) (ha : mayD a r.length = true) (hb : mayD b r.length = true) (hr : r.length ≤ 19000) : Meets r a b := by
  rcases kinds ha with ⟨i, A, h1, h2, _⟩ | ⟨i, n, h1, h2, _⟩ <;> rcases kinds hb with ⟨j, B, k1, k2, _⟩ | ⟨j, m, k1, k2, _⟩
  · by_cases c : j < i ∨ i = j ∧ b.f0 < a.f0
    · exact meets_ii h1 k1 h2 k2 hr c
    · exact (meets_ii k1 h1 k2 h2 hr (by omega)).symm
  · exact meets_id h1 k1 h2 k2 hr
  · exact (meets_id k1 h1 k2 h2 hr).symm
  · exact ⟨_, by rw [run_dd k1 h1 k2 h2 hr, ← del_del h1.n1 k1.n1 h2 k2], run_dd h1 k1 h2 k2 hr⟩
end Go.Proofs.YtmkmpjkgpnahnaaDoor.X
