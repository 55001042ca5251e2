/-
  A runes' seeker in plain Lean: the longest beginning of what is looked for that a text ends with, one rune further; by this session. Conditions: as typed.
-/
import Derived.KernelRfl
namespace Go.Proofs.YtabhfloclcmjnaaDoor.Kmp
variable {p : List Int}
/-- the longest beginning of p that t ends with -/
def IsM (p t : List Int) (h : Nat) : Prop := h ≤ p.length ∧ p.take h <:+ t ∧ ∀ j, j ≤ p.length → p.take j <:+ t → j ≤ h
theorem IsM.uniq {t : List Int} {a b : Nat} (x : IsM p t a) (y : IsM p t b) : a = b :=
  Nat.le_antisymm (y.2.2 a x.1 x.2.1) (x.2.2 b y.1 y.2.1)
/-- the text behind which 'fall back' of n asks -/
def tail (p : List Int) (n : Nat) : List Int := (p.take n).drop 1
theorem tail_suffix (n : Nat) : tail p n <:+ p.take n := List.drop_suffix _ _
theorem suffix_tail {t : List Int} {j k : Nat} (hk : k ≤ p.length) (hj : j < k) (a : p.take j <:+ t) (b : p.take k <:+ t) : p.take j <:+ tail p k := by
  have h1 : p.take j <:+ p.take k := List.suffix_of_suffix_length_le a b (by simp; omega)
  refine List.suffix_of_suffix_length_le h1 (tail_suffix k) ?_
  simp [tail]; omega
theorem suffix_step {t : List Int} {k : Nat} {r : Int} (hk : k < p.length) : p.take (k + 1) <:+ t ++ [r] ↔ p.take k <:+ t ∧ p.getD k 0 = r := by
  have e : p.take (k + 1) = p.take k ++ [p.getD k 0] := by
    rw [List.take_succ_eq_append_getElem hk, List.getD_eq_getElem?_getD, List.getElem?_eq_getElem hk]; rfl
  rw [e]
  constructor
  · rintro ⟨s, hs⟩
    rw [← List.append_assoc] at hs
    have h := List.append_inj' hs rfl
    exact ⟨⟨s, h.1⟩, by simpa using h.2⟩
  · rintro ⟨⟨s, hs⟩, hr⟩
    exact ⟨s, by rw [← List.append_assoc, hs, hr]⟩
/-- on the way: how many to try, for the rune r behind t -/
structure Try (p t : List Int) (r : Int) (h : Nat) : Prop where
  lt : h < p.length
  now : p.take h <:+ t
  most : ∀ j, j < p.length → p.take j <:+ t → p.getD j 0 = r → j ≤ h
theorem Try.hit {t : List Int} {r : Int} {h : Nat} (x : Try p t r h) (e : p.getD h 0 = r) : IsM p (t ++ [r]) (h + 1) := by
  refine ⟨x.lt, (suffix_step x.lt).2 ⟨x.now, e⟩, fun j hj hs => ?_⟩
  cases j with
  | zero => omega
  | succ j => have := (suffix_step (by omega)).1 hs; have := x.most j (by omega) this.1 this.2; omega
theorem Try.none {t : List Int} {r : Int} (x : Try p t r 0) (e : p.getD 0 0 ≠ r) : IsM p (t ++ [r]) 0 := by
  refine ⟨Nat.zero_le _, by simp, fun j hj hs => ?_⟩
  cases j with
  | zero => omega
  | succ j =>
    have h := (suffix_step (by omega)).1 hs; have := x.most j (by omega) h.1 h.2
    obtain rfl : j = 0 := by omega
    exact absurd h.2 e
theorem Try.back {t : List Int} {r : Int} {h b : Nat} (x : Try p t r h) (h0 : 0 < h) (e : p.getD h 0 ≠ r) (m : IsM p (tail p h) b) : Try p t r b ∧ b < h := by
  have hb : b < h := by
    have hl := m.2.1.length_le
    have : (tail p h).length = h - 1 := by simp [tail]; have := x.lt; omega
    rw [this] at hl; simp at hl; have := x.lt; omega
  refine ⟨⟨Nat.lt_of_lt_of_le hb (Nat.le_of_lt x.lt), m.2.1.trans ((tail_suffix h).trans x.now), fun j hj hs hr => ?_⟩, hb⟩
  have h1 := x.most j hj hs hr
  have h2 : j ≠ h := by rintro rfl; exact e hr
  exact m.2.2 j (by omega) (suffix_tail (Nat.le_of_lt x.lt) (by omega) hs x.now)
theorem IsM.start {t : List Int} {h : Nat} (x : IsM p t h) (hl : h < p.length) (r : Int) : Try p t r h :=
  ⟨hl, x.2.1, fun j hj hs _ => x.2.2 j (by omega) hs⟩
theorem IsM.full {t : List Int} {b : Nat} (x : IsM p t p.length) (h0 : 0 < p.length) (m : IsM p (tail p p.length) b) (r : Int) : Try p t r b := by
  have hb : b < p.length := by
    have hl := m.2.1.length_le
    have : (tail p p.length).length = p.length - 1 := by simp [tail]
    rw [this] at hl; simp at hl; omega
  refine ⟨hb, m.2.1.trans ((tail_suffix _).trans x.2.1), fun j hj hs _ => m.2.2 j (by omega) (suffix_tail (Nat.le_refl _) hj hs x.2.1)⟩
theorem tail_succ {i : Nat} (h1 : 1 ≤ i) (hi : i < p.length) : tail p (i + 1) = tail p i ++ [p.getD i 0] := by
  have e : p.take (i + 1) = p.take i ++ [p.getD i 0] := by
    rw [List.take_succ_eq_append_getElem hi, List.getD_eq_getElem?_getD, List.getElem?_eq_getElem hi]; rfl
  unfold tail; rw [e, List.drop_append_of_le_length (by simp; omega)]
theorem isM_nil : IsM p [] 0 := ⟨Nat.zero_le _, by simp, fun j hj hs => by have := hs.length_le; rw [List.length_take, List.length_nil] at this; omega⟩
theorem isM_one : IsM p (tail p 1) 0 := by
  have : tail p 1 = [] := by cases p <;> simp [tail]
  rw [this]; exact isM_nil
theorem isM_tail_lt {n b : Nat} (h : 1 ≤ n) (hn : n ≤ p.length) (m : IsM p (tail p n) b) : b < n := by
  have hl := m.2.1.length_le
  have : (tail p n).length = n - 1 := by simp [tail]; omega
  rw [this] at hl; simp at hl; have := m.1; omega
/-- p stands in l at i -/
def Stands (l p : List Int) (i : Nat) : Prop := p <+: l.drop i
theorem stands_iff_full {l : List Int} {i : Nat} {h : Nat} (hl : i + p.length ≤ l.length) (m : IsM p (l.take (i + p.length)) h) : h = p.length ↔ Stands l p i := by
  constructor
  · rintro rfl
    have h1 := m.2.1
    rw [List.take_length] at h1
    obtain ⟨s, hs⟩ := h1
    have hsl : s.length = i := by have := congrArg List.length hs; simp at this; omega
    refine ⟨l.drop (i + p.length), ?_⟩
    have : l = s ++ (p ++ l.drop (i + p.length)) := by
      rw [← List.append_assoc, hs, List.take_append_drop]
    conv => rhs; rw [this]
    rw [← hsl, List.drop_left]
  · rintro ⟨s, hs⟩
    have : p <:+ l.take (i + p.length) := by
      refine ⟨l.take i, ?_⟩
      have e : l = l.take i ++ (p ++ s) := by rw [hs, List.take_append_drop]
      have hi : (l.take i).length = i := by simp; omega
      conv => rhs; rw [e]
      rw [← List.append_assoc, List.take_left' (by simp [hi])]
    have h2 := m.2.2 p.length (Nat.le_refl _) (by rwa [List.take_length])
    have := m.1; omega
end Go.Proofs.YtabhfloclcmjnaaDoor.Kmp
