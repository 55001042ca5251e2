/-
 The reference's deed behind another one, rune by rune, as functions on lists: by this session. Conditions: as typed.
-/
import Derived.Test.YtmkmpjkgpnahnaaDoorRef29a
namespace Go.Proofs.YtmkmpjkgpnahnaaDoor.X
open Go Go.RowKit Go.Shelf Go.Proofs.YtmkmpjkgpnahnaaDoorW.PrintWords Go.Proofs.YtmkmpjkgpnahnaaDoor.P
set_option linter.unusedVariables false
/-- Where a rune goes. -/
def posR (k2 p2 n2 kk p : Int) : Option Int := if k2 = 1 then some (if p2 ≤ p then p + kk else p) else if p < p2 then some p else if p2 + n2 ≤ p then some (p - n2) else none
def atsR (k2 p2 n2 kk p1 : Int) : Nat → List Int
 | 0 => []
 | m + 1 => atsR k2 p2 n2 kk p1 m ++ (posR k2 p2 n2 kk (p1 + m)).toList
/-- What is lost. -/
def lostR (k2 p2 n2 p1 : Int) : Nat → Int × Int × Int
 | 0 => (0, 0, 0)
 | m + 1 => if k2 = 1 ∨ p1 + m < p2 ∨ p2 + n2 ≤ p1 + m then lostR k2 p2 n2 p1 m
  else if (lostR k2 p2 n2 p1 m).1 = 0 then (2, p1 + m - p2, 1) else ((lostR k2 p2 n2 p1 m).1, (lostR k2 p2 n2 p1 m).2.1, (lostR k2 p2 n2 p1 m).2.2 + 1)
def moreR : List S23 → List S23
 | [] => []
 | d :: r => ⟨d.f0, d.f1, d.f2, d.f3 + 1, d.f4⟩ :: r
/-- Runes that stand one behind the other are one part. -/
def grpR (s1 k1 : Int) (t1 : ByteArray) (at_ : List Int) : Nat → List S23
 | 0 => []
 | i + 1 => if 0 < i ∧ at_.getD i 0 = at_.getD (i - 1) 0 + 1 then moreR (grpR s1 k1 t1 at_ i) else ⟨s1, k1, at_.getD i 0, 1, t1⟩ :: grpR s1 k1 t1 at_ i
/-- How many of the runes deleted stand ahead. -/
def goneR (p1 p2 : Int) (m : Nat) : Int := max 0 (min (m : Int) (p1 - p2))
/-- The reference's answer. -/
def inclR (s1 k1 p1 n1 : Int) (t1 : ByteArray) (s2 k2 p2 n2 : Int) (t2 : ByteArray) : List S23 × Int × Int × Int :=
 if k1 = 1 then
  if k2 = 1 then (if p2 < p1 ∨ p1 = p2 ∧ s2 < s1 then ([⟨s1, k1, p1 + lenU t2, n1, t1⟩], 0, 0, 0) else ([⟨s1, k1, p1, n1, t1⟩], 0, 0, 0))
  else if 0 < goneR p1 p2 n2.toNat ∧ p1 ≤ p2 + n2 then ([⟨s1, k1, p1 - goneR p1 p2 n2.toNat, n1, t1⟩], 1, goneR p1 p2 n2.toNat, 0) else ([⟨s1, k1, p1 - goneR p1 p2 n2.toNat, n1, t1⟩], 0, 0, 0)
 else (grpR s1 k1 t1 (atsR k2 p2 n2 (lenU t2) p1 n1.toNat) (atsR k2 p2 n2 (lenU t2) p1 n1.toNat).length, lostR k2 p2 n2 p1 n1.toNat)
theorem grp_some (s1 k1 : Int) (t1 : ByteArray) (at_ : List Int) : ∀ i, 0 < i → ∃ d r, grpR s1 k1 t1 at_ i = d :: r ∧ 0 ≤ d.f3 ∧ d.f3 ≤ (i : Int) ∧ r.length < i := by
 intro i
 induction i with
 | zero => intro h; omega
 | succ i ih =>
  intro _
  simp only [grpR]
  by_cases c : 0 < i ∧ at_.getD i 0 = at_.getD (i - 1) 0 + 1
  ·rw [if_pos c]
   obtain ⟨d, r, e, h0, h1, h2⟩ := ih c.1
   rw [e]
   exact ⟨_, r, rfl, by simp only; omega, by simp only; omega, by omega⟩
  ·rw [if_neg c]
   refine ⟨_, _, rfl, by simp only; omega, by simp only; omega, ?_⟩
   rcases Nat.eq_zero_or_pos i with rfl | hi
   ·simp [grpR]
   ·obtain ⟨d, r, e, _, _, h2⟩ := ih hi
    rw [e, List.length_cons]
    omega
theorem ats_len (k2 p2 n2 kk p1 : Int) : ∀ m, (atsR k2 p2 n2 kk p1 m).length ≤ m := by
 intro m
 induction m with
 | zero => simp [atsR]
 | succ m ih =>
  simp only [atsR]
  rw [List.length_append]
  have : (posR k2 p2 n2 kk (p1 + m)).toList.length ≤ 1 := by cases posR k2 p2 n2 kk (p1 + m) <;> simp
  omega
theorem ats_bd (k2 p2 n2 kk p1 : Int) (hp1 : 0 ≤ p1) (hp1' : p1 ≤ 20000) (hn : 0 ≤ n2) (hp2 : 0 ≤ p2) (hk : 0 ≤ kk) (hk' : kk ≤ 20000) : ∀ m, m ≤ 20000 → ∀ x ∈ atsR k2 p2 n2 kk p1 m, 0 ≤ x ∧ x ≤ 60000 := by
 intro m
 induction m with
 | zero => intro _ x hx; simp [atsR] at hx
 | succ m ih =>
  intro hm x hx
  simp only [atsR, List.mem_append] at hx
  rcases hx with hx | hx
  ·exact ih (by omega) x hx
  ·unfold posR at hx
   split at hx
   ·simp at hx
    split at hx <;> omega
   ·split at hx
    ·simp at hx
     omega
    ·split at hx
     ·simp at hx
      omega
     ·simp at hx
end Go.Proofs.YtmkmpjkgpnahnaaDoor.X
