/-
 The reference's deed behind another one is the program's: by this session. Conditions: as typed.
-/
import Derived.Test.YtmkmpjkgpnahnaaDoorRInclP
namespace Go.Proofs.YtmkmpjkgpnahnaaDoor.X
open Go Go.RowKit Go.Shelf Go.Proofs.YtmkmpjkgpnahnaaDoorW.PrintWords Go.Proofs.YtmkmpjkgpnahnaaDoor.P
set_option linter.unusedVariables false
theorem ats_one (p2 n2 kk p1 : Int) : ∀ m, atsR 1 p2 n2 kk p1 m = (List.range m).map (fun i : Nat => if p2 ≤ p1 + i then p1 + i + kk else p1 + i) := by
 intro m
 induction m with
 | zero => rfl
 | succ m ih =>
  rw [List.range_succ, List.map_append, ← ih]
  simp [atsR, posR]
theorem app_range (f : Nat → Int) (l l' : Nat) (x : Int) (h : l' = l + 1) (hx : x = f l) : (List.range l).map f ++ [x] = (List.range l').map f := by
 subst h hx
 simp [List.range_succ]
theorem ats_two (p2 n2 kk p1 : Int) (h1 : 0 ≤ p1) (h2 : 0 ≤ p2) (h3 : 0 ≤ n2) : ∀ m, atsR 2 p2 n2 kk p1 m = (List.range ((m : Int) - max 0 (min (p1 + m) (p2 + n2) - max p1 p2)).toNat).map (fun i : Nat => (if p1 ≤ p2 then p1 else if p2 + n2 ≤ p1 then p1 - n2 else p2) + (i : Int)) := by
 intro m
 induction m with
 | zero =>
  rw [show (((0 : Nat) : Int) - max 0 (min (p1 + (0 : Nat)) (p2 + n2) - max p1 p2)).toNat = 0 by omega]
  rfl
 | succ m ih =>
  simp only [atsR]
  rw [ih]
  unfold posR
  rw [if_neg (show ¬ ((2 : Int) = 1) by decide)]
  by_cases c1 : p1 + (m : Int) < p2
  ·rw [if_pos c1]
   refine app_range _ _ _ _ (by omega) ?_
   show p1 + (m : Int) = (if p1 ≤ p2 then p1 else if p2 + n2 ≤ p1 then p1 - n2 else p2) + _
   rw [if_pos (by omega)]
   omega
  ·rw [if_neg c1]
   by_cases c2 : p2 + n2 ≤ p1 + (m : Int)
   ·rw [if_pos c2]
    refine app_range _ _ _ _ (by omega) ?_
    show p1 + (m : Int) - n2 = (if p1 ≤ p2 then p1 else if p2 + n2 ≤ p1 then p1 - n2 else p2) + _
    by_cases c3 : p1 ≤ p2
    ·rw [if_pos c3]
     omega
    ·rw [if_neg c3]
     by_cases c4 : p2 + n2 ≤ p1
     ·rw [if_pos c4]
      omega
     ·rw [if_neg c4]
      omega
   ·rw [if_neg c2, show (((m + 1 : Nat) : Int) - max 0 (min (p1 + ((m + 1 : Nat) : Int)) (p2 + n2) - max p1 p2)).toNat = ((m : Int) - max 0 (min (p1 + m) (p2 + n2) - max p1 p2)).toNat by omega]
    simp
theorem lost_one (p2 n2 p1 : Int) : ∀ m, lostR 1 p2 n2 p1 m = (0, 0, 0) := by
 intro m
 induction m with
 | zero => rfl
 | succ m ih => simp only [lostR]; rw [if_pos (.inl trivial), ih]
theorem pair2_eq {a b c d : Int} (h : a = c) (h' : b = d) : ((2 : Int), a, b) = (2, c, d) := by rw [h, h']
theorem lost_two (p2 n2 p1 : Int) (h3 : 0 ≤ n2) : ∀ m, lostR 2 p2 n2 p1 m = if min (p1 + (m : Int)) (p2 + n2) ≤ max p1 p2 then (0, 0, 0) else (2, max p1 p2 - p2, min (p1 + (m : Int)) (p2 + n2) - max p1 p2) := by
 intro m
 induction m with
 | zero => rw [if_pos (by omega)]; rfl
 | succ m ih =>
  simp only [lostR]
  rw [ih]
  by_cases c : p1 + (m : Int) < p2 ∨ p2 + n2 ≤ p1 + (m : Int)
  ·rw [if_pos (.inr c)]
   by_cases d : min (p1 + (m : Int)) (p2 + n2) ≤ max p1 p2
   ·rw [if_pos d, if_pos (by omega)]
   ·rw [if_neg d, if_neg (by omega), show min (p1 + ((m + 1 : Nat) : Int)) (p2 + n2) = min (p1 + (m : Int)) (p2 + n2) by omega]
  ·rw [if_neg (show ¬ ((2 : Int) = 1 ∨ p1 + (m : Int) < p2 ∨ p2 + n2 ≤ p1 + (m : Int)) by omega)]
   by_cases d : min (p1 + (m : Int)) (p2 + n2) ≤ max p1 p2
   ·rw [if_pos d, if_pos (show ((0 : Int), (0 : Int), (0 : Int)).1 = 0 from rfl), if_neg (by omega)]
    exact pair2_eq (by omega) (by omega)
   ·rw [if_neg d, if_neg (show ¬ ((2 : Int), max p1 p2 - p2, min (p1 + (m : Int)) (p2 + n2) - max p1 p2).1 = 0 from (by decide : ¬ (2 : Int) = 0)), if_neg (by omega)]
    exact pair2_eq rfl (show min (p1 + (m : Int)) (p2 + n2) - max p1 p2 + 1 = _ by omega)
theorem grp_run (s1 k1 : Int) (t1 : ByteArray) (at_ : List Int) (a : Int) (m : Nat) (h : ∀ j : Nat, j < m → at_.getD j 0 = a + j) : ∀ i, i < m → grpR s1 k1 t1 at_ (i + 1) = [⟨s1, k1, a, ((i + 1 : Nat) : Int), t1⟩] := by
 intro i
 induction i with
 | zero =>
  intro hm
  simp only [grpR]
  rw [if_neg (by omega), h 0 hm]
  simp
 | succ i ih =>
  intro hm
  rw [grpR, if_pos ⟨by omega, by rw [h (i + 1) hm, show i + 1 - 1 = i by omega, h i (by omega)]; omega⟩, ih (by omega)]
  simp [moreR]
theorem grp_next (s1 k1 : Int) (t1 : ByteArray) (at_ : List Int) (b : Int) (m r : Nat) (hm : 0 < m) (hj : ¬ at_.getD m 0 = at_.getD (m - 1) 0 + 1) (h : ∀ j : Nat, j < r → at_.getD (m + j) 0 = b + j) : ∀ i, i < r → grpR s1 k1 t1 at_ (m + i + 1) = ⟨s1, k1, b, ((i + 1 : Nat) : Int), t1⟩ :: grpR s1 k1 t1 at_ m := by
 intro i
 induction i with
 | zero =>
  intro hr
  rw [Nat.add_zero, grpR, if_neg (by rintro ⟨_, h⟩; exact hj h), show at_.getD m 0 = b by have := h 0 hr; simpa using this]
  rfl
 | succ i ih =>
  intro hr
  rw [show m + (i + 1) + 1 = (m + i + 1) + 1 by omega, grpR, if_pos ⟨by omega, by rw [show m + i + 1 = m + (i + 1) by omega, h (i + 1) hr, show m + (i + 1) - 1 = m + i by omega, h i (by omega)]; omega⟩, ih (by omega)]
  simp [moreR]
theorem getD_range (f : Nat → Int) (m j : Nat) (h : j < m) : ((List.range m).map f).getD j 0 = f j := by
 simp [List.getD_eq_getElem?_getD, h]
/-- THE REFERENCE'S ANSWER IS THE PROGRAM'S. -/
theorem pairs_eq {s1 k1 p1 n1 : Int} {t1 : ByteArray} {s2 k2 p2 n2 : Int} {t2 : ByteArray} (h : Two s1 k1 p1 n1 t1 s2 k2 p2 n2 t2) :
  inclR s1 k1 p1 n1 t1 s2 k2 p2 n2 t2 = ((inclP s1 k1 p1 n1 t1 s2 k2 p2 n2 t2).1.map toR, (inclP s1 k1 p1 n1 t1 s2 k2 p2 n2 t2).2) := by
 obtain ⟨⟨a1, a2, a3, a4, a5, a6, a7, a8⟩, hk1, hk2⟩ := h
 unfold inclR inclP
 rcases hk1 with rfl | ⟨rfl, b1⟩
 ·rw [if_pos rfl, if_pos rfl]
  rcases hk2 with ⟨rfl, c1, c2, c3⟩ | ⟨rfl, c1⟩
  ·rw [if_pos rfl, if_pos rfl, show szU t2 = lenU t2 by unfold szU; omega]
   split <;> rfl
  ·rw [if_neg (show ¬ ((2 : Int) = 1) by decide), if_neg (show ¬ ((2 : Int) = 1) by decide)]
   unfold goneR
   by_cases d1 : p1 ≤ p2
   ·rw [if_neg (by omega), if_pos d1, show p1 - max 0 (min (n2.toNat : Int) (p1 - p2)) = p1 by omega]
    rfl
   ·rw [if_neg d1]
    by_cases d2 : p2 + n2 < p1
    ·rw [if_neg (by omega), if_pos d2, show p1 - max 0 (min (n2.toNat : Int) (p1 - p2)) = p1 - n2 by omega]
     rfl
    ·rw [if_pos (by omega), if_neg d2, show p1 - max 0 (min (n2.toNat : Int) (p1 - p2)) = p2 by omega, show max 0 (min (n2.toNat : Int) (p1 - p2)) = p1 - p2 by omega]
     rfl
 ·rw [if_neg (show ¬ ((2 : Int) = 1) by decide), if_neg (show ¬ ((2 : Int) = 1) by decide)]
  rcases hk2 with ⟨rfl, c1, c2, c3⟩ | ⟨rfl, c1⟩
  ·rw [if_pos rfl, show szU t2 = lenU t2 by unfold szU; omega, lost_one, ats_one, List.length_map, List.length_range]
   by_cases d1 : p2 ≤ p1
   ·rw [if_pos d1, show n1.toNat = (n1.toNat - 1) + 1 by omega, grp_run s1 2 t1 _ (p1 + lenU t2) (n1.toNat - 1 + 1) (fun j hj => by rw [getD_range _ _ _ hj, if_pos (by omega)]; omega) _ (by omega), show ((n1.toNat - 1 + 1 : Nat) : Int) = n1 by omega]
    rfl
   ·rw [if_neg d1]
    by_cases d2 : p1 + n1 ≤ p2
    ·rw [if_pos d2, show n1.toNat = (n1.toNat - 1) + 1 by omega, grp_run s1 2 t1 _ p1 (n1.toNat - 1 + 1) (fun j hj => by rw [getD_range _ _ _ hj, if_neg (by omega)]) _ (by omega), show ((n1.toNat - 1 + 1 : Nat) : Int) = n1 by omega]
     rfl
    ·rw [if_neg d2]
     obtain ⟨m, hm⟩ : ∃ m : Nat, p2 = p1 + ((m + 1 : Nat) : Int) := ⟨(p2 - p1 - 1).toNat, by omega⟩
     obtain ⟨r, hr⟩ : ∃ r : Nat, n1 = ((m + 1 + r + 1 : Nat) : Int) := ⟨(n1 - 1).toNat - m - 1, by omega⟩
     have e := grp_next s1 2 t1 ((List.range n1.toNat).map (fun i : Nat => if p2 ≤ p1 + i then p1 + i + lenU t2 else p1 + i)) (p2 + lenU t2) (m + 1) (r + 1) (by omega)
      (by rw [getD_range _ _ _ (by omega), getD_range _ _ _ (by omega), if_pos (by omega), if_neg (by omega)]; omega)
      (fun j hj => by rw [getD_range _ _ _ (by omega), if_pos (by omega)]; omega) r (by omega)
     rw [show n1.toNat = m + 1 + r + 1 by omega] at e ⊢
     rw [e, grp_run s1 2 t1 _ p1 (m + 1) (fun j hj => by rw [getD_range _ _ _ (by omega), if_neg (by omega)]) m (by omega), show n1 - (p2 - p1) = ((r + 1 : Nat) : Int) by omega, show p2 - p1 = ((m + 1 : Nat) : Int) by omega]
     rfl
  ·rw [if_neg (show ¬ ((2 : Int) = 1) by decide), lost_two _ _ _ a7, ats_two _ _ _ _ a1 a5 a7, List.length_map, List.length_range, show ((n1.toNat : Nat) : Int) = n1 by omega]
   obtain ⟨l, hl⟩ : ∃ l, (n1 - max 0 (min (p1 + n1) (p2 + n2) - max p1 p2)).toNat = l := ⟨_, rfl⟩
   rw [hl]
   by_cases d1 : p1 + n1 ≤ p2
   ·rw [if_pos d1, if_pos (show min (p1 + n1) (p2 + n2) ≤ max p1 p2 by omega), if_pos (show p1 ≤ p2 by omega)]
    rw [show l = (n1.toNat - 1) + 1 by omega, grp_run s1 2 t1 _ p1 (n1.toNat - 1 + 1) (fun j hj => by rw [getD_range _ _ _ hj]) _ (by omega), show ((n1.toNat - 1 + 1 : Nat) : Int) = n1 by omega]
    rfl
   ·rw [if_neg d1]
    by_cases d2 : p2 + n2 ≤ p1
    ·rw [if_pos (show min (p1 + n1) (p2 + n2) ≤ max p1 p2 by omega), if_neg (show ¬ p1 ≤ p2 by omega), if_pos d2, if_pos d2]
     rw [show l = (n1.toNat - 1) + 1 by omega, grp_run s1 2 t1 _ (p1 - n2) (n1.toNat - 1 + 1) (fun j hj => by rw [getD_range _ _ _ hj]) _ (by omega), show ((n1.toNat - 1 + 1 : Nat) : Int) = n1 by omega]
     rfl
    ·rw [if_neg (show ¬ min (p1 + n1) (p2 + n2) ≤ max p1 p2 by omega), if_neg d2, if_neg d2]
     by_cases d3 : n1 = min (p1 + n1) (p2 + n2) - max p1 p2
     ·rw [if_pos d3, show l = 0 by omega]
      rfl
     ·rw [if_neg d3]
      have hs : (if p1 ≤ p2 then p1 else p2) = min p1 p2 := by
       split <;> omega
      rw [hs, show l = (l - 1) + 1 by omega, grp_run s1 2 t1 _ (min p1 p2) (l - 1 + 1) (fun j hj => by rw [getD_range _ _ _ hj]) _ (by omega), show ((l - 1 + 1 : Nat) : Int) = n1 - (min (p1 + n1) (p2 + n2) - max p1 p2) by omega]
      rfl
end Go.Proofs.YtmkmpjkgpnahnaaDoor.X
