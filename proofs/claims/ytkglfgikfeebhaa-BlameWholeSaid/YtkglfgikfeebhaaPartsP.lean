/-
  The parts of cells, by the program and by the reference, and whose a rune is: on plain lists: by this session. Conditions: as typed.
-/
import Derived.Test.YtkglfgikfeebhaaParts
import Derived.Test.YtkglfgikfeebhaaRefMay
import Derived.Test.YtkglfgikfeebhaaRound
import Derived.Test.YtkglfgikfeebhaaPx5
import Derived.Test.YtkglfgikfeebhaaPx7
namespace Go.Proofs.Ytkglfgikfeebhaa.X
open Go Go.RowKit Go.Lib Go.Proofs.YtkglfgikfeebhaaW.PrintWords Go.Proofs.Ytkglfgikfeebhaa.P
set_option linter.unusedVariables false
def toR (p : S33) : S31 := ⟨⟨p.f0.f0, p.f0.f1⟩, p.f1, p.f2, p.f3⟩
/-- What the parts of cells are, by the reference. -/
def refP (M : List S46) : List S31 := (partsOf 0 (runsOf goesB M)).map toR
theorem headD_snoc {r : List S46} (h : r ≠ []) (x d : S46) : (r ++ [x]).headD d = r.headD d := by
  cases r with
  | nil => exact absurd rfl h
  | cons a b => rfl
theorem refP_len (M : List S46) : (refP M).length = (runsOf goesB M).length := by rw [refP, List.length_map, partsOf_length]
theorem refP_small (M : List S46) (h : M.length ≤ 20000) : (refP M).length ≤ 20000 := by
  obtain ⟨h1, h2⟩ := runs_all goesB M
  have := fl_le _ h1
  rw [h2] at this
  rw [refP_len]
  omega
/-- A cell that goes on with the one ahead. -/
theorem refP_on (M : List S46) (y x : S46) (hl : M.length ≤ 19990) (h : goesB y x = true) : ∃ Q q, refP (M ++ [y]) = Q ++ [q] ∧ q.f3 = (q.f3.toNat : Int) ∧ q.f3 ≤ 19999 ∧ 1 ≤ q.f3 ∧ refP (M ++ [y] ++ [x]) = Q ++ [⟨q.f0, q.f1, q.f2, q.f3 + 1⟩] := by
  obtain ⟨⟨yss, r, h1⟩, h2, h3⟩ := runsOf_ends goesB M y
  have hm := fl_at (xss := runsOf goesB (M ++ [y])) (r := r ++ [y]) (by rw [h1]; simp)
  rw [h3] at hm
  simp only [List.length_append, List.length_singleton] at hm
  refine ⟨(partsOf 0 yss).map toR, toR _, by rw [refP, h1, partsOf_snoc, List.map_append]; rfl, ?_, ?_, ?_, ?_⟩
  · simp only [toR, Int.toNat_natCast]
  · simp only [toR, List.length_append, List.length_singleton]; omega
  · simp only [toR, List.length_append, List.length_singleton]; omega
  · rw [refP, runsOf_snoc, h1, addR_on h, partsOf_snoc, List.map_append, headD_snoc (by simp)]
    congr 1
    simp [toR]
    omega
theorem refP_new (M : List S46) (y x : S46) (h : goesB y x = false) : refP (M ++ [y] ++ [x]) = refP (M ++ [y]) ++ [⟨⟨x.f0.f0, x.f0.f1⟩, x.f1, ((M ++ [y]).length : Int), 1⟩] := by
  obtain ⟨⟨yss, r, h1⟩, h2, h3⟩ := runsOf_ends goesB M y
  rw [refP, runsOf_snoc, h1, addR_new h, ← h1, partsOf_snoc, List.map_append, h3]
  simp [toR, refP]
theorem refP_one (x : S46) : refP [x] = [⟨⟨x.f0.f0, x.f0.f1⟩, x.f1, 0, 1⟩] := rfl
theorem ref_parts_l0 (M : List S46) (hM : M.length ≤ 19000) : ∀ (f k i : Nat), M.length = i + f → foolscapref30_Parts.l0 (k + f + 1) M (refP (M.take i)) (i : Int) = some (refP M) := by
  intro f
  induction f with
  | zero =>
    intro k i hi
    obtain ⟨m, hm⟩ : ∃ m, k + 0 = m := ⟨_, rfl⟩
    rw [hm, foolscapref30_Parts.l0, if_neg (by omega), List.take_of_length_le (by omega)]
  | succ f ih =>
    intro k i hi
    have hlt : i < M.length := by omega
    have hs := refP_small (M.take i) (by rw [List.length_take]; omega)
    rw [show k + (f + 1) + 1 = (k + f + 1) + 1 by omega, foolscapref30_Parts.l0, if_pos (by omega), rd46 M i hlt, w_s i (by omega)]
    have htk : M.take (i + 1) = M.take i ++ [M[i]] := List.take_succ_eq_append_getElem hlt
    rcases Nat.eq_zero_or_pos i with h0 | h0
    · subst h0
      rw [if_neg (by omega), if_pos (by omega), if_pos (by omega), ← ih k 1 (by omega), show M.take 1 = [M[0]] from htk, refP_one]
      rfl
    · obtain ⟨j, rfl⟩ : ∃ j, i = j + 1 := ⟨i - 1, by omega⟩
      have hj : j < M.length := by omega
      have hw : wrap64 (((j + 1 : Nat) : Int) - 1) = (j : Int) := by unfold wrap64; omega
      have htk2 : M.take (j + 1) = M.take j ++ [M[j]] := List.take_succ_eq_append_getElem hj
      rw [hw, rd46 M j hj, if_pos (by omega), if_pos (by omega), if_pos (by omega), if_pos (by omega)]
      have hg : goesB M[j] M[j + 1] = ((M[j + 1].f0.f0 == M[j].f0.f0 && M[j + 1].f0.f1 == M[j].f0.f1) && decide (M[j + 1].f1 = wrap64 (M[j].f1 + 1))) := by
        unfold goesB
        congr 1
        · rw [Bool.beq_comm (a := M[j].f0.f0), Bool.beq_comm (a := M[j].f0.f1)]
        · rw [Bool.beq_comm]; rfl
      by_cases hon : goesB M[j] M[j + 1] = true
      · obtain ⟨Q, q, h1, h2, h3, h4, h5⟩ := refP_on (M.take j) M[j] M[j + 1] (by rw [List.length_take]; omega) hon
        rw [hg, Bool.and_eq_true, decide_eq_true_eq] at hon
        rw [if_pos hon.1, if_pos hon.2]
        rw [← htk2] at h1 h5
        rw [← htk] at h5
        have hQ : Q.length ≤ 20000 := by rw [h1, List.length_append] at hs; omega
        have hw2 : wrap64 (((refP (M.take (j + 1))).length : Int) - 1) = (Q.length : Int) := by rw [h1, List.length_append, List.length_singleton]; unfold wrap64; omega
        have hrd : rd_T31 (refP (M.take (j + 1))) (Q.length : Int) = q := by rw [h1]; simp [rd_T31, List.getD_eq_getElem?_getD]
        have hw3 : wrap64 (q.f3 + 1) = q.f3 + 1 := by unfold wrap64; omega
        rw [hw2, hrd, hw3, if_pos (by omega), if_pos (by rw [h1, List.length_append, List.length_singleton]; omega), ← ih k (j + 1 + 1) (by omega), h5]
        congr 1
        rw [h1]
        simp
      · have hon2 : goesB M[j] M[j + 1] = false := by simpa using hon
        have h5 := refP_new (M.take j) M[j] M[j + 1] hon2
        rw [← htk2, ← htk, List.length_take, Nat.min_eq_left (by omega)] at h5
        rw [hg] at hon
        by_cases ha : (M[j + 1].f0.f0 == M[j].f0.f0 && M[j + 1].f0.f1 == M[j].f0.f1) = true
        · rw [if_pos ha, if_neg (fun hb => hon (by rw [ha, decide_eq_true hb]; rfl)), if_pos (by omega), ← ih k (j + 1 + 1) (by omega), h5]
        · rw [if_neg ha, if_pos (by omega), ← ih k (j + 1 + 1) (by omega), h5]
/-- The parts, one behind the other. -/
def IvOk : Int → List S33 → Prop
  | _, [] => True
  | lo, p :: ps => p.f2 = lo ∧ 1 ≤ p.f3 ∧ IvOk (lo + p.f3) ps
theorem iv_partsOf : ∀ (xss : List (List S46)) (at_ : Int), (∀ r ∈ xss, r ≠ []) → IvOk at_ (partsOf at_ xss)
  | [], _, _ => trivial
  | r :: rs, at_, h => ⟨rfl, by have := List.length_pos_iff.2 (h r List.mem_cons_self); show (1 : Int) ≤ (r.length : Int); omega, iv_partsOf rs _ (fun q hq => h q (List.mem_cons_of_mem _ hq))⟩
theorem iv_mem : ∀ (P : List S33) (lo : Int), IvOk lo P → ∀ x ∈ P, lo ≤ x.f2 ∧ 1 ≤ x.f3
  | p :: ps, lo, h, x, hx => by
    rcases List.mem_cons.1 hx with rfl | hx
    · exact ⟨Int.le_of_eq h.1.symm, h.2.1⟩
    · have := iv_mem ps _ h.2.2 x hx
      have := h.2.1
      exact ⟨by omega, by omega⟩
theorem parts_hi : ∀ (xss : List (List S46)) (at_ : Int), ∀ x ∈ partsOf at_ xss, x.f2 + x.f3 ≤ at_ + (xss.flatten.length : Nat)
  | r :: rs, at_, x, hx => by
    rw [partsOf] at hx
    rw [List.flatten_cons, List.length_append, Int.natCast_add]
    rcases List.mem_cons.1 hx with rfl | hx
    · show at_ + (r.length : Int) ≤ _; omega
    · have := parts_hi rs _ x hx
      omega
/-- Does a part hold the place i? -/
def inP (i : Int) (p : S33) : Bool := decide (p.f2 ≤ i) && decide (i < p.f2 + p.f3)
theorem iv_apart : ∀ (A : List S33) (lo : Int) (p : S33) (B : List S33) (i : Int), IvOk lo (A ++ p :: B) → inP i p = true → ∀ q ∈ A, inP i q = false
  | [], _, _, _, _, _, _, q, hq => by cases hq
  | a :: A, lo, p, B, i, h, hp, q, hq => by
    have h1 := iv_mem (A ++ p :: B) _ h.2.2 p (by simp)
    simp only [inP, Bool.and_eq_true, decide_eq_true_eq] at hp
    rcases List.mem_cons.1 hq with rfl | hq
    · have := h.1
      simp only [inP, Bool.and_eq_false_iff, decide_eq_false_iff_not]
      right
      omega
    · exact iv_apart A _ p B i h.2.2 (by simp only [inP, Bool.and_eq_true, decide_eq_true_eq]; exact hp) q hq
/-- The part that holds i, with the code. -/
def findP (P : List S33) (i : Int) : Int × Int × Int × Int × Int × Int := match P.find? (inP i) with
  | some p => (p.f0.f0, p.f0.f1, p.f1, p.f2, p.f3, 0)
  | none => (0, 0, 0, 0, 0, 3)
theorem rd33 (l : List S33) (i : Nat) (h : i < l.length) : rd_T33 l (i : Int) = l[i] := by
  simp [rd_T33, List.getD_eq_getElem?_getD, List.getElem?_eq_getElem h]
theorem owner_l0 (P : List S33) (i : Int) (hP : P.length ≤ 20000) (hb : ∀ x ∈ P, 0 ≤ x.f2 ∧ 1 ≤ x.f3 ∧ x.f2 + x.f3 ≤ 20000) : ∀ (f k j : Nat), P.length = j + f → blame_Owner.l0 (k + f + 1) i P (P.length : Int) (j : Int) = some (findP (P.drop j) i) := by
  intro f
  induction f with
  | zero =>
    intro k j hj
    obtain ⟨m, hm⟩ : ∃ m, k + 0 = m := ⟨_, rfl⟩
    rw [hm, blame_Owner.l0, if_neg (by omega), List.drop_of_length_le (by omega)]
    rfl
  | succ f ih =>
    intro k j hj
    have hlt : j < P.length := by omega
    have hx := hb _ (List.getElem_mem hlt)
    have hw : wrap64 (P[j].f2 + P[j].f3) = P[j].f2 + P[j].f3 := by unfold wrap64; omega
    rw [show k + (f + 1) + 1 = (k + f + 1) + 1 by omega, blame_Owner.l0, if_pos (by omega), if_pos (by omega), if_pos (by omega), rd33 P j hlt, w_s j (by omega), hw, List.drop_eq_getElem_cons hlt]
    unfold findP
    rw [List.find?_cons]
    by_cases h1 : i ≥ P[j].f2
    · rw [if_pos h1]
      by_cases h2 : i < P[j].f2 + P[j].f3
      · rw [if_pos h2, show inP i P[j] = true by simp only [inP, Bool.and_eq_true, decide_eq_true_eq]; exact ⟨h1, h2⟩]
      · rw [if_neg h2, ih k (j + 1) (by omega), show inP i P[j] = false by simp only [inP, Bool.and_eq_false_iff, decide_eq_false_iff_not]; exact Or.inr h2]
        rfl
    · rw [if_neg h1, ih k (j + 1) (by omega), show inP i P[j] = false by simp only [inP, Bool.and_eq_false_iff, decide_eq_false_iff_not]; exact Or.inl h1]
      rfl
theorem live_len (l : List S46) : (liveL l).length ≤ l.length := List.length_filter_le _ _
/-- The reference's parts of cells. -/
def refT (l : List S46) : List S31 := if codeN l = 0 then refP (liveL l) else []
theorem ref_parts_f (l : List S46) (hl : l.length ≤ 19000) : ∃ k, foolscapref30_Parts.f k l = some (refT l) := by
  refine ⟨0 + l.length + 1 + (0 + l.length * (l.length + 2) + 1 + l.length + 1), ?_⟩
  unfold foolscapref30_Parts.f refT
  rw [may_ge l (by omega), Option.bind_some]
  by_cases h0 : codeN l = 0
  · have hM := live_len l
    rw [if_pos h0, if_pos h0, show 0 + l.length + 1 + (0 + l.length * (l.length + 2) + 1 + l.length + 1) = (0 + l.length * (l.length + 2) + 1 + l.length + 1) + l.length + 1 by omega, ref_live_f l (by omega), Option.bind_some]
    have h := ref_parts_l0 (liveL l) (by omega) (liveL l).length ((0 + l.length * (l.length + 2) + 1 + l.length + 1) + l.length - (liveL l).length) 0 (by omega)
    rw [show (0 + l.length * (l.length + 2) + 1 + l.length + 1) + l.length - (liveL l).length + (liveL l).length + 1 = (0 + l.length * (l.length + 2) + 1 + l.length + 1) + l.length + 1 by omega] at h
    exact h
  · rw [if_neg h0, if_neg h0]
/-- The program's parts. -/
def partT (l : List S46) : List S33 := if codeN l = 0 then partsOf 0 (runsOf goesB (liveL l)) else []
theorem refT_map (l : List S46) : refT l = (partT l).map toR := by
  unfold refT partT refP
  split <;> rfl
theorem partT_ok (l : List S46) (hl : l.length ≤ 19000) : IvOk 0 (partT l) ∧ (partT l).length ≤ l.length ∧ ∀ x ∈ partT l, 0 ≤ x.f2 ∧ 1 ≤ x.f3 ∧ x.f2 + x.f3 ≤ (l.length : Int) := by
  unfold partT
  split
  · obtain ⟨h1, h2⟩ := runs_all goesB (liveL l)
    have h3 := iv_partsOf _ 0 h1
    have h4 := live_len l
    have h5 := fl_le _ h1
    rw [h2] at h5
    refine ⟨h3, by rw [partsOf_length]; omega, fun x hx => ?_⟩
    have h6 := iv_mem _ _ h3 x hx
    have h7 := parts_hi _ _ x hx
    rw [h2] at h7
    omega
  · exact ⟨trivial, Nat.zero_le _, fun x hx => by cases hx⟩
def ownerT (l : List S46) (i : Int) : Int × Int × Int × Int × Int × Int := if codeN l = 0 then findP (partT l) i else (0, 0, 0, 0, 0, 1)
theorem owner_f (l : List S46) (hl : l.length ≤ 19000) (i : Int) : ∃ k, blame_Owner.f k l i = some (ownerT l i) := by
  obtain ⟨h1, h2, h3⟩ := partT_ok l hl
  refine ⟨0 + (partT l).length + 1, ?_⟩
  unfold blame_Owner.f blame_live.f ownerT
  rw [if_pos (by omega), Option.bind_some]
  by_cases h0 : codeN l = 0
  · have h := owner_l0 (partT l) i (by omega) (fun x hx => by have := h3 x hx; omega) (partT l).length 0 0 (by omega)
    have hp : blame_Parts.f l = some (partT l) := by
      unfold blame_Parts.f partT
      rw [if_pos (by omega)]
    rw [if_pos h0, if_pos h0, if_pos rfl, hp, Option.bind_some]
    exact h
  · rw [if_neg h0, if_neg h0, if_neg (by simp)]
end Go.Proofs.Ytkglfgikfeebhaa.X
