/-
  Layer 29's reference texts, as functions on lists: by this session. Conditions: as typed.
-/
import Derived.Test.YtmkmpjkgpnahnaaDoorRefJ
import Derived.Test.YtmkmpjkgpnahnaaDoorIncl
import Derived.Test.YtmkmpjkgpnahnaaDoorPx8
import Derived.Test.YtmkmpjkgpnahnaaDoorPx9
import Derived.Test.YtmkmpjkgpnahnaaDoorPx4
namespace Go.Proofs.YtmkmpjkgpnahnaaDoor.X
open Go Go.RowKit Go.Shelf Go.Proofs.YtmkmpjkgpnahnaaDoorW.PrintWords Go.Proofs.YtmkmpjkgpnahnaaDoor.P
set_option linter.unusedVariables false

/-- More than statements look at? -/
def greatB (t : ByteArray) (l : List S23) : Bool := decide (600 < t.size) || (decide (30 < l.length) || l.any fun d => decide (1000 < d.f4.size))
theorem rd23 (l : List S23) (i : Nat) (h : i < l.length) : rd_T23 l (i : Int) = l[i] := by
  simp [rd_T23, List.getD_eq_getElem?_getD, List.getElem?_eq_getElem h]
theorem rd33 (l : List S33) (i : Nat) (h : i < l.length) : rd_T33 l (i : Int) = l[i] := by
  simp [rd_T33, List.getD_eq_getElem?_getD, List.getElem?_eq_getElem h]
theorem great_l0 (l : List S23) (hl : l.length ≤ 30) : ∀ (f k i : Nat), l.length = i + f → foolscaplaw29_great.l0 (k + f + 1) l (i : Int) = some ((l.drop i).any fun d => decide (1000 < d.f4.size)) := by
  intro f
  induction f with
  | zero =>
    intro k i hi
    simp only [foolscaplaw29_great.l0]
    rw [if_neg (by omega), List.drop_eq_nil_of_le (by omega)]
    rfl
  | succ f ih =>
    intro k i hi
    have hlt : i < l.length := by omega
    rw [show k + (f + 1) + 1 = (k + f + 1) + 1 by omega]
    rw [foolscaplaw29_great.l0, if_pos (by omega), if_pos (by omega), rd23 l i hlt, List.drop_eq_getElem_cons hlt, List.any_cons]
    by_cases hg : 1000 < l[i].f4.size
    · rw [if_pos (by omega), decide_eq_true hg]
      rfl
    · rw [if_neg (by omega), decide_eq_false hg, show wrap64 ((i : Int) + 1) = ((i + 1 : Nat) : Int) by unfold wrap64; omega, ih k (i + 1) (by omega)]
      rfl
theorem great_ev (t : ByteArray) (l : List S23) : Ev (fun k => foolscaplaw29_great.f k t l) (greatB t l) := by
  refine ⟨40, fun k hk => ?_⟩
  obtain ⟨m, rfl⟩ : ∃ m, k = m + 1 := ⟨k - 1, by omega⟩
  simp only [foolscaplaw29_great.f, foolscaplaw29_great.j0, greatB]
  by_cases h1 : 600 < t.size
  · rw [if_pos (by omega), if_pos trivial, decide_eq_true h1]
    rfl
  · rw [if_neg (by omega), decide_eq_false h1]
    by_cases h2 : 30 < l.length
    · rw [decide_eq_true h2, decide_eq_true (by omega : (l.length : Int) > 30), if_pos rfl]
      rfl
    · rw [decide_eq_false h2, decide_eq_false (by omega : ¬ (l.length : Int) > 30), if_neg (by simp)]
      have := great_l0 l (by omega) l.length (m - l.length - 1) 0 (by omega)
      rw [show m - l.length - 1 + l.length + 1 = m by omega] at this
      simpa using this
theorem may29_ev (s kd p l : Int) (t : ByteArray) (n : Int) (hn : 0 ≤ n) : Ev (fun k => foolscapref29_May.f k s kd p l t n) (mayB s kd p l t n) := by
  obtain ⟨K, hK⟩ : ∃ K, ∀ k, K ≤ k → t.size ≤ 800 → foolscapref01_Len.f k t = some (lenU t) := by
    by_cases h : t.size ≤ 800
    · obtain ⟨K, hK⟩ := len_ev t (by omega)
      exact ⟨K, fun k hk _ => hK k hk⟩
    · exact ⟨0, fun _ _ h' => absurd h' h⟩
  refine ⟨K + 2, fun k hk => ?_⟩
  obtain ⟨m, rfl⟩ : ∃ m, k = m + 1 := ⟨k - 1, by omega⟩
  have hL := hK m (by omega)
  simp only [foolscapref29_May.f, foolscapref29_May.j0]
  rw [if_neg (by omega)]
  by_cases a2 : n ≤ 20000
  · rw [if_neg (by omega)]
    by_cases a3 : 1 ≤ s
    · rw [if_neg (by omega)]
      by_cases a4 : s ≤ 16
      · rw [decide_eq_false (by omega : ¬ s > 16), if_neg (by simp)]
        by_cases b1 : kd = 1
        · subst b1
          rw [if_pos rfl]
          by_cases b5 : t.size ≤ 800
          · rw [if_neg (by omega), hL b5, Option.bind_some]
            by_cases b2 : (0 : Int) ≤ p <;> by_cases b3 : p ≤ n <;> by_cases b4 : l = 0 <;> by_cases b6 : (1 : Int) ≤ lenU t <;>
              simp [b2, b3, b4, b6, b5, a2, a3, a4, hn, mayB]
          · rw [if_pos (by omega)]
            simp [mayB, b5]
        · rw [if_neg b1]
          by_cases b1' : kd = 2
          · subst b1'
            rw [if_pos rfl]
            by_cases b2 : (0 : Int) ≤ p
            · rw [if_pos (by omega)]
              by_cases b3 : p < n
              · rw [if_pos b3, show wrap64 (n - p) = n - p by unfold wrap64; omega]
                have b3' : p ≤ n - 1 := by omega
                by_cases b4 : (1 : Int) ≤ l <;> by_cases b5 : l ≤ n - p <;> simp [b4, b5, b2, b3', a2, a3, a4, hn, mayB]
                generalize t.toList = q
                cases q <;> simp
              · rw [if_neg b3]
                have b3' : ¬ p ≤ n - 1 := by omega
                simp [mayB, b3']
            · rw [if_neg (by omega)]
              simp [mayB, b2]
          · rw [if_neg b1']
            simp [mayB, b1, b1']
      · rw [decide_eq_true (by omega : s > 16), if_pos rfl]
        simp [mayB, a4]
    · rw [if_pos (by omega), if_pos trivial]
      simp [mayB, a3]
  · rw [if_pos (by omega), if_pos trivial]
    simp [mayB, a2]
def textL (t : ByteArray) : List Int := match textOf t with | some l => l | none => []
/-- A deed upon runes. -/
def doM (r : List Int) (d : S23) : Option (List Int) :=
  if mayB d.f0 d.f1 d.f2 d.f3 d.f4 r.length = true then some (r.take d.f2.toNat ++ textL d.f4 ++ r.drop (d.f2 + d.f3).toNat) else none
def runM : List Int → List S23 → Option (List Int)
  | r, [] => some r
  | r, d :: l => (doM r d).bind fun r => runM r l
def runR (t : ByteArray) (l : List S23) : ByteArray × Int :=
  match textOf t with
  | none => (⟨#[]⟩, 2)
  | some r => match runM r l with
    | none => (⟨#[]⟩, 1)
    | some r => (strOf r, 0)
theorem loop_app (bs : ByteArray) : ∀ (d i : Nat) (r : List UInt8), bs.size - i = d → (ByteArray.toList.loop bs i r).length = r.length + d := by
  intro d
  induction d with
  | zero =>
    intro i r h
    rw [ByteArray.toList.loop, if_neg (by omega)]
    simp
  | succ d ih =>
    intro i r h
    rw [ByteArray.toList.loop, if_pos (by omega), ih (i + 1) _ (by omega)]
    simp
    omega
theorem size_of_nil {t : ByteArray} (h : t.toList = []) : t.size = 0 := by
  have := loop_app t t.size 0 [] (by omega)
  have e : (ByteArray.toList.loop t 0 []).length = t.toList.length := rfl
  rw [e, h] at this
  simpa using this.symm
theorem mayB_of {s kd p l : Int} {t : ByteArray} {n : Int} (h : mayB s kd p l t n = true) :
    0 ≤ n ∧ n ≤ 20000 ∧ 1 ≤ s ∧ s ≤ 16 ∧ 0 ≤ p ∧ p ≤ n ∧ 0 ≤ l ∧ p + l ≤ n ∧ t.size ≤ 800 ∧ ((kd = 1 ∧ l = 0 ∧ 1 ≤ lenU t ∧ lenU t ≤ 200) ∨ (kd = 2 ∧ p < n ∧ 1 ≤ l ∧ t.toList = [])) := by
  unfold mayB at h
  rw [decide_eq_true_eq] at h
  obtain ⟨a1, a2, a3, a4, h⟩ := h
  rcases h with ⟨b1, b2, b3, b4, b5, b6, b7⟩ | ⟨b1, b2, b3, b4, b5, b6⟩
  · exact ⟨a1, a2, a3, a4, b2, b3, by omega, by omega, b5, .inl ⟨b1, b4, b6, b7⟩⟩
  · have hz : t.size = 0 := size_of_nil b6
    exact ⟨a1, a2, a3, a4, b2, by omega, by omega, by omega, by omega, .inr ⟨b1, by omega, b4, b6⟩⟩
theorem textL_len (t : ByteArray) : (textL t).length ≤ t.size := by
  unfold textL
  cases h : textOf t with
  | none => simp
  | some l => exact text_len h
theorem textL_runes (t : ByteArray) : allRunes (textL t) = true := by
  unfold textL
  cases h : textOf t with
  | none => rfl
  | some l => exact (text_str h).2
theorem run_l0 (l : List S23) (hl : l.length ≤ 1000) : ∀ (f i : Nat) (r : List Int), l.length = i + f → r.length ≤ 21000 → allRunes r = true →
    Ev (fun k => foolscapref29_Run.l0 k l r (i : Int)) (match runM r (l.drop i) with | none => (⟨#[]⟩, 1) | some r => (strOf r, 0)) := by
  intro f
  induction f with
  | zero =>
    intro i r hi hr ha
    obtain ⟨K, hK⟩ := join_ev r (by omega)
    refine ⟨K + 1, fun k hk => ?_⟩
    obtain ⟨m, rfl⟩ : ∃ m, k = m + 1 := ⟨k - 1, by omega⟩
    have h : foolscapref01_Join.f m r = _ := hK m (by omega)
    simp only [foolscapref29_Run.l0]
    rw [if_neg (by omega), h, List.drop_eq_nil_of_le (by omega), if_pos ha]
    rfl
  | succ f ih =>
    intro i r hi hr ha
    have hlt : i < l.length := by omega
    obtain ⟨K1, h1⟩ := may29_ev l[i].f0 l[i].f1 l[i].f2 l[i].f3 l[i].f4 (r.length : Int) (by omega)
    rw [List.drop_eq_getElem_cons hlt, runM]
    unfold doM
    by_cases hm : mayB l[i].f0 l[i].f1 l[i].f2 l[i].f3 l[i].f4 r.length = true
    · rw [if_pos hm]
      obtain ⟨a1, a2, a3, a4, b2, b3, b4, b5, b6, _⟩ := mayB_of hm
      obtain ⟨K2, h2⟩ := split_ev l[i].f4 (by omega)
      have htl := textL_len l[i].f4
      have e1 : (r.take l[i].f2.toNat).length = l[i].f2.toNat := by rw [List.length_take]; omega
      have e2 : (r.drop (l[i].f2 + l[i].f3).toNat).length = r.length - (l[i].f2 + l[i].f3).toNat := List.length_drop
      have e3 : (r.take l[i].f2.toNat ++ textL l[i].f4 ++ r.drop (l[i].f2 + l[i].f3).toNat).length ≤ 21000 := by
        rw [List.length_append, List.length_append, e1, e2]
        omega
      have e4 : allRunes (r.take l[i].f2.toNat ++ textL l[i].f4 ++ r.drop (l[i].f2 + l[i].f3).toNat) = true := by
        rw [allRunes_append, allRunes_append, allRunes_take ha, allRunes_drop ha, textL_runes]
        rfl
      obtain ⟨K3, h3⟩ := ih (i + 1) _ (by omega) e3 e4
      rw [Option.bind_some]
      refine ⟨K1 + K2 + K3 + 1, fun k hk => ?_⟩
      obtain ⟨m, rfl⟩ : ∃ m, k = m + 1 := ⟨k - 1, by omega⟩
      have g1 : foolscapref29_May.f m l[i].f0 l[i].f1 l[i].f2 l[i].f3 l[i].f4 (r.length : Int) = _ := h1 m (by omega)
      obtain ⟨b, g2⟩ : ∃ b, foolscapref01_Split.f m l[i].f4 = some (textL l[i].f4, b) := by
        have e := h2 m (by omega)
        dsimp only at e
        unfold textL
        cases hq : textOf l[i].f4 with
        | none => rw [hq] at e; exact ⟨_, e⟩
        | some q => rw [hq] at e; exact ⟨_, e⟩
      have g3 := h3 m (by omega)
      dsimp only at g3
      simp only [foolscapref29_Run.l0]
      rw [if_pos (by omega), if_pos (by omega), rd23 l i hlt, g1, Option.bind_some, if_pos hm, g2, Option.bind_some, Option.bind_some, if_pos b2, if_pos b3, Option.bind_some]
      simp only [List.nil_append]
      rw [if_pos (by rw [e1]; simp; omega), Option.bind_some, if_pos (by rw [e1]; omega), Option.bind_some, show wrap64 (l[i].f2 + l[i].f3) = l[i].f2 + l[i].f3 by unfold wrap64; omega, if_pos (by omega), if_pos (by omega), Option.bind_some,
        if_pos (by rw [List.length_append, e1, e2]; omega), show wrap64 ((i : Int) + 1) = ((i + 1 : Nat) : Int) by unfold wrap64; omega]
      exact g3
    · rw [if_neg hm]
      refine ⟨K1 + 1, fun k hk => ?_⟩
      obtain ⟨m, rfl⟩ : ∃ m, k = m + 1 := ⟨k - 1, by omega⟩
      have g1 : foolscapref29_May.f m l[i].f0 l[i].f1 l[i].f2 l[i].f3 l[i].f4 (r.length : Int) = _ := h1 m (by omega)
      simp only [foolscapref29_Run.l0]
      rw [if_pos (by omega), if_pos (by omega), rd23 l i hlt, g1, Option.bind_some, if_neg hm]
      rfl
theorem run29_ev (t : ByteArray) (l : List S23) (ht : t.size ≤ 21000) (hl : l.length ≤ 1000) : Ev (fun k => foolscapref29_Run.f k t l) (runR t l) := by
  obtain ⟨K1, h1⟩ := split_ev t (by omega)
  unfold runR
  cases hx : textOf t with
  | none =>
    refine ⟨K1, fun k hk => ?_⟩
    have g1 : foolscapref01_Split.f k t = _ := h1 k hk
    rw [hx] at g1
    simp only [foolscapref29_Run.f]
    rw [g1]
    rfl
  | some r =>
    have := text_len hx
    obtain ⟨K2, h2⟩ := run_l0 l hl l.length 0 r (by omega) (by omega) (text_str hx).2
    refine ⟨K1 + K2, fun k hk => ?_⟩
    have g1 : foolscapref01_Split.f k t = _ := h1 k (by omega)
    have g2 := h2 k (by omega)
    dsimp only at g2
    rw [hx] at g1
    simp only [foolscapref29_Run.f]
    rw [g1, Option.bind_some, if_pos rfl]
    exact g2
/-- A deed, as the document has it. -/
def toR (d : S33) : S23 := ⟨d.f0, d.f1, d.f2, d.f3, d.f4⟩
theorem plain_l0 (l : List S33) (hl : l.length ≤ 1000) : ∀ (f k i : Nat) (acc : List S23), l.length = i + f → acc.length = i → foolscaplaw29_Plain.l0 (k + f + 1) l acc (i : Int) = some (acc ++ (l.drop i).map toR) := by
  intro f
  induction f with
  | zero =>
    intro k i acc hi ha
    rw [foolscaplaw29_Plain.l0, if_neg (by omega), List.drop_eq_nil_of_le (by omega)]
    simp
  | succ f ih =>
    intro k i acc hi ha
    have hlt : i < l.length := by omega
    rw [show k + (f + 1) + 1 = (k + f + 1) + 1 by omega]
    rw [foolscaplaw29_Plain.l0, if_pos (by omega), if_pos (by omega), if_pos (by omega), rd33 l i hlt, show wrap64 ((i : Int) + 1) = ((i + 1 : Nat) : Int) by unfold wrap64; omega, ih k (i + 1) _ (by omega) (by simp [ha]), List.drop_eq_getElem_cons hlt, List.map_cons, List.append_assoc]
    rfl
theorem plain_ev (l : List S33) (hl : l.length ≤ 1000) : Ev (fun k => foolscaplaw29_Plain.f k l) (l.map toR) := by
  refine ⟨l.length + 1, fun k hk => ?_⟩
  have := plain_l0 l hl l.length (k - l.length - 1) 0 [] (by omega) rfl
  rw [show k - l.length - 1 + l.length + 1 = k by omega] at this
  simpa [foolscaplaw29_Plain.f] using this
end Go.Proofs.YtmkmpjkgpnahnaaDoor.X
