/-
  Where the line feeds of a list of runes stand, and the two stacks that hold them: plain facts of lists: by this session. Conditions: as typed.
-/
import Derived.WalkKit
namespace Go.Proofs.YtfhnepihbofabaaDoor.X
open Go
set_option linter.unusedVariables false
/-- The places of the line feeds. -/
def fa : List Int → List Int
  | [] => []
  | r :: B => (if r = 10 then [0] else []) ++ (fa B).map (· + 1)
theorem fa_append (A B : List Int) : fa (A ++ B) = fa A ++ (fa B).map (· + (A.length : Int)) := by
  induction A with
  | nil => simp [fa]
  | cons r A ih =>
    show (if r = 10 then [0] else []) ++ (fa (A ++ B)).map (· + 1) = ((if r = 10 then [0] else []) ++ (fa A).map (· + 1)) ++ _
    rw [ih, List.map_append, List.map_map, List.append_assoc]
    congr 2
    apply List.map_congr_left
    intro x _
    show x + (A.length : Int) + 1 = x + ((A.length + 1 : Nat) : Int)
    omega
theorem fa_snoc (A : List Int) (r : Int) : fa (A ++ [r]) = fa A ++ (if r = 10 then [(A.length : Int)] else []) := by
  rw [fa_append]
  by_cases h : r = 10
  · simp [fa, h]
  · simp [fa, h]
theorem fa_rev (B : List Int) : (fa B.reverse).reverse = (fa B).map (fun x => (B.length : Int) - 1 - x) := by
  induction B with
  | nil => rfl
  | cons r B ih =>
    rw [List.reverse_cons, fa_snoc, List.reverse_append, ih]
    show _ = ((if r = 10 then [0] else []) ++ (fa B).map (· + 1)).map _
    rw [List.map_append, List.map_map]
    congr 1
    · by_cases h : r = 10
      · simp [h]
      · simp [h]
    · apply List.map_congr_left
      intro x _
      show (B.length : Int) - 1 - x = ((B.length + 1 : Nat) : Int) - 1 - (x + 1)
      omega
theorem fa_mem {l : List Int} {x : Int} (h : x ∈ fa l) : 0 ≤ x ∧ x < (l.length : Int) := by
  induction l generalizing x with
  | nil => cases h
  | cons r B ih =>
    rcases List.mem_append.1 h with h | h
    · split at h
      · rw [List.mem_singleton] at h
        subst h
        exact ⟨by omega, by simp⟩
      · cases h
    · obtain ⟨y, hy, rfl⟩ := List.mem_map.1 h
      have := ih hy
      refine ⟨by omega, ?_⟩
      show y + 1 < ((B.length + 1 : Nat) : Int)
      omega
theorem fa_sorted (l : List Int) : (fa l).Pairwise (· < ·) := by
  induction l with
  | nil => exact List.Pairwise.nil
  | cons r B ih =>
    show ((if r = 10 then [0] else []) ++ (fa B).map (· + 1)).Pairwise (· < ·)
    rw [List.pairwise_append]
    refine ⟨by split <;> simp, ?_, fun a ha b hb => ?_⟩
    · rw [List.pairwise_map]
      exact ih.imp (fun h => by omega)
    · obtain ⟨y, hy, rfl⟩ := List.mem_map.1 hb
      have := fa_mem hy
      split at ha
      · rw [List.mem_singleton] at ha
        omega
      · cases ha
theorem fa_len (l : List Int) : (fa l).length ≤ l.length := by
  induction l with
  | nil => exact Nat.le_refl _
  | cons r B ih =>
    show ((if r = 10 then [0] else []) ++ (fa B).map (· + 1)).length ≤ B.length + 1
    rw [List.length_append, List.length_map]
    have h1 : (if r = 10 then [(0 : Int)] else []).length ≤ 1 := by split <;> simp
    omega
/-- Both stacks hold all feeds. -/
def Tot (n : Nat) (F ah be : List Int) : Prop := ah ++ be.reverse.map (fun y => (n : Int) - 1 - y) = F
theorem tot_down {n : Nat} {F ah be : List Int} {x : Int} (h : Tot n F (ah ++ [x]) be) : Tot n F ah (be ++ [(n : Int) - 1 - x]) := by
  unfold Tot at *
  rw [← h, List.reverse_append, List.map_append, List.append_assoc]
  congr 1
  show [(n : Int) - 1 - ((n : Int) - 1 - x)] ++ _ = _
  rw [show (n : Int) - 1 - ((n : Int) - 1 - x) = x by omega]
theorem tot_up {n : Nat} {F ah be : List Int} {y : Int} (h : Tot n F ah (be ++ [y])) : Tot n F (ah ++ [(n : Int) - 1 - y]) be := by
  unfold Tot at *
  rw [← h, List.reverse_append, List.map_append, List.append_assoc]
  rfl
theorem fa_turn (A B : List Int) : (fa B).map (· + (A.length : Int)) = (fa B.reverse).reverse.map (fun y => ((A ++ B).length : Int) - 1 - y) := by
  rw [fa_rev, List.map_map]
  apply List.map_congr_left
  intro x _
  show x + (A.length : Int) = ((A ++ B).length : Int) - 1 - ((B.length : Int) - 1 - x)
  rw [List.length_append]
  omega
theorem tot_start (A B : List Int) : Tot (A ++ B).length (fa (A ++ B)) (fa A) (fa B.reverse) := by
  unfold Tot
  rw [fa_append, fa_turn]
theorem sorted_last {l : List Int} (hs : l.Pairwise (· < ·)) {n : Int} (h : ∀ x, l.getLast? = some x → x < n) : ∀ x ∈ l, x < n := by
  intro x hx
  rcases List.eq_nil_or_concat l with h0 | ⟨l', y, h0⟩
  · rw [h0] at hx; cases hx
  · rw [List.concat_eq_append] at h0
    subst h0
    have hy := h y (by simp)
    rcases List.mem_append.1 hx with h1 | h1
    · exact Int.lt_trans ((List.pairwise_append.1 hs).2.2 x h1 y (by simp)) hy
    · rw [List.mem_singleton] at h1
      omega
theorem sorted_head {l : List Int} (hs : l.Pairwise (· < ·)) {n : Int} (h : ∀ x, l.head? = some x → n ≤ x) : ∀ x ∈ l, n ≤ x := by
  intro x hx
  cases l with
  | nil => cases hx
  | cons y l =>
    have hy := h y rfl
    rcases List.mem_cons.1 hx with h1 | h1
    · omega
    · have := (List.pairwise_cons.1 hs).1 x h1
      omega
theorem cut_unique {P Q P' Q' : List Int} {n : Int} (h : P ++ Q = P' ++ Q') (h1 : ∀ x ∈ P, x < n) (h2 : ∀ x ∈ Q, n ≤ x) (h3 : ∀ x ∈ P', x < n) (h4 : ∀ x ∈ Q', n ≤ x) : P = P' ∧ Q = Q' := by
  have hp : P = P' := by
    have e := congrArg (List.filter (fun x => decide (x < n))) h
    have f1 : ∀ R : List Int, (∀ x ∈ R, x < n) → R.filter (fun x => decide (x < n)) = R := fun R hR => List.filter_eq_self.2 (fun x hx => by simpa using hR x hx)
    have f2 : ∀ R : List Int, (∀ x ∈ R, n ≤ x) → R.filter (fun x => decide (x < n)) = [] := fun R hR => List.filter_eq_nil_iff.2 (fun x hx => by have := hR x hx; simp; omega)
    rw [List.filter_append, List.filter_append, f1 P h1, f2 Q h2, f1 P' h3, f2 Q' h4, List.append_nil, List.append_nil] at e
    exact e
  subst hp
  exact ⟨rfl, List.append_cancel_left h⟩
theorem tot_end {A B ah be : List Int} (h : Tot (A ++ B).length (fa (A ++ B)) ah be) (ha : ∀ x, ah.getLast? = some x → x < (A.length : Int)) (hb : ∀ y, be.getLast? = some y → (A.length : Int) ≤ ((A ++ B).length : Int) - 1 - y) : ah = fa A ∧ be = fa B.reverse := by
  unfold Tot at h
  have hs := fa_sorted (A ++ B)
  rw [← h, List.pairwise_append] at hs
  rw [fa_append, fa_turn] at h
  obtain ⟨e1, e2⟩ := cut_unique (n := (A.length : Int)) h (sorted_last hs.1 ha) (sorted_head hs.2.1 (fun x hx => by
      rw [List.head?_map, List.head?_reverse, Option.map_eq_some_iff] at hx
      obtain ⟨y, hy, rfl⟩ := hx
      exact hb y hy)) (fun x hx => (fa_mem hx).2) (fun x hx => by
      rw [← fa_turn] at hx
      obtain ⟨y, hy, rfl⟩ := List.mem_map.1 hx
      have := (fa_mem hy).1
      omega)
  refine ⟨e1, ?_⟩
  have hinj : ∀ (P Q : List Int), P.map (fun y => ((A ++ B).length : Int) - 1 - y) = Q.map (fun y => ((A ++ B).length : Int) - 1 - y) → P = Q := by
    intro P
    induction P with
    | nil => intro Q hq; cases Q with
      | nil => rfl
      | cons _ _ => cases hq
    | cons p P ih => intro Q hq; cases Q with
      | nil => cases hq
      | cons q Q =>
        rw [List.map_cons, List.map_cons] at hq
        obtain ⟨h1, h2⟩ := List.cons.inj hq
        rw [ih Q h2, show p = q by omega]
  have := congrArg List.reverse (hinj _ _ e2)
  simpa using this
theorem tot_last {n : Nat} {F ah be : List Int} {y : Int} (h : Tot n F ah be) (hF : ∀ x ∈ F, 0 ≤ x ∧ x < (n : Int)) (hy : y ∈ be) : 0 ≤ y ∧ y < (n : Int) := by
  have := hF ((n : Int) - 1 - y) (by
    unfold Tot at h
    rw [← h]
    exact List.mem_append_right _ (List.mem_map.2 ⟨y, by simpa using hy, rfl⟩))
  omega
theorem tot_len {n : Nat} {F ah be : List Int} (h : Tot n F ah be) : ah.length + be.length = F.length := by
  unfold Tot at h
  rw [← h]
  simp
end Go.Proofs.YtfhnepihbofabaaDoor.X
