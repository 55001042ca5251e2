/-
  What diff.Diff tells, in plain Lean: its parts' texts, their form and their cost: by this session. Conditions: as typed.
-/
import Derived.Test.YtabhfloclcmjnaaDoorTxtD
import Derived.Test.YtabhfloclcmjnaaDoorPx4
namespace Go.Proofs.YtabhfloclcmjnaaDoor.X
open Go Go.RowKit Go.Shelf Go.Proofs.YtabhfloclcmjnaaDoorW.PrintWords Go.Proofs.YtabhfloclcmjnaaDoor.P Go.Proofs.YtabhfloclcmjnaaDoor.Lcs
set_option linter.unusedVariables false
def gP (k : Nat) (t : List Int) : List (Nat × List Int) := if t = [] then [] else [(k, t)]
/-- The parts, by kinds and runes. -/
def mrg3 : List S78 → List Int → List Int → List Int → List (Nat × List Int)
  | [], t0, t1, t2 => gP 0 t0 ++ (gP 2 t2 ++ gP 1 t1)
  | x :: l, t0, t1, t2 =>
    if x.f0 = 0 then gP 2 t2 ++ (gP 1 t1 ++ mrg3 l (t0 ++ [x.f1]) [] [])
    else if x.f0 = 2 then gP 0 t0 ++ mrg3 l [] t1 (t2 ++ [x.f1])
    else gP 0 t0 ++ mrg3 l [] (t1 ++ [x.f1]) t2
def encP (p : Nat × List Int) : S40 := ⟨(p.1 : Int), jn p.2⟩
theorem fl1_enc (k : Nat) (t : List Int) : fl1 k t = (gP k t).map encP := by
  unfold fl1 gP
  split <;> rfl
theorem mrgO_3 : ∀ (l : List S78) (T : Nat → List Int), (∀ x ∈ l, x.f0 = 0 ∨ x.f0 = 1 ∨ x.f0 = 2) → (T 0 = [] ∨ (T 1 = [] ∧ T 2 = [])) → mrgO l T = (mrg3 l (T 0) (T 1) (T 2)).map encP
  | [], T, _, _ => by
    simp only [mrgO, flO, mrg3, List.map_append, ← fl1_enc, List.append_nil]
    rfl
  | x :: l, T, hk, hT => by
    have hl := fun y hy => hk y (List.mem_cons_of_mem _ hy)
    simp only [mrgO, mrg3]
    rcases hk x (List.mem_cons_self ..) with h | h | h
    · rw [if_pos h]
      have hks : ksOf x = [2, 1] := if_pos h
      have hnx : nxtT T x = upd (upd (upd T 2 []) 1 []) 0 (T 0 ++ [x.f1]) := by
        unfold nxtT
        rw [hks, h]
        rfl
      rw [hks, hnx, mrgO_3 l _ hl (.inr ⟨rfl, rfl⟩)]
      simp only [flO, List.map_append, ← fl1_enc, List.append_nil, List.append_assoc]
      rfl
    · rw [if_neg (by omega), if_neg (by omega)]
      have hks : ksOf x = [0] := if_neg (by omega)
      have hnx : nxtT T x = upd (upd T 0 []) 1 (T 1 ++ [x.f1]) := by
        unfold nxtT
        rw [hks, h]
        rfl
      rw [hks, hnx, mrgO_3 l _ hl (.inl rfl)]
      simp only [flO, List.map_append, ← fl1_enc, List.append_nil]
      rfl
    · rw [if_neg (by omega), if_pos h]
      have hks : ksOf x = [0] := if_neg (by omega)
      have hnx : nxtT T x = upd (upd T 0 []) 2 (T 2 ++ [x.f1]) := by
        unfold nxtT
        rw [hks, h]
        rfl
      rw [hks, hnx, mrgO_3 l _ hl (.inl rfl)]
      simp only [flO, List.map_append, ← fl1_enc, List.append_nil]
      rfl
/-! ### what was, what is, what it costs -/
def wasP (l : List (Nat × List Int)) : List Int := (l.filter fun p => p.1 != 1).flatMap (·.2)
def nowP (l : List (Nat × List Int)) : List Int := (l.filter fun p => p.1 != 2).flatMap (·.2)
def costP (l : List (Nat × List Int)) : Nat := ((l.filter fun p => p.1 != 0).map fun p => p.2.length).sum
theorem wasP_append (a b : List (Nat × List Int)) : wasP (a ++ b) = wasP a ++ wasP b := by simp [wasP]
theorem nowP_append (a b : List (Nat × List Int)) : nowP (a ++ b) = nowP a ++ nowP b := by simp [nowP]
theorem costP_append (a b : List (Nat × List Int)) : costP (a ++ b) = costP a + costP b := by simp [costP]
theorem wasP_g (k : Nat) (t : List Int) : wasP (gP k t) = if k = 1 then [] else t := by
  unfold gP
  split
  · rename_i h; subst h; simp [wasP]
  · by_cases hk : k = 1 <;> simp [wasP, hk]
theorem nowP_g (k : Nat) (t : List Int) : nowP (gP k t) = if k = 2 then [] else t := by
  unfold gP
  split
  · rename_i h; subst h; simp [nowP]
  · by_cases hk : k = 2 <;> simp [nowP, hk]
theorem costP_g (k : Nat) (t : List Int) : costP (gP k t) = if k = 0 then 0 else t.length := by
  unfold gP
  split
  · rename_i h; subst h; simp [costP]
  · by_cases hk : k = 0 <;> simp [costP, hk]
def wasS (l : List S78) : List Int := (l.filter fun x => !decide (x.f0 = 1)).map (·.f1)
def nowS (l : List S78) : List Int := (l.filter fun x => !decide (x.f0 = 2)).map (·.f1)
def costS (l : List S78) : Nat := (l.filter fun x => !decide (x.f0 = 0)).length
theorem mrg3_was : ∀ (l : List S78) (t0 t1 t2 : List Int), (∀ x ∈ l, x.f0 = 0 ∨ x.f0 = 1 ∨ x.f0 = 2) → (t0 = [] ∨ (t1 = [] ∧ t2 = [])) → wasP (mrg3 l t0 t1 t2) = t0 ++ (t2 ++ wasS l) ∧ nowP (mrg3 l t0 t1 t2) = t0 ++ (t1 ++ nowS l) ∧ costP (mrg3 l t0 t1 t2) = t1.length + t2.length + costS l
  | [], t0, t1, t2, _, _ => by
    simp only [mrg3, wasP_append, nowP_append, costP_append, wasP_g, nowP_g, costP_g, wasS, nowS, costS]
    simp
    omega
  | x :: l, t0, t1, t2, hk, hT => by
    have hl := fun y hy => hk y (List.mem_cons_of_mem _ hy)
    simp only [mrg3]
    rcases hk x (List.mem_cons_self ..) with h | h | h
    · obtain ⟨i1, i2, i3⟩ := mrg3_was l (t0 ++ [x.f1]) [] [] hl (.inr ⟨rfl, rfl⟩)
      rw [if_pos h]
      simp only [wasP_append, nowP_append, costP_append, wasP_g, nowP_g, costP_g, i1, i2, i3]
      rcases hT with rfl | ⟨rfl, rfl⟩
      · simp [wasS, nowS, costS, h]
        omega
      · simp [wasS, nowS, costS, h]
    · obtain ⟨i1, i2, i3⟩ := mrg3_was l [] (t1 ++ [x.f1]) t2 hl (.inl rfl)
      rw [if_neg (by omega), if_neg (by omega)]
      simp only [wasP_append, nowP_append, costP_append, wasP_g, nowP_g, costP_g, i1, i2, i3]
      simp [wasS, nowS, costS, h]
      omega
    · obtain ⟨i1, i2, i3⟩ := mrg3_was l [] t1 (t2 ++ [x.f1]) hl (.inl rfl)
      rw [if_neg (by omega), if_pos h]
      simp only [wasP_append, nowP_append, costP_append, wasP_g, nowP_g, costP_g, i1, i2, i3]
      simp [wasS, nowS, costS, h]
      omega
/-- Each part has runes, kinds from 0 to 2, unlike the one ahead, deleted ahead of inserted. -/
def FormP : Option Nat → List (Nat × List Int) → Prop
  | _, [] => True
  | p, (k, t) :: l => (∀ q, p = some q → q ≠ k ∧ ¬ (q = 1 ∧ k = 2)) ∧ t ≠ [] ∧ k ≤ 2 ∧ FormP (some k) l
theorem form_g {p : Option Nat} {k : Nat} {t : List Int} {l : List (Nat × List Int)} (hk : k ≤ 2) (h1 : t = [] → FormP p l) (h2 : t ≠ [] → (∀ q, p = some q → q ≠ k ∧ ¬ (q = 1 ∧ k = 2)) ∧ FormP (some k) l) : FormP p (gP k t ++ l) := by
  unfold gP
  split
  · rename_i h; exact h1 h
  · rename_i h; exact ⟨(h2 h).1, h, hk, (h2 h).2⟩
theorem mrg3_form : ∀ (l : List S78) (t0 t1 t2 : List Int) (p : Option Nat), (t0 ≠ [] → t1 = [] ∧ t2 = [] ∧ p ≠ some 0) → (t0 = [] → (p = none ∨ (p = some 0 ∧ ¬ (t1 = [] ∧ t2 = [])))) → FormP p (mrg3 l t0 t1 t2)
  | [], t0, t1, t2, p, h0, h1 => by
    have e : gP 0 t0 ++ (gP 2 t2 ++ gP 1 t1) = gP 0 t0 ++ (gP 2 t2 ++ (gP 1 t1 ++ [])) := by rw [List.append_nil]
    simp only [mrg3]
    rw [e]
    refine form_g (by omega) (fun h => ?_) (fun h => ?_)
    · refine form_g (by omega) (fun h2 => form_g (by omega) (fun _ => trivial) (fun _ => ⟨fun q hq => ?_, trivial⟩)) (fun h2 => ⟨fun q hq => ?_, form_g (by omega) (fun _ => trivial) (fun _ => ⟨fun q hq => ?_, trivial⟩)⟩)
      · rcases h1 h with hp | ⟨hp, _⟩ <;> rw [hp] at hq <;> simp_all <;> omega
      · rcases h1 h with hp | ⟨hp, _⟩ <;> rw [hp] at hq <;> simp_all <;> omega
      · injection hq with hq; omega
    · obtain ⟨e1, e2, e3⟩ := h0 h
      subst e1 e2
      refine ⟨fun q hq => ⟨fun hz => e3 (by rw [hq, hz]), by omega⟩, trivial⟩
  | x :: l, t0, t1, t2, p, h0, h1 => by
    simp only [mrg3]
    by_cases c0 : x.f0 = 0
    · rw [if_pos c0]
      by_cases ht : t0 = []
      · refine form_g (by omega) (fun h2 => ?_) (fun h2 => ?_)
        · refine form_g (by omega) (fun h3 => ?_) (fun h3 => ?_)
          · refine mrg3_form l _ _ _ p (fun _ => ⟨rfl, rfl, ?_⟩) (fun h => absurd h (by simp))
            rcases h1 ht with hp | ⟨_, hn⟩
            · rw [hp]; simp
            · exact absurd ⟨h3, h2⟩ hn
          · refine ⟨fun q hq => ?_, mrg3_form l _ _ _ (some 1) (fun _ => ⟨rfl, rfl, by simp⟩) (fun h => absurd h (by simp))⟩
            rcases h1 ht with hp | ⟨hp, _⟩ <;> rw [hp] at hq <;> simp_all <;> omega
        · refine ⟨fun q hq => ?_, form_g (by omega) (fun h3 => mrg3_form l _ _ _ (some 2) (fun _ => ⟨rfl, rfl, by simp⟩) (fun h => absurd h (by simp))) (fun h3 => ⟨fun q hq => ?_, mrg3_form l _ _ _ (some 1) (fun _ => ⟨rfl, rfl, by simp⟩) (fun h => absurd h (by simp))⟩)⟩
          · rcases h1 ht with hp | ⟨hp, _⟩ <;> rw [hp] at hq <;> simp_all <;> omega
          · injection hq with hq; omega
      · obtain ⟨e1, e2, e3⟩ := h0 ht
        subst e1 e2
        exact mrg3_form l _ _ _ p (fun _ => ⟨rfl, rfl, e3⟩) (fun h => absurd h (by simp))
    · rw [if_neg c0]
      have key : ∀ u1 u2 : List Int, ¬ (u1 = [] ∧ u2 = []) → FormP p (gP 0 t0 ++ mrg3 l [] u1 u2) := by
        intro u1 u2 hu
        refine form_g (by omega) (fun h => ?_) (fun h => ?_)
        · refine mrg3_form l [] u1 u2 p (fun h => absurd rfl h) (fun _ => ?_)
          rcases h1 h with hp | ⟨hp, _⟩
          · exact .inl hp
          · exact .inr ⟨hp, hu⟩
        · obtain ⟨_, _, e3⟩ := h0 h
          exact ⟨fun q hq => ⟨fun hz => e3 (by rw [hq, hz]), by omega⟩, mrg3_form l [] u1 u2 (some 0) (fun h => absurd rfl h) (fun _ => .inr ⟨rfl, hu⟩)⟩
      split
      · exact key _ _ (fun h => by simp at h)
      · exact key _ _ (fun h => by simp at h)
/-! ### the steps -/
theorem steps_kinds : ∀ (a b : List Int), ∀ x ∈ stepsL a b, x.f0 = 0 ∨ x.f0 = 1 ∨ x.f0 = 2
  | [], b => fun x hx => by
    simp only [stepsL, List.mem_map] at hx
    obtain ⟨y, _, rfl⟩ := hx
    exact .inr (.inl rfl)
  | z :: a, [] => fun x hx => by
    rw [stepsL] at hx
    obtain ⟨y, _, rfl⟩ := List.mem_map.1 hx
    exact .inr (.inr rfl)
  | z :: a, y :: b => fun x hx => by
    rw [stepsL] at hx
    split at hx
    · rcases List.mem_cons.1 hx with rfl | hx
      · exact .inl rfl
      · exact steps_kinds a b x hx
    · split at hx
      · rcases List.mem_cons.1 hx with rfl | hx
        · exact .inr (.inr rfl)
        · exact steps_kinds a (y :: b) x hx
      · rcases List.mem_cons.1 hx with rfl | hx
        · exact .inr (.inl rfl)
        · exact steps_kinds (z :: a) b x hx
termination_by a b => a.length + b.length
theorem steps_texts : ∀ (a b : List Int), wasS (stepsL a b) = a ∧ nowS (stepsL a b) = b ∧ costS (stepsL a b) = C a b
  | [], b => by
    simp only [stepsL, wasS, nowS, costS, C]
    simp [List.filter_map, Function.comp_def]
  | z :: a, [] => by
    rw [stepsL, C]
    simp [wasS, nowS, costS, List.filter_map, Function.comp_def]
  | z :: a, y :: b => by
    rw [stepsL, C]
    split
    · rename_i e
      subst e
      obtain ⟨i1, i2, i3⟩ := steps_texts a b
      simp only [wasS, nowS, costS] at i1 i2 i3 ⊢
      simp [i1, i2, i3]
    · split
      · obtain ⟨i1, i2, i3⟩ := steps_texts a (y :: b)
        simp only [wasS, nowS, costS] at i1 i2 i3 ⊢
        simp [i1, i2, i3]
      · obtain ⟨i1, i2, i3⟩ := steps_texts (z :: a) b
        simp only [wasS, nowS, costS] at i1 i2 i3 ⊢
        simp [i1, i2, i3]
termination_by a b => a.length + b.length
/-- The runes that both begin with are kept. -/
def cmn : List Int → List Int → Nat
  | x :: a, y :: b => if x = y then cmn a b + 1 else 0
  | _, _ => 0
theorem cmn_le : ∀ a b : List Int, cmn a b ≤ a.length ∧ cmn a b ≤ b.length
  | [], b => by simp [cmn]
  | x :: a, [] => by simp [cmn]
  | x :: a, y :: b => by
    have := cmn_le a b
    simp only [cmn]
    split <;> simp <;> omega
theorem steps_cmn : ∀ a b : List Int, (a.take (cmn a b)).map (fun r => (⟨0, r⟩ : S78)) ++ stepsL (a.drop (cmn a b)) (b.drop (cmn a b)) = stepsL a b
  | [], b => by simp [cmn]
  | x :: a, [] => by simp [cmn]
  | x :: a, y :: b => by
    simp only [cmn]
    split
    · rename_i e
      subst e
      rw [stepsL, if_pos rfl, ← steps_cmn a b]
      rfl
    · rfl
/-- The parts of two lists of runes. -/
def partsR (x y : List Int) : List (Nat × List Int) := mrg3 (stepsL x y) [] [] []
def diffR (s t : ByteArray) : List S40 × Int :=
  match textOf s, textOf t with
  | some x, some y => if x.length > 2000 ∨ y.length > 2000 then ([], 4) else ((partsR x y).map encP, 0)
  | _, _ => ([], 2)
theorem rd_at' (l : List Int) (i : Nat) (h : i < l.length) : rd l (i : Int) = l[i] := by
  simp [rd, List.getD_eq_getElem?_getD, List.getElem?_eq_getElem h]
theorem w64e {x : Int} (h : -100000000000 ≤ x) (h2 : x ≤ 100000000000) : wrap64 x = x := by unfold wrap64; omega
theorem common_l0 (a b : List Int) (ha : a.length ≤ 100000) : ∀ d i k, cmn (a.drop i) (b.drop i) = d → i ≤ a.length → i ≤ b.length → d + 1 ≤ k → diff_common_rune.l0 k a b (i : Int) = some ((i + d : Nat) : Int)
  | d, i, k, hd, hi, hj, hk => by
    obtain ⟨k, rfl⟩ : ∃ x, k = x + 1 := ⟨k - 1, by omega⟩
    rw [diff_common_rune.l0]
    by_cases c1 : i < a.length
    · rw [if_pos (by omega)]
      by_cases c2 : i < b.length
      · rw [if_pos (by omega), if_pos (by omega), rd_at' a i c1, rd_at' b i c2]
        rw [List.drop_eq_getElem_cons c1, List.drop_eq_getElem_cons c2, cmn] at hd
        by_cases c3 : a[i] = b[i]
        · rw [if_pos c3] at hd ⊢
          obtain ⟨e, rfl⟩ : ∃ e, d = e + 1 := ⟨d - 1, by omega⟩
          rw [w64e (by omega) (by omega), show (i : Int) + 1 = ((i + 1 : Nat) : Int) by omega, common_l0 a b ha e (i + 1) k (by omega) (by omega) (by omega) (by omega)]
          congr 1
          omega
        · rw [if_neg c3] at hd ⊢
          subst hd
          rfl
      · rw [if_neg (by omega)]
        rw [show b.drop i = [] from List.drop_of_length_le (by omega)] at hd
        have : d = 0 := by rw [← hd]; cases a.drop i <;> rfl
        subst this
        rfl
    · rw [if_neg (by omega)]
      rw [show a.drop i = [] from List.drop_of_length_le (by omega)] at hd
      subst hd
      rfl
theorem diff_l0 (a b y : List Int) (c : Nat) (hc1 : c ≤ a.length) (hc2 : c ≤ b.length) (hy : y.length ≤ 100000) (ha : a.length ≤ 2000) (hb : b.length ≤ 2000) : ∀ d i k, i + d = y.length → d + 1 ≤ k →
    diff_Diff.l0 k a b (c : Int) ((y.take i).map fun r => (⟨0, r⟩ : S78)) y (y.length : Int) (i : Int) = some (mrgO (y.map (fun r => (⟨0, r⟩ : S78)) ++ stepsL (a.drop c) (b.drop c)) (fun _ => []), 0)
  | 0, i, k, hi, hk => by
    obtain ⟨k, rfl⟩ : ∃ x, k = x + 1 := ⟨k - 1, by omega⟩
    rw [diff_Diff.l0, if_neg (by omega), if_pos (by omega), if_pos (by omega), if_pos (by omega), Int.toNat_natCast, List.take_of_length_le (by omega)]
    have hst : diff_steps.f (a.drop c) (b.drop c) = some (stepsL (a.drop c) (b.drop c)) := by
      unfold diff_steps.f
      rw [if_pos ⟨by rw [List.length_drop]; omega, by rw [List.length_drop]; omega⟩]
    have hsl := stepsL_len (a.drop c) (b.drop c)
    rw [List.length_drop, List.length_drop] at hsl
    rw [hst, Option.bind_some, if_pos (by rw [List.length_map]; omega)]
    have hmg : diff_merged.f (y.map (fun r => (⟨0, r⟩ : S78)) ++ stepsL (a.drop c) (b.drop c)) = some (mrgO (y.map (fun r => (⟨0, r⟩ : S78)) ++ stepsL (a.drop c) (b.drop c)) (fun _ => [])) := by
      have hkk : kindsOk (y.map (fun r => (⟨0, r⟩ : S78)) ++ stepsL (a.drop c) (b.drop c)) = true := by
        refine List.all_eq_true.2 fun x hx => decide_eq_true ?_
        rcases List.mem_append.1 hx with h | h
        · obtain ⟨r, _, rfl⟩ := List.mem_map.1 h
          exact .inl rfl
        · exact steps_kinds _ _ x h
      unfold diff_merged.f
      exact if_pos ⟨by rw [List.length_append, List.length_map]; omega, hkk⟩
    rw [hmg, Option.bind_some]
  | d + 1, i, k, hi, hk => by
    obtain ⟨k, rfl⟩ : ∃ x, k = x + 1 := ⟨k - 1, by omega⟩
    have hlt : i < y.length := by omega
    rw [diff_Diff.l0, if_pos (by omega), if_pos (by omega), if_pos (by omega), if_pos (by rw [List.length_map, List.length_take]; omega), rd_at' y i hlt, w64e (by omega) (by omega), show (i : Int) + 1 = ((i + 1 : Nat) : Int) by omega]
    have e : (y.take i).map (fun r => (⟨0, r⟩ : S78)) ++ [⟨0, y[i]⟩] = (y.take (i + 1)).map fun r => (⟨0, r⟩ : S78) := by
      rw [List.take_succ_eq_append_getElem hlt, List.map_append]
      rfl
    rw [e]
    exact diff_l0 a b y c hc1 hc2 hy ha hb d (i + 1) k (by omega) (by omega)
theorem diff_f (s t : ByteArray) (hs : s.size ≤ 100000) (ht : t.size ≤ 100000) (k : Nat) (hk : 100010 ≤ k) : diff_Diff.f k s t = some (diffR s t) := by
  obtain ⟨k, rfl⟩ : ∃ x, k = x + 2 := ⟨k - 2, by omega⟩
  unfold diff_Diff.f diffR
  cases h1 : textOf s with
  | none =>
    rw [splitf_none (by omega) h1, Option.bind_some]
    cases h2 : textOf t with
    | none => rw [splitf_none (by omega) h2, Option.bind_some]; simp only; rw [if_neg (by omega), diff_Diff.j0, if_pos rfl]
    | some y => rw [splitf_some (by omega) h2, Option.bind_some]; simp only; rw [if_neg (by omega), diff_Diff.j0, if_pos rfl]
  | some x =>
    rw [splitf_some (by omega) h1, Option.bind_some]
    cases h2 : textOf t with
    | none => rw [splitf_none (by omega) h2, Option.bind_some]; simp only; rw [if_pos trivial, show ((2 : Int) != 0) = true from rfl, diff_Diff.j0, if_pos rfl]
    | some y =>
      have hx := text_len h1
      have hy := text_len h2
      rw [splitf_some (by omega) h2, Option.bind_some]
      simp only
      rw [if_pos trivial, show ((0 : Int) != 0) = false from rfl, diff_Diff.j0, if_neg (by simp)]
      by_cases c1 : (x.length : Int) > 2000
      · rw [if_pos c1, diff_Diff.j1, if_pos rfl, if_pos (.inl (by omega))]
      · rw [if_neg c1]
        by_cases c2 : (y.length : Int) > 2000
        · rw [decide_eq_true c2, diff_Diff.j1, if_pos rfl, if_pos (.inr (by omega))]
        · rw [decide_eq_false c2, diff_Diff.j1, if_neg (by simp), if_neg (by omega)]
          have hc := cmn_le x y
          have h3 := common_l0 x y (by omega) (cmn x y) 0 k (by rw [List.drop_zero, List.drop_zero]) (Nat.zero_le _) (Nat.zero_le _) (by omega)
          rw [Nat.zero_add] at h3
          have h3' : diff_common_rune.f k x y = some ((cmn x y : Nat) : Int) := h3
          rw [h3', Option.bind_some, if_pos (by omega), if_pos (by omega), Option.bind_some, Int.toNat_natCast]
          have h4 := diff_l0 x y (x.take (cmn x y)) (cmn x y) hc.1 hc.2 (by rw [List.length_take]; omega) (by omega) (by omega) (x.take (cmn x y)).length 0 k (by omega) (by rw [List.length_take]; omega)
          refine h4.trans ?_
          rw [steps_cmn, mrgO_3 _ _ (steps_kinds x y) (.inl rfl)]
          rfl
end Go.Proofs.YtabhfloclcmjnaaDoor.X
