/-
  The laws of layer 33 as plain statements: FindAll, by this session. Conditions: as typed.
-/
import Derived.Test.YtabhfloclcmjnaaDoorRef1
import Derived.Test.YtabhfloclcmjnaaDoorEvery
import Derived.OpenShut
import Derived.Test.YtabhfloclcmjnaaDoorPx9
namespace Go.Proofs.YtabhfloclcmjnaaDoor.Pure
open Go Go.RowKit Go.Proofs.YtabhfloclcmjnaaDoorW.PrintWords Go.Proofs.YtabhfloclcmjnaaDoor.P Go.Proofs.YtabhfloclcmjnaaDoor.X Go.Proofs.YtabhfloclcmjnaaDoor.Kmp
set_option linter.unusedVariables false

theorem alive50 : foolscaplaw33_alive.f 50 = some true := by kernel_rfl
theorem alive_ev (k : Nat) : foolscaplaw33_alive.f (50 + k) = some true := by
  induction k with
  | zero => exact alive50
  | succ k ih => exact foolscaplaw33_alive.mono (50 + k) _ ih

/-- p stands in l at i. -/
def st (l p : List Int) (i : Nat) : Bool := p.isPrefixOf (l.drop i)
theorem st_far {l p : List Int} {i : Nat} (hp : p ≠ []) (h : l.length < i + p.length) : st l p i = false := by
  rw [Bool.eq_false_iff]
  intro h1
  have h2 := (List.isPrefixOf_iff_prefix.1 h1).length_le
  rw [List.length_drop] at h2
  have := List.length_pos_iff.2 hp
  omega
theorem suffix_st {l p : List Int} {j : Nat} (hj : j ≤ l.length) : p.isSuffixOf (l.take j) = (decide (p.length ≤ j) && st l p (j - p.length)) := by
  rw [Bool.eq_iff_iff, List.isSuffixOf_iff_suffix, Bool.and_eq_true, decide_eq_true_iff]
  unfold st
  rw [List.isPrefixOf_iff_prefix]
  constructor
  · intro h
    have h1 := h.length_le
    rw [List.length_take] at h1
    obtain ⟨s, hs⟩ := h
    have hsl : s.length = j - p.length := by
      have := congrArg List.length hs
      rw [List.length_append, List.length_take] at this
      omega
    refine ⟨by omega, l.drop j, ?_⟩
    have e : l = s ++ (p ++ l.drop j) := by rw [← List.append_assoc, hs, List.take_append_drop]
    conv => rhs; rw [e]
    rw [← hsl, List.drop_left]
  · rintro ⟨h, s, hs⟩
    refine ⟨l.take (j - p.length), ?_⟩
    have e : l = l.take (j - p.length) ++ (p ++ s) := by rw [hs, List.take_append_drop]
    have hl : (l.take (j - p.length)).length = j - p.length := by rw [List.length_take]; omega
    conv => rhs; rw [e]
    rw [← List.append_assoc, List.take_left' (by rw [List.length_append, hl]; omega)]
/-- All places. -/
def places (l p : List Int) : List Nat := (List.range l.length).filter fun i => st l p i
theorem found_places {l p : List Int} (hp : p ≠ []) : found p l l.length = (places l p).map fun (i : Nat) => (i : Int) := by
  have hm := List.length_pos_iff.2 hp
  unfold found places
  by_cases hlt : l.length < p.length
  · rw [List.filter_eq_nil_iff.2, List.filter_eq_nil_iff.2]
    · rfl
    · intro i hi
      rw [List.mem_range] at hi
      rw [st_far hp (by omega)]; simp
    · intro j hj
      rw [List.mem_range] at hj
      rw [suffix_st (by omega), decide_eq_false (by omega)]; simp
  · have e1 : List.range (l.length + 1) = List.range p.length ++ (List.range (l.length + 1 - p.length)).map (p.length + ·) := by
      rw [← List.range_add]; congr 1; omega
    have e2 : List.range l.length = List.range (l.length + 1 - p.length) ++ (List.range (p.length - 1)).map (l.length + 1 - p.length + ·) := by
      rw [← List.range_add]; congr 1; omega
    rw [e1, e2, List.filter_append, List.filter_append]
    rw [show (List.range p.length).filter (fun j => p.isSuffixOf (l.take j)) = [] from List.filter_eq_nil_iff.2 fun j hj => by
      rw [List.mem_range] at hj
      rw [suffix_st (by omega), decide_eq_false (by omega)]; simp]
    rw [show ((List.range (p.length - 1)).map (l.length + 1 - p.length + ·)).filter (fun i => st l p i) = [] from List.filter_eq_nil_iff.2 fun i hi => by
      obtain ⟨a, ha, rfl⟩ := List.mem_map.1 hi
      rw [st_far hp (by omega)]; simp]
    rw [List.nil_append, List.append_nil, List.filter_map, List.map_map]
    have e3 : (List.range (l.length + 1 - p.length)).filter ((fun j => p.isSuffixOf (l.take j)) ∘ (p.length + ·)) = (List.range (l.length + 1 - p.length)).filter fun i => st l p i := by
      refine List.filter_congr fun i hi => ?_
      rw [List.mem_range] at hi
      simp only [Function.comp]
      rw [suffix_st (by omega), decide_eq_true (by omega), Bool.true_and, Nat.add_sub_cancel_left]
    rw [e3]
    refine List.map_congr_left fun i _ => ?_
    simp only [Function.comp]
    omega

/-! ### from the left, sharing none -/
def greedy (m : Nat) : List Nat → Nat → List Nat
  | [], _ => []
  | q :: r, e => if e ≤ q then q :: greedy m r (q + m) else greedy m r e
def scan (s : Nat → Bool) (m : Nat) : Nat → Nat → Nat → List Nat
  | 0, _, _ => []
  | f + 1, i, e => if s i = true ∧ e ≤ i then i :: scan s m f (i + 1) (i + m) else scan s m f (i + 1) e
theorem greedy_scan (s : Nat → Bool) (m : Nat) : ∀ f i e, greedy m ((List.range' i f).filter s) e = scan s m f i e
  | 0, i, e => by simp [greedy, scan]
  | f + 1, i, e => by
    rw [List.range'_succ, List.filter_cons]
    simp only [scan]
    by_cases hs : s i = true
    · rw [if_pos hs]
      simp only [greedy]
      by_cases he : e ≤ i
      · rw [if_pos he, if_pos ⟨hs, he⟩, greedy_scan s m f]
      · rw [if_neg he, if_neg (fun h => he h.2), greedy_scan s m f]
    · rw [if_neg hs, if_neg (fun h => hs h.1), greedy_scan s m f]
theorem scan_skip (s : Nat → Bool) (m : Nat) : ∀ d f a, scan s m (f + d) a (a + d) = scan s m f (a + d) (a + d)
  | 0, f, a => rfl
  | d + 1, f, a => by
    rw [show f + (d + 1) = (f + d) + 1 by omega]
    simp only [scan]
    rw [if_neg (by omega)]
    have h := scan_skip s m d f (a + 1)
    rw [show a + 1 + d = a + (d + 1) by omega] at h
    exact h
theorem scan_zero (s : Nat → Bool) (m : Nat) : ∀ f a e, a + f ≤ e → scan s m f a e = []
  | 0, a, e, _ => rfl
  | f + 1, a, e, h => by
    simp only [scan]
    rw [if_neg (by omega)]
    exact scan_zero s m f (a + 1) e (by omega)
theorem scan_from (s : Nat → Bool) (m : Nat) : ∀ f a e e', e ≤ a → e' ≤ a → scan s m f a e = scan s m f a e'
  | 0, a, e, e', _, _ => rfl
  | f + 1, a, e, e', h, h' => by
    simp only [scan]
    by_cases hs : s a = true
    · rw [if_pos ⟨hs, h⟩, if_pos ⟨hs, h'⟩]
    · rw [if_neg (fun x => hs x.1), if_neg (fun x => hs x.1), scan_from s m f (a + 1) e e' (by omega) (by omega)]
theorem scan_hit {s : Nat → Bool} {m n i : Nat} (hm : 0 < m) (hi : i < n) (hs : s i = true) : scan s m (n - i) i i = i :: scan s m (n - (i + m)) (i + m) (i + m) := by
  rw [show n - i = (n - i - 1) + 1 by omega]
  simp only [scan]
  rw [if_pos ⟨hs, Nat.le_refl _⟩]
  by_cases h : i + m ≤ n
  · have h1 := scan_skip s m (m - 1) (n - (i + m)) (i + 1)
    rw [show n - (i + m) + (m - 1) = n - i - 1 by omega, show i + 1 + (m - 1) = i + m by omega] at h1
    rw [h1]
  · rw [scan_zero s m _ _ _ (by omega), scan_zero s m _ _ _ (by omega)]
theorem scan_miss {s : Nat → Bool} {m n i : Nat} (hi : i < n) (hs : s i = false) : scan s m (n - i) i i = scan s m (n - (i + 1)) (i + 1) (i + 1) := by
  rw [show n - i = (n - i - 1) + 1 by omega]
  simp only [scan]
  rw [if_neg (by rw [hs]; simp), show n - i - 1 = n - (i + 1) by omega]
  exact scan_from s m _ _ _ _ (by omega) (by omega)

/-! ### the program's All -/
def zs (l : List Nat) : List Int := l.map fun (i : Nat) => (i : Int)
theorem zs_length (l : List Nat) : (zs l).length = l.length := by simp [zs]
theorem rd_zs (l : List Nat) (i : Nat) (h : i < l.length) : rd (zs l) (i : Int) = (l[i] : Int) := by
  unfold rd zs
  rw [Int.toNat_natCast, List.getD_eq_getElem?_getD, List.getElem?_map, List.getElem?_eq_getElem h]
  rfl
theorem w64 {x : Int} (h0 : -9223372036854775808 ≤ x) (h1 : x ≤ 9223372036854775807) : wrap64 x = x := by unfold wrap64; omega
theorem all_l0 (qs : List Nat) (m : Nat) (hm : m ≤ 1000) (hq : ∀ q ∈ qs, q ≤ 1000) (hl : qs.length ≤ 1000) : ∀ (d i e k : Nat) (acc : List Int), i + d = qs.length → d < k → acc.length ≤ i → e ≤ 3000 →
    find_All.l0 k (m : Int) acc (e : Int) (zs qs) (qs.length : Int) (i : Int) = some (acc ++ zs (greedy m (qs.drop i) e), 0)
  | 0, i, e, k, acc, hi, hk, ha, he => by
    obtain ⟨k, rfl⟩ : ∃ x, k = x + 1 := ⟨k - 1, by omega⟩
    simp only [find_All.l0]
    rw [if_neg (by omega), List.drop_eq_nil_of_le (by omega)]
    simp [greedy, zs]
  | d + 1, i, e, k, acc, hi, hk, ha, he => by
    obtain ⟨k, rfl⟩ : ∃ x, k = x + 1 := ⟨k - 1, by omega⟩
    have hlt : i < qs.length := by omega
    have hqi := hq qs[i] (List.getElem_mem hlt)
    simp only [find_All.l0]
    rw [if_pos (by omega), if_pos (by omega), zs_length, if_pos (by omega), rd_zs qs i hlt, List.drop_eq_getElem_cons hlt]
    simp only [greedy]
    rw [w64 (x := (i : Int) + 1) (by omega) (by omega), show (i : Int) + 1 = ((i + 1 : Nat) : Int) by omega]
    by_cases h : e ≤ qs[i]
    · rw [if_pos (by omega), if_pos h, if_pos (by omega), w64 (by omega) (by omega), show ((qs[i] : Nat) : Int) + (m : Int) = ((qs[i] + m : Nat) : Int) by omega]
      rw [all_l0 qs m hm hq hl d (i + 1) (qs[i] + m) k _ (by omega) (by omega) (by simp; omega) (by omega)]
      simp [zs]
    · rw [if_neg (by omega), if_neg h]
      exact all_l0 qs m hm hq hl d (i + 1) e k acc (by omega) (by omega) (by omega) he

/-! ### the document's side -/
theorem rd_get (l : List Int) (i : Nat) (h : i < l.length) : rd l (i : Int) = l[i] := by
  unfold rd
  rw [Int.toNat_natCast, List.getD_eq_getElem?_getD, List.getElem?_eq_getElem h]
  rfl
theorem stands_l0 (l p : List Int) (a : Nat) (hl : l.length ≤ 3000) (ha : a + p.length ≤ l.length) : ∀ d i k, i + d = p.length → d < k →
    foolscapref33_Stands.l0 k l p (a : Int) (i : Int) = some ((p.drop i).isPrefixOf (l.drop (a + i)))
  | 0, i, k, hi, hk => by
    obtain ⟨k, rfl⟩ : ∃ x, k = x + 1 := ⟨k - 1, by omega⟩
    simp only [foolscapref33_Stands.l0]
    rw [if_neg (by omega), List.drop_eq_nil_of_le (by omega)]
    rfl
  | d + 1, i, k, hi, hk => by
    obtain ⟨k, rfl⟩ : ∃ x, k = x + 1 := ⟨k - 1, by omega⟩
    have h1 : i < p.length := by omega
    have h2 : a + i < l.length := by omega
    simp only [foolscapref33_Stands.l0]
    rw [if_pos (by omega), w64 (x := (a : Int) + (i : Int)) (by omega) (by omega), w64 (x := (i : Int) + 1) (by omega) (by omega), if_pos (by omega), if_pos (by omega), if_pos (by omega)]
    rw [show (a : Int) + (i : Int) = ((a + i : Nat) : Int) by omega, show (i : Int) + 1 = ((i + 1 : Nat) : Int) by omega, rd_get l _ h2, rd_get p _ h1]
    rw [List.drop_eq_getElem_cons h1, List.drop_eq_getElem_cons h2]
    simp only [List.isPrefixOf]
    by_cases h : l[a + i] = p[i]
    · rw [if_pos h, stands_l0 l p a hl ha d (i + 1) k (by omega) (by omega), h]
      simp [Nat.add_assoc]
    · rw [if_neg h, show (p[i] == l[a + i]) = false by rw [beq_eq_false_iff_ne]; exact fun e => h e.symm]
      simp
theorem stands_nat (l p : List Int) (a k : Nat) (hp : p ≠ []) (hl : l.length ≤ 3000) (ha : a ≤ 3000) (hk : p.length + 2 < k) : foolscapref33_Stands.f k l p (a : Int) = some (st l p a) := by
  unfold foolscapref33_Stands.f
  rw [if_neg (by omega), w64 (by omega) (by omega)]
  obtain ⟨k, rfl⟩ : ∃ x, k = x + 1 := ⟨k - 1, by omega⟩
  simp only [foolscapref33_Stands.j0]
  by_cases h : l.length < a + p.length
  · rw [if_pos (by rw [decide_eq_true_iff]; omega), st_far hp h]
  · rw [if_neg (by rw [decide_eq_true_iff]; omega)]
    have h1 := stands_l0 l p a hl (by omega) p.length 0 k (by omega) (by omega)
    simpa [st] using h1
theorem refAll_l0 (l p : List Int) (hp : p ≠ []) (hl : l.length ≤ 1000) (hpl : p.length ≤ 1000) : ∀ d i k (acc : List Int), l.length ≤ i + d → d + p.length + 4 < k → acc.length ≤ i → i ≤ 2000 →
    foolscapref33_All.l0 k l p 0 acc (i : Int) = some (acc ++ zs (scan (st l p) p.length (l.length - i) i i), 0)
  | 0, i, k, acc, hi, hk, ha, h2 => by
    obtain ⟨k, rfl⟩ : ∃ x, k = x + 1 := ⟨k - 1, by omega⟩
    simp only [foolscapref33_All.l0]
    rw [if_neg (by omega), show l.length - i = 0 by omega]
    simp [scan, zs]
  | d + 1, i, k, acc, hi, hk, ha, h2 => by
    obtain ⟨k, rfl⟩ : ∃ x, k = x + 1 := ⟨k - 1, by omega⟩
    have hm := List.length_pos_iff.2 hp
    simp only [foolscapref33_All.l0]
    by_cases hlt : i < l.length
    · rw [if_pos (by omega), stands_nat l p i k hp (by omega) (by omega) (by omega), Option.bind_some]
      cases hs : st l p i with
      | true =>
        rw [if_pos rfl, if_pos (by omega), w64 (x := (i : Int) + (p.length : Int)) (by omega) (by omega), w64 (x := (i : Int) + (p.length : Int) - 1) (by omega) (by omega), w64 (x := (i : Int) + (p.length : Int) - 1 + 1) (by omega) (by omega)]
        rw [show (i : Int) + (p.length : Int) - 1 + 1 = ((i + p.length : Nat) : Int) by omega]
        rw [refAll_l0 l p hp hl hpl d (i + p.length) k _ (by omega) (by omega) (by simp; omega) (by omega), scan_hit hm hlt hs]
        simp [zs]
      | false =>
        rw [if_neg (by simp), w64 (x := (i : Int) + 1) (by omega) (by omega), show (i : Int) + 1 = ((i + 1 : Nat) : Int) by omega]
        rw [refAll_l0 l p hp hl hpl d (i + 1) k acc (by omega) (by omega) (by omega) (by omega), scan_miss hlt hs]
    · rw [if_neg (by omega), show l.length - i = 0 by omega]
      simp [scan, zs]

/-- What is asked: the runes of both, or the first error. -/
def askedR (s t : ByteArray) : List Int × List Int × Int :=
  match textOf s, textOf t with
  | some l, some p => if p = [] then ([], [], 1) else (l, p, 0)
  | _, _ => ([], [], 2)
theorem asked_f (s t : ByteArray) (hs : s.size ≤ 2000) (ht : t.size ≤ 2000) (k : Nat) (hk : 4100 < k) : foolscapref33_Asked.f k s t = some (askedR s t) := by
  unfold foolscapref33_Asked.f askedR
  rw [show k = (k - s.size - 12) + s.size + 12 by omega, split_ref s (by omega), Option.bind_some]
  rw [show (k - s.size - 12) + s.size + 12 = (k - t.size - 12) + t.size + 12 by omega, split_ref t (by omega), Option.bind_some]
  obtain ⟨j, hj⟩ : ∃ j, k - t.size - 12 + t.size + 12 = j + 1 := ⟨k - 1, by omega⟩
  rw [hj]
  cases h1 : textOf s with
  | none => simp [foolscapref33_Asked.j0]
  | some l =>
    cases h2 : textOf t with
    | none => simp [foolscapref33_Asked.j0]
    | some p =>
      simp only [foolscapref33_Asked.j0, Bool.not_true, if_true]
      by_cases hp : p = []
      · subst hp; simp
      · rw [if_neg hp, if_neg (by simp), if_neg (by have := List.length_pos_iff.2 hp; omega)]
/-- All places, sharing none. -/
def allR (l p : List Int) : List Nat := scan (st l p) p.length l.length 0 0
theorem text_le {s : ByteArray} {l : List Int} (h : textOf s = some l) : l.length ≤ s.size := text_len h
theorem findAll_f (s t : ByteArray) (hs : s.size ≤ 1000) (ht : t.size ≤ 1000) (k : Nat) (hk : 1100 < k) :
    find_All.f k s t = some (match askedR s t with | (l, p, e) => if e = 0 then (zs (allR l p), 0) else ([], e)) := by
  unfold find_All.f find_everywhere.f
  rw [if_pos (by omega), if_pos (by omega), Option.bind_some]
  unfold everyR askedR
  cases h2 : textOf t with
  | none => cases h1 : textOf s <;> simp
  | some p =>
    cases h1 : textOf s with
    | none => simp
    | some l =>
      by_cases hp : p = []
      · subst hp; simp
      · simp only [if_neg hp]
        rw [if_pos trivial, if_pos trivial, found_places hp]
        have hl := text_le h1
        have hpl := text_le h2
        have hq : ∀ q ∈ places l p, q ≤ 1000 := fun q hq => by
          have := List.mem_range.1 (List.mem_filter.1 hq).1
          omega
        have hc : (places l p).length ≤ l.length := by
          have := List.length_filter_le (fun i => st l p i) (List.range l.length)
          rwa [List.length_range] at this
        have h := all_l0 (places l p) p.length (by omega) hq (by omega) (places l p).length 0 0 k [] (by omega) (by omega) (by simp) (by omega)
        rw [List.drop_zero] at h
        rw [show ((places l p).map fun (i : Nat) => (i : Int)) = zs (places l p) from rfl, zs_length]
        refine h.trans ?_
        unfold allR
        rw [← greedy_scan, ← List.range_eq_range']
        rfl
theorem refAll_f (s t : ByteArray) (hs : s.size ≤ 1000) (ht : t.size ≤ 1000) (k : Nat) (hk : 4200 < k) :
    foolscapref33_All.f k s t = some (match askedR s t with | (l, p, e) => if e = 0 then (zs (allR l p), 0) else ([], e)) := by
  unfold foolscapref33_All.f
  rw [asked_f s t (by omega) (by omega) k (by omega), Option.bind_some]
  unfold askedR
  obtain ⟨j, rfl⟩ : ∃ x, k = x + 1 := ⟨k - 1, by omega⟩
  cases h2 : textOf t with
  | none => cases h1 : textOf s <;> simp [foolscapref33_All.l0]
  | some p =>
    cases h1 : textOf s with
    | none => simp [foolscapref33_All.l0]
    | some l =>
      by_cases hp : p = []
      · subst hp; simp [foolscapref33_All.l0]
      · simp only [if_neg hp]
        rw [if_pos trivial]
        have hl := text_le h1
        have hpl := text_le h2
        have h := refAll_l0 l p hp (by omega) (by omega) l.length 0 (j + 1) [] (by omega) (by omega) (by simp) (by omega)
        exact h
theorem same_l0 (a : List Int) (ha : a.length ≤ 100000) : ∀ d i k, i + d = a.length → d < k → foolscaplaw33_FindAll.l0 k a a (i : Int) = some true
  | 0, i, k, hi, hk => by
    obtain ⟨k, rfl⟩ : ∃ x, k = x + 1 := ⟨k - 1, by omega⟩
    simp only [foolscaplaw33_FindAll.l0]
    rw [if_neg (by omega)]
  | d + 1, i, k, hi, hk => by
    obtain ⟨k, rfl⟩ : ∃ x, k = x + 1 := ⟨k - 1, by omega⟩
    simp only [foolscaplaw33_FindAll.l0]
    rw [if_pos (by omega), if_pos (by omega), if_pos (by omega), if_pos trivial, w64 (by omega) (by omega), show (i : Int) + 1 = ((i + 1 : Nat) : Int) by omega]
    exact same_l0 a ha d (i + 1) k (by omega) (by omega)
theorem scan_length (s : Nat → Bool) (m : Nat) : ∀ f a e, (scan s m f a e).length ≤ f
  | 0, a, e => by simp [scan]
  | f + 1, a, e => by
    simp only [scan]
    split
    · have := scan_length s m f (a + 1) (a + m); simp; omega
    · have := scan_length s m f (a + 1) e; omega
theorem FindAll : foolscaplaw33_FindAll.Pure := by
  intro s t hs0 ht0
  refine ⟨50 + 9950, ?_⟩
  unfold foolscaplaw33_FindAll.f
  rw [alive_ev, Option.bind_some, if_pos rfl]
  obtain ⟨k, hk⟩ : ∃ k, 50 + 9950 = k + 2 ∧ k = 9998 := ⟨9998, rfl, rfl⟩
  rw [hk.1]
  by_cases h1 : (s.size : Int) > 600
  · rw [if_pos h1]; simp [foolscaplaw33_FindAll.j0]
  · rw [if_neg h1]
    simp only [foolscaplaw33_FindAll.j0]
    by_cases h2 : (t.size : Int) > 600
    · rw [if_pos (decide_eq_true h2)]
    · rw [if_neg (by rw [decide_eq_true_iff]; exact h2), findAll_f s t (by omega) (by omega) _ (by omega), Option.bind_some, refAll_f s t (by omega) (by omega) _ (by omega), Option.bind_some]
      obtain ⟨R, hR⟩ : ∃ R, (match askedR s t with | (l, p, e) => if e = 0 then (zs (allR l p), (0 : Int)) else ([], e)) = R := ⟨_, rfl⟩
      have hRl : R.1.length ≤ 1000 := by
        rw [← hR]
        unfold askedR
        cases h3 : textOf s with
        | none => simp
        | some l =>
          cases h4 : textOf t with
          | none => simp
          | some p =>
            by_cases hp : p = []
            · subst hp; simp
            · simp only [if_neg hp, if_pos]
              have := scan_length (st l p) p.length l.length 0 0
              have := text_le h3
              rw [zs_length]
              unfold allR
              omega
      rw [hR, if_pos rfl]
      simp only [foolscaplaw33_FindAll.j1]
      rw [if_neg (by simp)]
      exact same_l0 R.1 (by omega) R.1.length 0 k (by omega) (by omega)
end Go.Proofs.YtabhfloclcmjnaaDoor.Pure
