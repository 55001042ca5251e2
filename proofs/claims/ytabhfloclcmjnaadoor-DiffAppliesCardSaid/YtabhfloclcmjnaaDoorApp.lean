/-
  What diff.Apply tells, and that a diff's changes, done, are what is applied, in plain Lean: by this session. Conditions: as typed.
-/
import Derived.Test.YtabhfloclcmjnaaDoorRev
import Derived.Test.YtabhfloclcmjnaaDoorChg
import Derived.Test.YtabhfloclcmjnaaDoorPx12
namespace Go.Proofs.YtabhfloclcmjnaaDoor.X
open Go Go.RowKit Go.Shelf Go.Proofs.YtabhfloclcmjnaaDoorW.PrintWords Go.Proofs.YtabhfloclcmjnaaDoor.P
set_option linter.unusedVariables false
theorem bytes_back (s : ByteArray) : strOfNums (bytesOf s) = s := by
  apply ByteArray.ext
  apply Array.ext'
  simp only [strOfNums, bytesOf, List.map_map]
  have h : ((fun (n : Int) => UInt8.ofNat n.toNat) ∘ fun (b : UInt8) => (b.toNat : Int)) = id := by
    funext b
    simp
  rw [h, List.map_id]
theorem bytesOf_append (a b : ByteArray) : bytesOf (a ++ b) = bytesOf a ++ bytesOf b := by
  simp [bytesOf]
theorem toList_inj {a b : ByteArray} (h : a.toList = b.toList) : a = b := by
  rw [Go.ByteArray.toList_eq, Go.ByteArray.toList_eq] at h
  apply ByteArray.ext
  exact Array.ext' h
theorem app_prefix (a b : ByteArray) : (a ++ b).extract 0 a.size = a := by
  apply ByteArray.ext
  simp [ByteArray.data_extract, ByteArray.data_append]
theorem app_split (a : ByteArray) (n : Nat) (h : n ≤ a.size) : a.extract 0 n ++ a.extract n a.size = a := by
  apply ByteArray.ext
  simp only [ByteArray.data_append, ByteArray.data_extract]
  rw [Array.extract_append_extract]
  have e1 : min 0 n = 0 := by omega
  have e2 : max n a.size = a.data.size := by
    have : a.size = a.data.size := rfl
    omega
  rw [e1, e2]
  simp
def wasB : List S40 → ByteArray
  | [] => ByteArray.empty
  | p :: l => if p.f0 = 1 then wasB l else p.f1 ++ wasB l
def nowB : List S40 → ByteArray
  | [] => ByteArray.empty
  | p :: l => if p.f0 = 2 then nowB l else p.f1 ++ nowB l
theorem app_assoc (a b c : ByteArray) : a ++ b ++ c = a ++ (b ++ c) := by
  apply ByteArray.ext
  simp
theorem app_empty (a : ByteArray) : a ++ ByteArray.empty = a := by
  apply ByteArray.ext
  simp
theorem nil_iff (s : ByteArray) : s.toList = [] ↔ ByteArray.empty = s := by
  constructor
  · intro h
    exact (toList_inj (h.trans (by rw [Go.ByteArray.toList_eq]; rfl))).symm
  · rintro rfl
    rw [Go.ByteArray.toList_eq]; rfl
theorem apply_l0 (l : List S40) (hl : l.length ≤ 1000) (hz : ∀ p ∈ l, p.f1.size ≤ 2000) : ∀ d i k (rest acc : ByteArray), i + d = l.length → 2 * d + 1 ≤ k → acc.size ≤ 2000 * i →
    diff_Apply.l0 k rest (bytesOf acc) l (l.length : Int) (i : Int) = some (if wasB (l.drop i) = rest then (acc ++ nowB (l.drop i), 0) else (⟨#[]⟩, 3))
  | 0, i, k, rest, acc, hi, hk, ha => by
    obtain ⟨k, rfl⟩ : ∃ x, k = x + 1 := ⟨k - 1, by omega⟩
    rw [diff_Apply.l0, if_neg (by omega), List.drop_of_length_le (by omega), bytes_back]
    simp only [wasB, nowB, app_empty]
    by_cases h : rest.toList = []
    · rw [if_pos h, if_pos ((nil_iff rest).1 h)]
    · rw [if_neg h, if_neg (fun e => h ((nil_iff rest).2 e))]
  | d + 1, i, k, rest, acc, hi, hk, ha => by
    obtain ⟨k, rfl⟩ : ∃ x, k = x + 1 + 1 := ⟨k - 2, by omega⟩
    have hlt : i < l.length := by omega
    have hsz := hz l[i] (List.getElem_mem hlt)
    have hw : wrap64 ((i : Int) + 1) = ((i + 1 : Nat) : Int) := by rw [w64c (by omega) (by omega)]; omega
    have hbl : (bytesOf acc).length = acc.size := bytesOf_length acc
    rw [diff_Apply.l0, if_pos (by omega), if_pos (by omega), if_pos (by omega), rd40_get l i hlt, hw, List.drop_eq_getElem_cons hlt]
    simp only [wasB, nowB]
    obtain ⟨⟨pk, t⟩, hp⟩ : ∃ p, l[i] = p := ⟨_, rfl⟩
    rw [hp] at hsz ⊢
    simp only at hsz ⊢
    by_cases c1 : pk = 1
    · rw [if_pos c1, if_neg (by omega), if_pos (by omega), if_pos c1, if_neg (show ¬ pk = 2 by omega), ← bytesOf_append, apply_l0 l hl hz d (i + 1) (k + 1) rest (acc ++ t) (by omega) (by omega) (by rw [ByteArray.size_append]; omega), app_assoc]
    · rw [if_neg c1, if_neg c1]
      by_cases c2 : (t.size : Int) > (rest.size : Int)
      · rw [if_pos c2, diff_Apply.j1, if_pos rfl, if_neg (fun e => by have := congrArg ByteArray.size e; rw [ByteArray.size_append] at this; omega)]
      · rw [if_neg c2, if_pos (by omega), if_pos (by omega), Int.toNat_natCast, diff_Apply.j1]
        by_cases c3 : rest.extract 0 t.size = t
        · have hr : t ++ rest.extract t.size rest.size = rest := by
            have := app_split rest t.size (by omega)
            rwa [c3] at this
          have hiff : (t ++ wasB (l.drop (i + 1)) = rest) ↔ wasB (l.drop (i + 1)) = rest.extract t.size rest.size := by
            constructor
            · intro e
              rw [← e]
              exact (extract_app t _).symm
            · intro e
              rw [e, hr]
          rw [c3, if_neg (by simp), if_pos (by omega), if_pos (by omega), Int.toNat_natCast]
          by_cases c4 : pk = 2
          · rw [if_pos c4, if_pos c4, hw, apply_l0 l hl hz d (i + 1) k _ acc (by omega) (by omega) (by omega)]
            by_cases e : wasB (l.drop (i + 1)) = rest.extract t.size rest.size
            · rw [if_pos e, if_pos (hiff.2 e)]
            · rw [if_neg e, if_neg (fun h => e (hiff.1 h))]
          · rw [if_neg c4, if_neg c4, if_pos (by omega), hw, ← bytesOf_append, apply_l0 l hl hz d (i + 1) k _ (acc ++ t) (by omega) (by omega) (by rw [ByteArray.size_append]; omega), app_assoc]
            by_cases e : wasB (l.drop (i + 1)) = rest.extract t.size rest.size
            · rw [if_pos e, if_pos (hiff.2 e)]
            · rw [if_neg e, if_neg (fun h => e (hiff.1 h))]
        · rw [if_pos (by rw [bne_iff_ne]; exact fun e => c3 (toList_inj e)), if_neg (fun e => c3 (by rw [← e]; exact app_prefix t _))]
def applyR (a : ByteArray) (l : List S40) : ByteArray × Int := if 0 ≤ lenU a then (if askR l = 0 then (if wasB l = a then (nowB l, 0) else (⟨#[]⟩, 3)) else (⟨#[]⟩, askR l)) else (⟨#[]⟩, 2)
theorem apply_f (a : ByteArray) (l : List S40) (hs : a.size ≤ 1000000) (hl : l.length ≤ 1000) (hz : ∀ p ∈ l, p.f1.size ≤ 2000) (k : Nat) (hk : 3000 ≤ k) : diff_Apply.f k a l = some (applyR a l) := by
  unfold diff_Apply.f applyR
  rw [may_f a (by omega), Option.bind_some]
  by_cases h : 0 ≤ lenU a
  · rw [if_pos (decide_eq_true h), if_pos h, asked_f' l (by omega) (fun p hp => by have := hz p hp; omega) k (by omega), Option.bind_some]
    by_cases h2 : askR l = 0
    · rw [if_pos h2, if_pos h2]
      have h3 := apply_l0 l hl hz l.length 0 k a ByteArray.empty (by omega) (by omega) (by simp)
      rw [List.drop_zero] at h3
      have e1 : bytesOf ByteArray.empty = [] := rfl
      have e2 : ∀ b : ByteArray, ByteArray.empty ++ b = b := fun b => by apply ByteArray.ext; simp
      rw [e1, e2] at h3
      exact h3
    · rw [if_neg h2, if_neg h2]
  · rw [if_neg (by rw [decide_eq_true_eq]; exact h), if_neg h]
/-! ### the changes, done -/
def runesU (s : ByteArray) : List Int := (textOf s).getD []
def wasU : List S40 → List Int
  | [] => []
  | p :: l => if p.f0 = 1 then wasU l else runesU p.f1 ++ wasU l
def nowU : List S40 → List Int
  | [] => []
  | p :: l => if p.f0 = 2 then nowU l else runesU p.f1 ++ nowU l
def Inv (W N : List Int) (b : Bool) (o : List S46) : Prop :=
  (b = false → ∀ R, runD (W ++ R) (o.reverse.map tri46) = some (N ++ R)) ∧
  (b = true → ∃ o0 W0 D N0 tx u, o = o0 ++ [⟨(W0.length : Nat), (D.length : Nat), tx⟩] ∧ textOf tx = some u ∧ W = W0 ++ D ∧ N = N0 ++ u ∧ ∀ R, runD (W0 ++ R) (o0.reverse.map tri46) = some (N0 ++ R))
theorem Inv.close {W N : List Int} {b : Bool} {o : List S46} (h : Inv W N b o) (R : List Int) : runD (W ++ R) (o.reverse.map tri46) = some (N ++ R) := by
  cases b with
  | false => exact h.1 rfl R
  | true =>
    obtain ⟨o0, W0, D, N0, tx, u, rfl, hu, rfl, rfl, h0⟩ := h.2 rfl
    rw [List.reverse_append]
    simp only [List.reverse_cons, List.reverse_nil, List.nil_append, List.singleton_append, List.map_cons, runD, tri46]
    rw [if_pos ⟨by simp, by simp only [List.length_append]; omega, by simp, by simp only [List.length_append]; omega⟩]
    have hc : chg (W0 ++ D ++ R) (((W0.length : Nat) : Int), ((D.length : Nat) : Int), tx) = W0 ++ (u ++ R) := by
      simp only [chg, hu, Option.getD_some, Int.toNat_natCast]
      rw [show (((W0.length : Nat) : Int) + ((D.length : Nat) : Int)).toNat = (W0 ++ D).length by rw [List.length_append]; omega, List.drop_left, List.append_assoc, List.take_left]
    rw [hc]
    have h1 := h0 (u ++ R)
    rw [← List.append_assoc N0] at h1
    exact h1
theorem Inv.opened {W N : List Int} {b : Bool} {o : List S46} (h : Inv W N b o) (a : Int) (ha : a = (W.length : Nat)) : ∃ o0 W0 D N0 tx u, X.opened o b a = o0 ++ [⟨(W0.length : Nat), (D.length : Nat), tx⟩] ∧ textOf tx = some u ∧ W = W0 ++ D ∧ N = N0 ++ u ∧ ∀ R, runD (W0 ++ R) (o0.reverse.map tri46) = some (N0 ++ R) := by
  cases b with
  | true => exact h.2 rfl
  | false => exact ⟨o, W, [], N, ⟨#[]⟩, [], by rw [ha]; rfl, rfl, by simp, by simp, h.1 rfl⟩
theorem lastMap_snoc (f : S46 → S46) (o : List S46) (x : S46) : lastMap f (o ++ [x]) = o ++ [f x] := by
  unfold lastMap
  rw [List.length_append, List.length_singleton, Nat.add_sub_cancel]
  rw [List.getD_eq_getElem?_getD, List.getElem?_append_right (Nat.le_refl _), Nat.sub_self]
  simp
theorem textOf_app {s t : ByteArray} {a b : List Int} (hs : textOf s = some a) (ht : textOf t = some b) : textOf (s ++ t) = some (a ++ b) := by
  rw [(text_str hs).1, (text_str ht).1, ← strOf_append]
  exact textOf_str (by rw [allRunes_append, (text_str hs).2, (text_str ht).2]; rfl)
theorem chg_run : ∀ (l : List S40) (a : Int) (b : Bool) (o : List S46) (W N : List Int), (∀ p ∈ l, 0 ≤ lenU p.f1 ∧ (p.f0 = 0 ∨ p.f0 = 1 ∨ p.f0 = 2)) → a = (W.length : Nat) → Inv W N b o → ∀ R, runD (W ++ (wasU l ++ R)) ((chgF l a b o).reverse.map tri46) = some (N ++ (nowU l ++ R))
  | [], a, b, o, W, N, hv, ha, hI, R => hI.close R
  | p :: l, a, b, o, W, N, hv, ha, hI, R => by
    have hl := fun q hq => hv q (List.mem_cons_of_mem _ hq)
    obtain ⟨t, ht⟩ := textOf_of_len (hv p (List.mem_cons_self ..)).1
    have hr : runesU p.f1 = t := by unfold runesU; rw [ht]; rfl
    simp only [chgF, wasU, nowU]
    rw [lenU_of_some ht, hr]
    by_cases c0 : p.f0 = 0
    · rw [if_pos c0, if_neg (by omega), if_neg (by omega)]
      have h := chg_run l (a + (t.length : Nat)) false o (W ++ t) (N ++ t) hl (by rw [ha, List.length_append]; omega) ⟨fun _ R => by
        rw [List.append_assoc, List.append_assoc]; exact hI.close (t ++ R), fun h => by cases h⟩ R
      rw [List.append_assoc, List.append_assoc] at h
      rw [List.append_assoc, List.append_assoc]
      exact h
    · rw [if_neg c0]
      obtain ⟨o0, W0, D, N0, tx, u, ho, hu, hW, hN, h0⟩ := hI.opened a ha
      by_cases c2 : p.f0 = 2
      · rw [if_pos c2, if_neg (by omega), if_pos c2, ho, lastMap_snoc]
        have h := chg_run l (a + (t.length : Nat)) true (o0 ++ [⟨(W0.length : Nat), ((D.length : Nat) : Int) + (t.length : Nat), tx⟩]) (W ++ t) N hl (by rw [ha, List.length_append]; omega) ⟨fun h => (by cases h), fun _ => ⟨o0, W0, D ++ t, N0, tx, u, by rw [List.length_append]; rfl, hu, by rw [hW, List.append_assoc], hN, h0⟩⟩ R
        rw [List.append_assoc] at h
        rw [List.append_assoc]
        exact h
      · rw [if_neg c2, if_neg c2, ho, lastMap_snoc]
        by_cases c1 : p.f0 = 1
        · rw [if_pos c1]
          have h := chg_run l a true (o0 ++ [⟨(W0.length : Nat), (D.length : Nat), tx ++ p.f1⟩]) W (N ++ t) hl ha ⟨fun h => (by cases h), fun _ => ⟨o0, W0, D, N0, tx ++ p.f1, u ++ t, rfl, textOf_app hu ht, hW, by rw [hN, List.append_assoc], h0⟩⟩ R
          rw [List.append_assoc] at h
          rw [List.append_assoc]
          exact h
        · have := (hv p (List.mem_cons_self ..)).2; omega
theorem ask_ok {l : List S40} (h : askR l = 0) : ∀ p ∈ l, 0 ≤ lenU p.f1 ∧ (p.f0 = 0 ∨ p.f0 = 1 ∨ p.f0 = 2) := by
  unfold askR at h
  split at h
  · rename_i h1
    split at h
    · rename_i h2
      intro p hp
      have a1 := of_decide_eq_true (List.all_eq_true.1 h1 p hp)
      have a2 := List.all_eq_true.1 h2 p hp
      unfold partOk at a2
      have a3 := of_decide_eq_true a2
      exact ⟨a1, by omega⟩
    · cases h
  · cases h
theorem was_str : ∀ (l : List S40), (∀ p ∈ l, 0 ≤ lenU p.f1) → (wasB l = strOf (wasU l) ∧ allRunes (wasU l) = true) ∧ (nowB l = strOf (nowU l) ∧ allRunes (nowU l) = true)
  | [], _ => ⟨⟨rfl, rfl⟩, ⟨rfl, rfl⟩⟩
  | p :: l, hv => by
    obtain ⟨⟨i1, i2⟩, ⟨i3, i4⟩⟩ := was_str l (fun q hq => hv q (List.mem_cons_of_mem _ hq))
    obtain ⟨t, ht⟩ := textOf_of_len (hv p (List.mem_cons_self ..))
    have hr : runesU p.f1 = t := by unfold runesU; rw [ht]; rfl
    obtain ⟨t1, t2⟩ := text_str ht
    simp only [wasB, wasU, nowB, nowU]
    rw [hr]
    refine ⟨?_, ?_⟩
    · split
      · exact ⟨i1, i2⟩
      · rw [strOf_append, ← i1, ← t1, allRunes_append, i2, t2]
        exact ⟨rfl, rfl⟩
    · split
      · exact ⟨i3, i4⟩
      · rw [strOf_append, ← i3, ← t1, allRunes_append, i4, t2]
        exact ⟨rfl, rfl⟩
theorem lastMap_mem {f : S46 → S46} {o : List S46} {x : S46} (h : x ∈ lastMap f o) : x ∈ o ∨ ∃ y, (y ∈ o ∨ y = z46) ∧ x = f y := by
  unfold lastMap at h
  rcases List.mem_or_eq_of_mem_set h with h | h
  · exact .inl h
  · refine .inr ⟨_, ?_, h⟩
    rw [List.getD_eq_getElem?_getD]
    cases he : o[o.length - 1]? with
    | none => exact .inr rfl
    | some y => exact .inl (List.mem_of_getElem? he)
theorem opened_mem {o : List S46} {b : Bool} {a : Int} {x : S46} (h : x ∈ opened o b a) : x ∈ o ∨ x = ⟨a, 0, ⟨#[]⟩⟩ := by
  unfold opened at h
  split at h
  · exact .inl h
  · rcases List.mem_append.1 h with h | h
    · exact .inl h
    · exact .inr (List.mem_singleton.1 h)
theorem chgF_bd : ∀ (l : List S40) (i : Nat) (a : Int) (b : Bool) (o : List S46), (∀ p ∈ l, p.f1.size ≤ 2000) → o.length ≤ i → (∀ x ∈ o, x.f2.size ≤ 2000 * i) → (chgF l a b o).length ≤ i + l.length ∧ ∀ x ∈ chgF l a b o, x.f2.size ≤ 2000 * (i + l.length)
  | [], i, a, b, o, _, h1, h2 => ⟨h1, h2⟩
  | p :: l, i, a, b, o, hz, h1, h2 => by
    have hl := fun q hq => hz q (List.mem_cons_of_mem _ hq)
    have hp := hz p (List.mem_cons_self ..)
    have hol : (opened o b a).length ≤ i + 1 := by
      unfold opened
      split
      · omega
      · rw [List.length_append, List.length_singleton]; omega
    have hob : ∀ x, (x ∈ opened o b a ∨ x = z46) → x.f2.size ≤ 2000 * i := fun x hx => by
      rcases hx with hx | rfl
      · rcases opened_mem hx with h | rfl
        · exact h2 x h
        · exact Nat.zero_le _
      · exact Nat.zero_le _
    have fin : ∀ (f : S46 → S46) (a' : Int), (∀ y, (f y).f2.size ≤ y.f2.size + 2000) → (chgF l a' true (lastMap f (opened o b a))).length ≤ i + (p :: l).length ∧ ∀ x ∈ chgF l a' true (lastMap f (opened o b a)), x.f2.size ≤ 2000 * (i + (p :: l).length) := by
      intro f a' hf
      have h := chgF_bd l (i + 1) a' true (lastMap f (opened o b a)) hl (by unfold lastMap; rw [List.length_set]; exact hol) (fun x hx => by
        rcases lastMap_mem hx with h | ⟨y, hy, rfl⟩
        · have := hob x (.inl h); omega
        · have := hob y hy; have := hf y; omega)
      rw [List.length_cons]
      exact ⟨by omega, fun x hx => by have := h.2 x hx; omega⟩
    simp only [chgF]
    split
    · have h := chgF_bd l (i + 1) (a + lenU p.f1) false o hl (by omega) (fun x hx => by have := h2 x hx; omega)
      rw [List.length_cons]
      exact ⟨by omega, fun x hx => by have := h.2 x hx; omega⟩
    · split
      · exact fin _ _ (fun y => by simp only; omega)
      · exact fin _ _ (fun y => by simp only [ByteArray.size_append]; omega)
theorem chgF_text : ∀ (l : List S40) (a : Int) (b : Bool) (o : List S46), (∀ p ∈ l, 0 ≤ lenU p.f1) → (∀ x ∈ o, 0 ≤ lenU x.f2) → ∀ x ∈ chgF l a b o, 0 ≤ lenU x.f2
  | [], a, b, o, _, h2 => h2
  | p :: l, a, b, o, hv, h2 => by
    have hl := fun q hq => hv q (List.mem_cons_of_mem _ hq)
    have hob : ∀ x, (x ∈ opened o b a ∨ x = z46) → 0 ≤ lenU x.f2 := fun x hx => by
      have e0 : 0 ≤ lenU (⟨#[]⟩ : ByteArray) := by decide +kernel
      rcases hx with hx | rfl
      · rcases opened_mem hx with h | rfl
        · exact h2 x h
        · exact e0
      · exact e0
    have fin : ∀ (f : S46 → S46) (a' : Int), (∀ y, 0 ≤ lenU y.f2 → 0 ≤ lenU (f y).f2) → ∀ x ∈ chgF l a' true (lastMap f (opened o b a)), 0 ≤ lenU x.f2 := by
      intro f a' hf
      refine chgF_text l a' true _ hl (fun x hx => ?_)
      rcases lastMap_mem hx with h | ⟨y, hy, rfl⟩
      · exact hob x (.inl h)
      · exact hf y (hob y hy)
    simp only [chgF]
    split
    · exact chgF_text l _ false o hl h2
    · split
      · exact fin _ _ (fun y hy => hy)
      · refine fin _ _ (fun y hy => ?_)
        obtain ⟨u, hu⟩ := textOf_of_len hy
        obtain ⟨t, ht⟩ := textOf_of_len (hv p (List.mem_cons_self ..))
        show 0 ≤ lenU (y.f2 ++ p.f1)
        rw [lenU_of_some (textOf_app hu ht)]
        omega
/-- The changes of parts, done, are the parts applied. -/
theorem do_changes (l : List S40) (hask : askR l = 0) (hl : l.length ≤ 1000) (hz : ∀ p ∈ l, p.f1.size ≤ 2000) (hs : (wasB l).size ≤ 1000000) (k : Nat) (hk : 30010 ≤ k) : diff_Do.f k (wasB l) (chgF l 0 false []).reverse = some (nowB l, 0) := by
  have hv := ask_ok hask
  have hv1 := fun p hp => (hv p hp).1
  obtain ⟨h1, h2⟩ := chgF_bd l 0 0 false [] hz (by simp) (by simp)
  rw [Nat.zero_add] at h1 h2
  rw [do_f (wasB l) _ hs (fun x hx => by have := h2 x (List.mem_reverse.1 hx); omega) (by rw [List.length_reverse]; omega) k hk]
  obtain ⟨⟨w1, w2⟩, ⟨n1, n2⟩⟩ := was_str l hv1
  unfold doR
  rw [w1, textOf_str w2]
  simp only
  rw [if_pos (show allText _ = true from List.all_eq_true.2 fun x hx => by
    obtain ⟨y, hy, rfl⟩ := List.mem_map.1 hx
    exact decide_eq_true (chgF_text l 0 false [] hv1 (by simp) y (List.mem_reverse.1 hy)))]
  have h := chg_run l 0 false [] [] [] hv rfl ⟨fun _ R => rfl, fun h => by cases h⟩ []
  rw [List.nil_append, List.nil_append, List.append_nil, List.append_nil] at h
  rw [h, n1]
end Go.Proofs.YtabhfloclcmjnaaDoor.X
