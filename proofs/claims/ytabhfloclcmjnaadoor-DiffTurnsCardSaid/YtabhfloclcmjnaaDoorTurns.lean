/-
  XDoQ, XApp, XPure32t as one text: by this session. Conditions: as typed.
-/
import Derived.Test.YtabhfloclcmjnaaDoorTxtD
import Derived.Test.YtabhfloclcmjnaaDoorPx8
import Derived.Test.YtabhfloclcmjnaaDoorChg
import Derived.Test.YtabhfloclcmjnaaDoorPx12
import Derived.Test.YtabhfloclcmjnaaDoorDifC
import Derived.Test.YtabhfloclcmjnaaDoorPx14
namespace Go.Proofs.YtabhfloclcmjnaaDoor.X
open Go Go.RowKit Go.Shelf Go.Proofs.YtabhfloclcmjnaaDoorW.PrintWords Go.Proofs.YtabhfloclcmjnaaDoor.P
set_option linter.unusedVariables false
/-- A change: from where on, how many runes, by what. -/
abbrev Chg := Int × Int × ByteArray
def chgOk (r : List Int) (x : Chg) : Prop := 0 ≤ x.1 ∧ x.1 ≤ (r.length : Int) ∧ 0 ≤ x.2.1 ∧ x.2.1 ≤ (r.length : Int) - x.1
instance (r : List Int) (x : Chg) : Decidable (chgOk r x) := by unfold chgOk; infer_instance
def chg (r : List Int) (x : Chg) : List Int := r.take x.1.toNat ++ ((textOf x.2.2).getD [] ++ r.drop (x.1 + x.2.1).toNat)
def runD : List Int → List Chg → Option (List Int)
  | r, [] => some r
  | r, x :: l => if chgOk r x then runD (chg r x) l else none
def allText (l : List Chg) : Bool := l.all fun x => decide (0 ≤ lenU x.2.2)
/-- A text behind changes. -/
def doR (a : ByteArray) (l : List Chg) : ByteArray × Int :=
  match textOf a with
  | none => (⟨#[]⟩, 2)
  | some r => if allText l = true then (match runD r l with | some r' => (strOf r', 0) | none => (⟨#[]⟩, 3)) else (⟨#[]⟩, 2)
def tri46 (x : S46) : Chg := (x.f0, x.f1, x.f2)
theorem textOf_of_len {s : ByteArray} (h : 0 ≤ lenU s) : ∃ l, textOf s = some l := by
  cases ht : textOf s with
  | none => rw [lenU_of_none ht] at h; omega
  | some l => exact ⟨l, rfl⟩
theorem chg_runes {r : List Int} (h : allRunes r = true) (x : Chg) : allRunes (chg r x) = true := by
  unfold chg
  rw [allRunes_append, allRunes_append, allRunes_take h, allRunes_drop h]
  cases ht : textOf x.2.2 with
  | none => rfl
  | some t => rw [Option.getD_some, (text_str ht).2]; rfl
theorem chg_len {r : List Int} {x : Chg} (h : chgOk r x) : (chg r x).length ≤ r.length + x.2.2.size := by
  unfold chg
  obtain ⟨h1, h2, h3, h4⟩ := h
  have ht : ((textOf x.2.2).getD []).length ≤ x.2.2.size := by
    cases ht : textOf x.2.2 with
    | none => simp
    | some t => exact text_len ht
  simp only [List.length_append, List.length_take, List.length_drop]
  omega
theorem rd46_get (l : List S46) (i : Nat) (h : i < l.length) : rd_T46 l (i : Int) = l[i] := by
  unfold rd_T46
  rw [Int.toNat_natCast, List.getD_eq_getElem?_getD, List.getElem?_eq_getElem h]
  rfl
theorem may_f (s : ByteArray) (hs : s.size ≤ 35184372088832) : runes_May.f s = some (decide (0 ≤ lenU s)) := by
  unfold runes_May.f
  rw [len_f s hs]
  rfl
theorem w64d {x : Int} (h : -100000000000 ≤ x) (h2 : x ≤ 100000000000) : wrap64 x = x := by unfold wrap64; omega
theorem concat3 (a b c : List Int) (ha : a.length ≤ 10000000000) (hb : b.length ≤ 10000000000) (hc : c.length ≤ 10000000000) : slices_Concat.f [a, b, c] = some (a ++ (b ++ c)) := by
  unfold slices_Concat.f
  rw [if_pos (by simp; omega), if_pos (by simp)]
  simp
theorem do_l1 (l : List S46) (hx : ∀ x ∈ l, x.f2.size ≤ 2000000 ∧ 0 ≤ lenU x.f2) (hl : l.length ≤ 1000) : ∀ d i k (r : List Int), i + d = l.length → 2 * d + 1 ≤ k → r.length ≤ 1000000 + 2000000 * i → allRunes r = true →
    diff_Do.l1 k r l (l.length : Int) (i : Int) = some (match runD r ((l.drop i).map tri46) with | some r' => (strOf r', 0) | none => (⟨#[]⟩, 3))
  | 0, i, k, r, hi, hk, hr, ha => by
    obtain ⟨k, rfl⟩ : ∃ x, k = x + 1 := ⟨k - 1, by omega⟩
    simp only [diff_Do.l1]
    rw [if_neg (by omega), List.drop_eq_nil_of_le (by omega), join_f r (by omega), if_pos ha, Option.bind_some]
    rfl
  | d + 1, i, k, r, hi, hk, hr, ha => by
    obtain ⟨k, rfl⟩ : ∃ x, k = x + 1 + 1 := ⟨k - 2, by omega⟩
    have hlt : i < l.length := by omega
    obtain ⟨hx1, hx2⟩ := hx l[i] (List.getElem_mem hlt)
    obtain ⟨t, ht⟩ := textOf_of_len hx2
    have htl := text_len ht
    rw [List.drop_eq_getElem_cons hlt, List.map_cons]
    simp only [runD]
    rw [diff_Do.l1, if_pos (by omega), if_pos (by omega), if_pos (by omega), rd46_get l i hlt]
    obtain ⟨x, hxe⟩ : ∃ x, l[i] = x := ⟨_, rfl⟩
    rw [hxe] at hx1 ht htl ⊢
    have hbad : ¬ chgOk r (tri46 x) → diff_Do.j2 (k + 1) r l (l.length : Int) (i : Int) true x.f0 x.f1 x.f2 = some (match (none : Option (List Int)) with | some r' => (strOf r', 0) | none => (⟨#[]⟩, 3)) := fun _ => by
      rw [diff_Do.j2, if_pos rfl]
    by_cases c1 : x.f0 < 0
    · have hn : ¬ chgOk r (tri46 x) := fun h => by have := h.1; simp only [tri46] at this; omega
      rw [if_pos c1, if_neg hn, hbad hn]
    rw [if_neg c1]
    by_cases c2 : x.f0 > (r.length : Int)
    · have hn : ¬ chgOk r (tri46 x) := fun h => by have := h.2.1; simp only [tri46] at this; omega
      rw [if_pos c2, if_neg hn, hbad hn]
    rw [if_neg c2]
    by_cases c3 : x.f1 < 0
    · have hn : ¬ chgOk r (tri46 x) := fun h => by have := h.2.2.1; simp only [tri46] at this; omega
      rw [if_pos c3, if_neg hn, hbad hn]
    rw [if_neg c3, w64d (by omega) (by omega)]
    by_cases c4 : x.f1 > (r.length : Int) - x.f0
    · have hn : ¬ chgOk r (tri46 x) := fun h => by have := h.2.2.2; simp only [tri46] at this; omega
      rw [decide_eq_true c4, if_neg hn, hbad hn]
    have hok : chgOk r (tri46 x) := ⟨by simp only [tri46]; omega, by simp only [tri46]; omega, by simp only [tri46]; omega, by simp only [tri46]; omega⟩
    rw [decide_eq_false c4, if_pos hok, diff_Do.j2, if_neg (by simp), splitf_some (by omega) ht, Option.bind_some]
    rw [w64d (x := x.f0 + x.f1) (by omega) (by omega), if_pos (by omega), if_pos (by omega), if_pos (by omega), if_pos (by omega)]
    have hc : slices_Concat.f [r.take x.f0.toNat, t, r.drop (x.f0 + x.f1).toNat] = some (chg r (tri46 x)) := by
      rw [concat3 _ _ _ (by rw [List.length_take]; omega) (by omega) (by rw [List.length_drop]; omega)]
      simp only [chg, tri46, ht, Option.getD_some]
    simp only
    rw [hc, Option.bind_some, w64d (by omega) (by omega), show (i : Int) + 1 = ((i + 1 : Nat) : Int) by omega]
    have hcl := chg_len hok
    simp only [tri46] at hcl
    exact do_l1 l hx hl d (i + 1) k (chg r (tri46 x)) (by omega) (by omega) (by simp only [tri46] at hcl ⊢; omega) (chg_runes ha _)
theorem do_l0 (l : List S46) (hx : ∀ x ∈ l, x.f2.size ≤ 2000000) (hl : l.length ≤ 1000) (r : List Int) : ∀ d i k (e : Int), i + d = l.length → d + 1 ≤ k → (e = 0 ∨ e = 2) →
    diff_Do.l0 k l r e l (l.length : Int) (i : Int) = if e = 0 ∧ allText ((l.drop i).map tri46) = true then diff_Do.l1 (k - d - 1) r l (l.length : Int) 0 else some (⟨#[]⟩, 2)
  | 0, i, k, e, hi, hk, he => by
    obtain ⟨k, rfl⟩ : ∃ x, k = x + 1 := ⟨k - 1, by omega⟩
    rw [diff_Do.l0, if_neg (by omega), List.drop_eq_nil_of_le (by omega)]
    rcases he with rfl | rfl
    · rw [if_pos rfl, if_pos ⟨rfl, rfl⟩]; rfl
    · rw [if_neg (by omega), if_neg (by omega)]
  | d + 1, i, k, e, hi, hk, he => by
    obtain ⟨k, rfl⟩ : ∃ x, k = x + 1 := ⟨k - 1, by omega⟩
    have hlt : i < l.length := by omega
    rw [diff_Do.l0, if_pos (by omega), if_pos (by omega), if_pos (by omega), rd46_get l i hlt, w64d (by omega) (by omega), show (i : Int) + 1 = ((i + 1 : Nat) : Int) by omega, List.drop_eq_getElem_cons hlt, List.map_cons]
    have hz := hx l[i] (List.getElem_mem hlt)
    rw [may_f _ (by omega), Option.bind_some]
    simp only [allText, List.all_cons, Bool.and_eq_true, decide_eq_true_eq, tri46]
    rw [show k + 1 - (d + 1) - 1 = k - d - 1 by omega]
    rcases he with rfl | rfl
    · rw [if_pos rfl]
      by_cases hm : 0 ≤ lenU l[i].f2
      · rw [if_pos hm, do_l0 l hx hl r d (i + 1) k 0 (by omega) (by omega) (.inl rfl)]
        simp only [hm, true_and, allText]
      · rw [if_neg hm, do_l0 l hx hl r d (i + 1) k 2 (by omega) (by omega) (.inr rfl), if_neg (by omega), if_neg (fun h => hm h.2.1)]
    · rw [if_neg (by omega), do_l0 l hx hl r d (i + 1) k 2 (by omega) (by omega) (.inr rfl), if_neg (by omega), if_neg (by omega)]
/-- The program's Do. -/
theorem do_f (a : ByteArray) (l : List S46) (hs : a.size ≤ 1000000) (hx : ∀ x ∈ l, x.f2.size ≤ 2000000) (hl : l.length ≤ 1000) (k : Nat) (hk : 30010 ≤ k) : diff_Do.f k a l = some (doR a (l.map tri46)) := by
  unfold diff_Do.f doR
  cases ht : textOf a with
  | none =>
    rw [splitf_none (by omega) ht, Option.bind_some]
    simp only
    have h := do_l0 l hx hl [] l.length 0 k 2 (by omega) (by omega) (.inr rfl)
    rw [if_neg (by omega)] at h
    exact h
  | some r =>
    rw [splitf_some (by omega) ht, Option.bind_some]
    simp only
    have h := do_l0 l hx hl r l.length 0 k 0 (by omega) (by omega) (.inl rfl)
    rw [List.drop_zero] at h
    refine h.trans ?_
    by_cases hA : allText (l.map tri46) = true
    · rw [if_pos ⟨rfl, hA⟩, if_pos hA]
      have htl := text_len ht
      have h1 := do_l1 l (fun x hxm => ⟨hx x hxm, by
        have := List.all_eq_true.1 hA (tri46 x) (List.mem_map_of_mem hxm)
        simpa [tri46] using of_decide_eq_true this⟩) hl l.length 0 (k - l.length - 1) r (by omega) (by omega) (by omega) (text_str ht).2
      rw [List.drop_zero] at h1
      exact h1
    · rw [if_neg (fun h => hA h.2), if_neg hA]
end Go.Proofs.YtabhfloclcmjnaaDoor.X
namespace Go.Proofs.YtabhfloclcmjnaaDoor.X
open Go Go.RowKit Go.Shelf Go.Proofs.YtabhfloclcmjnaaDoorW.PrintWords Go.Proofs.YtabhfloclcmjnaaDoor.P
set_option linter.unusedVariables false
theorem bytes_back (s : ByteArray) : strOfNums (bytesOf s) = s := by
  apply ByteArray.ext
  apply Array.ext'
  simp only [strOfNums, bytesOf, List.map_map]
  have h : ((fun (n : Int) => UInt8.ofNat n.toNat) ∘ fun (b : UInt8) => (b.toNat : Int)) = id := by
    funext b
    simp
  rw [h, List.map_id]
theorem bytesOf_append (a b : ByteArray) : bytesOf (a ++ b) = bytesOf a ++ bytesOf b := by
  simp [bytesOf]
theorem toList_inj {a b : ByteArray} (h : a.toList = b.toList) : a = b := by
  rw [Go.ByteArray.toList_eq, Go.ByteArray.toList_eq] at h
  apply ByteArray.ext
  exact Array.ext' h
theorem app_prefix (a b : ByteArray) : (a ++ b).extract 0 a.size = a := by
  apply ByteArray.ext
  simp [ByteArray.data_extract, ByteArray.data_append]
theorem app_split (a : ByteArray) (n : Nat) (h : n ≤ a.size) : a.extract 0 n ++ a.extract n a.size = a := by
  apply ByteArray.ext
  simp only [ByteArray.data_append, ByteArray.data_extract]
  rw [Array.extract_append_extract]
  have e1 : min 0 n = 0 := by omega
  have e2 : max n a.size = a.data.size := by
    have : a.size = a.data.size := rfl
    omega
  rw [e1, e2]
  simp
def wasB : List S40 → ByteArray
  | [] => ByteArray.empty
  | p :: l => if p.f0 = 1 then wasB l else p.f1 ++ wasB l
def nowB : List S40 → ByteArray
  | [] => ByteArray.empty
  | p :: l => if p.f0 = 2 then nowB l else p.f1 ++ nowB l
theorem app_assoc (a b c : ByteArray) : a ++ b ++ c = a ++ (b ++ c) := by
  apply ByteArray.ext
  simp
theorem app_empty (a : ByteArray) : a ++ ByteArray.empty = a := by
  apply ByteArray.ext
  simp
theorem nil_iff (s : ByteArray) : s.toList = [] ↔ ByteArray.empty = s := by
  constructor
  · intro h
    exact (toList_inj (h.trans (by rw [Go.ByteArray.toList_eq]; rfl))).symm
  · rintro rfl
    rw [Go.ByteArray.toList_eq]; rfl
theorem apply_l0 (l : List S40) (hl : l.length ≤ 1000) (hz : ∀ p ∈ l, p.f1.size ≤ 2000) : ∀ d i k (rest acc : ByteArray), i + d = l.length → 2 * d + 1 ≤ k → acc.size ≤ 2000 * i →
    diff_Apply.l0 k rest (bytesOf acc) l (l.length : Int) (i : Int) = some (if wasB (l.drop i) = rest then (acc ++ nowB (l.drop i), 0) else (⟨#[]⟩, 3))
  | 0, i, k, rest, acc, hi, hk, ha => by
    obtain ⟨k, rfl⟩ : ∃ x, k = x + 1 := ⟨k - 1, by omega⟩
    rw [diff_Apply.l0, if_neg (by omega), List.drop_of_length_le (by omega), bytes_back]
    simp only [wasB, nowB, app_empty]
    by_cases h : rest.toList = []
    · rw [if_pos h, if_pos ((nil_iff rest).1 h)]
    · rw [if_neg h, if_neg (fun e => h ((nil_iff rest).2 e))]
  | d + 1, i, k, rest, acc, hi, hk, ha => by
    obtain ⟨k, rfl⟩ : ∃ x, k = x + 1 + 1 := ⟨k - 2, by omega⟩
    have hlt : i < l.length := by omega
    have hsz := hz l[i] (List.getElem_mem hlt)
    have hw : wrap64 ((i : Int) + 1) = ((i + 1 : Nat) : Int) := by rw [w64c (by omega) (by omega)]; omega
    have hbl : (bytesOf acc).length = acc.size := bytesOf_length acc
    rw [diff_Apply.l0, if_pos (by omega), if_pos (by omega), if_pos (by omega), rd40_get l i hlt, hw, List.drop_eq_getElem_cons hlt]
    simp only [wasB, nowB]
    obtain ⟨⟨pk, t⟩, hp⟩ : ∃ p, l[i] = p := ⟨_, rfl⟩
    rw [hp] at hsz ⊢
    simp only at hsz ⊢
    by_cases c1 : pk = 1
    · rw [if_pos c1, if_neg (by omega), if_pos (by omega), if_pos c1, if_neg (show ¬ pk = 2 by omega), ← bytesOf_append, apply_l0 l hl hz d (i + 1) (k + 1) rest (acc ++ t) (by omega) (by omega) (by rw [ByteArray.size_append]; omega), app_assoc]
    · rw [if_neg c1, if_neg c1]
      by_cases c2 : (t.size : Int) > (rest.size : Int)
      · rw [if_pos c2, diff_Apply.j1, if_pos rfl, if_neg (fun e => by have := congrArg ByteArray.size e; rw [ByteArray.size_append] at this; omega)]
      · rw [if_neg c2, if_pos (by omega), if_pos (by omega), Int.toNat_natCast, diff_Apply.j1]
        by_cases c3 : rest.extract 0 t.size = t
        · have hr : t ++ rest.extract t.size rest.size = rest := by
            have := app_split rest t.size (by omega)
            rwa [c3] at this
          have hiff : (t ++ wasB (l.drop (i + 1)) = rest) ↔ wasB (l.drop (i + 1)) = rest.extract t.size rest.size := by
            constructor
            · intro e
              rw [← e]
              exact (extract_app t _).symm
            · intro e
              rw [e, hr]
          rw [c3, if_neg (by simp), if_pos (by omega), if_pos (by omega), Int.toNat_natCast]
          by_cases c4 : pk = 2
          · rw [if_pos c4, if_pos c4, hw, apply_l0 l hl hz d (i + 1) k _ acc (by omega) (by omega) (by omega)]
            by_cases e : wasB (l.drop (i + 1)) = rest.extract t.size rest.size
            · rw [if_pos e, if_pos (hiff.2 e)]
            · rw [if_neg e, if_neg (fun h => e (hiff.1 h))]
          · rw [if_neg c4, if_neg c4, if_pos (by omega), hw, ← bytesOf_append, apply_l0 l hl hz d (i + 1) k _ (acc ++ t) (by omega) (by omega) (by rw [ByteArray.size_append]; omega), app_assoc]
            by_cases e : wasB (l.drop (i + 1)) = rest.extract t.size rest.size
            · rw [if_pos e, if_pos (hiff.2 e)]
            · rw [if_neg e, if_neg (fun h => e (hiff.1 h))]
        · rw [if_pos (by rw [bne_iff_ne]; exact fun e => c3 (toList_inj e)), if_neg (fun e => c3 (by rw [← e]; exact app_prefix t _))]
def applyR (a : ByteArray) (l : List S40) : ByteArray × Int := if 0 ≤ lenU a then (if askR l = 0 then (if wasB l = a then (nowB l, 0) else (⟨#[]⟩, 3)) else (⟨#[]⟩, askR l)) else (⟨#[]⟩, 2)
theorem apply_f (a : ByteArray) (l : List S40) (hs : a.size ≤ 1000000) (hl : l.length ≤ 1000) (hz : ∀ p ∈ l, p.f1.size ≤ 2000) (k : Nat) (hk : 3000 ≤ k) : diff_Apply.f k a l = some (applyR a l) := by
  unfold diff_Apply.f applyR
  rw [may_f a (by omega), Option.bind_some]
  by_cases h : 0 ≤ lenU a
  · rw [if_pos (decide_eq_true h), if_pos h, asked_f' l (by omega) (fun p hp => by have := hz p hp; omega) k (by omega), Option.bind_some]
    by_cases h2 : askR l = 0
    · rw [if_pos h2, if_pos h2]
      have h3 := apply_l0 l hl hz l.length 0 k a ByteArray.empty (by omega) (by omega) (by simp)
      rw [List.drop_zero] at h3
      have e1 : bytesOf ByteArray.empty = [] := rfl
      have e2 : ∀ b : ByteArray, ByteArray.empty ++ b = b := fun b => by apply ByteArray.ext; simp
      rw [e1, e2] at h3
      exact h3
    · rw [if_neg h2, if_neg h2]
  · rw [if_neg (by rw [decide_eq_true_eq]; exact h), if_neg h]
/-! ### the changes, done -/
def runesU (s : ByteArray) : List Int := (textOf s).getD []
def wasU : List S40 → List Int
  | [] => []
  | p :: l => if p.f0 = 1 then wasU l else runesU p.f1 ++ wasU l
def nowU : List S40 → List Int
  | [] => []
  | p :: l => if p.f0 = 2 then nowU l else runesU p.f1 ++ nowU l
def Inv (W N : List Int) (b : Bool) (o : List S46) : Prop :=
  (b = false → ∀ R, runD (W ++ R) (o.reverse.map tri46) = some (N ++ R)) ∧
  (b = true → ∃ o0 W0 D N0 tx u, o = o0 ++ [⟨(W0.length : Nat), (D.length : Nat), tx⟩] ∧ textOf tx = some u ∧ W = W0 ++ D ∧ N = N0 ++ u ∧ ∀ R, runD (W0 ++ R) (o0.reverse.map tri46) = some (N0 ++ R))
theorem Inv.close {W N : List Int} {b : Bool} {o : List S46} (h : Inv W N b o) (R : List Int) : runD (W ++ R) (o.reverse.map tri46) = some (N ++ R) := by
  cases b with
  | false => exact h.1 rfl R
  | true =>
    obtain ⟨o0, W0, D, N0, tx, u, rfl, hu, rfl, rfl, h0⟩ := h.2 rfl
    rw [List.reverse_append]
    simp only [List.reverse_cons, List.reverse_nil, List.nil_append, List.singleton_append, List.map_cons, runD, tri46]
    rw [if_pos ⟨by simp, by simp only [List.length_append]; omega, by simp, by simp only [List.length_append]; omega⟩]
    have hc : chg (W0 ++ D ++ R) (((W0.length : Nat) : Int), ((D.length : Nat) : Int), tx) = W0 ++ (u ++ R) := by
      simp only [chg, hu, Option.getD_some, Int.toNat_natCast]
      rw [show (((W0.length : Nat) : Int) + ((D.length : Nat) : Int)).toNat = (W0 ++ D).length by rw [List.length_append]; omega, List.drop_left, List.append_assoc, List.take_left]
    rw [hc]
    have h1 := h0 (u ++ R)
    rw [← List.append_assoc N0] at h1
    exact h1
theorem Inv.opened {W N : List Int} {b : Bool} {o : List S46} (h : Inv W N b o) (a : Int) (ha : a = (W.length : Nat)) : ∃ o0 W0 D N0 tx u, X.opened o b a = o0 ++ [⟨(W0.length : Nat), (D.length : Nat), tx⟩] ∧ textOf tx = some u ∧ W = W0 ++ D ∧ N = N0 ++ u ∧ ∀ R, runD (W0 ++ R) (o0.reverse.map tri46) = some (N0 ++ R) := by
  cases b with
  | true => exact h.2 rfl
  | false => exact ⟨o, W, [], N, ⟨#[]⟩, [], by rw [ha]; rfl, rfl, by simp, by simp, h.1 rfl⟩
theorem lastMap_snoc (f : S46 → S46) (o : List S46) (x : S46) : lastMap f (o ++ [x]) = o ++ [f x] := by
  unfold lastMap
  rw [List.length_append, List.length_singleton, Nat.add_sub_cancel]
  rw [List.getD_eq_getElem?_getD, List.getElem?_append_right (Nat.le_refl _), Nat.sub_self]
  simp
theorem textOf_app {s t : ByteArray} {a b : List Int} (hs : textOf s = some a) (ht : textOf t = some b) : textOf (s ++ t) = some (a ++ b) := by
  rw [(text_str hs).1, (text_str ht).1, ← strOf_append]
  exact textOf_str (by rw [allRunes_append, (text_str hs).2, (text_str ht).2]; rfl)
theorem chg_run : ∀ (l : List S40) (a : Int) (b : Bool) (o : List S46) (W N : List Int), (∀ p ∈ l, 0 ≤ lenU p.f1 ∧ (p.f0 = 0 ∨ p.f0 = 1 ∨ p.f0 = 2)) → a = (W.length : Nat) → Inv W N b o → ∀ R, runD (W ++ (wasU l ++ R)) ((chgF l a b o).reverse.map tri46) = some (N ++ (nowU l ++ R))
  | [], a, b, o, W, N, hv, ha, hI, R => hI.close R
  | p :: l, a, b, o, W, N, hv, ha, hI, R => by
    have hl := fun q hq => hv q (List.mem_cons_of_mem _ hq)
    obtain ⟨t, ht⟩ := textOf_of_len (hv p (List.mem_cons_self ..)).1
    have hr : runesU p.f1 = t := by unfold runesU; rw [ht]; rfl
    simp only [chgF, wasU, nowU]
    rw [lenU_of_some ht, hr]
    by_cases c0 : p.f0 = 0
    · rw [if_pos c0, if_neg (by omega), if_neg (by omega)]
      have h := chg_run l (a + (t.length : Nat)) false o (W ++ t) (N ++ t) hl (by rw [ha, List.length_append]; omega) ⟨fun _ R => by
        rw [List.append_assoc, List.append_assoc]; exact hI.close (t ++ R), fun h => by cases h⟩ R
      rw [List.append_assoc, List.append_assoc] at h
      rw [List.append_assoc, List.append_assoc]
      exact h
    · rw [if_neg c0]
      obtain ⟨o0, W0, D, N0, tx, u, ho, hu, hW, hN, h0⟩ := hI.opened a ha
      by_cases c2 : p.f0 = 2
      · rw [if_pos c2, if_neg (by omega), if_pos c2, ho, lastMap_snoc]
        have h := chg_run l (a + (t.length : Nat)) true (o0 ++ [⟨(W0.length : Nat), ((D.length : Nat) : Int) + (t.length : Nat), tx⟩]) (W ++ t) N hl (by rw [ha, List.length_append]; omega) ⟨fun h => (by cases h), fun _ => ⟨o0, W0, D ++ t, N0, tx, u, by rw [List.length_append]; rfl, hu, by rw [hW, List.append_assoc], hN, h0⟩⟩ R
        rw [List.append_assoc] at h
        rw [List.append_assoc]
        exact h
      · rw [if_neg c2, if_neg c2, ho, lastMap_snoc]
        by_cases c1 : p.f0 = 1
        · rw [if_pos c1]
          have h := chg_run l a true (o0 ++ [⟨(W0.length : Nat), (D.length : Nat), tx ++ p.f1⟩]) W (N ++ t) hl ha ⟨fun h => (by cases h), fun _ => ⟨o0, W0, D, N0, tx ++ p.f1, u ++ t, rfl, textOf_app hu ht, hW, by rw [hN, List.append_assoc], h0⟩⟩ R
          rw [List.append_assoc] at h
          rw [List.append_assoc]
          exact h
        · have := (hv p (List.mem_cons_self ..)).2; omega
theorem ask_ok {l : List S40} (h : askR l = 0) : ∀ p ∈ l, 0 ≤ lenU p.f1 ∧ (p.f0 = 0 ∨ p.f0 = 1 ∨ p.f0 = 2) := by
  unfold askR at h
  split at h
  · rename_i h1
    split at h
    · rename_i h2
      intro p hp
      have a1 := of_decide_eq_true (List.all_eq_true.1 h1 p hp)
      have a2 := List.all_eq_true.1 h2 p hp
      unfold partOk at a2
      have a3 := of_decide_eq_true a2
      exact ⟨a1, by omega⟩
    · cases h
  · cases h
theorem was_str : ∀ (l : List S40), (∀ p ∈ l, 0 ≤ lenU p.f1) → (wasB l = strOf (wasU l) ∧ allRunes (wasU l) = true) ∧ (nowB l = strOf (nowU l) ∧ allRunes (nowU l) = true)
  | [], _ => ⟨⟨rfl, rfl⟩, ⟨rfl, rfl⟩⟩
  | p :: l, hv => by
    obtain ⟨⟨i1, i2⟩, ⟨i3, i4⟩⟩ := was_str l (fun q hq => hv q (List.mem_cons_of_mem _ hq))
    obtain ⟨t, ht⟩ := textOf_of_len (hv p (List.mem_cons_self ..))
    have hr : runesU p.f1 = t := by unfold runesU; rw [ht]; rfl
    obtain ⟨t1, t2⟩ := text_str ht
    simp only [wasB, wasU, nowB, nowU]
    rw [hr]
    refine ⟨?_, ?_⟩
    · split
      · exact ⟨i1, i2⟩
      · rw [strOf_append, ← i1, ← t1, allRunes_append, i2, t2]
        exact ⟨rfl, rfl⟩
    · split
      · exact ⟨i3, i4⟩
      · rw [strOf_append, ← i3, ← t1, allRunes_append, i4, t2]
        exact ⟨rfl, rfl⟩
theorem lastMap_mem {f : S46 → S46} {o : List S46} {x : S46} (h : x ∈ lastMap f o) : x ∈ o ∨ ∃ y, (y ∈ o ∨ y = z46) ∧ x = f y := by
  unfold lastMap at h
  rcases List.mem_or_eq_of_mem_set h with h | h
  · exact .inl h
  · refine .inr ⟨_, ?_, h⟩
    rw [List.getD_eq_getElem?_getD]
    cases he : o[o.length - 1]? with
    | none => exact .inr rfl
    | some y => exact .inl (List.mem_of_getElem? he)
theorem opened_mem {o : List S46} {b : Bool} {a : Int} {x : S46} (h : x ∈ opened o b a) : x ∈ o ∨ x = ⟨a, 0, ⟨#[]⟩⟩ := by
  unfold opened at h
  split at h
  · exact .inl h
  · rcases List.mem_append.1 h with h | h
    · exact .inl h
    · exact .inr (List.mem_singleton.1 h)
theorem chgF_bd : ∀ (l : List S40) (i : Nat) (a : Int) (b : Bool) (o : List S46), (∀ p ∈ l, p.f1.size ≤ 2000) → o.length ≤ i → (∀ x ∈ o, x.f2.size ≤ 2000 * i) → (chgF l a b o).length ≤ i + l.length ∧ ∀ x ∈ chgF l a b o, x.f2.size ≤ 2000 * (i + l.length)
  | [], i, a, b, o, _, h1, h2 => ⟨h1, h2⟩
  | p :: l, i, a, b, o, hz, h1, h2 => by
    have hl := fun q hq => hz q (List.mem_cons_of_mem _ hq)
    have hp := hz p (List.mem_cons_self ..)
    have hol : (opened o b a).length ≤ i + 1 := by
      unfold opened
      split
      · omega
      · rw [List.length_append, List.length_singleton]; omega
    have hob : ∀ x, (x ∈ opened o b a ∨ x = z46) → x.f2.size ≤ 2000 * i := fun x hx => by
      rcases hx with hx | rfl
      · rcases opened_mem hx with h | rfl
        · exact h2 x h
        · exact Nat.zero_le _
      · exact Nat.zero_le _
    have fin : ∀ (f : S46 → S46) (a' : Int), (∀ y, (f y).f2.size ≤ y.f2.size + 2000) → (chgF l a' true (lastMap f (opened o b a))).length ≤ i + (p :: l).length ∧ ∀ x ∈ chgF l a' true (lastMap f (opened o b a)), x.f2.size ≤ 2000 * (i + (p :: l).length) := by
      intro f a' hf
      have h := chgF_bd l (i + 1) a' true (lastMap f (opened o b a)) hl (by unfold lastMap; rw [List.length_set]; exact hol) (fun x hx => by
        rcases lastMap_mem hx with h | ⟨y, hy, rfl⟩
        · have := hob x (.inl h); omega
        · have := hob y hy; have := hf y; omega)
      rw [List.length_cons]
      exact ⟨by omega, fun x hx => by have := h.2 x hx; omega⟩
    simp only [chgF]
    split
    · have h := chgF_bd l (i + 1) (a + lenU p.f1) false o hl (by omega) (fun x hx => by have := h2 x hx; omega)
      rw [List.length_cons]
      exact ⟨by omega, fun x hx => by have := h.2 x hx; omega⟩
    · split
      · exact fin _ _ (fun y => by simp only; omega)
      · exact fin _ _ (fun y => by simp only [ByteArray.size_append]; omega)
theorem chgF_text : ∀ (l : List S40) (a : Int) (b : Bool) (o : List S46), (∀ p ∈ l, 0 ≤ lenU p.f1) → (∀ x ∈ o, 0 ≤ lenU x.f2) → ∀ x ∈ chgF l a b o, 0 ≤ lenU x.f2
  | [], a, b, o, _, h2 => h2
  | p :: l, a, b, o, hv, h2 => by
    have hl := fun q hq => hv q (List.mem_cons_of_mem _ hq)
    have hob : ∀ x, (x ∈ opened o b a ∨ x = z46) → 0 ≤ lenU x.f2 := fun x hx => by
      have e0 : 0 ≤ lenU (⟨#[]⟩ : ByteArray) := by decide +kernel
      rcases hx with hx | rfl
      · rcases opened_mem hx with h | rfl
        · exact h2 x h
        · exact e0
      · exact e0
    have fin : ∀ (f : S46 → S46) (a' : Int), (∀ y, 0 ≤ lenU y.f2 → 0 ≤ lenU (f y).f2) → ∀ x ∈ chgF l a' true (lastMap f (opened o b a)), 0 ≤ lenU x.f2 := by
      intro f a' hf
      refine chgF_text l a' true _ hl (fun x hx => ?_)
      rcases lastMap_mem hx with h | ⟨y, hy, rfl⟩
      · exact hob x (.inl h)
      · exact hf y (hob y hy)
    simp only [chgF]
    split
    · exact chgF_text l _ false o hl h2
    · split
      · exact fin _ _ (fun y hy => hy)
      · refine fin _ _ (fun y hy => ?_)
        obtain ⟨u, hu⟩ := textOf_of_len hy
        obtain ⟨t, ht⟩ := textOf_of_len (hv p (List.mem_cons_self ..))
        show 0 ≤ lenU (y.f2 ++ p.f1)
        rw [lenU_of_some (textOf_app hu ht)]
        omega
/-- The changes of parts, done, are the parts applied. -/
theorem do_changes (l : List S40) (hask : askR l = 0) (hl : l.length ≤ 1000) (hz : ∀ p ∈ l, p.f1.size ≤ 2000) (hs : (wasB l).size ≤ 1000000) (k : Nat) (hk : 30010 ≤ k) : diff_Do.f k (wasB l) (chgF l 0 false []).reverse = some (nowB l, 0) := by
  have hv := ask_ok hask
  have hv1 := fun p hp => (hv p hp).1
  obtain ⟨h1, h2⟩ := chgF_bd l 0 0 false [] hz (by simp) (by simp)
  rw [Nat.zero_add] at h1 h2
  rw [do_f (wasB l) _ hs (fun x hx => by have := h2 x (List.mem_reverse.1 hx); omega) (by rw [List.length_reverse]; omega) k hk]
  obtain ⟨⟨w1, w2⟩, ⟨n1, n2⟩⟩ := was_str l hv1
  unfold doR
  rw [w1, textOf_str w2]
  simp only
  rw [if_pos (show allText _ = true from List.all_eq_true.2 fun x hx => by
    obtain ⟨y, hy, rfl⟩ := List.mem_map.1 hx
    exact decide_eq_true (chgF_text l 0 false [] hv1 (by simp) y (List.mem_reverse.1 hy)))]
  have h := chg_run l 0 false [] [] [] hv rfl ⟨fun _ R => rfl, fun h => by cases h⟩ []
  rw [List.nil_append, List.nil_append, List.append_nil, List.append_nil] at h
  rw [h, n1]
end Go.Proofs.YtabhfloclcmjnaaDoor.X
namespace Go.Proofs.YtabhfloclcmjnaaDoor.Pure
open Go Go.RowKit Go.Proofs.YtabhfloclcmjnaaDoorW.PrintWords Go.Proofs.YtabhfloclcmjnaaDoor.P Go.Proofs.YtabhfloclcmjnaaDoor.X Go.Proofs.YtabhfloclcmjnaaDoor.Lcs
set_option linter.unusedVariables false
theorem split_at (s : ByteArray) (hs : s.size ≤ 100000) (k : Nat) (hk : 100012 ≤ k) : foolscapref01_Split.f k s = some (match textOf s with | some l => (l, true) | none => ([], false)) := by
  have h := split_ref s (by omega) (k - s.size - 12)
  rw [show k - s.size - 12 + s.size + 12 = k by omega] at h
  exact h
/-! ### the least cost, as the document reckons it -/
theorem S_take (a b : List Int) (i j : Nat) (hi : i < a.length) (hj : j < b.length) : S (a.take (i + 1)) (b.take (j + 1)) = if a[i] = b[j] then S (a.take i) (b.take j) + 1 else max (S (a.take i) (b.take (j + 1))) (S (a.take (i + 1)) (b.take j)) := by
  have h := S_step a[i] b[j] (a.take i) (b.take j)
  rw [← List.take_succ_eq_append_getElem hi, ← List.take_succ_eq_append_getElem hj] at h
  simp only [S_reverse] at h
  exact h
def LcsRow (a b : List Int) (i : Nat) (r : List Int) : Prop := r.length = b.length + 1 ∧ ∀ j : Nat, j ≤ b.length → rd r (j : Int) = (S (a.take i) (b.take j) : Nat)
theorem rd_set (l : List Int) (n : Nat) (v : Int) (j : Nat) (h : n < l.length) : rd (l.set n v) (j : Int) = if n = j then v else rd l (j : Int) := by
  unfold rd
  rw [Int.toNat_natCast, List.getD_eq_getElem?_getD, List.getD_eq_getElem?_getD, List.getElem?_set]
  by_cases e : n = j
  · subst e
    simp [h]
  · simp [e]
theorem S_bd (a b : List Int) (i j : Nat) : S (a.take i) (b.take j) ≤ b.length := by
  have h := S_le_right (a.take i) (b.take j)
  have h2 : (b.take j).length ≤ b.length := by rw [List.length_take]; omega
  omega
theorem least_l1 (a b r : List Int) (i : Nat) (hi : i < a.length) (ha : a.length ≤ 300) (hb : b.length ≤ 300) (hr : LcsRow a b i r) : ∀ d j (nx : List Int), j + d = b.length → nx.length = b.length + 1 → (∀ j' : Nat, j' ≤ j → rd nx (j' : Int) = (S (a.take (i + 1)) (b.take j') : Nat)) →
    ∃ nx', LcsRow a b (i + 1) nx' ∧ ∀ k, foolscapref32_Least.l1 (k + d + 1) a b r (i : Int) nx (j : Int) = foolscapref32_Least.l0 k a b nx' ((i + 1 : Nat) : Int)
  | 0, j, nx, hj, hn, hx => by
    refine ⟨nx, ⟨hn, fun j' h => hx j' (by omega)⟩, fun k => ?_⟩
    rw [Nat.add_zero, foolscapref32_Least.l1, if_neg (by omega), w64e (by omega) (by omega)]
    congr 1
  | d + 1, j, nx, hj, hn, hx => by
    have hjb : j < b.length := by omega
    have hjn : j + 1 < nx.length := by omega
    have hwj : wrap64 ((j : Int) + 1) = ((j + 1 : Nat) : Int) := by rw [w64e (by omega) (by omega)]; omega
    have hj1 : (j + 1) + d = b.length := by omega
    obtain ⟨hrl, hrv⟩ := hr
    obtain ⟨p1, hp1⟩ : ∃ x, Nat → S (a.take i) (b.take (j + 1)) = x := ⟨_, fun _ => rfl⟩
    obtain ⟨p0, hp0⟩ : ∃ x, Nat → S (a.take i) (b.take j) = x := ⟨_, fun _ => rfl⟩
    obtain ⟨px, hpx⟩ : ∃ x, Nat → S (a.take (i + 1)) (b.take j) = x := ⟨_, fun _ => rfl⟩
    obtain ⟨q, hq⟩ : ∃ x, Nat → S (a.take (i + 1)) (b.take (j + 1)) = x := ⟨_, fun _ => rfl⟩
    have b1 : p1 ≤ b.length := by rw [← hp1 0]; exact S_bd a b i (j + 1)
    have b0 : p0 ≤ b.length := by rw [← hp0 0]; exact S_bd a b i j
    have bx : px ≤ b.length := by rw [← hpx 0]; exact S_bd a b (i + 1) j
    have r1 : Nat → rd r ((j + 1 : Nat) : Int) = (p1 : Nat) := fun _ => by rw [hrv (j + 1) hjb, hp1 0]
    have r0 : Nat → rd r (j : Int) = (p0 : Nat) := fun _ => by rw [hrv j (Nat.le_of_lt hjb), hp0 0]
    have x0 : Nat → rd nx (j : Int) = (px : Nat) := fun _ => by rw [hx j (Nat.le_refl _), hpx 0]
    have st : q = if a[i] = b[j] then p0 + 1 else max p1 px := by rw [← hq 0, S_take a b i j hi hjb, hp0 0, hp1 0, hpx 0]
    have step : ∀ (v : Int), v = (q : Nat) → ∃ nx', LcsRow a b (i + 1) nx' ∧ ∀ k, foolscapref32_Least.l1 (k + d + 1) a b r (i : Int) (nx.set (j + 1) v) ((j + 1 : Nat) : Int) = foolscapref32_Least.l0 k a b nx' ((i + 1 : Nat) : Int) := by
      intro v hv
      refine least_l1 a b r i hi ha hb ⟨hrl, hrv⟩ d (j + 1) _ hj1 (by rw [List.length_set]; exact hn) (fun j' h => ?_)
      rw [rd_set _ _ _ _ hjn]
      by_cases e : j + 1 = j'
      · subst e
        rw [if_pos rfl, hv, hq 0]
      · rw [if_neg e]
        exact hx j' (Nat.le_of_lt_succ (Nat.lt_of_le_of_ne h (fun e2 => e e2.symm)))
    have hset : Nat → rd (nx.set (j + 1) (px : Int)) ((j + 1 : Nat) : Int) = (px : Int) := fun _ => by rw [rd_set _ _ _ _ hjn, if_pos rfl]
    clear hrv hx
    obtain ⟨u, hu⟩ : ∃ x, a[i] = x := ⟨_, rfl⟩
    obtain ⟨v, hv⟩ : ∃ x, b[j] = x := ⟨_, rfl⟩
    have ga : Nat → rd a (i : Int) = u := fun _ => by rw [rd_at' a i hi, hu]
    have gb : Nat → rd b (j : Int) = v := fun _ => by rw [rd_at' b j hjb, hv]
    rw [hu, hv] at st
    clear hu hv
    have hjB : (j : Int) < (b.length : Int) := by omega
    have hj0 : (0 : Int) ≤ (j : Int) := by omega
    have hjN : (j : Int) < (nx.length : Int) := by omega
    have hw1 : wrap64 ((p0 : Int) + 1) = (p0 : Int) + 1 := w64e (by omega) (by omega)
    by_cases e : u = v
    · rw [if_pos e] at st
      obtain ⟨nx', h1, h2⟩ := step ((p0 : Nat) + 1) (by omega)
      refine ⟨nx', h1, fun k => ?_⟩
      rw [← h2 k, show k + (d + 1) + 1 = (k + d + 1) + 1 by omega, foolscapref32_Least.l1, if_pos hjB, if_pos hj0, if_pos hjN, hwj, if_pos (by omega), if_pos (by omega), Option.bind_some, if_pos (by omega), Int.toNat_natCast, x0 0, hset 0, r1 0]
      by_cases c : ((p1 : Nat) : Int) > (px : Nat)
      · rw [if_pos c, Option.bind_some, if_pos (by omega), if_pos (by omega), ga 0, gb 0, if_pos e, if_pos (by omega), r0 0, List.set_set, List.set_set, hw1]
      · rw [if_neg c, if_pos (by omega), if_pos (by omega), ga 0, gb 0, if_pos e, if_pos (by omega), r0 0, List.set_set, hw1]
    · rw [if_neg e] at st
      by_cases c : ((p1 : Nat) : Int) > (px : Nat)
      · obtain ⟨nx', h1, h2⟩ := step (p1 : Nat) (by omega)
        refine ⟨nx', h1, fun k => ?_⟩
        rw [← h2 k, show k + (d + 1) + 1 = (k + d + 1) + 1 by omega, foolscapref32_Least.l1, if_pos hjB, if_pos hj0, if_pos hjN, hwj, if_pos (by omega), if_pos (by omega), Option.bind_some, if_pos (by omega), Int.toNat_natCast, x0 0, hset 0, r1 0]
        rw [if_pos c, Option.bind_some, if_pos (by omega), if_pos (by omega), ga 0, gb 0, if_neg e, List.set_set]
      · obtain ⟨nx', h1, h2⟩ := step (px : Nat) (by omega)
        refine ⟨nx', h1, fun k => ?_⟩
        rw [← h2 k, show k + (d + 1) + 1 = (k + d + 1) + 1 by omega, foolscapref32_Least.l1, if_pos hjB, if_pos hj0, if_pos hjN, hwj, if_pos (by omega), if_pos (by omega), Option.bind_some, if_pos (by omega), Int.toNat_natCast, x0 0, hset 0, r1 0]
        rw [if_neg c, if_pos (by omega), if_pos (by omega), ga 0, gb 0, if_neg e]
theorem w3 (A B q : Int) (h1 : 0 ≤ A ∧ A ≤ 300) (h2 : 0 ≤ B ∧ B ≤ 300) (h3 : 0 ≤ q ∧ q ≤ 300) : wrap64 (wrap64 (A + B) - wrap64 (2 * q)) = A + B - 2 * q := by
  unfold wrap64; omega
theorem least_l0 (a b : List Int) (ha : a.length ≤ 300) (hb : b.length ≤ 300) : ∀ d i r k, i + d = a.length → LcsRow a b i r → 400 * d + 1 ≤ k → foolscapref32_Least.l0 k a b r (i : Int) = some ((a.length : Int) + (b.length : Int) - 2 * (S a b : Nat)) := by
  intro d
  induction d with
  | zero =>
    intro i r k hi hr hk
    obtain ⟨k, rfl⟩ : ∃ x, k = x + 1 := ⟨k - 1, by omega⟩
    have hai : (a.take i).length = a.length := by rw [List.length_take]; omega
    obtain ⟨q, hq⟩ : ∃ x, Nat → S a b = x := ⟨_, fun _ => rfl⟩
    have h2 : q ≤ b.length := by rw [← hq 0]; exact S_le_right a b
    have hiu : a.length ≤ i := by omega
    have h1 : Nat → rd r (b.length : Int) = (q : Nat) := fun _ => by rw [hr.2 b.length (Nat.le_refl _), List.take_of_length_le hiu, List.take_of_length_le (Nat.le_refl _), hq 0]
    have hr1 := hr.1
    rw [hq 0, foolscapref32_Least.l0, if_neg (by omega), if_pos (by omega), if_pos (by omega), h1 0]
    exact congrArg some (w3 _ _ _ (by omega) (by omega) (by omega))
  | succ d ih =>
    intro i r k hi hr hk
    obtain ⟨k, rfl⟩ : ∃ x, k = x + 1 := ⟨k - 1, by omega⟩
    have hlt : i < a.length := by omega
    have hk2 : 400 * d + 1 ≤ k - b.length - 1 := by clear ih hr; omega
    have hi2 : i + 1 + d = a.length := by omega
    have hk3 : k - b.length - 1 + b.length + 1 = k := by clear ih hr; omega
    have hw : wrap64 ((b.length : Int) + 1) = ((b.length + 1 : Nat) : Int) := by rw [w64e (by omega) (by omega)]; omega
    rw [foolscapref32_Least.l0, if_pos (by omega), hw, if_pos (by omega), Int.toNat_natCast, if_pos (by omega)]
    obtain ⟨nx', h1, h2⟩ := least_l1 a b r i hlt ha hb hr b.length 0 (List.replicate (b.length + 1) 0) (by omega) (by simp) (fun j' h => by
      have : j' = 0 := by omega
      subst this
      rw [List.take_zero, S_nil]
      rfl)
    have h3 := h2 (k - b.length - 1)
    rw [hk3] at h3
    exact h3.trans (ih (i + 1) nx' (k - b.length - 1) hi2 h1 hk2)
theorem S_nil_left (b : List Int) : S [] b = 0 := by simp [S]
theorem least_f (a b : List Int) (ha : a.length ≤ 300) (hb : b.length ≤ 300) (k : Nat) (hk : 200000 ≤ k) : foolscapref32_Least.f k a b = some ((C a b : Nat) : Int) := by
  have hw : wrap64 ((b.length : Int) + 1) = ((b.length + 1 : Nat) : Int) := by rw [w64e (by omega) (by omega)]; omega
  unfold foolscapref32_Least.f
  rw [hw, if_pos (by omega), Int.toNat_natCast, if_pos (by omega)]
  have h := least_l0 a b ha hb a.length 0 (List.replicate (b.length + 1) 0) k (by omega) ⟨by simp, fun j hj => by
    rw [List.take_zero, S_nil_left]
    unfold rd
    rw [Int.toNat_natCast, List.getD_eq_getElem?_getD, List.getElem?_replicate]
    split <;> rfl⟩ (by omega)
  refine h.trans ?_
  have := C_S a b
  congr 1
  omega
/-! ### the parts of a diff -/
theorem wasU_enc : ∀ (ps : List (Nat × List Int)), (∀ p ∈ ps, allRunes p.2 = true) → wasU (ps.map encP) = wasP ps ∧ nowU (ps.map encP) = nowP ps
  | [], _ => ⟨rfl, rfl⟩
  | p :: ps, h => by
    obtain ⟨i1, i2⟩ := wasU_enc ps (fun q hq => h q (List.mem_cons_of_mem _ hq))
    have ht := text_enc (h p (List.mem_cons_self ..))
    have hr : runesU (encP p).f1 = p.2 := by unfold runesU; rw [ht]; rfl
    have e3 : (encP p).f0 = (p.1 : Int) := rfl
    simp only [List.map_cons, wasU, nowU]
    rw [hr, e3, i1, i2]
    constructor
    · by_cases hk : p.1 = 1
      · rw [if_pos (by omega)]; simp [wasP, hk]
      · rw [if_neg (by omega)]; simp [wasP, hk]
    · by_cases hk : p.1 = 2
      · rw [if_pos (by omega)]; simp [nowP, hk]
      · rw [if_neg (by omega)]; simp [nowP, hk]
theorem form_ne : ∀ (ps : List (Nat × List Int)) (q : Option Nat), FormP q ps → ∀ p ∈ ps, p.2 ≠ []
  | [], _, _, p, h => by cases h
  | (k, t) :: ps, q, hf, p, h => by
    rcases List.mem_cons.1 h with rfl | h
    · exact hf.2.1
    · exact form_ne ps (some k) hf.2.2.2 p h
theorem parts_ask {x y : List Int} (hx : allRunes x = true) (hy : allRunes y = true) : askR ((partsR x y).map encP) = 0 := by
  have hr := parts_runes hx hy
  unfold askR
  rw [if_pos (List.all_eq_true.2 fun p hp => by
    obtain ⟨q, hq, rfl⟩ := List.mem_map.1 hp
    rw [decide_eq_true_eq, lenU_of_some (text_enc (hr q hq))]
    omega), if_pos (List.all_eq_true.2 fun p hp => by
    obtain ⟨q, hq, rfl⟩ := List.mem_map.1 hp
    have h1 := form_kinds _ _ (parts_form x y) q hq
    have h2 := form_ne _ _ (parts_form x y) q hq
    have e3 : (encP q).f0 = (q.1 : Int) := rfl
    unfold partOk
    rw [decide_eq_true_eq, e3]
    exact ⟨by omega, by omega, text_ne (k := q.1) (hr q hq) h2⟩)]
theorem parts_was {x y : List Int} (hx : allRunes x = true) (hy : allRunes y = true) : wasB ((partsR x y).map encP) = strOf x ∧ nowB ((partsR x y).map encP) = strOf y := by
  have hr := parts_runes hx hy
  obtain ⟨⟨w1, _⟩, ⟨n1, _⟩⟩ := was_str ((partsR x y).map encP) (fun p hp => (ask_ok (parts_ask hx hy) p hp).1)
  obtain ⟨u1, u2⟩ := wasU_enc (partsR x y) hr
  obtain ⟨h1, h2, _⟩ := mrg3_was (stepsL x y) [] [] [] (steps_kinds x y) (.inl rfl)
  obtain ⟨s1, s2, _⟩ := steps_texts x y
  rw [s1, List.nil_append, List.nil_append] at h1
  rw [s2, List.nil_append, List.nil_append] at h2
  rw [w1, n1, u1, u2]
  exact ⟨congrArg strOf h1, congrArg strOf h2⟩
theorem DiffTurns : foolscaplaw32_DiffTurns.Pure := by
  intro s t hs0 ht0
  refine ⟨300000 + 2, ?_⟩
  unfold foolscaplaw32_DiffTurns.f
  rw [alive_at 300002 (by omega), Option.bind_some, if_pos rfl]
  by_cases h1 : (s.size : Int) > 300
  · rw [if_pos h1, foolscaplaw32_DiffTurns.j0, if_pos rfl]
  rw [if_neg h1]
  by_cases h2 : (t.size : Int) > 300
  · rw [decide_eq_true h2, foolscaplaw32_DiffTurns.j0, if_pos rfl]
  rw [decide_eq_false h2, foolscaplaw32_DiffTurns.j0, if_neg (by simp), diff_f s t (by omega) (by omega) _ (by omega), Option.bind_some, split_at s (by omega) _ (by omega), Option.bind_some, split_at t (by omega) _ (by omega), Option.bind_some]
  cases hx : textOf s with
  | none =>
    simp only
    rw [if_neg (by simp), foolscaplaw32_DiffTurns.j1, if_pos rfl]
    unfold diffR
    rw [hx]
    cases hy : textOf t <;> rfl
  | some x =>
    cases hy : textOf t with
    | none =>
      simp only
      rw [if_pos trivial, foolscaplaw32_DiffTurns.j1, if_pos (by rfl)]
      unfold diffR
      rw [hx, hy]
      rfl
    | some y =>
      have hxl := text_len hx
      have hyl := text_len hy
      have hD1 : diffR s t = ((partsR x y).map encP, 0) := by unfold diffR; rw [hx, hy]; exact if_neg (by omega)
      obtain ⟨e1, rx⟩ := text_str hx
      obtain ⟨e2, ry⟩ := text_str hy
      have hpl := parts_len x y
      have hsz := enc_size rx ry (by omega) (by omega)
      have hask := parts_ask rx ry
      obtain ⟨hw, hn⟩ := parts_was rx ry
      rw [hD1]
      simp only
      rw [if_pos trivial, foolscaplaw32_DiffTurns.j1, if_neg (by simp)]
      have hApp : ∀ k, 3000 ≤ k → diff_Apply.f k s ((partsR x y).map encP) = some (t, 0) := by
        intro k hk
        rw [apply_f s _ (by omega) (by rw [List.length_map]; omega) hsz k hk]
        unfold applyR
        rw [if_pos (by rw [lenU_of_some hx]; omega), if_pos hask, hw, ← e1, if_pos rfl, hn, ← e2]
      have hChg : diff_Changes.f ((partsR x y).map encP) = some ((chgF ((partsR x y).map encP) 0 false []).reverse, 0) := by
        unfold diff_Changes.f
        rw [if_pos ⟨by rw [List.length_map]; omega, List.all_eq_true.2 fun p hp => decide_eq_true (hsz p hp)⟩, if_pos hask]
      have hDo : ∀ k, 30010 ≤ k → diff_Do.f k s (chgF ((partsR x y).map encP) 0 false []).reverse = some (t, 0) := by
        intro k hk
        have h := do_changes ((partsR x y).map encP) hask (by rw [List.length_map]; omega) hsz (by rw [hw, ← e1]; omega) k hk
        rw [hw, hn, ← e1, ← e2] at h
        exact h
      rw [hApp _ (by omega), Option.bind_some, hChg, Option.bind_some, hDo _ (by omega), Option.bind_some]
      simp only
      rw [if_pos trivial, if_pos trivial, if_pos trivial, if_pos trivial, if_pos trivial, if_pos trivial, cost_parts rx ry (by omega) (by omega) _ (by omega), Option.bind_some, least_f x y (by omega) (by omega) _ (by omega), Option.bind_some]
      simp
end Go.Proofs.YtabhfloclcmjnaaDoor.Pure
