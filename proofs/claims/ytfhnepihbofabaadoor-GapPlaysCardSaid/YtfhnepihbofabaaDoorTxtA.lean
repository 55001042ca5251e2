/-
  Texts as runes, in plain Lean: what is split is joined as it was, and the other way round; cuts, by this session. Conditions: as typed.
-/
import Derived.Test.YtfhnepihbofabaaDoorRefL
namespace Go.Proofs.YtfhnepihbofabaaDoor.X
open Go Go.RowKit Go.Proofs.YtfhnepihbofabaaDoorW.PrintWords Go.Proofs.YtfhnepihbofabaaDoor.P
set_option linter.unusedVariables false

/-- The text of runes. -/
def strOf (l : List Int) : ByteArray := strOfNums (l.flatMap Lib.encodeRuneZ)
theorem strOf_append (a b : List Int) : strOf (a ++ b) = strOf a ++ strOf b := by
  apply ByteArray.ext
  simp [strOf, strOfNums]
theorem strOf_nil : strOf [] = ByteArray.empty := rfl
theorem strOf_size (l : List Int) : (strOf l).size = (l.flatMap Lib.encodeRuneZ).length := strOfNums_size _
theorem strOf_le (l : List Int) : (strOf l).size ≤ 4 * l.length := by rw [strOf_size]; exact flat_len l

theorem dec_holds (t : ByteArray) (h0 : 0 < t.size) (hb : ¬ ((Utf8.decode t 0).1 = 65533 ∧ (Utf8.decode t 0).2 < 2)) : holdsR t ((Utf8.decode t 0).1 : Int) (Utf8.decode t 0).2 := by
  have h := Lib.decode_at t 0
  simp only [Nat.sub_zero, Nat.zero_add] at h
  obtain ⟨b0, hb0⟩ : ∃ b, (t.get! 0).toNat = b := ⟨_, rfl⟩
  obtain ⟨b1, hb1⟩ : ∃ b, (t.get! 1).toNat = b := ⟨_, rfl⟩
  obtain ⟨b2, hb2⟩ : ∃ b, (t.get! 2).toNat = b := ⟨_, rfl⟩
  obtain ⟨b3, hb3⟩ : ∃ b, (t.get! 3).toNat = b := ⟨_, rfl⟩
  rw [hb0, hb1, hb2, hb3] at h
  have e0 : bt t ((0 : Nat) : Int) = (b0 : Int) := by rw [bt_get t 0 h0, hb0]
  have e1 : 1 < t.size → bt t ((1 : Nat) : Int) = (b1 : Int) := fun h => by rw [bt_get t 1 h, hb1]
  have e2 : 2 < t.size → bt t ((2 : Nat) : Int) = (b2 : Int) := fun h => by rw [bt_get t 2 h, hb2]
  have e3 : 3 < t.size → bt t ((3 : Nat) : Int) = (b3 : Int) := fun h => by rw [bt_get t 3 h, hb3]
  have r0 : b0 < 256 := by rw [← hb0]; exact UInt8.toNat_lt _
  have r1 : b1 < 256 := by rw [← hb1]; exact UInt8.toNat_lt _
  have r2 : b2 < 256 := by rw [← hb2]; exact UInt8.toNat_lt _
  have r3 : b3 < 256 := by rw [← hb3]; exact UInt8.toNat_lt _
  rw [h] at hb ⊢
  unfold Lib.decodeN at hb ⊢
  by_cases c1 : b0 < 128
  · rw [if_pos c1] at hb ⊢
    exact holds1 t _ e0.symm (by omega)
  · rw [if_neg c1] at hb ⊢
    by_cases c2 : b0 / 32 = 6 ∧ (1 < t.size ∧ b1 / 64 = 2)
    · rw [if_pos c2] at hb ⊢
      by_cases c3 : b0 % 32 * 64 + b1 % 64 ≥ 128
      · rw [if_pos c3] at hb ⊢
        exact (holds2 t b0 b1 _ e0.symm (e1 (by omega)).symm (by omega) (by omega) (by simp only; omega)).2 (by simp only; omega)
      · rw [if_neg c3] at hb
        exact absurd ⟨rfl, by simp⟩ hb
    · rw [if_neg c2] at hb ⊢
      by_cases c4 : b0 / 16 = 14 ∧ (1 < t.size ∧ b1 / 64 = 2) ∧ (2 < t.size ∧ b2 / 64 = 2)
      · rw [if_pos c4] at hb ⊢
        split at hb
        · rename_i c5
          rw [if_pos c5]
          exact (holds3 t b0 b1 b2 _ e0.symm (e1 (by omega)).symm (e2 (by omega)).symm (by omega) (by omega) (by omega) (by simp only; omega)).2 (by simp only; omega)
        · exact absurd ⟨rfl, by simp⟩ hb
      · rw [if_neg c4] at hb ⊢
        by_cases c6 : b0 / 8 = 30 ∧ (1 < t.size ∧ b1 / 64 = 2) ∧ (2 < t.size ∧ b2 / 64 = 2) ∧ (3 < t.size ∧ b3 / 64 = 2)
        · rw [if_pos c6] at hb ⊢
          split at hb
          · rename_i c5
            rw [if_pos c5]
            exact (holds4 t b0 b1 b2 b3 _ e0.symm (e1 (by omega)).symm (e2 (by omega)).symm (e3 (by omega)).symm (by omega) (by omega) (by omega) (by omega) (by simp only; omega)).2 (by simp only; omega)
          · exact absurd ⟨rfl, by simp⟩ hb
        · rw [if_neg c6] at hb
          exact absurd ⟨rfl, by simp⟩ hb

/-- A text that begins with a rune's bytes is that rune's, and the rest. -/
theorem holds_split (t : ByteArray) (x : Int) (n : Nat) (hn : n ≤ t.size) (h : holdsR t x n) : t = strOf [x] ++ t.extract n t.size := by
  have he := (enc_eq (Lib.encodeRuneZ x) t n hn (fun y hy => by have := Lib.encodeRuneZ_byte x y hy; omega)).2 h.2
  rw [Lib.toList_data, Lib.toList_data] at he
  apply ByteArray.ext
  apply Array.ext'
  have e2 : (strOf [x]).data.toList = t.data.toList.take n := by
    have : strOf [x] = strOfNums (Lib.encodeRuneZ x) := by simp [strOf]
    rw [this, he]; simp
  have hsz : t.data.size = t.size := rfl
  rw [ByteArray.data_append, Array.toList_append, e2]
  have e3 : (t.extract n t.size).data.toList = t.data.toList.drop n := by
    rw [ByteArray.data_extract, Array.toList_extract, List.extract_eq_take_drop]
    exact List.take_of_length_le (by simp)
  rw [e3, List.take_append_drop]

theorem text_back : ∀ (s : ByteArray) (f pos : Nat), pos ≤ s.size → s.size ≤ pos + f → (∀ x ∈ stp s f pos, 0 ≤ x.1) →
    s.extract pos s.size = strOf ((stp s f pos).map (·.1)) ∧ allRunes ((stp s f pos).map (·.1)) = true := by
  intro s f
  induction f with
  | zero =>
    intro pos hp hf hx
    have : (s.extract pos s.size).size = 0 := by rw [Lib.tail_size]; omega
    refine ⟨?_, rfl⟩
    rw [ByteArray.size_eq_zero_iff.1 this]
    rfl
  | succ f ih =>
    intro pos hp hf hx
    by_cases h : pos < s.size
    · by_cases hb : (Utf8.decode s pos).1 = 65533 ∧ (Utf8.decode s pos).2 < 2
      · rw [stp_bad h hb] at hx
        have := hx (-1, 0) (by simp)
        simp at this
      · rw [stp_good h hb] at hx ⊢
        have h2 := decode_le s pos h
        have h1 := decode_pos s pos h
        obtain ⟨i1, i2⟩ := ih (pos + (Utf8.decode s pos).2) h2 (by omega) (fun x hxx => hx x (List.mem_cons_of_mem _ hxx))
        obtain ⟨t, ht⟩ : ∃ t, s.extract pos s.size = t := ⟨_, rfl⟩
        have hdec : Utf8.decode t 0 = Utf8.decode s pos := by rw [← ht]; exact Lib.tail_decode s pos 0
        have hts : t.size = s.size - pos := by rw [← ht]; exact Lib.tail_size s pos
        have hh := dec_holds t (by omega) (by rw [hdec]; exact hb)
        rw [hdec] at hh
        rw [ht]
        refine ⟨?_, ?_⟩
        · rw [List.map_cons, show (((Utf8.decode s pos).1 : Int) :: (stp s f (pos + (Utf8.decode s pos).2)).map (·.1)) = [((Utf8.decode s pos).1 : Int)] ++ (stp s f (pos + (Utf8.decode s pos).2)).map (·.1) from rfl, strOf_append, ← i1, tail_tail ht hp (by omega)]
          exact holds_split t _ _ (by omega) hh
        · simp only [List.map_cons, allRunes, List.all_cons, Bool.and_eq_true]
          exact ⟨hh.1, i2⟩
    · have : (s.extract pos s.size).size = 0 := by rw [Lib.tail_size]; omega
      rw [stp_end s _ pos h]
      refine ⟨?_, rfl⟩
      rw [ByteArray.size_eq_zero_iff.1 this]
      rfl
theorem textOf_valid {s : ByteArray} {l : List Int} (h : textOf s = some l) : ∀ x ∈ stp s s.size 0, 0 ≤ x.1 := by
  unfold textOf at h
  split at h
  · rename_i ha
    exact fun x hx => of_decide_eq_true (List.all_eq_true.1 ha x hx)
  · cases h
theorem text_str {s : ByteArray} {l : List Int} (h : textOf s = some l) : s = strOf l ∧ allRunes l = true := by
  have hv := textOf_valid h
  have hb := text_back s s.size 0 (Nat.zero_le _) (by omega) hv
  rw [extract_all] at hb
  unfold textOf at h
  split at h
  · obtain rfl := Option.some.inj h
    exact hb
  · cases h

theorem bt_strOf (r : Int) (rest : ByteArray) (i : Nat) (hi : i < (Lib.encodeRuneZ r).length) : (((strOf [r] ++ rest).get! i).toNat : Int) = rd (Lib.encodeRuneZ r) (i : Int) := by
  have hs : strOf [r] = strOfNums (Lib.encodeRuneZ r) := by simp [strOf]
  have h1 : i < (strOf [r] ++ rest).size := by rw [ByteArray.size_append, hs, strOfNums_size]; omega
  rw [Utf8W.get!_of_lt _ i h1]
  have h2 : i < (strOf [r]).size := by rw [hs, strOfNums_size]; exact hi
  rw [ByteArray.getElem_append_left h2]
  have h3 : (strOf [r])[i] = UInt8.ofNat ((Lib.encodeRuneZ r)[i]).toNat := by
    have : (strOf [r]).data.toList[i]? = some (UInt8.ofNat ((Lib.encodeRuneZ r)[i]).toNat) := by
      rw [hs, strOfNums_data, List.getElem?_map, List.getElem?_eq_getElem hi]; rfl
    rw [Array.getElem?_toList] at this
    exact (Array.getElem?_eq_some_iff.1 this).2
  rw [h3, UInt8.toNat_ofNat']
  have hb := Lib.encodeRuneZ_byte r _ (List.getElem_mem hi)
  have h5 : rd (Lib.encodeRuneZ r) (i : Int) = (Lib.encodeRuneZ r)[i] := by simp [rd, List.getD_eq_getElem?_getD, List.getElem?_eq_getElem hi]
  rw [h5]; omega
theorem enc_dec (r : Int) (hv : Lib.validRune r = true) (rest : ByteArray) : Utf8.decode (strOf [r] ++ rest) 0 = (r.toNat, (Lib.encodeRuneZ r).length) := by
  have hv' : (0 ≤ r ∧ r < 55296) ∨ (57343 < r ∧ r ≤ 1114111) := of_decide_eq_true hv
  have hs : strOf [r] = strOfNums (Lib.encodeRuneZ r) := by simp [strOf]
  have h := Lib.decode_at (strOf [r] ++ rest) 0
  simp only [Nat.sub_zero, Nat.zero_add] at h
  rw [h]
  have hz : (strOf [r] ++ rest).size = (Lib.encodeRuneZ r).length + rest.size := by rw [ByteArray.size_append, hs, strOfNums_size]
  have hb := bt_strOf r rest
  obtain ⟨t, ht⟩ : ∃ t, strOf [r] ++ rest = t := ⟨_, rfl⟩
  rw [ht] at hz hb ⊢
  obtain ⟨b0, hb0⟩ : ∃ b, (t.get! 0).toNat = b := ⟨_, rfl⟩
  obtain ⟨b1, hb1⟩ : ∃ b, (t.get! 1).toNat = b := ⟨_, rfl⟩
  obtain ⟨b2, hb2⟩ : ∃ b, (t.get! 2).toNat = b := ⟨_, rfl⟩
  obtain ⟨b3, hb3⟩ : ∃ b, (t.get! 3).toNat = b := ⟨_, rfl⟩
  rw [hb0, hb1, hb2, hb3]
  by_cases c1 : r ≤ 127
  · rw [Lib.encodeRuneZ_one (by omega) c1] at hb hz ⊢
    have e0 := hb 0 (by simp)
    rw [hb0, rd0] at e0
    unfold Lib.decodeN
    rw [if_pos (by omega)]
    exact Prod.ext (by simp only; omega) rfl
  · by_cases c2 : r ≤ 2047
    · rw [Lib.encodeRuneZ_two (by omega) c2] at hb hz ⊢
      have e0 := hb 0 (by simp)
      have e1 := hb 1 (by simp)
      rw [hb0, rd0] at e0
      rw [hb1, rd1] at e1
      simp only [List.length_cons, List.length_nil] at hz
      unfold Lib.decodeN
      rw [if_neg (by omega), if_pos (by omega), if_pos (by omega)]
      exact Prod.ext (by simp only; omega) rfl
    · by_cases c3 : r ≤ 65535
      · rw [Lib.encodeRuneZ_three (by omega)] at hb hz ⊢
        have e0 := hb 0 (by simp)
        have e1 := hb 1 (by simp)
        have e2 := hb 2 (by simp)
        rw [hb0, rd0] at e0
        rw [hb1, rd1] at e1
        rw [hb2, rd2] at e2
        simp only [List.length_cons, List.length_nil] at hz
        unfold Lib.decodeN
        rw [if_neg (by omega), if_neg (by omega), if_pos (by omega), if_pos (by omega)]
        exact Prod.ext (by simp only; omega) rfl
      · rw [Lib.encodeRuneZ_four (by omega) (by omega)] at hb hz ⊢
        have e0 := hb 0 (by simp)
        have e1 := hb 1 (by simp)
        have e2 := hb 2 (by simp)
        have e3 := hb 3 (by simp)
        rw [hb0, rd0] at e0
        rw [hb1, rd1] at e1
        rw [hb2, rd2] at e2
        rw [hb3, rd3] at e3
        simp only [List.length_cons, List.length_nil] at hz
        unfold Lib.decodeN
        rw [if_neg (by omega), if_neg (by omega), if_neg (by omega), if_pos (by omega), if_pos (by omega)]
        exact Prod.ext (by simp only; omega) rfl

theorem extract_app (a b : ByteArray) : (a ++ b).extract a.size (a ++ b).size = b := by
  apply ByteArray.ext
  apply Array.ext'
  have h1 : a.data.size = a.size := rfl
  have h2 : b.data.size = b.size := rfl
  rw [ByteArray.data_extract, Array.toList_extract, List.extract_eq_take_drop, ByteArray.data_append, Array.toList_append, List.drop_left' (by rw [Array.length_toList]; rfl), ByteArray.size_append]
  exact List.take_of_length_le (by simp)

theorem str_stp : ∀ (l : List Int) (p : ByteArray) (f : Nat), allRunes l = true → (strOf l).size ≤ f → stp (p ++ strOf l) f p.size = l.map fun r => (r, ((Lib.encodeRuneZ r).length : Int)) := by
  intro l
  induction l with
  | nil =>
    intro p f ha hf
    rw [stp_end _ _ _ (by rw [ByteArray.size_append, strOf_nil]; simp)]
    rfl
  | cons r l ih =>
    intro p f ha hf
    have hv : Lib.validRune r = true := by simp only [allRunes, List.all_cons, Bool.and_eq_true] at ha; exact ha.1
    have hv' : (0 ≤ r ∧ r < 55296) ∨ (57343 < r ∧ r ≤ 1114111) := of_decide_eq_true hv
    have ha2 : allRunes l = true := by simp only [allRunes, List.all_cons, Bool.and_eq_true] at ha; exact ha.2
    have hl := Lib.encodeRuneZ_length r
    have e : strOf (r :: l) = strOf [r] ++ strOf l := by rw [← strOf_append]; rfl
    have hr : (strOf [r]).size = (Lib.encodeRuneZ r).length := by rw [strOf_size]; simp
    rw [e] at hf ⊢
    rw [ByteArray.size_append] at hf
    have hd : Utf8.decode (p ++ (strOf [r] ++ strOf l)) p.size = (r.toNat, (Lib.encodeRuneZ r).length) := by
      have h := Lib.tail_decode (p ++ (strOf [r] ++ strOf l)) p.size 0
      rw [extract_app, Nat.add_zero] at h
      rw [← h, enc_dec r hv]
    have hlt : p.size < (p ++ (strOf [r] ++ strOf l)).size := by simp only [ByteArray.size_append]; omega
    have hrn : (r.toNat : Int) = r := by omega
    cases f with
    | zero => omega
    | succ f =>
      rw [stp_good hlt (by rw [hd]; simp only; intro h; have := len_class r (by omega) hv; rw [if_neg (by omega), if_neg (by omega), if_pos (by omega)] at this; omega)]
      rw [hd]
      simp only
      have h2 := ih (p ++ strOf [r]) f ha2 (by omega)
      rw [ByteArray.size_append, hr, ByteArray.append_assoc] at h2
      rw [h2, List.map_cons, hrn]
theorem textOf_str {l : List Int} (h : allRunes l = true) : textOf (strOf l) = some l := by
  have hs := str_stp l ByteArray.empty (strOf l).size h (Nat.le_refl _)
  rw [ByteArray.empty_append] at hs
  have hz : ByteArray.empty.size = 0 := rfl
  rw [hz] at hs
  unfold textOf
  rw [hs, if_pos]
  · simp [Function.comp_def]
  · rw [List.all_eq_true]
    intro x hx
    obtain ⟨r, hr, rfl⟩ := List.mem_map.1 hx
    have hv : Lib.validRune r = true := List.all_eq_true.1 h r hr
    have hv' : (0 ≤ r ∧ r < 55296) ∨ (57343 < r ∧ r ≤ 1114111) := of_decide_eq_true hv
    exact decide_eq_true (by simp only; omega)
theorem strOf_inj {a b : List Int} (ha : allRunes a = true) (hb : allRunes b = true) (h : strOf a = strOf b) : a = b := by
  have h1 := textOf_str ha
  rw [h, textOf_str hb] at h1
  exact (Option.some.inj h1).symm
theorem allRunes_append (a b : List Int) : allRunes (a ++ b) = (allRunes a && allRunes b) := by simp [allRunes]
theorem allRunes_take {l : List Int} (h : allRunes l = true) (k : Nat) : allRunes (l.take k) = true := List.all_eq_true.2 fun x hx => List.all_eq_true.1 h x (List.mem_of_mem_take hx)
theorem allRunes_drop {l : List Int} (h : allRunes l = true) (k : Nat) : allRunes (l.drop k) = true := List.all_eq_true.2 fun x hx => List.all_eq_true.1 h x (List.mem_of_mem_drop hx)

end Go.Proofs.YtfhnepihbofabaaDoor.X
