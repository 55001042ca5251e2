/-
  The code points of the text of runes: as many as there are runes: by this session. Conditions: as typed.
-/
import Derived.Test.YtkglfgikfeebhaaRefJn
import Derived.Lib.RuneCountTail
import Derived.Lib.DecodeN
import Derived.Laws.IdiomStrings
namespace Go.Proofs.Ytkglfgikfeebhaa.X
open Go Go.RowKit Go.Proofs.YtkglfgikfeebhaaW.PrintWords Go.Proofs.Ytkglfgikfeebhaa.P
set_option linter.unusedVariables false
theorem getx_lt (s : ByteArray) (k : Nat) (h : k < s.size) : s.get! k = s[k]'h := by
  cases s with
  | mk d => exact getElem!_pos d k h
theorem rd0 (a : Int) (r : List Int) : rd (a :: r) ((0 : Nat) : Int) = a := rfl
theorem rd1 (a b : Int) (r : List Int) : rd (a :: b :: r) ((1 : Nat) : Int) = b := rfl
theorem rd2 (a b c : Int) (r : List Int) : rd (a :: b :: c :: r) ((2 : Nat) : Int) = c := rfl
theorem rd3 (a b c d : Int) (r : List Int) : rd (a :: b :: c :: d :: r) ((3 : Nat) : Int) = d := rfl
theorem strOf_append (a b : List Int) : strOf (a ++ b) = strOf a ++ strOf b := by
  apply ByteArray.ext
  simp [strOf, strOfNums]
theorem strOf_nil : strOf [] = ByteArray.empty := rfl
theorem strOf_size (l : List Int) : (strOf l).size = (l.flatMap Lib.encodeRuneZ).length := strOfNums_size _
theorem bt_strOf (r : Int) (rest : ByteArray) (i : Nat) (hi : i < (Lib.encodeRuneZ r).length) : (((strOf [r] ++ rest).get! i).toNat : Int) = rd (Lib.encodeRuneZ r) (i : Int) := by
  have hs : strOf [r] = strOfNums (Lib.encodeRuneZ r) := by simp [strOf]
  have h1 : i < (strOf [r] ++ rest).size := by rw [ByteArray.size_append, hs, strOfNums_size]; omega
  rw [getx_lt _ i h1]
  have h2 : i < (strOf [r]).size := by rw [hs, strOfNums_size]; exact hi
  rw [ByteArray.getElem_append_left h2]
  have h3 : (strOf [r])[i] = UInt8.ofNat ((Lib.encodeRuneZ r)[i]).toNat := by
    have : (strOf [r]).data.toList[i]? = some (UInt8.ofNat ((Lib.encodeRuneZ r)[i]).toNat) := by
      rw [hs, strOfNums_data, List.getElem?_map, List.getElem?_eq_getElem hi]; rfl
    rw [Array.getElem?_toList] at this
    exact (Array.getElem?_eq_some_iff.1 this).2
  rw [h3, UInt8.toNat_ofNat']
  have hb := Lib.encodeRuneZ_byte r _ (List.getElem_mem hi)
  have h5 : rd (Lib.encodeRuneZ r) (i : Int) = (Lib.encodeRuneZ r)[i] := by simp [rd, List.getD_eq_getElem?_getD, List.getElem?_eq_getElem hi]
  rw [h5]; omega
theorem enc_dec (r : Int) (hv : Lib.validRune r = true) (rest : ByteArray) : Utf8.decode (strOf [r] ++ rest) 0 = (r.toNat, (Lib.encodeRuneZ r).length) := by
  have hv' : (0 ≤ r ∧ r < 55296) ∨ (57343 < r ∧ r ≤ 1114111) := of_decide_eq_true hv
  have hs : strOf [r] = strOfNums (Lib.encodeRuneZ r) := by simp [strOf]
  have h := Lib.decode_at (strOf [r] ++ rest) 0
  simp only [Nat.sub_zero, Nat.zero_add] at h
  rw [h]
  have hz : (strOf [r] ++ rest).size = (Lib.encodeRuneZ r).length + rest.size := by rw [ByteArray.size_append, hs, strOfNums_size]
  have hb := bt_strOf r rest
  obtain ⟨t, ht⟩ : ∃ t, strOf [r] ++ rest = t := ⟨_, rfl⟩
  rw [ht] at hz hb ⊢
  obtain ⟨b0, hb0⟩ : ∃ b, (t.get! 0).toNat = b := ⟨_, rfl⟩
  obtain ⟨b1, hb1⟩ : ∃ b, (t.get! 1).toNat = b := ⟨_, rfl⟩
  obtain ⟨b2, hb2⟩ : ∃ b, (t.get! 2).toNat = b := ⟨_, rfl⟩
  obtain ⟨b3, hb3⟩ : ∃ b, (t.get! 3).toNat = b := ⟨_, rfl⟩
  rw [hb0, hb1, hb2, hb3]
  by_cases c1 : r ≤ 127
  · rw [Lib.encodeRuneZ_one (by omega) c1] at hb hz ⊢
    have e0 := hb 0 (by simp)
    rw [hb0, rd0] at e0
    unfold Lib.decodeN
    rw [if_pos (by omega)]
    exact Prod.ext (by simp only; omega) rfl
  · by_cases c2 : r ≤ 2047
    · rw [Lib.encodeRuneZ_two (by omega) c2] at hb hz ⊢
      have e0 := hb 0 (by simp)
      have e1 := hb 1 (by simp)
      rw [hb0, rd0] at e0
      rw [hb1, rd1] at e1
      simp only [List.length_cons, List.length_nil] at hz
      unfold Lib.decodeN
      rw [if_neg (by omega), if_pos (by omega), if_pos (by omega)]
      exact Prod.ext (by simp only; omega) rfl
    · by_cases c3 : r ≤ 65535
      · rw [Lib.encodeRuneZ_three (by omega)] at hb hz ⊢
        have e0 := hb 0 (by simp)
        have e1 := hb 1 (by simp)
        have e2 := hb 2 (by simp)
        rw [hb0, rd0] at e0
        rw [hb1, rd1] at e1
        rw [hb2, rd2] at e2
        simp only [List.length_cons, List.length_nil] at hz
        unfold Lib.decodeN
        rw [if_neg (by omega), if_neg (by omega), if_pos (by omega), if_pos (by omega)]
        exact Prod.ext (by simp only; omega) rfl
      · rw [Lib.encodeRuneZ_four (by omega) (by omega)] at hb hz ⊢
        have e0 := hb 0 (by simp)
        have e1 := hb 1 (by simp)
        have e2 := hb 2 (by simp)
        have e3 := hb 3 (by simp)
        rw [hb0, rd0] at e0
        rw [hb1, rd1] at e1
        rw [hb2, rd2] at e2
        rw [hb3, rd3] at e3
        simp only [List.length_cons, List.length_nil] at hz
        unfold Lib.decodeN
        rw [if_neg (by omega), if_neg (by omega), if_neg (by omega), if_pos (by omega), if_pos (by omega)]
        exact Prod.ext (by simp only; omega) rfl

theorem extract_app (a b : ByteArray) : (a ++ b).extract a.size (a ++ b).size = b := by
  apply ByteArray.ext
  apply Array.ext'
  have h1 : a.data.size = a.size := rfl
  have h2 : b.data.size = b.size := rfl
  rw [ByteArray.data_extract, Array.toList_extract, List.extract_eq_take_drop, ByteArray.data_append, Array.toList_append, List.drop_left' (by rw [Array.length_toList]; rfl), ByteArray.size_append]
  exact List.take_of_length_le (by simp)

theorem runes_len : ∀ (l : List Int) (p : ByteArray) (f : Nat) (acc : Array Value), allRunes l = true → (strOf l).size ≤ f → (Conv.runesFrom (p ++ strOf l) f p.size acc).size = acc.size + l.length := by
  intro l
  induction l with
  | nil =>
    intro p f acc ha hf
    cases f with
    | zero => rfl
    | succ f =>
      unfold Conv.runesFrom
      rw [if_neg (by rw [ByteArray.size_append, strOf_nil]; simp)]
      rfl
  | cons r l ih =>
    intro p f acc ha hf
    have hv : Lib.validRune r = true := by simp only [allRunes, List.all_cons, Bool.and_eq_true] at ha; exact ha.1
    have ha2 : allRunes l = true := by simp only [allRunes, List.all_cons, Bool.and_eq_true] at ha; exact ha.2
    have hl := Lib.encodeRuneZ_length r
    have e : strOf (r :: l) = strOf [r] ++ strOf l := by rw [← strOf_append]; rfl
    have hr : (strOf [r]).size = (Lib.encodeRuneZ r).length := by rw [strOf_size]; simp
    rw [e] at hf ⊢
    rw [ByteArray.size_append] at hf
    have hd : Utf8.decode (p ++ (strOf [r] ++ strOf l)) p.size = (r.toNat, (Lib.encodeRuneZ r).length) := by
      have h := Lib.tail_decode (p ++ (strOf [r] ++ strOf l)) p.size 0
      rw [extract_app, Nat.add_zero] at h
      rw [← h, enc_dec r hv]
    have hlt : p.size < (p ++ (strOf [r] ++ strOf l)).size := by simp only [ByteArray.size_append]; omega
    cases f with
    | zero => omega
    | succ f =>
      unfold Conv.runesFrom
      rw [if_pos hlt, hd]
      have h9 := ih (p ++ strOf [r]) f (acc.push (.int .i32 (Int.ofNat r.toNat))) ha2 (by omega)
      rw [ByteArray.append_assoc, ByteArray.size_append, hr] at h9
      refine h9.trans ?_
      rw [Array.size_push, List.length_cons]
      omega
theorem runes_of (l : List Int) (h : allRunes l = true) : (Conv.runesFrom (strOf l) (strOf l).size 0 #[]).size = l.length := by
  have h9 := runes_len l ByteArray.empty (strOf l).size #[] h (Nat.le_refl _)
  rw [ByteArray.empty_append] at h9
  simpa using h9
end Go.Proofs.Ytkglfgikfeebhaa.X
