/-
  Texts as runes, in plain Lean: what is split is joined as it was, and the other way round; cuts, by this session. Conditions: as typed.
-/
import Derived.Test.YtmkmpjkgpnahnaaDoorRefL
import Derived.Test.YtmkmpjkgpnahnaaDoorJoin
namespace Go.Proofs.YtmkmpjkgpnahnaaDoor.X
open Go Go.RowKit Go.Proofs.YtmkmpjkgpnahnaaDoorW.PrintWords Go.Proofs.YtmkmpjkgpnahnaaDoor.P
set_option linter.unusedVariables false

/-- The text of runes. -/
def strOf (l : List Int) : ByteArray := strOfNums (l.flatMap Lib.encodeRuneZ)
theorem strOf_append (a b : List Int) : strOf (a ++ b) = strOf a ++ strOf b := by
  apply ByteArray.ext
  simp [strOf, strOfNums]
theorem dec_holds (t : ByteArray) (h0 : 0 < t.size) (hb : ¬ ((Utf8.decode t 0).1 = 65533 ∧ (Utf8.decode t 0).2 < 2)) : holdsR t ((Utf8.decode t 0).1 : Int) (Utf8.decode t 0).2 := by
  have h := Lib.decode_at t 0
  simp only [Nat.sub_zero, Nat.zero_add] at h
  obtain ⟨b0, hb0⟩ : ∃ b, (t.get! 0).toNat = b := ⟨_, rfl⟩
  obtain ⟨b1, hb1⟩ : ∃ b, (t.get! 1).toNat = b := ⟨_, rfl⟩
  obtain ⟨b2, hb2⟩ : ∃ b, (t.get! 2).toNat = b := ⟨_, rfl⟩
  obtain ⟨b3, hb3⟩ : ∃ b, (t.get! 3).toNat = b := ⟨_, rfl⟩
  rw [hb0, hb1, hb2, hb3] at h
  have e0 : bt t ((0 : Nat) : Int) = (b0 : Int) := by rw [bt_get t 0 h0, hb0]
  have e1 : 1 < t.size → bt t ((1 : Nat) : Int) = (b1 : Int) := fun h => by rw [bt_get t 1 h, hb1]
  have e2 : 2 < t.size → bt t ((2 : Nat) : Int) = (b2 : Int) := fun h => by rw [bt_get t 2 h, hb2]
  have e3 : 3 < t.size → bt t ((3 : Nat) : Int) = (b3 : Int) := fun h => by rw [bt_get t 3 h, hb3]
  have r0 : b0 < 256 := by rw [← hb0]; exact UInt8.toNat_lt _
  have r1 : b1 < 256 := by rw [← hb1]; exact UInt8.toNat_lt _
  have r2 : b2 < 256 := by rw [← hb2]; exact UInt8.toNat_lt _
  have r3 : b3 < 256 := by rw [← hb3]; exact UInt8.toNat_lt _
  rw [h] at hb ⊢
  unfold Lib.decodeN at hb ⊢
  by_cases c1 : b0 < 128
  · rw [if_pos c1] at hb ⊢
    exact holds1 t _ e0.symm (by omega)
  · rw [if_neg c1] at hb ⊢
    by_cases c2 : b0 / 32 = 6 ∧ (1 < t.size ∧ b1 / 64 = 2)
    · rw [if_pos c2] at hb ⊢
      by_cases c3 : b0 % 32 * 64 + b1 % 64 ≥ 128
      · rw [if_pos c3] at hb ⊢
        exact (holds2 t b0 b1 _ e0.symm (e1 (by omega)).symm (by omega) (by omega) (by simp only; omega)).2 (by simp only; omega)
      · rw [if_neg c3] at hb
        exact absurd ⟨rfl, by simp⟩ hb
    · rw [if_neg c2] at hb ⊢
      by_cases c4 : b0 / 16 = 14 ∧ (1 < t.size ∧ b1 / 64 = 2) ∧ (2 < t.size ∧ b2 / 64 = 2)
      · rw [if_pos c4] at hb ⊢
        split at hb
        · rename_i c5
          rw [if_pos c5]
          exact (holds3 t b0 b1 b2 _ e0.symm (e1 (by omega)).symm (e2 (by omega)).symm (by omega) (by omega) (by omega) (by simp only; omega)).2 (by simp only; omega)
        · exact absurd ⟨rfl, by simp⟩ hb
      · rw [if_neg c4] at hb ⊢
        by_cases c6 : b0 / 8 = 30 ∧ (1 < t.size ∧ b1 / 64 = 2) ∧ (2 < t.size ∧ b2 / 64 = 2) ∧ (3 < t.size ∧ b3 / 64 = 2)
        · rw [if_pos c6] at hb ⊢
          split at hb
          · rename_i c5
            rw [if_pos c5]
            exact (holds4 t b0 b1 b2 b3 _ e0.symm (e1 (by omega)).symm (e2 (by omega)).symm (e3 (by omega)).symm (by omega) (by omega) (by omega) (by omega) (by simp only; omega)).2 (by simp only; omega)
          · exact absurd ⟨rfl, by simp⟩ hb
        · rw [if_neg c6] at hb
          exact absurd ⟨rfl, by simp⟩ hb

/-- A text that begins with a rune's bytes is that rune's, and the rest. -/
theorem holds_split (t : ByteArray) (x : Int) (n : Nat) (hn : n ≤ t.size) (h : holdsR t x n) : t = strOf [x] ++ t.extract n t.size := by
  have he := (enc_eq (Lib.encodeRuneZ x) t n hn (fun y hy => by have := Lib.encodeRuneZ_byte x y hy; omega)).2 h.2
  rw [Lib.toList_data, Lib.toList_data] at he
  apply ByteArray.ext
  apply Array.ext'
  have e2 : (strOf [x]).data.toList = t.data.toList.take n := by
    have : strOf [x] = strOfNums (Lib.encodeRuneZ x) := by simp [strOf]
    rw [this, he]; simp
  have hsz : t.data.size = t.size := rfl
  rw [ByteArray.data_append, Array.toList_append, e2]
  have e3 : (t.extract n t.size).data.toList = t.data.toList.drop n := by
    rw [ByteArray.data_extract, Array.toList_extract, List.extract_eq_take_drop]
    exact List.take_of_length_le (by simp)
  rw [e3, List.take_append_drop]

theorem text_back : ∀ (s : ByteArray) (f pos : Nat), pos ≤ s.size → s.size ≤ pos + f → (∀ x ∈ stp s f pos, 0 ≤ x.1) →
    s.extract pos s.size = strOf ((stp s f pos).map (·.1)) ∧ allRunes ((stp s f pos).map (·.1)) = true := by
  intro s f
  induction f with
  | zero =>
    intro pos hp hf hx
    have : (s.extract pos s.size).size = 0 := by rw [Lib.tail_size]; omega
    refine ⟨?_, rfl⟩
    rw [ByteArray.size_eq_zero_iff.1 this]
    rfl
  | succ f ih =>
    intro pos hp hf hx
    by_cases h : pos < s.size
    · by_cases hb : (Utf8.decode s pos).1 = 65533 ∧ (Utf8.decode s pos).2 < 2
      · rw [stp_bad h hb] at hx
        have := hx (-1, 0) (by simp)
        simp at this
      · rw [stp_good h hb] at hx ⊢
        have h2 := decode_le s pos h
        have h1 := decode_pos s pos h
        obtain ⟨i1, i2⟩ := ih (pos + (Utf8.decode s pos).2) h2 (by omega) (fun x hxx => hx x (List.mem_cons_of_mem _ hxx))
        obtain ⟨t, ht⟩ : ∃ t, s.extract pos s.size = t := ⟨_, rfl⟩
        have hdec : Utf8.decode t 0 = Utf8.decode s pos := by rw [← ht]; exact Lib.tail_decode s pos 0
        have hts : t.size = s.size - pos := by rw [← ht]; exact Lib.tail_size s pos
        have hh := dec_holds t (by omega) (by rw [hdec]; exact hb)
        rw [hdec] at hh
        rw [ht]
        refine ⟨?_, ?_⟩
        · rw [List.map_cons, show (((Utf8.decode s pos).1 : Int) :: (stp s f (pos + (Utf8.decode s pos).2)).map (·.1)) = [((Utf8.decode s pos).1 : Int)] ++ (stp s f (pos + (Utf8.decode s pos).2)).map (·.1) from rfl, strOf_append, ← i1, tail_tail ht hp (by omega)]
          exact holds_split t _ _ (by omega) hh
        · simp only [List.map_cons, allRunes, List.all_cons, Bool.and_eq_true]
          exact ⟨hh.1, i2⟩
    · have : (s.extract pos s.size).size = 0 := by rw [Lib.tail_size]; omega
      rw [stp_end s _ pos h]
      refine ⟨?_, rfl⟩
      rw [ByteArray.size_eq_zero_iff.1 this]
      rfl
theorem textOf_valid {s : ByteArray} {l : List Int} (h : textOf s = some l) : ∀ x ∈ stp s s.size 0, 0 ≤ x.1 := by
  unfold textOf at h
  split at h
  · rename_i ha
    exact fun x hx => of_decide_eq_true (List.all_eq_true.1 ha x hx)
  · cases h
theorem text_str {s : ByteArray} {l : List Int} (h : textOf s = some l) : s = strOf l ∧ allRunes l = true := by
  have hv := textOf_valid h
  have hb := text_back s s.size 0 (Nat.zero_le _) (by omega) hv
  rw [extract_all] at hb
  unfold textOf at h
  split at h
  · obtain rfl := Option.some.inj h
    exact hb
  · cases h

theorem allRunes_append (a b : List Int) : allRunes (a ++ b) = (allRunes a && allRunes b) := by simp [allRunes]
theorem allRunes_take {l : List Int} (h : allRunes l = true) (k : Nat) : allRunes (l.take k) = true := List.all_eq_true.2 fun x hx => List.all_eq_true.1 h x (List.mem_of_mem_take hx)
theorem allRunes_drop {l : List Int} (h : allRunes l = true) (k : Nat) : allRunes (l.drop k) = true := List.all_eq_true.2 fun x hx => List.all_eq_true.1 h x (List.mem_of_mem_drop hx)

end Go.Proofs.YtmkmpjkgpnahnaaDoor.X
