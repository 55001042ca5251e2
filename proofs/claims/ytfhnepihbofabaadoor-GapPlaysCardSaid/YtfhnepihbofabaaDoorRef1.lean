/-
  The document's side of layer 1, as plain Lean: what foolscapref01.first and Split come to, by this session. Conditions: a text of at most 2^45 bytes.
-/
import Derived.Test.YtfhnepihbofabaaDoorPx3
import Derived.Test.YtfhnepihbofabaaDoorSplit
namespace Go.Proofs.YtfhnepihbofabaaDoor.X
open Go Go.RowKit Go.Proofs.YtfhnepihbofabaaDoorW.PrintWords Go.Proofs.YtfhnepihbofabaaDoor.P
set_option linter.unusedVariables false

theorem bt_get (s : ByteArray) (i : Nat) (h : i < s.size) : bt s (i : Int) = ((s.get! i).toNat : Int) := by
  rw [Utf8W.get!_of_lt s i h]
  simp [bt, h]

theorem enc_eq (t : List Int) (s : ByteArray) (n : Nat) (hn : n ≤ s.size) (ht : ∀ x ∈ t, 0 ≤ x ∧ x ≤ 255) :
    (strOfNums t).toList = (s.extract 0 n).toList ↔ t.length = n ∧ ∀ i, i < n → rd t (i : Int) = bt s (i : Int) := by
  rw [Lib.toList_data, Lib.toList_data, strOfNums_data]
  have hl : (s.extract 0 n).data.toList = s.data.toList.take n := by simp
  rw [hl]
  constructor
  · intro h
    have h1 := congrArg List.length h
    simp at h1
    have hsz : s.data.size = s.size := rfl
    refine ⟨by omega, fun i hi => ?_⟩
    have h2 := congrArg (fun l => l[i]?) h
    simp only [List.getElem?_map, List.getElem?_take, if_pos hi] at h2
    rw [List.getElem?_eq_getElem (show i < t.length by omega)] at h2
    simp only [Option.map_some, Array.getElem?_toList] at h2
    have hx := ht t[i] (List.getElem_mem _)
    have hs : i < s.size := by omega
    rw [Array.getElem?_eq_getElem (show i < s.data.size by omega)] at h2
    have h3 := Option.some.inj h2
    have h4 : bt s (i : Int) = ((s.data[i]'(by omega)).toNat : Int) := by simp [bt, hs]; rfl
    rw [h4, ← h3]
    have h5 : rd t (i : Int) = t[i] := by simp [rd, List.getD_eq_getElem?_getD, List.getElem?_eq_getElem (show i < t.length by omega)]
    rw [h5]
    rw [UInt8.toNat_ofNat']
    omega
  · rintro ⟨h1, h2⟩
    apply List.ext_getElem?
    intro i
    have hsz : s.data.size = s.size := rfl
    by_cases hi : i < n
    · have hs : i < s.size := by omega
      have h3 := h2 i hi
      have h4 : bt s (i : Int) = ((s.data[i]'(by omega)).toNat : Int) := by simp [bt, hs]; rfl
      have h5 : rd t (i : Int) = t[i] := by simp [rd, List.getD_eq_getElem?_getD, List.getElem?_eq_getElem (show i < t.length by omega)]
      rw [h4, h5] at h3
      simp only [List.getElem?_map, List.getElem?_take, if_pos hi]
      rw [List.getElem?_eq_getElem (show i < t.length by omega), Array.getElem?_toList, Array.getElem?_eq_getElem (show i < s.data.size by omega)]
      simp only [Option.map_some, Option.some.injEq]
      rw [h3, Int.toNat_natCast]
      simp
    · rw [List.getElem?_eq_none (by simp; omega), List.getElem?_eq_none (by simp; omega)]

/-- What the document's first tells: the rune, and its width; 0: there is none. -/
def firstOf (s : ByteArray) : Int × Int := if (Utf8.decode s 0).1 = 65533 ∧ (Utf8.decode s 0).2 < 2 then (0, 0) else ((Utf8.decode s 0).1, (Utf8.decode s 0).2)

theorem is_f (r : Int) : foolscapref01_Is.f r = some (Lib.validRune r) := by
  unfold foolscapref01_Is.f Lib.validRune
  split
  · split
    · split
      · congr 1; symm; rw [decide_eq_true_eq]; omega
      · congr 1; apply decide_eq_decide.2; omega
    · congr 1; symm; rw [decide_eq_false_iff_not]; omega
  · congr 1; symm; rw [decide_eq_false_iff_not]; omega

theorem bytes_f (r : Int) (h0 : 0 ≤ r) (h1 : r ≤ 1114111) (hv : Lib.validRune r = true) : foolscapref01_Bytes.f r = some (Lib.encodeRuneZ r) := by
  have hv' : (0 ≤ r ∧ r < 55296) ∨ (57343 < r ∧ r ≤ 1114111) := of_decide_eq_true hv
  have hw : wrap64 r = r := by unfold wrap64; omega
  unfold foolscapref01_Bytes.f
  rw [hw]
  by_cases c1 : r < 128
  · rw [if_pos c1, Lib.encodeRuneZ_one h0 (by omega)]
    congr 2; omega
  · rw [if_neg c1]
    by_cases c2 : r < 2048
    · rw [if_pos c2, Lib.encodeRuneZ_two (by omega) (by omega)]
      have e1 : wrap64 (192 + wrap64 (Int.tdiv r 64)) % 256 = 192 + r / 64 := by rw [Int.tdiv_eq_ediv_of_nonneg h0]; unfold wrap64; omega
      have e2 : wrap64 (128 + Int.tmod r 64) % 256 = 128 + r % 64 := by rw [Int.tmod_eq_emod_of_nonneg h0]; unfold wrap64; omega
      rw [e1, e2]
    · rw [if_neg c2]
      by_cases c3 : r < 65536
      · rw [if_pos c3, Lib.encodeRuneZ_three (by omega)]
        have e1 : wrap64 (224 + wrap64 (Int.tdiv r 4096)) % 256 = 224 + r / 4096 := by rw [Int.tdiv_eq_ediv_of_nonneg h0]; unfold wrap64; omega
        have e0 : wrap64 (Int.tdiv r 64) = r / 64 := by rw [Int.tdiv_eq_ediv_of_nonneg h0]; unfold wrap64; omega
        have e2 : wrap64 (128 + Int.tmod (wrap64 (Int.tdiv r 64)) 64) % 256 = 128 + r / 64 % 64 := by rw [e0, Int.tmod_eq_emod_of_nonneg (by omega)]; unfold wrap64; omega
        have e3 : wrap64 (128 + Int.tmod r 64) % 256 = 128 + r % 64 := by rw [Int.tmod_eq_emod_of_nonneg h0]; unfold wrap64; omega
        rw [e1, e2, e3]
      · rw [if_neg c3, Lib.encodeRuneZ_four (by omega) h1]
        have e1 : wrap64 (240 + wrap64 (Int.tdiv r 262144)) % 256 = 240 + r / 262144 := by rw [Int.tdiv_eq_ediv_of_nonneg h0]; unfold wrap64; omega
        have e0 : wrap64 (Int.tdiv r 64) = r / 64 := by rw [Int.tdiv_eq_ediv_of_nonneg h0]; unfold wrap64; omega
        have e4 : wrap64 (Int.tdiv r 4096) = r / 4096 := by rw [Int.tdiv_eq_ediv_of_nonneg h0]; unfold wrap64; omega
        have e5 : wrap64 (128 + Int.tmod (wrap64 (Int.tdiv r 4096)) 64) % 256 = 128 + r / 4096 % 64 := by rw [e4, Int.tmod_eq_emod_of_nonneg (by omega)]; unfold wrap64; omega
        have e2 : wrap64 (128 + Int.tmod (wrap64 (Int.tdiv r 64)) 64) % 256 = 128 + r / 64 % 64 := by rw [e0, Int.tmod_eq_emod_of_nonneg (by omega)]; unfold wrap64; omega
        have e3 : wrap64 (128 + Int.tmod r 64) % 256 = 128 + r % 64 := by rw [Int.tmod_eq_emod_of_nonneg h0]; unfold wrap64; omega
        rw [e1, e5, e2, e3]

/-- Do a text's first n bytes hold just this rune? -/
def holdsR (s : ByteArray) (x : Int) (n : Nat) : Prop := Lib.validRune x = true ∧ (Lib.encodeRuneZ x).length = n ∧ ∀ i, i < n → rd (Lib.encodeRuneZ x) (i : Int) = bt s (i : Int)
open Classical in
theorem l0_end (k : Nat) (s : ByteArray) (x : Int) (n : Nat) (h0 : 0 ≤ x) (h1 : x < 2147483648) (hn : n ≤ s.size) :
    foolscapref01_first.l0 (k + 1) s x n n = some (if holdsR s x n then (x, (n : Int)) else (0, 0)) := by
  have hw : wrap32 x = x := by unfold wrap32; omega
  simp only [foolscapref01_first.l0]
  rw [if_neg (by omega), hw, is_f, Option.bind_some]
  by_cases hv : Lib.validRune x = true
  · have hv' : (0 ≤ x ∧ x < 55296) ∨ (57343 < x ∧ x ≤ 1114111) := of_decide_eq_true hv
    rw [if_pos hv, bytes_f x h0 (by omega) hv, Option.bind_some, if_pos (by omega), if_pos (by omega)]
    have he := enc_eq (Lib.encodeRuneZ x) s n hn (fun y hy => by have := Lib.encodeRuneZ_byte x y hy; omega)
    rw [show ((n : Int)).toNat = n from Int.toNat_natCast n]
    by_cases hc : (strOfNums (Lib.encodeRuneZ x)).toList = (s.extract 0 n).toList
    · rw [if_pos hc, if_pos ⟨hv, he.1 hc⟩]
    · rw [if_neg hc, if_neg (fun h => hc (he.2 h.2))]
  · rw [if_neg hv, if_neg (fun h => hv h.1)]
theorem l0_step (k : Nat) (s : ByteArray) (x : Int) (n i : Nat) (hi : i < n) (hs : i < s.size) (hsz : s.size ≤ 140737488355328) (h0 : 0 ≤ x) (h1 : x < 1099511627776) :
    foolscapref01_first.l0 (k + 1) s x n i = if bt s i < 128 ∨ 191 < bt s i then some (0, 0) else foolscapref01_first.l0 k s (64 * x + bt s i - 128) n ((i + 1 : Nat) : Int) := by
  have hb := bt_range s i
  simp only [foolscapref01_first.l0]
  rw [if_pos (by omega), if_pos (by omega), if_pos (by omega)]
  have e1 : wrap64 ((wrap64 ((wrap64 (64 * x)) + (wrap64 (bt s i)))) - 128) = 64 * x + bt s i - 128 := by unfold wrap64; omega
  have e2 : wrap64 ((i : Int) + 1) = ((i + 1 : Nat) : Int) := by unfold wrap64; omega
  rw [e1, e2]
  by_cases c1 : bt s i < 128
  · rw [if_pos c1, if_pos (Or.inl c1)]
  · rw [if_neg c1]
    by_cases c2 : bt s i > 191
    · rw [if_pos c2, if_pos (Or.inr c2)]
    · rw [if_neg c2, if_neg (by omega)]

theorem rd0 (a : Int) (r : List Int) : rd (a :: r) ((0 : Nat) : Int) = a := rfl
theorem rd1 (a b : Int) (r : List Int) : rd (a :: b :: r) ((1 : Nat) : Int) = b := rfl
theorem rd2 (a b c : Int) (r : List Int) : rd (a :: b :: c :: r) ((2 : Nat) : Int) = c := rfl
theorem rd3 (a b c d : Int) (r : List Int) : rd (a :: b :: c :: d :: r) ((3 : Nat) : Int) = d := rfl

/-- A rune of one byte. -/
theorem holds1 (s : ByteArray) (x : Int) (hx : x = bt s ((0 : Nat) : Int)) (h : x < 128) : holdsR s x 1 := by
  have hb := bt_range s ((0 : Nat) : Int)
  refine ⟨decide_eq_true (by omega), by rw [Lib.encodeRuneZ_one (by omega) (by omega)]; rfl, fun i hi => ?_⟩
  rw [Lib.encodeRuneZ_one (by omega) (by omega)]
  obtain rfl : i = 0 := by omega
  rw [rd0]; exact hx
theorem len_class (x : Int) (h0 : 0 ≤ x) (hv : Lib.validRune x = true) : (Lib.encodeRuneZ x).length = if x < 128 then 1 else if x < 2048 then 2 else if x < 65536 then 3 else 4 := by
  have hv' : (0 ≤ x ∧ x < 55296) ∨ (57343 < x ∧ x ≤ 1114111) := of_decide_eq_true hv
  by_cases c1 : x < 128
  · rw [Lib.encodeRuneZ_one (by omega) (by omega), if_pos c1]; rfl
  · rw [if_neg c1]
    by_cases c2 : x < 2048
    · rw [Lib.encodeRuneZ_two (by omega) (by omega), if_pos c2]; rfl
    · rw [if_neg c2]
      by_cases c3 : x < 65536
      · rw [Lib.encodeRuneZ_three (by omega), if_pos c3]; rfl
      · rw [Lib.encodeRuneZ_four (by omega) (by omega), if_neg c3]; rfl
theorem holds2 (s : ByteArray) (b0 b1 x : Int) (e0 : b0 = bt s ((0 : Nat) : Int)) (e1 : b1 = bt s ((1 : Nat) : Int)) (h0 : 192 ≤ b0 ∧ b0 < 224) (h1 : 128 ≤ b1 ∧ b1 ≤ 191) (hx : x = 64 * (b0 - 192) + b1 - 128) :
    holdsR s x 2 ↔ 128 ≤ x := by
  constructor
  · intro h
    have := h.2.1
    rw [len_class x (by omega) h.1] at this
    split at this
    · omega
    · omega
  · intro h
    refine ⟨decide_eq_true (by omega), by rw [Lib.encodeRuneZ_two (by omega) (by omega)]; rfl, fun i hi => ?_⟩
    rw [Lib.encodeRuneZ_two (by omega) (by omega)]
    obtain rfl | rfl : i = 0 ∨ i = 1 := by omega
    · rw [rd0, ← e0]; omega
    · rw [rd1, ← e1]; omega
theorem holds3 (s : ByteArray) (b0 b1 b2 x : Int) (e0 : b0 = bt s ((0 : Nat) : Int)) (e1 : b1 = bt s ((1 : Nat) : Int)) (e2 : b2 = bt s ((2 : Nat) : Int)) (h0 : 224 ≤ b0 ∧ b0 < 240) (h1 : 128 ≤ b1 ∧ b1 ≤ 191) (h2 : 128 ≤ b2 ∧ b2 ≤ 191) (hx : x = 64 * (64 * (b0 - 224) + b1 - 128) + b2 - 128) :
    holdsR s x 3 ↔ 2048 ≤ x ∧ (x < 55296 ∨ 57344 ≤ x) := by
  constructor
  · intro h
    have hv : (0 ≤ x ∧ x < 55296) ∨ (57343 < x ∧ x ≤ 1114111) := of_decide_eq_true h.1
    have := h.2.1
    rw [len_class x (by omega) h.1] at this
    split at this
    · omega
    · split at this
      · omega
      · omega
  · intro h
    refine ⟨decide_eq_true (by omega), by rw [Lib.encodeRuneZ_three (by omega)]; rfl, fun i hi => ?_⟩
    rw [Lib.encodeRuneZ_three (by omega)]
    obtain rfl | rfl | rfl : i = 0 ∨ i = 1 ∨ i = 2 := by omega
    · rw [rd0, ← e0]; omega
    · rw [rd1, ← e1]; omega
    · rw [rd2, ← e2]; omega
theorem holds4 (s : ByteArray) (b0 b1 b2 b3 x : Int) (e0 : b0 = bt s ((0 : Nat) : Int)) (e1 : b1 = bt s ((1 : Nat) : Int)) (e2 : b2 = bt s ((2 : Nat) : Int)) (e3 : b3 = bt s ((3 : Nat) : Int)) (h0 : 240 ≤ b0 ∧ b0 < 248) (h1 : 128 ≤ b1 ∧ b1 ≤ 191) (h2 : 128 ≤ b2 ∧ b2 ≤ 191) (h3 : 128 ≤ b3 ∧ b3 ≤ 191) (hx : x = 64 * (64 * (64 * (b0 - 240) + b1 - 128) + b2 - 128) + b3 - 128) :
    holdsR s x 4 ↔ 65536 ≤ x ∧ x ≤ 1114111 := by
  constructor
  · intro h
    have hv : (0 ≤ x ∧ x < 55296) ∨ (57343 < x ∧ x ≤ 1114111) := of_decide_eq_true h.1
    have := h.2.1
    rw [len_class x (by omega) h.1] at this
    split at this
    · omega
    · split at this
      · omega
      · split at this
        · omega
        · omega
  · intro h
    refine ⟨decide_eq_true (by omega), by rw [Lib.encodeRuneZ_four (by omega) (by omega)]; rfl, fun i hi => ?_⟩
    rw [Lib.encodeRuneZ_four (by omega) (by omega)]
    obtain rfl | rfl | rfl | rfl : i = 0 ∨ i = 1 ∨ i = 2 ∨ i = 3 := by omega
    · rw [rd0, ← e0]; omega
    · rw [rd1, ← e1]; omega
    · rw [rd2, ← e2]; omega
    · rw [rd3, ← e3]; omega

theorem firstOf_eq (s : ByteArray) : firstOf s = if (Lib.decodeN s.size (s.get! 0).toNat (s.get! 1).toNat (s.get! 2).toNat (s.get! 3).toNat).1 = 65533 ∧ (Lib.decodeN s.size (s.get! 0).toNat (s.get! 1).toNat (s.get! 2).toNat (s.get! 3).toNat).2 < 2 then (0, 0)
    else (((Lib.decodeN s.size (s.get! 0).toNat (s.get! 1).toNat (s.get! 2).toNat (s.get! 3).toNat).1 : Int), ((Lib.decodeN s.size (s.get! 0).toNat (s.get! 1).toNat (s.get! 2).toNat (s.get! 3).toNat).2 : Int)) := by
  have h := Lib.decode_at s 0
  simp only [Nat.sub_zero, Nat.zero_add] at h
  unfold firstOf
  rw [h]
theorem firstOf_bad {s : ByteArray} {n b0 b1 b2 b3 : Nat} (h : firstOf s = if (Lib.decodeN n b0 b1 b2 b3).1 = 65533 ∧ (Lib.decodeN n b0 b1 b2 b3).2 < 2 then (0, 0) else (((Lib.decodeN n b0 b1 b2 b3).1 : Int), ((Lib.decodeN n b0 b1 b2 b3).2 : Int))) (e : Lib.decodeN n b0 b1 b2 b3 = (65533, 1)) : firstOf s = (0, 0) := by
  rw [h, e]; rfl
theorem firstOf_good {s : ByteArray} {n b0 b1 b2 b3 : Nat} {x w : Nat} (h : firstOf s = if (Lib.decodeN n b0 b1 b2 b3).1 = 65533 ∧ (Lib.decodeN n b0 b1 b2 b3).2 < 2 then (0, 0) else (((Lib.decodeN n b0 b1 b2 b3).1 : Int), ((Lib.decodeN n b0 b1 b2 b3).2 : Int))) (e : Lib.decodeN n b0 b1 b2 b3 = (x, w)) (hw : 2 ≤ w ∨ x < 65533) : firstOf s = ((x : Int), (w : Int)) := by
  rw [h, e, if_neg (by simp only; omega)]

set_option maxHeartbeats 1000000 in
theorem first_ref (k : Nat) (s : ByteArray) (h0 : 0 < s.size) (hsz : s.size ≤ 140737488355328) : foolscapref01_first.f (k + 10) s = some (firstOf s) := by
  have hF := firstOf_eq s
  obtain ⟨b0, hb0⟩ : ∃ b, (s.get! 0).toNat = b := ⟨_, rfl⟩
  obtain ⟨b1, hb1⟩ : ∃ b, (s.get! 1).toNat = b := ⟨_, rfl⟩
  obtain ⟨b2, hb2⟩ : ∃ b, (s.get! 2).toNat = b := ⟨_, rfl⟩
  obtain ⟨b3, hb3⟩ : ∃ b, (s.get! 3).toNat = b := ⟨_, rfl⟩
  rw [hb0, hb1, hb2, hb3] at hF
  have e0 : bt s ((0 : Nat) : Int) = (b0 : Int) := by rw [bt_get s 0 h0, hb0]
  have e1 : 1 < s.size → bt s ((1 : Nat) : Int) = (b1 : Int) := fun h => by rw [bt_get s 1 h, hb1]
  have e2 : 2 < s.size → bt s ((2 : Nat) : Int) = (b2 : Int) := fun h => by rw [bt_get s 2 h, hb2]
  have e3 : 3 < s.size → bt s ((3 : Nat) : Int) = (b3 : Int) := fun h => by rw [bt_get s 3 h, hb3]
  have r0 : b0 < 256 := by rw [← hb0]; exact UInt8.toNat_lt _
  have r1 : b1 < 256 := by rw [← hb1]; exact UInt8.toNat_lt _
  have r2 : b2 < 256 := by rw [← hb2]; exact UInt8.toNat_lt _
  have r3 : b3 < 256 := by rw [← hb3]; exact UInt8.toNat_lt _
  have hw0 : wrap64 (bt s 0) = (b0 : Int) := by
    have : bt s 0 = (b0 : Int) := e0
    rw [this]; unfold wrap64; omega
  clear hb0 hb1 hb2 hb3
  unfold foolscapref01_first.f
  rw [if_pos (by omega), hw0]
  by_cases c1 : b0 < 192
  · rw [if_neg (by omega)]
    simp only [foolscapref01_first.j0]
    rw [if_neg (by simp), if_neg (by omega)]
    simp only [foolscapref01_first.j1]
    rw [if_neg (by simp), if_neg (by omega)]
    simp only [foolscapref01_first.j2]
    rw [if_neg (by simp)]
    by_cases c2 : b0 < 128
    · rw [if_neg (by omega)]
      simp only [foolscapref01_first.j3]
      rw [if_neg (by omega)]
      have h := l0_end (k + 5) s (b0 : Int) 1 (by omega) (by omega) (by omega)
      rw [if_pos (holds1 s _ e0.symm (by omega))] at h
      refine h.trans ?_
      rw [firstOf_good hF (x := b0) (w := 1) (by unfold Lib.decodeN; rw [if_pos c2]) (by omega)]
    · rw [if_pos (by omega)]
      rw [firstOf_bad hF (by unfold Lib.decodeN; rw [if_neg c2, if_neg (by omega), if_neg (by omega), if_neg (by omega)])]
  · rw [if_pos (by omega)]
    simp only [foolscapref01_first.j0]
    by_cases c2 : b0 < 224
    · rw [if_pos (decide_eq_true (by omega))]
      simp only [foolscapref01_first.j3]
      rw [show wrap64 ((b0 : Int) - 192) = (b0 : Int) - 192 by unfold wrap64; omega]
      by_cases cs : 2 ≤ s.size
      · rw [if_neg (by omega)]
        have hs := l0_step (k + 7) s ((b0 : Int) - 192) 2 1 (by omega) (by omega) hsz (by omega) (by omega)
        refine Eq.trans hs ?_
        rw [e1 (by omega)]
        by_cases cb : b1 / 64 = 2
        · rw [if_neg (by omega)]
          have h := l0_end (k + 6) s (64 * ((b0 : Int) - 192) + b1 - 128) 2 (by omega) (by omega) (by omega)
          refine Eq.trans h ?_
          have hh := holds2 s b0 b1 _ e0.symm (e1 (by omega)).symm (by omega) (by omega) rfl
          by_cases cv : 128 ≤ 64 * ((b0 : Int) - 192) + b1 - 128
          · rw [if_pos (hh.2 cv)]
            rw [firstOf_good hF (x := b0 % 32 * 64 + b1 % 64) (w := 2) (by unfold Lib.decodeN; rw [if_neg (by omega), if_pos (by omega), if_pos (by omega)]) (by omega)]
            congr 2; omega
          · rw [if_neg (fun h => cv (hh.1 h))]
            rw [firstOf_bad hF (by unfold Lib.decodeN; rw [if_neg (by omega), if_pos (by omega), if_neg (by omega)])]
        · rw [if_pos (by omega)]
          rw [firstOf_bad hF (by unfold Lib.decodeN; rw [if_neg (by omega), if_neg (by omega), if_neg (by omega), if_neg (by omega)])]
      · rw [if_pos (by omega)]
        rw [firstOf_bad hF (by unfold Lib.decodeN; rw [if_neg (by omega), if_neg (by omega), if_neg (by omega), if_neg (by omega)])]
    · rw [if_neg (by simp; omega), if_pos (by omega)]
      simp only [foolscapref01_first.j1]
      by_cases c3 : b0 < 240
      · rw [if_pos (decide_eq_true (by omega))]
        simp only [foolscapref01_first.j3]
        rw [show wrap64 ((b0 : Int) - 224) = (b0 : Int) - 224 by unfold wrap64; omega]
        by_cases cs : 3 ≤ s.size
        · rw [if_neg (by omega)]
          refine Eq.trans (l0_step (k + 6) s ((b0 : Int) - 224) 3 1 (by omega) (by omega) hsz (by omega) (by omega)) ?_
          rw [e1 (by omega)]
          by_cases cb : b1 / 64 = 2
          · rw [if_neg (by omega)]
            refine Eq.trans (l0_step (k + 5) s (64 * ((b0 : Int) - 224) + b1 - 128) 3 2 (by omega) (by omega) hsz (by omega) (by omega)) ?_
            rw [e2 (by omega)]
            by_cases cb2 : b2 / 64 = 2
            · rw [if_neg (by omega)]
              refine Eq.trans (l0_end (k + 4) s (64 * (64 * ((b0 : Int) - 224) + b1 - 128) + b2 - 128) 3 (by omega) (by omega) (by omega)) ?_
              have hh := holds3 s b0 b1 b2 _ e0.symm (e1 (by omega)).symm (e2 (by omega)).symm (by omega) (by omega) (by omega) rfl
              by_cases cv : 2048 ≤ 64 * (64 * ((b0 : Int) - 224) + b1 - 128) + b2 - 128 ∧ (64 * (64 * ((b0 : Int) - 224) + b1 - 128) + b2 - 128 < 55296 ∨ 57344 ≤ 64 * (64 * ((b0 : Int) - 224) + b1 - 128) + b2 - 128)
              · rw [if_pos (hh.2 cv)]
                rw [firstOf_good hF (x := b0 % 16 * 4096 + b1 % 64 * 64 + b2 % 64) (w := 3) (by unfold Lib.decodeN; rw [if_neg (by omega), if_neg (by omega), if_pos (by omega), if_pos (by omega)]) (by omega)]
                congr 2; omega
              · rw [if_neg (fun h => cv (hh.1 h))]
                rw [firstOf_bad hF (by unfold Lib.decodeN; rw [if_neg (by omega), if_neg (by omega), if_pos (by omega), if_neg (by omega)])]
            · rw [if_pos (by omega)]
              rw [firstOf_bad hF (by unfold Lib.decodeN; rw [if_neg (by omega), if_neg (by omega), if_neg (by omega), if_neg (by omega)])]
          · rw [if_pos (by omega)]
            rw [firstOf_bad hF (by unfold Lib.decodeN; rw [if_neg (by omega), if_neg (by omega), if_neg (by omega), if_neg (by omega)])]
        · rw [if_pos (by omega)]
          rw [firstOf_bad hF (by unfold Lib.decodeN; rw [if_neg (by omega), if_neg (by omega), if_neg (by omega), if_neg (by omega)])]
      · rw [if_neg (by simp; omega), if_pos (by omega)]
        simp only [foolscapref01_first.j2]
        by_cases c4 : b0 < 248
        · rw [if_pos (decide_eq_true (by omega))]
          simp only [foolscapref01_first.j3]
          rw [show wrap64 ((b0 : Int) - 240) = (b0 : Int) - 240 by unfold wrap64; omega]
          by_cases cs : 4 ≤ s.size
          · rw [if_neg (by omega)]
            refine Eq.trans (l0_step (k + 5) s ((b0 : Int) - 240) 4 1 (by omega) (by omega) hsz (by omega) (by omega)) ?_
            rw [e1 (by omega)]
            by_cases cb : b1 / 64 = 2
            · rw [if_neg (by omega)]
              refine Eq.trans (l0_step (k + 4) s (64 * ((b0 : Int) - 240) + b1 - 128) 4 2 (by omega) (by omega) hsz (by omega) (by omega)) ?_
              rw [e2 (by omega)]
              by_cases cb2 : b2 / 64 = 2
              · rw [if_neg (by omega)]
                refine Eq.trans (l0_step (k + 3) s (64 * (64 * ((b0 : Int) - 240) + b1 - 128) + b2 - 128) 4 3 (by omega) (by omega) hsz (by omega) (by omega)) ?_
                rw [e3 (by omega)]
                by_cases cb3 : b3 / 64 = 2
                · rw [if_neg (by omega)]
                  refine Eq.trans (l0_end (k + 2) s (64 * (64 * (64 * ((b0 : Int) - 240) + b1 - 128) + b2 - 128) + b3 - 128) 4 (by omega) (by omega) (by omega)) ?_
                  have hh := holds4 s b0 b1 b2 b3 _ e0.symm (e1 (by omega)).symm (e2 (by omega)).symm (e3 (by omega)).symm (by omega) (by omega) (by omega) (by omega) rfl
                  by_cases cv : 65536 ≤ 64 * (64 * (64 * ((b0 : Int) - 240) + b1 - 128) + b2 - 128) + b3 - 128 ∧ 64 * (64 * (64 * ((b0 : Int) - 240) + b1 - 128) + b2 - 128) + b3 - 128 ≤ 1114111
                  · rw [if_pos (hh.2 cv)]
                    rw [firstOf_good hF (x := b0 % 8 * 262144 + b1 % 64 * 4096 + b2 % 64 * 64 + b3 % 64) (w := 4) (by unfold Lib.decodeN; rw [if_neg (by omega), if_neg (by omega), if_neg (by omega), if_pos (by omega), if_pos (by omega)]) (by omega)]
                    congr 2; omega
                  · rw [if_neg (fun h => cv (hh.1 h))]
                    rw [firstOf_bad hF (by unfold Lib.decodeN; rw [if_neg (by omega), if_neg (by omega), if_neg (by omega), if_pos (by omega), if_neg (by omega)])]
                · rw [if_pos (by omega)]
                  rw [firstOf_bad hF (by unfold Lib.decodeN; rw [if_neg (by omega), if_neg (by omega), if_neg (by omega), if_neg (by omega)])]
              · rw [if_pos (by omega)]
                rw [firstOf_bad hF (by unfold Lib.decodeN; rw [if_neg (by omega), if_neg (by omega), if_neg (by omega), if_neg (by omega)])]
            · rw [if_pos (by omega)]
              rw [firstOf_bad hF (by unfold Lib.decodeN; rw [if_neg (by omega), if_neg (by omega), if_neg (by omega), if_neg (by omega)])]
          · rw [if_pos (by omega)]
            rw [firstOf_bad hF (by unfold Lib.decodeN; rw [if_neg (by omega), if_neg (by omega), if_neg (by omega), if_neg (by omega)])]
        · rw [if_neg (by simp; omega), if_pos (by omega)]
          rw [firstOf_bad hF (by unfold Lib.decodeN; rw [if_neg (by omega), if_neg (by omega), if_neg (by omega), if_neg (by omega)])]

/-- What is told of what has come and of what is still to come. -/
def tellL (l : List (Int × Int)) (acc : List Int) : List Int × Bool := if l.all (fun x => decide (0 ≤ x.1)) then (acc ++ l.map (·.1), true) else ([], false)
theorem tellL_nil (acc : List Int) : tellL [] acc = (acc, true) := by simp [tellL]
theorem tellL_bad (acc : List Int) : tellL [(-1, 0)] acc = ([], false) := by simp [tellL]
theorem tellL_cons (x : Int × Int) (l : List (Int × Int)) (acc : List Int) (h : 0 ≤ x.1) : tellL (x :: l) acc = tellL l (acc ++ [x.1]) := by
  unfold tellL
  rw [List.all_cons, decide_eq_true h, Bool.true_and]
  simp
theorem stp_bad {s : ByteArray} {f pos : Nat} (h : pos < s.size) (hb : (Utf8.decode s pos).1 = 65533 ∧ (Utf8.decode s pos).2 < 2) : stp s (f + 1) pos = [(-1, 0)] := by
  simp only [stp]; rw [if_pos h, if_pos hb]
theorem stp_good {s : ByteArray} {f pos : Nat} (h : pos < s.size) (hb : ¬ ((Utf8.decode s pos).1 = 65533 ∧ (Utf8.decode s pos).2 < 2)) : stp s (f + 1) pos = (((Utf8.decode s pos).1 : Int), ((Utf8.decode s pos).2 : Int)) :: stp s f (pos + (Utf8.decode s pos).2) := by
  simp only [stp]; rw [if_pos h, if_neg hb]
theorem split_l0 (s : ByteArray) (hs : s.size ≤ 35184372088831) : ∀ (f pos : Nat) (acc : List Int) (k : Nat), pos ≤ s.size → s.size ≤ pos + f → acc.length ≤ pos →
    foolscapref01_Split.l0 (k + f + 12) (s.extract pos s.size) acc = some (tellL (stp s f pos) acc) := by
  intro f
  induction f with
  | zero =>
    intro pos acc k hp hf ha
    have hz : (s.extract pos s.size).size = s.size - pos := Lib.tail_size s pos
    obtain ⟨m, hm⟩ : ∃ m, k + 0 + 12 = m + 1 := ⟨k + 11, by omega⟩
    rw [hm]
    simp only [foolscapref01_Split.l0]
    rw [if_neg (by omega)]
    simp [stp, tellL_nil]
  | succ f ih =>
    intro pos acc k hp hf ha
    have hz : (s.extract pos s.size).size = s.size - pos := Lib.tail_size s pos
    obtain ⟨t, ht⟩ : ∃ t, s.extract pos s.size = t := ⟨_, rfl⟩
    have hdec : Utf8.decode t 0 = Utf8.decode s pos := by rw [← ht]; exact Lib.tail_decode s pos 0
    rw [ht] at hz ⊢
    obtain ⟨m, hm⟩ : ∃ m, k + f + 12 = m := ⟨_, rfl⟩
    rw [show k + (f + 1) + 12 = m + 1 by omega]
    simp only [foolscapref01_Split.l0]
    by_cases h : pos < s.size
    · rw [if_pos (by omega), show foolscapref01_first.f m t = some (firstOf t) by rw [show m = (k + f + 2) + 10 by omega]; exact first_ref _ t (by omega) (by omega), Option.bind_some]
      have h2 := decode_le s pos h
      have h1 := decode_pos s pos h
      unfold firstOf
      rw [hdec]
      by_cases hb : (Utf8.decode s pos).1 = 65533 ∧ (Utf8.decode s pos).2 < 2
      · rw [if_pos hb, stp_bad h hb, tellL_bad]
        simp
      · rw [if_neg hb, stp_good h hb, tellL_cons _ _ _ (by simp)]
        simp only
        rw [if_neg (by omega), if_pos (by omega), if_pos (by omega), if_pos (by omega), Int.toNat_natCast, ← tail_tail ht hp (by omega)]
        rw [← hm, ih (pos + (Utf8.decode s pos).2) _ k h2 (by omega) (by simp; omega)]
    · rw [if_neg (by omega), stp_end s _ pos h, tellL_nil]
theorem split_ref (s : ByteArray) (hs : s.size ≤ 35184372088831) (k : Nat) :
    foolscapref01_Split.f (k + s.size + 12) s = some (match textOf s with | some l => (l, true) | none => ([], false)) := by
  have h := split_l0 s hs s.size 0 [] k (Nat.zero_le _) (by omega) (Nat.le_refl _)
  rw [extract_all] at h
  unfold foolscapref01_Split.f
  rw [h]
  unfold textOf tellL
  split <;> simp_all
theorem split_ev (s : ByteArray) (hs : s.size ≤ 35184372088831) : Ev (fun k => foolscapref01_Split.f k s) (match textOf s with | some l => (l, true) | none => ([], false)) :=
  ⟨s.size + 12, fun k hk => by rw [show k = (k - s.size - 12) + s.size + 12 by omega]; exact split_ref s hs _⟩
end Go.Proofs.YtfhnepihbofabaaDoor.X
