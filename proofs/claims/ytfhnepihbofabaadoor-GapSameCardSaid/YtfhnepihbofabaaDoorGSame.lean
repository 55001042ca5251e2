/-
  The statement GapSame, walked by hand: it is true of every input: by this session. Conditions: as typed.
-/
import Derived.Test.YtfhnepihbofabaaDoorGSlices
namespace Go.Proofs.YtfhnepihbofabaaDoor.X
open Go Go.RowKit Go.Lib Go.Shelf Go.Proofs.YtfhnepihbofabaaDoorW.PrintWords Go.Proofs.YtfhnepihbofabaaDoor.P
set_option linter.unusedVariables false
theorem great_t (s : ByteArray) (b : Bool) (hb : decide (600 < s.size) = b) (W : World) : Calls Tryd.prog 9 #[.string s, .slice none 0 0] W fun e w' => e = .returned (.bool b) ∧ Below W.heap.size W w' := by
  refine (foolscaplaw02_great.calls 5 s none 0 [] _ W (Kd.C_nil _ _) (Nat.le_refl _) (great_nil s)).mono ?_
  rintro e w' ⟨rfl, m, rfl⟩
  exact ⟨by rw [hb], pw_below_drewN (Below.refl _ _) m⟩
/-- Behind the making of the second buffer: the first one's state, as it was then. -/
def Was (W w1 : World) (g gc : Nat) (L : List Int) : Prop := Buf w1 (fun k => k < g) g L ∧ Below W.heap.size W w1 ∧ w1.heap.size = gc
theorem b_of {W w1 w : World} {g gc : Nat} {L : List Int} (h1 : Hid (Was W w1 g gc L)) (h : Below gc w1 w) : Buf w (fun k => k < g) g L := h1.out.1.below (by rw [h1.out.2.2]; exact h)
theorem w_of {W w1 w : World} {g gc : Nat} {L : List Int} (h1 : Hid (Was W w1 g gc L)) (h : Below gc w1 w) : Below W.heap.size W w := below_step h1.out.2.1 (by rw [h1.out.2.2]; exact h)
theorem step2 {W w1 w w' : World} {g gc : Nat} {L : List Int} (h1 : Hid (Was W w1 g gc L)) (h : Below gc w1 w) (hb : Below w.heap.size w w') : Below gc w1 w' := by
  have h2 := h1.out.2.2
  subst h2
  exact below_step h hb
theorem same_tt {W : World} {X Y : Nat → Prop} {g k : Nat} {L : List Int} (h : Buf W X g L) (h' : Buf W Y k L) :
    Calls Tryd.prog 24 #[.pointer (some ⟨g, 0, none⟩), .pointer (some ⟨k, 0, none⟩)] W fun e w' => e = .returned (.bool true) ∧ Below W.heap.size W w' := by
  have := same_w h h'
  rw [decide_eq_true (show L.length = L.length ∧ joinS L = joinS L from ⟨rfl, rfl⟩)] at this
  exact this
theorem same_ff {W : World} {X Y : Nat → Prop} {g k : Nat} {L M : List Int} (h : Buf W X g L) (h' : Buf W Y k M) (hn : M.length = L.length + 1) :
    Calls Tryd.prog 24 #[.pointer (some ⟨g, 0, none⟩), .pointer (some ⟨k, 0, none⟩)] W fun e w' => e = .returned (.bool false) ∧ Below W.heap.size W w' := by
  have := same_w h h'
  rw [decide_eq_false (show ¬ (L.length = M.length ∧ joinS L = joinS M) from fun h => by have := h.1; omega)] at this
  exact this
theorem same_qq {W : World} {X Y : Nat → Prop} {g k : Nat} {L M : List Int} {S t : ByteArray} {q : Bool} (h : Buf W X g L) (h' : Buf W Y k M) (hS : textOf S = some L) (ht : textOf t = some M) (hq : decide (S = t) = q) :
    Calls Tryd.prog 24 #[.pointer (some ⟨g, 0, none⟩), .pointer (some ⟨k, 0, none⟩)] W fun e w' => e = .returned (.bool q) ∧ Below W.heap.size W w' := by
  have := same_w h h'
  rw [show decide (L.length = M.length ∧ joinS L = joinS M) = q by
    rw [joinS_text hS, joinS_text ht, ← hq]
    apply decide_eq_decide.2
    constructor
    · exact fun h => h.2
    · intro h
      subst h
      rw [hS] at ht
      cases ht
      exact ⟨rfl, rfl⟩] at this
  exact this
theorem text_x : textOf ⟨#[120]⟩ = some [120] := by kernel_rfl
theorem ins_c {W w : World} {gc : Nat} {L N : List Int} {z : Int} (h : Buf w (fun k => k < gc) gc L) (hT : XAmb w) (hI : insR L 0 ⟨#[120]⟩ = (N, z)) :
    Calls Tryd.prog 18 #[.pointer (some ⟨gc, 0, none⟩), .int .i64 0, .string ⟨#[120]⟩] w fun e w' => e = .returned (.int .i64 z) ∧ Buf w' (fun k => k < gc) gc N ∧ Below gc w w' := by
  refine (insert_b 0 ⟨#[120]⟩ h (by decide) hT).mono ?_
  rintro e w' ⟨rfl, hB, hk⟩
  rw [hI] at hB
  exact ⟨by rw [hI], hB, hk.out⟩
theorem insx_len {L N : List Int} (h : insR L 0 ⟨#[120]⟩ = (N, 0)) : N.length = L.length + 1 := by
  obtain ⟨t, k, ht, hk, hk0, hl, hf⟩ := insR_ok0 (L := L) (at_ := 0) (s := ⟨#[120]⟩) (by rw [h])
  rw [text_x] at ht
  cases ht
  rw [h] at hf
  simp only at hf
  rw [hf]
  have : k = 0 := by omega
  subst this
  simp
set_option maxRecDepth 100000 in
set_option maxHeartbeats 16000000 in
theorem same_g (s t : ByteArray) (A : Option Addr) (c : Nat) (l : List S32) (W : World) (hT : XAmb W) (hC : Kd.C k32 W A l.length l) (hc : l.length ≤ c) (hg : greatA s l = true) :
    Calls Tryd.prog 6 #[.string s, .slice A l.length c, .string t] W fun e w' => e = .returned (.bool true) ∧ Below W.heap.size W w' := by
  have hG := fun (W' : World) (hb : Below W.heap.size W W') => greatA_w s A c l true hg W' (Kd.C_below hC hb) hc
  have hA := fun (W' : World) (hb : Below W.heap.size W W') => alive_w W' (XAmb_below hT hb)
  obtain ⟨k, hk⟩ : ∃ k, l.length = k := ⟨_, rfl⟩
  rw [hk] at hG ⊢
  clear hT hC hc hg hk
  go_enter Tryd.func6, Tryd.ntmps6
  go_wp2_with (first
    | (go_at_call 8; refine (hA _ (Below.refl _ _)).mono ?_; rintro e w1 ⟨rfl, ha1⟩; clear hA)
    | (go_at_call 9; refine (hG _ ha1).mono ?_; rintro e w2 ⟨rfl, hb⟩; have ha2 := below_step ha1 hb; clear hG ha1 hb))
  go_ret
  exact ⟨rfl, ha2⟩
set_option maxRecDepth 100000 in
set_option maxHeartbeats 16000000 in
theorem same_g2 (s t : ByteArray) (A : Option Addr) (c : Nat) (l : List S32) (W : World) (hT : XAmb W) (hC : Kd.C k32 W A l.length l) (hc : l.length ≤ c) (hg : greatA s l = false) (hu : 600 < t.size) :
    Calls Tryd.prog 6 #[.string s, .slice A l.length c, .string t] W fun e w' => e = .returned (.bool true) ∧ Below W.heap.size W w' := by
  have hG := fun (W' : World) (hb : Below W.heap.size W W') => greatA_w s A c l false hg W' (Kd.C_below hC hb) hc
  have hG2 := great_t t true (decide_eq_true hu)
  have hA := fun (W' : World) (hb : Below W.heap.size W W') => alive_w W' (XAmb_below hT hb)
  obtain ⟨k, hk⟩ : ∃ k, l.length = k := ⟨_, rfl⟩
  rw [hk] at hG ⊢
  clear hT hC hc hg hk hu
  go_enter Tryd.func6, Tryd.ntmps6
  go_wp2_with (first
    | (go_at_call 8; refine (hA _ (Below.refl _ _)).mono ?_; rintro e w1 ⟨rfl, ha1⟩; clear hA)
    | (go_at_call 9; refine (hG _ ha1).mono ?_; rintro e w2 ⟨rfl, hb⟩; have ha2 := below_step ha1 hb; clear hG ha1 hb)
    | (go_at_call 9; refine (hG2 _).mono ?_; rintro e w3 ⟨rfl, hb⟩; have ha3 := below_step ha2 hb; clear hG2 ha2 hb))
  go_ret
  exact ⟨rfl, ha3⟩
set_option maxRecDepth 100000 in
set_option maxHeartbeats 16000000 in
theorem same_n (s t : ByteArray) (A : Option Addr) (c : Nat) (l : List S32) (W : World) (hT : XAmb W) (hC : Kd.C k32 W A l.length l) (hc : l.length ≤ c) (hg : greatA s l = false) (hu : ¬ 600 < t.size) (hs : s.size ≤ 600) (hn : (insR [] 0 s).2 ≠ 0) :
    Calls Tryd.prog 6 #[.string s, .slice A l.length c, .string t] W fun e w' => e = .returned (.bool true) ∧ Below W.heap.size W w' := by
  have hG := fun (W' : World) (hb : Below W.heap.size W W') => greatA_w s A c l false hg W' (Kd.C_below hC hb) hc
  have hG2 := great_t t false (decide_eq_false hu)
  obtain ⟨z, hz⟩ : ∃ z, (insR [] 0 s).2 = z := ⟨_, rfl⟩
  rw [hz] at hn
  have hN := fun (W' : World) (hb : Below W.heap.size W W') => new_no s (by omega) (XAmb_below hT hb) z hz hn
  have hc1 : (z == 0) = false := beq_eq_false_iff_ne.2 hn
  have hc2 : (z != 0) = true := by rw [bne_iff_ne]; exact hn
  have hA := fun (W' : World) (hb : Below W.heap.size W W') => alive_w W' (XAmb_below hT hb)
  obtain ⟨k, hk⟩ : ∃ k, l.length = k := ⟨_, rfl⟩
  rw [hk] at hG ⊢
  clear hT hC hc hg hk hs hz hn hu
  go_enter Tryd.func6, Tryd.ntmps6
  go_wp2_with (first
    | (go_at_call 8; refine (hA _ (Below.refl _ _)).mono ?_; rintro e w1 ⟨rfl, ha1⟩; clear hA)
    | (go_at_call 9; refine (hG _ ha1).mono ?_; rintro e w2 ⟨rfl, hb⟩; have ha2 := below_step ha1 hb; clear hG ha1 hb)
    | (go_at_call 9; refine (hG2 _).mono ?_; rintro e w3 ⟨rfl, hb⟩; have ha3 := below_step ha2 hb; clear hG2 ha2 hb)
    | (go_at_call 10; refine (hN _ ha3).mono ?_; rintro e w4 ⟨rfl, hb4⟩))
  go_ret
  exact ⟨rfl, below_step ha3 hb4⟩
set_option maxRecDepth 100000 in
set_option maxHeartbeats 16000000 in
theorem same_ok (s t : ByteArray) (A : Option Addr) (c : Nat) (l : List S32) (W : World) (hT : XAmb W) (hC : Kd.C k32 W A l.length l) (hc : l.length ≤ c) (hg : greatA s l = false) (hu : ¬ 600 < t.size) (hs : s.size ≤ 600) (hla : ∀ x ∈ l, x.f3.size ≤ 300) (hl60 : l.length ≤ 60) (L0 : List Int) (hn : insR [] 0 s = (L0, 0)) (hr0 : allRunes L0 = true) :
    Calls Tryd.prog 6 #[.string s, .slice A l.length c, .string t] W fun e w' => e = .returned (.bool true) ∧ Below W.heap.size W w' := by
  have hG := fun (W' : World) (hb : Below W.heap.size W W') => greatA_w s A c l false hg W' (Kd.C_below hC hb) hc
  have hG2 := great_t t false (decide_eq_false hu)
  have hN := fun (W' : World) (hb : Below W.heap.size W W') => new_ok (W := W') s (by omega) (XAmb_below hT hb) (by rw [hn])
  rw [hn] at hN
  have HU := Lib.hid hu
  have HT := Lib.hid hT
  have HR0 := Lib.hid hr0
  have HLA := Lib.hid hla
  have HCC := Lib.hid hC
  have hA := fun (W' : World) (hb : Below W.heap.size W W') => alive_w W' (XAmb_below hT hb)
  obtain ⟨k, hk⟩ : ∃ k, l.length = k := ⟨_, rfl⟩
  have HK := Lib.hid hk
  rw [hk] at hG ⊢
  have hk60 : k ≤ 60 := hk ▸ hl60
  clear hT hC hc hg hk hs hn hr0 hla hl60 hu
  go_enter Tryd.func6, Tryd.ntmps6
  go_upto_block 0 with (first
    | (go_at_call 8; refine (hA _ (Below.refl _ _)).mono ?_; rintro e w1 ⟨rfl, ha1⟩; clear hA)
    | (go_at_call 9; refine (hG _ ha1).mono ?_; rintro e w2 ⟨rfl, hb⟩; have ha2 := below_step ha1 hb; clear hG ha1 hb)
    | (go_at_call 9; refine (hG2 _).mono ?_; rintro e w3 ⟨rfl, hb⟩; have ha3 := below_step ha2 hb; clear hG2 ha2 hb)
    | (go_at_call 10; refine (hN _ ha3).mono ?_; rintro e w4 ⟨rfl, hB4, hb4⟩; obtain ⟨g, hgg⟩ : ∃ g, w3.heap.size = g := ⟨_, rfl⟩; rw [hgg]; rw [hgg] at hB4; have HG := Lib.hid (show W.heap.size ≤ g from hgg ▸ ha3.size); have HC := Lib.hid (And.intro hB4 (below_step ha3 hb4)); clear hN ha3 hB4 hb4 hgg))
  go_wp2
  go_loopg [9] k (fun j u11 wr => ∃ i : Nat, u11 = .int .i64 (i : Nat) ∧ Aside0 (i + j = k ∧ (∃ L, Buf wr (fun k => k < g) g L ∧ allRunes L = true) ∧ Below W.heap.size W wr))
  case atStart => exact ⟨0, rfl, ⟨by omega, ⟨L0, HC.out.1, HR0.out⟩, HC.out.2⟩⟩
  case round =>
    clear HC
    obtain ⟨i, rfl, HR⟩ := hrel
    have HI := Lib.hid HR.out.1
    obtain ⟨⟨L, hBL, hrL⟩, hbW⟩ := HR.out.2
    clear HR
    by_cases hik : i < k
    · have hi0 : (0 : Int) ≤ (i : Int) := by omega
      have hi1 : (i : Int) < (k : Int) := by omega
      have hw : wrap64 ((i : Int) + 1) = ((i + 1 : Nat) : Int) := w_nat (by omega) (by omega)
      have hD := do_l HT.out HLA.out (i := i) (by rw [HK.out]; exact hik) hBL hrL hbW HG.out
      obtain ⟨ad, e0, x0, x1, x2, x3⟩ := at_T32 HCC.out (i : Int) hi0 (by rw [HK.out]; exact hi1)
      cases e0
      replace x0 := (hbW.cell (World.block_lt_of_cell? W _ x0)).trans x0
      replace x1 := (hbW.cell (World.block_lt_of_cell? W _ x1)).trans x1
      replace x2 := (hbW.cell (World.block_lt_of_cell? W _ x2)).trans x2
      replace x3 := (hbW.cell (World.block_lt_of_cell? W _ x3)).trans x3
      rw [Int.toNat_natCast] at x0 x1 x2 x3
      clear hBL hrL hbW
      go_wp2_with (go_at_call 11; refine hD.mono ?_; rintro e w2 ⟨⟨c2, rfl⟩, hB2, hb2⟩)
      go_roundg (k - (i + 1))
      case measure => have := HI.out; clear hw; omega
      case rel => exact ⟨i + 1, by first | rfl | (rw [hw]), ⟨by have := HI.out; clear hw; omega, hB2, hb2⟩⟩
    · have hi1 : ¬ (i : Int) < (k : Int) := by omega
      have hL2 : L.length ≤ 20000 := by obtain ⟨A2, m2, B2, _, _, h3, _⟩ := hBL; exact h3
      obtain ⟨S, hS⟩ : ∃ S, strOf L = S := ⟨_, rfl⟩
      have hSz : S.size ≤ 80000 := by rw [← hS]; have := strOf_le L; omega
      have hST : textOf S = some L := by rw [← hS]; exact textOf_str hrL
      have HC : Hid (Buf wr (fun k => k < g) g L ∧ Below W.heap.size W wr) := Lib.hid (And.intro hBL hbW)
      have hTx : ∀ W', Buf W' (fun k => k < g) g L → Calls Tryd.prog 13 #[.pointer (some ⟨g, 0, none⟩)] W' fun e w' => e = .returned (.string S) ∧ Below W'.heap.size W' w' := fun W' h => by
        have := text_b h
        rw [joinS_runes hrL, hS] at this
        exact this
      have hInS : insR [] 0 S = (L, 0) := by
        unfold insR
        rw [hST]
        simp only
        rw [if_pos (show (0 : Int) ≤ 0 ∧ (0 : Int) ≤ (([] : List Int).length : Int) from ⟨Int.le_refl _, by simp⟩), if_pos (show (([] : List Int).length : Int) + (L.length : Int) ≤ 20000 by simp only [List.length_nil]; omega)]
        simp
      have hNc : ∀ W', Below W.heap.size W W' → Calls Tryd.prog 10 #[.string S] W' fun e w' => e = .returned (.tuple #[.pointer (some ⟨W'.heap.size, 0, none⟩), .int .i64 0]) ∧ Buf w' (fun k => k < W'.heap.size) W'.heap.size L ∧ Below W'.heap.size W' w' := fun W' hb => by
        have := new_ok (W := W') S (by omega) (XAmb_below HT.out hb) (by rw [hInS])
        rw [hInS] at this
        exact this
      obtain ⟨⟨N, z⟩, hI⟩ : ∃ x, insR L 0 ⟨#[120]⟩ = x := ⟨_, rfl⟩
      have hIc : ∀ w gc, Buf w (fun k => k < gc) gc L → Below W.heap.size W w → Calls Tryd.prog 18 #[.pointer (some ⟨gc, 0, none⟩), .int .i64 0, .string ⟨#[120]⟩] w fun e w' => e = .returned (.int .i64 z) ∧ Buf w' (fun k => k < gc) gc N ∧ Below gc w w' := fun w gc h hb => ins_c (W := W) h (XAmb_below HT.out hb) hI
      have HNL : Hid (z = 0 → N.length = L.length + 1) := Lib.hid fun h => insx_len (h ▸ hI)
      have hSS : (S.toList == S.toList) = true := by simp
      have hts : t.size ≤ 600 := by have := HU.out; omega
      have HST := Lib.hid hST
      clear hS hI hInS hrL hBL hbW hSz hL2
      by_cases hm : (insR [] 0 t).2 = 0
      · obtain ⟨M, k0, hM, hk0, hk00, hMl, hMf⟩ := insR_ok0 hm
        have hk1 : k0 = 0 := by simpa using hk00
        subst hk1
        have hMf2 : (insR [] 0 t).1 = M := by rw [hMf]; simp
        have hNd : ∀ W', Below W.heap.size W W' → Calls Tryd.prog 10 #[.string t] W' fun e w' => e = .returned (.tuple #[.pointer (some ⟨W'.heap.size, 0, none⟩), .int .i64 0]) ∧ Buf w' (fun k => k < W'.heap.size) W'.heap.size M ∧ Below W'.heap.size W' w' := fun W' hb => by
          have := new_ok (W := W') t (by omega) (XAmb_below HT.out hb) hm
          rw [hMf2] at this
          exact this
        have HTM := Lib.hid hM
        clear hM hk0 hk00 hMl hMf hMf2 hm hts
        by_cases hq : S = t
        · have HQ := Lib.hid (decide_eq_true hq)
          have hqt : (S.toList == t.toList) = true := by rw [beq_text]; exact HQ.out
          clear hq
          by_cases hz : z = 0
          · have HNM := Lib.hid (HNL.out hz)
            subst hz
            clear HNL
            go_wp2_with (first
              | (go_at_call 13; refine (hTx _ HC.out.1).mono ?_; rintro e w2 ⟨rfl, hb⟩; have HC2 := Lib.hid (And.intro (HC.out.1.below hb) (below_step HC.out.2 hb)); clear HC hb; have HC := HC2; clear HC2)
              | (go_at_call 13; refine (hTx _ (b_of HK1 HD.out.2)).mono ?_; rintro e w2 ⟨rfl, hb⟩; have HD2 := Lib.hid (And.intro (HD.out.1.below hb) (step2 HK1 HD.out.2 hb)); (try (have HE2 := Lib.hid (HE.out.below hb); clear HE; have HE := HE2; clear HE2)); clear HD hb; have HD := HD2; clear HD2)
              | (go_at_call 10; refine (hNc _ HC.out.2).mono ?_; rintro e w4 ⟨rfl, hB4, hb4⟩; obtain ⟨gc, hgc⟩ : ∃ x, w2.heap.size = x := ⟨_, rfl⟩; rw [hgc]; rw [hgc] at hB4 hb4; have HK1 := Lib.hid (show Was W w2 g gc L from ⟨HC.out.1, HC.out.2, hgc⟩); have HD := Lib.hid (And.intro hB4 hb4); clear HC hB4 hb4 hgc hNc)
              | (go_at_call 10; refine (hNd _ (w_of HK1 HD.out.2)).mono ?_; rintro e w5 ⟨rfl, hB5, hb⟩; obtain ⟨gd, hgd⟩ : ∃ x, w4.heap.size = x := ⟨_, rfl⟩; rw [hgd]; rw [hgd] at hB5; have HE := Lib.hid hB5; clear hB5 hgd; have HD2 := Lib.hid (And.intro (HD.out.1.below hb) (step2 HK1 HD.out.2 hb)); clear HD hb; have HD := HD2; clear HD2; clear hNd)
              | (go_at_call 24; have h9 := same_qq (b_of HK1 HD.out.2) HE.out HST.out HTM.out HQ.out; with_reducible refine h9.mono ?_; clear h9; rintro e w2 ⟨rfl, hb⟩; have HD2 := Lib.hid (And.intro (HD.out.1.below hb) (step2 HK1 HD.out.2 hb)); (try (have HE2 := Lib.hid (HE.out.below hb); clear HE; have HE := HE2; clear HE2)); clear HD hb; have HD := HD2; clear HD2)
              | (go_at_call 24; have h9 := same_tt (b_of HK1 HD.out.2) HD.out.1; with_reducible refine h9.mono ?_; clear h9; rintro e w2 ⟨rfl, hb⟩; have HD2 := Lib.hid (And.intro (HD.out.1.below hb) (step2 HK1 HD.out.2 hb)); (try (have HE2 := Lib.hid (HE.out.below hb); clear HE; have HE := HE2; clear HE2)); clear HD hb; have HD := HD2; clear HD2)
              | (go_at_call 24; have h9 := same_tt HD.out.1 (b_of HK1 HD.out.2); with_reducible refine h9.mono ?_; clear h9; rintro e w2 ⟨rfl, hb⟩; have HD2 := Lib.hid (And.intro (HD.out.1.below hb) (step2 HK1 HD.out.2 hb)); (try (have HE2 := Lib.hid (HE.out.below hb); clear HE; have HE := HE2; clear HE2)); clear HD hb; have HD := HD2; clear HD2)
              | (go_at_call 18; refine (hIc _ _ HD.out.1 (w_of HK1 HD.out.2)).mono ?_; rintro e w6 ⟨rfl, hB6, hb6⟩; have HF := Lib.hid (And.intro hB6 (HD.out.2.trans hb6)); clear HD hB6 hb6 hIc)
              | (go_at_call 24; have h9 := same_ff (b_of HK1 HF.out.2) HF.out.1 HNM.out; with_reducible refine h9.mono ?_; clear h9; rintro e w2 ⟨rfl, hb⟩; have HF2 := Lib.hid (And.intro (HF.out.1.below hb) (step2 HK1 HF.out.2 hb)); clear HF hb; have HF := HF2; clear HF2; clear HNM)
              | (go_at_call 13; refine (hTx _ (b_of HK1 HF.out.2)).mono ?_; rintro e w2 ⟨rfl, hb⟩; have HF2 := Lib.hid (And.intro (HF.out.1.below hb) (step2 HK1 HF.out.2 hb)); clear HF hb; have HF := HF2; clear HF2; clear hTx)
              | (go_at_call 24; with_reducible refine (same_nil2 _ _).mono ?_; rintro e w7 ⟨rfl, rfl⟩)
              | (go_at_call 24; with_reducible refine (same_nil1 _ _).mono ?_; rintro e w7 ⟨rfl, rfl⟩)
              | (go_at_call 18; with_reducible refine (insert_nil _ _ _).mono ?_; rintro e w7 ⟨rfl, rfl⟩)
              | (go_at_call 22; refine (delete_nil _ _ _).mono ?_; rintro e w7 ⟨rfl, rfl⟩)
              | (go_at_call 19; refine (len_none _).mono ?_; rintro e w7 ⟨rfl, rfl⟩)
              | (go_at_call 25; refine (lines_none _).mono ?_; rintro e w7 ⟨rfl, rfl⟩)
              | (go_at_call 13; with_reducible refine (text_nil _).mono ?_; rintro e w7 ⟨rfl, rfl⟩))
            go_ret
            exact ⟨by first | rfl | (simp; done), w_of HK1 HF.out.2⟩
          · have hz1 : (z == 0) = false := beq_eq_false_iff_ne.2 hz
            have hz2 : (z != 0) = true := by rw [bne_iff_ne]; exact hz
            clear HNL hz
            go_wp2_with (first
              | (go_at_call 13; refine (hTx _ HC.out.1).mono ?_; rintro e w2 ⟨rfl, hb⟩; have HC2 := Lib.hid (And.intro (HC.out.1.below hb) (below_step HC.out.2 hb)); clear HC hb; have HC := HC2; clear HC2)
              | (go_at_call 13; refine (hTx _ (b_of HK1 HD.out.2)).mono ?_; rintro e w2 ⟨rfl, hb⟩; have HD2 := Lib.hid (And.intro (HD.out.1.below hb) (step2 HK1 HD.out.2 hb)); (try (have HE2 := Lib.hid (HE.out.below hb); clear HE; have HE := HE2; clear HE2)); clear HD hb; have HD := HD2; clear HD2)
              | (go_at_call 10; refine (hNc _ HC.out.2).mono ?_; rintro e w4 ⟨rfl, hB4, hb4⟩; obtain ⟨gc, hgc⟩ : ∃ x, w2.heap.size = x := ⟨_, rfl⟩; rw [hgc]; rw [hgc] at hB4 hb4; have HK1 := Lib.hid (show Was W w2 g gc L from ⟨HC.out.1, HC.out.2, hgc⟩); have HD := Lib.hid (And.intro hB4 hb4); clear HC hB4 hb4 hgc hNc)
              | (go_at_call 10; refine (hNd _ (w_of HK1 HD.out.2)).mono ?_; rintro e w5 ⟨rfl, hB5, hb⟩; obtain ⟨gd, hgd⟩ : ∃ x, w4.heap.size = x := ⟨_, rfl⟩; rw [hgd]; rw [hgd] at hB5; have HE := Lib.hid hB5; clear hB5 hgd; have HD2 := Lib.hid (And.intro (HD.out.1.below hb) (step2 HK1 HD.out.2 hb)); clear HD hb; have HD := HD2; clear HD2; clear hNd)
              | (go_at_call 24; have h9 := same_qq (b_of HK1 HD.out.2) HE.out HST.out HTM.out HQ.out; with_reducible refine h9.mono ?_; clear h9; rintro e w2 ⟨rfl, hb⟩; have HD2 := Lib.hid (And.intro (HD.out.1.below hb) (step2 HK1 HD.out.2 hb)); (try (have HE2 := Lib.hid (HE.out.below hb); clear HE; have HE := HE2; clear HE2)); clear HD hb; have HD := HD2; clear HD2)
              | (go_at_call 24; have h9 := same_tt (b_of HK1 HD.out.2) HD.out.1; with_reducible refine h9.mono ?_; clear h9; rintro e w2 ⟨rfl, hb⟩; have HD2 := Lib.hid (And.intro (HD.out.1.below hb) (step2 HK1 HD.out.2 hb)); (try (have HE2 := Lib.hid (HE.out.below hb); clear HE; have HE := HE2; clear HE2)); clear HD hb; have HD := HD2; clear HD2)
              | (go_at_call 24; have h9 := same_tt HD.out.1 (b_of HK1 HD.out.2); with_reducible refine h9.mono ?_; clear h9; rintro e w2 ⟨rfl, hb⟩; have HD2 := Lib.hid (And.intro (HD.out.1.below hb) (step2 HK1 HD.out.2 hb)); (try (have HE2 := Lib.hid (HE.out.below hb); clear HE; have HE := HE2; clear HE2)); clear HD hb; have HD := HD2; clear HD2)
              | (go_at_call 18; refine (hIc _ _ HD.out.1 (w_of HK1 HD.out.2)).mono ?_; rintro e w6 ⟨rfl, hB6, hb6⟩; have HF := Lib.hid (And.intro hB6 (HD.out.2.trans hb6)); clear HD hB6 hb6 hIc))
            go_ret
            exact ⟨by first | rfl | (simp; done), w_of HK1 HF.out.2⟩
        · have HQ := Lib.hid (decide_eq_false hq)
          have hqt : (S.toList == t.toList) = false := by rw [beq_text]; exact HQ.out
          clear hq
          by_cases hz : z = 0
          · have HNM := Lib.hid (HNL.out hz)
            subst hz
            clear HNL
            go_wp2_with (first
              | (go_at_call 13; refine (hTx _ HC.out.1).mono ?_; rintro e w2 ⟨rfl, hb⟩; have HC2 := Lib.hid (And.intro (HC.out.1.below hb) (below_step HC.out.2 hb)); clear HC hb; have HC := HC2; clear HC2)
              | (go_at_call 13; refine (hTx _ (b_of HK1 HD.out.2)).mono ?_; rintro e w2 ⟨rfl, hb⟩; have HD2 := Lib.hid (And.intro (HD.out.1.below hb) (step2 HK1 HD.out.2 hb)); (try (have HE2 := Lib.hid (HE.out.below hb); clear HE; have HE := HE2; clear HE2)); clear HD hb; have HD := HD2; clear HD2)
              | (go_at_call 10; refine (hNc _ HC.out.2).mono ?_; rintro e w4 ⟨rfl, hB4, hb4⟩; obtain ⟨gc, hgc⟩ : ∃ x, w2.heap.size = x := ⟨_, rfl⟩; rw [hgc]; rw [hgc] at hB4 hb4; have HK1 := Lib.hid (show Was W w2 g gc L from ⟨HC.out.1, HC.out.2, hgc⟩); have HD := Lib.hid (And.intro hB4 hb4); clear HC hB4 hb4 hgc hNc)
              | (go_at_call 10; refine (hNd _ (w_of HK1 HD.out.2)).mono ?_; rintro e w5 ⟨rfl, hB5, hb⟩; obtain ⟨gd, hgd⟩ : ∃ x, w4.heap.size = x := ⟨_, rfl⟩; rw [hgd]; rw [hgd] at hB5; have HE := Lib.hid hB5; clear hB5 hgd; have HD2 := Lib.hid (And.intro (HD.out.1.below hb) (step2 HK1 HD.out.2 hb)); clear HD hb; have HD := HD2; clear HD2; clear hNd)
              | (go_at_call 24; have h9 := same_qq (b_of HK1 HD.out.2) HE.out HST.out HTM.out HQ.out; with_reducible refine h9.mono ?_; clear h9; rintro e w2 ⟨rfl, hb⟩; have HD2 := Lib.hid (And.intro (HD.out.1.below hb) (step2 HK1 HD.out.2 hb)); (try (have HE2 := Lib.hid (HE.out.below hb); clear HE; have HE := HE2; clear HE2)); clear HD hb; have HD := HD2; clear HD2)
              | (go_at_call 24; have h9 := same_tt (b_of HK1 HD.out.2) HD.out.1; with_reducible refine h9.mono ?_; clear h9; rintro e w2 ⟨rfl, hb⟩; have HD2 := Lib.hid (And.intro (HD.out.1.below hb) (step2 HK1 HD.out.2 hb)); (try (have HE2 := Lib.hid (HE.out.below hb); clear HE; have HE := HE2; clear HE2)); clear HD hb; have HD := HD2; clear HD2)
              | (go_at_call 24; have h9 := same_tt HD.out.1 (b_of HK1 HD.out.2); with_reducible refine h9.mono ?_; clear h9; rintro e w2 ⟨rfl, hb⟩; have HD2 := Lib.hid (And.intro (HD.out.1.below hb) (step2 HK1 HD.out.2 hb)); (try (have HE2 := Lib.hid (HE.out.below hb); clear HE; have HE := HE2; clear HE2)); clear HD hb; have HD := HD2; clear HD2)
              | (go_at_call 18; refine (hIc _ _ HD.out.1 (w_of HK1 HD.out.2)).mono ?_; rintro e w6 ⟨rfl, hB6, hb6⟩; have HF := Lib.hid (And.intro hB6 (HD.out.2.trans hb6)); clear HD hB6 hb6 hIc)
              | (go_at_call 24; have h9 := same_ff (b_of HK1 HF.out.2) HF.out.1 HNM.out; with_reducible refine h9.mono ?_; clear h9; rintro e w2 ⟨rfl, hb⟩; have HF2 := Lib.hid (And.intro (HF.out.1.below hb) (step2 HK1 HF.out.2 hb)); clear HF hb; have HF := HF2; clear HF2; clear HNM)
              | (go_at_call 13; refine (hTx _ (b_of HK1 HF.out.2)).mono ?_; rintro e w2 ⟨rfl, hb⟩; have HF2 := Lib.hid (And.intro (HF.out.1.below hb) (step2 HK1 HF.out.2 hb)); clear HF hb; have HF := HF2; clear HF2; clear hTx)
              | (go_at_call 24; with_reducible refine (same_nil2 _ _).mono ?_; rintro e w7 ⟨rfl, rfl⟩)
              | (go_at_call 24; with_reducible refine (same_nil1 _ _).mono ?_; rintro e w7 ⟨rfl, rfl⟩)
              | (go_at_call 18; with_reducible refine (insert_nil _ _ _).mono ?_; rintro e w7 ⟨rfl, rfl⟩)
              | (go_at_call 22; refine (delete_nil _ _ _).mono ?_; rintro e w7 ⟨rfl, rfl⟩)
              | (go_at_call 19; refine (len_none _).mono ?_; rintro e w7 ⟨rfl, rfl⟩)
              | (go_at_call 25; refine (lines_none _).mono ?_; rintro e w7 ⟨rfl, rfl⟩)
              | (go_at_call 13; with_reducible refine (text_nil _).mono ?_; rintro e w7 ⟨rfl, rfl⟩))
            go_ret
            exact ⟨by first | rfl | (simp; done), w_of HK1 HF.out.2⟩
          · have hz1 : (z == 0) = false := beq_eq_false_iff_ne.2 hz
            have hz2 : (z != 0) = true := by rw [bne_iff_ne]; exact hz
            clear HNL hz
            go_wp2_with (first
              | (go_at_call 13; refine (hTx _ HC.out.1).mono ?_; rintro e w2 ⟨rfl, hb⟩; have HC2 := Lib.hid (And.intro (HC.out.1.below hb) (below_step HC.out.2 hb)); clear HC hb; have HC := HC2; clear HC2)
              | (go_at_call 13; refine (hTx _ (b_of HK1 HD.out.2)).mono ?_; rintro e w2 ⟨rfl, hb⟩; have HD2 := Lib.hid (And.intro (HD.out.1.below hb) (step2 HK1 HD.out.2 hb)); (try (have HE2 := Lib.hid (HE.out.below hb); clear HE; have HE := HE2; clear HE2)); clear HD hb; have HD := HD2; clear HD2)
              | (go_at_call 10; refine (hNc _ HC.out.2).mono ?_; rintro e w4 ⟨rfl, hB4, hb4⟩; obtain ⟨gc, hgc⟩ : ∃ x, w2.heap.size = x := ⟨_, rfl⟩; rw [hgc]; rw [hgc] at hB4 hb4; have HK1 := Lib.hid (show Was W w2 g gc L from ⟨HC.out.1, HC.out.2, hgc⟩); have HD := Lib.hid (And.intro hB4 hb4); clear HC hB4 hb4 hgc hNc)
              | (go_at_call 10; refine (hNd _ (w_of HK1 HD.out.2)).mono ?_; rintro e w5 ⟨rfl, hB5, hb⟩; obtain ⟨gd, hgd⟩ : ∃ x, w4.heap.size = x := ⟨_, rfl⟩; rw [hgd]; rw [hgd] at hB5; have HE := Lib.hid hB5; clear hB5 hgd; have HD2 := Lib.hid (And.intro (HD.out.1.below hb) (step2 HK1 HD.out.2 hb)); clear HD hb; have HD := HD2; clear HD2; clear hNd)
              | (go_at_call 24; have h9 := same_qq (b_of HK1 HD.out.2) HE.out HST.out HTM.out HQ.out; with_reducible refine h9.mono ?_; clear h9; rintro e w2 ⟨rfl, hb⟩; have HD2 := Lib.hid (And.intro (HD.out.1.below hb) (step2 HK1 HD.out.2 hb)); (try (have HE2 := Lib.hid (HE.out.below hb); clear HE; have HE := HE2; clear HE2)); clear HD hb; have HD := HD2; clear HD2)
              | (go_at_call 24; have h9 := same_tt (b_of HK1 HD.out.2) HD.out.1; with_reducible refine h9.mono ?_; clear h9; rintro e w2 ⟨rfl, hb⟩; have HD2 := Lib.hid (And.intro (HD.out.1.below hb) (step2 HK1 HD.out.2 hb)); (try (have HE2 := Lib.hid (HE.out.below hb); clear HE; have HE := HE2; clear HE2)); clear HD hb; have HD := HD2; clear HD2)
              | (go_at_call 24; have h9 := same_tt HD.out.1 (b_of HK1 HD.out.2); with_reducible refine h9.mono ?_; clear h9; rintro e w2 ⟨rfl, hb⟩; have HD2 := Lib.hid (And.intro (HD.out.1.below hb) (step2 HK1 HD.out.2 hb)); (try (have HE2 := Lib.hid (HE.out.below hb); clear HE; have HE := HE2; clear HE2)); clear HD hb; have HD := HD2; clear HD2)
              | (go_at_call 18; refine (hIc _ _ HD.out.1 (w_of HK1 HD.out.2)).mono ?_; rintro e w6 ⟨rfl, hB6, hb6⟩; have HF := Lib.hid (And.intro hB6 (HD.out.2.trans hb6)); clear HD hB6 hb6 hIc))
            go_ret
            exact ⟨by first | rfl | (simp; done), w_of HK1 HF.out.2⟩
      · obtain ⟨y, hy⟩ : ∃ y, (insR [] 0 t).2 = y := ⟨_, rfl⟩
        rw [hy] at hm
        have hNd := fun (W' : World) (hb : Below W.heap.size W W') => new_no (W := W') t (by omega) (XAmb_below HT.out hb) y hy hm
        have hy1 : (y == 0) = false := beq_eq_false_iff_ne.2 hm
        clear hy hm hts
        by_cases hz : z = 0
        · have HNM := Lib.hid (HNL.out hz)
          subst hz
          clear HNL
          go_wp2_with (first
            | (go_at_call 13; refine (hTx _ HC.out.1).mono ?_; rintro e w2 ⟨rfl, hb⟩; have HC2 := Lib.hid (And.intro (HC.out.1.below hb) (below_step HC.out.2 hb)); clear HC hb; have HC := HC2; clear HC2)
            | (go_at_call 13; refine (hTx _ (b_of HK1 HD.out.2)).mono ?_; rintro e w2 ⟨rfl, hb⟩; have HD2 := Lib.hid (And.intro (HD.out.1.below hb) (step2 HK1 HD.out.2 hb)); (try (have HE2 := Lib.hid (HE.out.below hb); clear HE; have HE := HE2; clear HE2)); clear HD hb; have HD := HD2; clear HD2)
            | (go_at_call 10; refine (hNc _ HC.out.2).mono ?_; rintro e w4 ⟨rfl, hB4, hb4⟩; obtain ⟨gc, hgc⟩ : ∃ x, w2.heap.size = x := ⟨_, rfl⟩; rw [hgc]; rw [hgc] at hB4 hb4; have HK1 := Lib.hid (show Was W w2 g gc L from ⟨HC.out.1, HC.out.2, hgc⟩); have HD := Lib.hid (And.intro hB4 hb4); clear HC hB4 hb4 hgc hNc)
            | (go_at_call 10; refine (hNd _ (w_of HK1 HD.out.2)).mono ?_; rintro e w5 ⟨rfl, hb⟩; have HD2 := Lib.hid (And.intro (HD.out.1.below hb) (step2 HK1 HD.out.2 hb)); clear HD hb; have HD := HD2; clear HD2; clear hNd)
            | (go_at_call 24; have h9 := same_tt (b_of HK1 HD.out.2) HD.out.1; with_reducible refine h9.mono ?_; clear h9; rintro e w2 ⟨rfl, hb⟩; have HD2 := Lib.hid (And.intro (HD.out.1.below hb) (step2 HK1 HD.out.2 hb)); (try (have HE2 := Lib.hid (HE.out.below hb); clear HE; have HE := HE2; clear HE2)); clear HD hb; have HD := HD2; clear HD2)
            | (go_at_call 24; have h9 := same_tt HD.out.1 (b_of HK1 HD.out.2); with_reducible refine h9.mono ?_; clear h9; rintro e w2 ⟨rfl, hb⟩; have HD2 := Lib.hid (And.intro (HD.out.1.below hb) (step2 HK1 HD.out.2 hb)); (try (have HE2 := Lib.hid (HE.out.below hb); clear HE; have HE := HE2; clear HE2)); clear HD hb; have HD := HD2; clear HD2)
            | (go_at_call 18; refine (hIc _ _ HD.out.1 (w_of HK1 HD.out.2)).mono ?_; rintro e w6 ⟨rfl, hB6, hb6⟩; have HF := Lib.hid (And.intro hB6 (HD.out.2.trans hb6)); clear HD hB6 hb6 hIc)
            | (go_at_call 24; have h9 := same_ff (b_of HK1 HF.out.2) HF.out.1 HNM.out; with_reducible refine h9.mono ?_; clear h9; rintro e w2 ⟨rfl, hb⟩; have HF2 := Lib.hid (And.intro (HF.out.1.below hb) (step2 HK1 HF.out.2 hb)); clear HF hb; have HF := HF2; clear HF2; clear HNM)
            | (go_at_call 13; refine (hTx _ (b_of HK1 HF.out.2)).mono ?_; rintro e w2 ⟨rfl, hb⟩; have HF2 := Lib.hid (And.intro (HF.out.1.below hb) (step2 HK1 HF.out.2 hb)); clear HF hb; have HF := HF2; clear HF2; clear hTx)
            | (go_at_call 24; with_reducible refine (same_nil2 _ _).mono ?_; rintro e w7 ⟨rfl, rfl⟩)
            | (go_at_call 24; with_reducible refine (same_nil1 _ _).mono ?_; rintro e w7 ⟨rfl, rfl⟩)
            | (go_at_call 18; with_reducible refine (insert_nil _ _ _).mono ?_; rintro e w7 ⟨rfl, rfl⟩)
            | (go_at_call 22; refine (delete_nil _ _ _).mono ?_; rintro e w7 ⟨rfl, rfl⟩)
            | (go_at_call 19; refine (len_none _).mono ?_; rintro e w7 ⟨rfl, rfl⟩)
            | (go_at_call 25; refine (lines_none _).mono ?_; rintro e w7 ⟨rfl, rfl⟩)
            | (go_at_call 13; with_reducible refine (text_nil _).mono ?_; rintro e w7 ⟨rfl, rfl⟩))
          go_ret
          exact ⟨by first | rfl | (simp; done), w_of HK1 HF.out.2⟩
        · have hz1 : (z == 0) = false := beq_eq_false_iff_ne.2 hz
          have hz2 : (z != 0) = true := by rw [bne_iff_ne]; exact hz
          clear HNL hz
          go_wp2_with (first
            | (go_at_call 13; refine (hTx _ HC.out.1).mono ?_; rintro e w2 ⟨rfl, hb⟩; have HC2 := Lib.hid (And.intro (HC.out.1.below hb) (below_step HC.out.2 hb)); clear HC hb; have HC := HC2; clear HC2)
            | (go_at_call 13; refine (hTx _ (b_of HK1 HD.out.2)).mono ?_; rintro e w2 ⟨rfl, hb⟩; have HD2 := Lib.hid (And.intro (HD.out.1.below hb) (step2 HK1 HD.out.2 hb)); (try (have HE2 := Lib.hid (HE.out.below hb); clear HE; have HE := HE2; clear HE2)); clear HD hb; have HD := HD2; clear HD2)
            | (go_at_call 10; refine (hNc _ HC.out.2).mono ?_; rintro e w4 ⟨rfl, hB4, hb4⟩; obtain ⟨gc, hgc⟩ : ∃ x, w2.heap.size = x := ⟨_, rfl⟩; rw [hgc]; rw [hgc] at hB4 hb4; have HK1 := Lib.hid (show Was W w2 g gc L from ⟨HC.out.1, HC.out.2, hgc⟩); have HD := Lib.hid (And.intro hB4 hb4); clear HC hB4 hb4 hgc hNc)
            | (go_at_call 10; refine (hNd _ (w_of HK1 HD.out.2)).mono ?_; rintro e w5 ⟨rfl, hb⟩; have HD2 := Lib.hid (And.intro (HD.out.1.below hb) (step2 HK1 HD.out.2 hb)); clear HD hb; have HD := HD2; clear HD2; clear hNd)
            | (go_at_call 24; have h9 := same_tt (b_of HK1 HD.out.2) HD.out.1; with_reducible refine h9.mono ?_; clear h9; rintro e w2 ⟨rfl, hb⟩; have HD2 := Lib.hid (And.intro (HD.out.1.below hb) (step2 HK1 HD.out.2 hb)); (try (have HE2 := Lib.hid (HE.out.below hb); clear HE; have HE := HE2; clear HE2)); clear HD hb; have HD := HD2; clear HD2)
            | (go_at_call 24; have h9 := same_tt HD.out.1 (b_of HK1 HD.out.2); with_reducible refine h9.mono ?_; clear h9; rintro e w2 ⟨rfl, hb⟩; have HD2 := Lib.hid (And.intro (HD.out.1.below hb) (step2 HK1 HD.out.2 hb)); (try (have HE2 := Lib.hid (HE.out.below hb); clear HE; have HE := HE2; clear HE2)); clear HD hb; have HD := HD2; clear HD2)
            | (go_at_call 18; refine (hIc _ _ HD.out.1 (w_of HK1 HD.out.2)).mono ?_; rintro e w6 ⟨rfl, hB6, hb6⟩; have HF := Lib.hid (And.intro hB6 (HD.out.2.trans hb6)); clear HD hB6 hb6 hIc))
          go_ret
          exact ⟨by first | rfl | (simp; done), w_of HK1 HF.out.2⟩
theorem same_true (s : ByteArray) (A : Option Addr) (len c : Nat) (l : List S32) (t : ByteArray) (W : World) (hT : Aside0 (XAmb W)) (hl : l.length = len ∧ len ≤ c ∧ Kd.C k32 W A l.length l) :
    Calls Tryd.prog 6 #[.string s, .slice A len c, .string t] W fun e w' => e = .returned (.bool true) ∧ Below W.heap.size W w' := by
  obtain ⟨rfl, hc, hC⟩ := hl
  by_cases hg : greatA s l = true
  · exact same_g s t A c l W hT.out hC hc hg
  · have hg' : greatA s l = false := by simpa using hg
    have h3 := hg'
    unfold greatA at h3
    simp only [Bool.or_eq_false_iff, decide_eq_false_iff_not, List.any_eq_false, decide_eq_true_eq] at h3
    by_cases hu : 600 < t.size
    · exact same_g2 s t A c l W hT.out hC hc hg' hu
    · by_cases hn : (insR [] 0 s).2 = 0
      · obtain ⟨u, k, ht, hk, hk0, hlen, hfst⟩ := insR_ok0 hn
        have hk0' : k = 0 := by simpa using hk0
        subst hk0'
        have hfst2 : (insR [] 0 s).1 = u := by rw [hfst]; simp
        exact same_ok s t A c l W hT.out hC hc hg' hu (by omega) (fun x hx => by have := h3.2.2 x hx; omega) (by omega) u (Prod.ext hfst2 hn) (text_str ht).2
      · exact same_n s t A c l W hT.out hC hc hg' hu (by omega) hn
end Go.Proofs.YtfhnepihbofabaaDoor.X
