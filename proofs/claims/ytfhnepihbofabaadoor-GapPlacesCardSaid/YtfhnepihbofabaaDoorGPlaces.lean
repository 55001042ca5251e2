/-
  The statement GapPlaces, walked by hand: it is true of every input: by this session. Conditions: as typed.
-/
import Derived.Test.YtfhnepihbofabaaDoorGSlices
import Derived.Test.YtfhnepihbofabaaDoorPlaces
namespace Go.Proofs.YtfhnepihbofabaaDoor.X
open Go Go.RowKit Go.Lib Go.Shelf Go.Proofs.YtfhnepihbofabaaDoorW.PrintWords Go.Proofs.YtfhnepihbofabaaDoor.P
set_option linter.unusedVariables false
set_option maxRecDepth 100000 in
set_option maxHeartbeats 8000000 in
theorem places_g (s : ByteArray) (A : Option Addr) (c : Nat) (l : List S32) (at_ n z9 : Int) (W : World) (hT : XAmb W) (hC : Kd.C k32 W A l.length l) (hc : l.length ≤ c) (hg : greatA s l = true) :
    Calls Tryd.prog 3 #[.string s, .slice A l.length c, .agg #[.int .i64 at_, .int .i64 n, .int .i64 z9]] W fun e w' => e = .returned (.bool true) ∧ Below W.heap.size W w' := by
  have hG := fun (W' : World) (hb : Below W.heap.size W W') => greatA_w s A c l true hg W' (Kd.C_below hC hb) hc
  obtain ⟨W1, hW1⟩ : ∃ x, W.alloc (.cells #[.int .i64 at_, .int .i64 n, .int .i64 z9] 23) = x := ⟨_, rfl⟩
  have hb1 : Below W.heap.size W W1 := hW1 ▸ below_alloc (Below.refl _ _) _
  have hh1 := (show W1.heap[W.heap.size]? = _ from hW1 ▸ Deep.blk_alloc_new W _)
  have r0 : W1.cell? ⟨W.heap.size, 0, none⟩ = some (.int .i64 at_) := (blk_cell hh1 0).trans rfl
  have r1 : W1.cell? ⟨W.heap.size, 1, none⟩ = some (.int .i64 n) := (blk_cell hh1 1).trans rfl
  have r2 : W1.cell? ⟨W.heap.size, 2, none⟩ = some (.int .i64 z9) := (blk_cell hh1 2).trans rfl
  have HW1 := Lib.hid (And.intro hW1 hb1)
  have hA := fun (W' : World) (hb : Below W.heap.size W W') => alive_w W' (XAmb_below hT hb)
  obtain ⟨k, hk⟩ : ∃ k, l.length = k := ⟨_, rfl⟩
  rw [hk] at hG ⊢
  clear hT hW1 hb1 hh1 hC hc hg hk
  go_enter Tryd.func3, Tryd.ntmps3
  go_upto_region 1 with fail
  rw [HW1.out.1]
  go_quiet (fail)
  obtain ⟨w0, hw0⟩ : ∃ x, W1.drewN nq = x := ⟨_, rfl⟩
  have hb0 : Below W.heap.size W w0 := hw0 ▸ pw_below_drewN HW1.out.2 nq
  rw [hw0]
  clear hw0 r0 r1 r2
  go_wp2_with (first
    | (go_at_call 8; refine (hA _ hb0).mono ?_; rintro e w1 ⟨rfl, hb⟩; have ha1 := below_step hb0 hb; clear hA hb0 hb)
    | (go_at_call 9; refine (hG _ ha1).mono ?_; rintro e w2 ⟨rfl, hb⟩; have ha2 := below_step ha1 hb; clear hG ha1 hb))
  go_ret
  exact ⟨rfl, ha2⟩
set_option maxRecDepth 100000 in
set_option maxHeartbeats 8000000 in
theorem places_n (s : ByteArray) (A : Option Addr) (c : Nat) (l : List S32) (at_ n z9 : Int) (W : World) (hT : XAmb W) (hC : Kd.C k32 W A l.length l) (hc : l.length ≤ c) (hg : greatA s l = false) (hs : s.size ≤ 600) (hn : (insR [] 0 s).2 ≠ 0) :
    Calls Tryd.prog 3 #[.string s, .slice A l.length c, .agg #[.int .i64 at_, .int .i64 n, .int .i64 z9]] W fun e w' => e = .returned (.bool true) ∧ Below W.heap.size W w' := by
  have hG := fun (W' : World) (hb : Below W.heap.size W W') => greatA_w s A c l false hg W' (Kd.C_below hC hb) hc
  obtain ⟨z, hz⟩ : ∃ z, (insR [] 0 s).2 = z := ⟨_, rfl⟩
  rw [hz] at hn
  have hN := fun (W' : World) (hb : Below W.heap.size W W') => new_no s (by omega) (XAmb_below hT hb) z hz hn
  have hc1 : (z == 0) = false := beq_eq_false_iff_ne.2 hn
  have hc2 : (z != 0) = true := by rw [bne_iff_ne]; exact hn
  obtain ⟨W1, hW1⟩ : ∃ x, W.alloc (.cells #[.int .i64 at_, .int .i64 n, .int .i64 z9] 23) = x := ⟨_, rfl⟩
  have hb1 : Below W.heap.size W W1 := hW1 ▸ below_alloc (Below.refl _ _) _
  have hh1 := (show W1.heap[W.heap.size]? = _ from hW1 ▸ Deep.blk_alloc_new W _)
  have r0 : W1.cell? ⟨W.heap.size, 0, none⟩ = some (.int .i64 at_) := (blk_cell hh1 0).trans rfl
  have r1 : W1.cell? ⟨W.heap.size, 1, none⟩ = some (.int .i64 n) := (blk_cell hh1 1).trans rfl
  have r2 : W1.cell? ⟨W.heap.size, 2, none⟩ = some (.int .i64 z9) := (blk_cell hh1 2).trans rfl
  have HW1 := Lib.hid (And.intro hW1 hb1)
  have hA := fun (W' : World) (hb : Below W.heap.size W W') => alive_w W' (XAmb_below hT hb)
  obtain ⟨k, hk⟩ : ∃ k, l.length = k := ⟨_, rfl⟩
  rw [hk] at hG ⊢
  clear hT hW1 hb1 hh1 hC hc hg hk hs hz hn
  go_enter Tryd.func3, Tryd.ntmps3
  go_upto_region 1 with fail
  rw [HW1.out.1]
  go_quiet (fail)
  obtain ⟨w0, hw0⟩ : ∃ x, W1.drewN nq = x := ⟨_, rfl⟩
  have hb0 : Below W.heap.size W w0 := hw0 ▸ pw_below_drewN HW1.out.2 nq
  rw [hw0]
  clear hw0 r0 r1 r2
  go_wp2_with (first
    | (go_at_call 8; refine (hA _ hb0).mono ?_; rintro e w1 ⟨rfl, hb⟩; have ha1 := below_step hb0 hb; clear hA hb0 hb)
    | (go_at_call 9; refine (hG _ ha1).mono ?_; rintro e w2 ⟨rfl, hb⟩; have ha2 := below_step ha1 hb; clear hG ha1 hb)
    | (go_at_call 10; refine (hN _ ha2).mono ?_; rintro e w4 ⟨rfl, hb4⟩))
  go_ret
  exact ⟨rfl, below_step ha2 hb4⟩
set_option maxRecDepth 100000 in
set_option maxHeartbeats 16000000 in
theorem places_ok (s : ByteArray) (A : Option Addr) (c : Nat) (l : List S32) (at_ n z9 : Int) (W : World) (hT : XAmb W) (hC : Kd.C k32 W A l.length l) (hc : l.length ≤ c) (hg : greatA s l = false) (hs : s.size ≤ 600) (hla : ∀ x ∈ l, x.f3.size ≤ 300) (hl60 : l.length ≤ 60) (L0 : List Int) (hn : insR [] 0 s = (L0, 0)) (hr0 : allRunes L0 = true) :
    Calls Tryd.prog 3 #[.string s, .slice A l.length c, .agg #[.int .i64 at_, .int .i64 n, .int .i64 z9]] W fun e w' => e = .returned (.bool true) ∧ Below W.heap.size W w' := by
  have hG := fun (W' : World) (hb : Below W.heap.size W W') => greatA_w s A c l false hg W' (Kd.C_below hC hb) hc
  have hN := fun (W' : World) (hb : Below W.heap.size W W') => new_ok (W := W') s (by omega) (XAmb_below hT hb) (by rw [hn])
  rw [hn] at hN
  have HT := Lib.hid hT
  have HR0 := Lib.hid hr0
  have HLA := Lib.hid hla
  have HCC := Lib.hid hC
  obtain ⟨W1, hW1⟩ : ∃ x, W.alloc (.cells #[.int .i64 at_, .int .i64 n, .int .i64 z9] 23) = x := ⟨_, rfl⟩
  have hb1 : Below W.heap.size W W1 := hW1 ▸ below_alloc (Below.refl _ _) _
  have hh1 := (show W1.heap[W.heap.size]? = _ from hW1 ▸ Deep.blk_alloc_new W _)
  have r0 : W1.cell? ⟨W.heap.size, 0, none⟩ = some (.int .i64 at_) := (blk_cell hh1 0).trans rfl
  have r1 : W1.cell? ⟨W.heap.size, 1, none⟩ = some (.int .i64 n) := (blk_cell hh1 1).trans rfl
  have r2 : W1.cell? ⟨W.heap.size, 2, none⟩ = some (.int .i64 z9) := (blk_cell hh1 2).trans rfl
  have HW1 := Lib.hid (And.intro hW1 hb1)
  have hA := fun (W' : World) (hb : Below W.heap.size W W') => alive_w W' (XAmb_below hT hb)
  obtain ⟨k, hk⟩ : ∃ k, l.length = k := ⟨_, rfl⟩
  have HK := Lib.hid hk
  rw [hk] at hG ⊢
  have hk60 : k ≤ 60 := hk ▸ hl60
  clear hT hW1 hb1 hh1 hC hc hg hk hs hn hr0 hla hl60
  go_enter Tryd.func3, Tryd.ntmps3
  go_upto_region 1 with fail
  rw [HW1.out.1]
  go_quiet (fail)
  obtain ⟨w0, hw0⟩ : ∃ x, W1.drewN nq = x := ⟨_, rfl⟩
  have hb0 : Below W.heap.size W w0 := hw0 ▸ pw_below_drewN HW1.out.2 nq
  rw [hw0]
  clear hw0 r0 r1 r2
  go_upto_block 0 with (first
    | (go_at_call 8; refine (hA _ hb0).mono ?_; rintro e w1 ⟨rfl, hb⟩; have ha1 := below_step hb0 hb; clear hA hb0 hb)
    | (go_at_call 9; refine (hG _ ha1).mono ?_; rintro e w2 ⟨rfl, hb⟩; have ha2 := below_step ha1 hb; clear hG ha1 hb)
    | (go_at_call 10; refine (hN _ ha2).mono ?_; rintro e w4 ⟨rfl, hB4, hb4⟩; obtain ⟨g, hgg⟩ : ∃ g, w2.heap.size = g := ⟨_, rfl⟩; rw [hgg]; rw [hgg] at hB4; have HG := Lib.hid (show W.heap.size ≤ g from hgg ▸ ha2.size); have HC := Lib.hid (And.intro hB4 (below_step ha2 hb4)); clear hN ha2 hB4 hb4 hgg))
  go_wp2
  go_loopg [12] k (fun j u11 wr => ∃ i : Nat, u11 = .int .i64 (i : Nat) ∧ Aside0 (i + j = k ∧ (∃ L, Buf wr (fun k => k < g) g L ∧ allRunes L = true) ∧ Below W.heap.size W wr))
  case atStart => exact ⟨0, rfl, ⟨by omega, ⟨L0, HC.out.1, HR0.out⟩, HC.out.2⟩⟩
  case round =>
    obtain ⟨i, rfl, HR⟩ := hrel
    have HI := Lib.hid HR.out.1
    obtain ⟨⟨L, hBL, hrL⟩, hbW⟩ := HR.out.2
    clear HR
    by_cases hik : i < k
    · have hi0 : (0 : Int) ≤ (i : Int) := by omega
      have hi1 : (i : Int) < (k : Int) := by omega
      have hw : wrap64 ((i : Int) + 1) = ((i + 1 : Nat) : Int) := w_nat (by omega) (by omega)
      have hD := do_l HT.out HLA.out (i := i) (by rw [HK.out]; exact hik) hBL hrL hbW HG.out
      obtain ⟨ad, e0, x0, x1, x2, x3⟩ := at_T32 HCC.out (i : Int) hi0 (by rw [HK.out]; exact hi1)
      cases e0
      replace x0 := (hbW.cell (World.block_lt_of_cell? W _ x0)).trans x0
      replace x1 := (hbW.cell (World.block_lt_of_cell? W _ x1)).trans x1
      replace x2 := (hbW.cell (World.block_lt_of_cell? W _ x2)).trans x2
      replace x3 := (hbW.cell (World.block_lt_of_cell? W _ x3)).trans x3
      rw [Int.toNat_natCast] at x0 x1 x2 x3
      clear hBL hrL hbW
      go_wp2_with (go_at_call 11; refine hD.mono ?_; rintro e w2 ⟨⟨c2, rfl⟩, hB2, hb2⟩)
      go_roundg (k - (i + 1))
      case measure => have := HI.out; clear hw; omega
      case rel => exact ⟨i + 1, by first | rfl | (rw [hw]), ⟨by have := HI.out; clear hw; omega, hB2, hb2⟩⟩
    · have hi1 : ¬ (i : Int) < (k : Int) := by omega
      have hL2 : L.length ≤ 20000 := by obtain ⟨A2, m2, B2, _, _, h3, _⟩ := hBL; exact h3
      obtain ⟨S, hS⟩ : ∃ S, strOf L = S := ⟨_, rfl⟩
      have hSz : S.size ≤ 80000 := by rw [← hS]; have := strOf_le L; omega
      have hST : textOf S = some L := by rw [← hS]; exact textOf_str hrL
      have HC : Hid (Buf wr (fun k => k < g) g L ∧ Below W.heap.size W wr) := Lib.hid (And.intro hBL hbW)
      have hTx : ∀ W', Buf W' (fun k => k < g) g L → Calls Tryd.prog 13 #[.pointer (some ⟨g, 0, none⟩)] W' fun e w' => e = .returned (.string S) ∧ Below W'.heap.size W' w' := fun W' h => by
        have := text_b h
        rw [joinS_runes hrL, hS] at this
        exact this
      have hSp : ∀ W', Calls Tryd.prog 12 #[.string S] W' fun e w' => ∃ v, e = .returned (.tuple #[v, .bool true]) ∧ Kd.R (Kd.int .i32) 21 w' W'.heap.size (fun _ => True) v L ∧ Below W'.heap.size W' w' := fun W' => by
        obtain ⟨K, hK⟩ := split_ev S (by omega)
        have e := hK K (Nat.le_refl _)
        rw [hST] at e
        exact foolscapref01_Split.calls K S L true W' e
      have hPl : ∀ W', Buf W' (fun k => k < g) g L → Calls Tryd.prog 14 #[.pointer (some ⟨g, 0, none⟩), .int .i64 at_] W' fun e w' => e = .returned (.tuple #[.int .i64 (placeR L at_).1, .int .i64 (placeR L at_).2.1, .int .i64 (placeR L at_).2.2]) ∧ Below W'.heap.size W' w' := fun W' h => place_w at_ h
      have hAt : ∀ W', Buf W' (fun k => k < g) g L → Calls Tryd.prog 16 #[.pointer (some ⟨g, 0, none⟩), .int .i64 n, .int .i64 z9] W' fun e w' => e = .returned (.tuple #[.int .i64 (atR L n z9).1, .int .i64 (atR L n z9).2]) ∧ Below W'.heap.size W' w' := fun W' h => at_w n z9 h
      have hRP : ∀ W' A c, Kd.C (Kd.int .i32) W' A L.length L → L.length ≤ c → Calls Tryd.prog 15 #[.slice A L.length c, .int .i64 at_] W' fun e w' => e = .returned (.tuple #[.int .i64 (placeR L at_).1, .int .i64 (placeR L at_).2.1, .int .i64 (placeR L at_).2.2]) ∧ Below W'.heap.size W' w' := fun W' A c hC hc => by
        refine (foolscapref02_Place.calls _ A c L at_ _ _ _ W' hC hc (ref_place L (by omega) at_ 0)).mono ?_
        rintro e w' ⟨rfl, m, rfl⟩
        exact ⟨rfl, pw_below_drewN (Below.refl _ _) m⟩
      have hRA : ∀ W' A c, Kd.C (Kd.int .i32) W' A L.length L → L.length ≤ c → Calls Tryd.prog 17 #[.slice A L.length c, .int .i64 n, .int .i64 z9] W' fun e w' => e = .returned (.tuple #[.int .i64 (atR L n z9).1, .int .i64 (atR L n z9).2]) ∧ Below W'.heap.size W' w' := fun W' A c hC hc => by
        refine (foolscapref02_At.calls _ A c L n z9 _ _ W' hC hc (ref_at L (by omega) n z9)).mono ?_
        rintro e w' ⟨rfl, m, rfl⟩
        exact ⟨rfl, pw_below_drewN (Below.refl _ _) m⟩
      obtain ⟨x1, hx1⟩ : ∃ x, (placeR L at_).1 = x := ⟨_, rfl⟩
      obtain ⟨y1, hy1⟩ : ∃ x, (placeR L at_).2.1 = x := ⟨_, rfl⟩
      obtain ⟨f1, hf1⟩ : ∃ x, (placeR L at_).2.2 = x := ⟨_, rfl⟩
      obtain ⟨p1, hp1⟩ : ∃ x, (atR L n z9).1 = x := ⟨_, rfl⟩
      obtain ⟨q1, hq1⟩ : ∃ x, (atR L n z9).2 = x := ⟨_, rfl⟩
      rw [hx1, hy1, hf1] at hPl hRP
      rw [hp1, hq1] at hAt hRA
      clear hx1 hy1 hf1 hp1 hq1
      by_cases h15 : (1500 : Int) < (L.length : Int)
      · clear hBL hrL hbW hS hSz hST hL2 hPl hAt hRP hRA
        go_wp2_with (first
          | (go_at_call 13; refine (hTx _ HC.out.1).mono ?_; rintro e w2 ⟨rfl, hb⟩; have HC2 := Lib.hid (And.intro (HC.out.1.below hb) (below_step HC.out.2 hb)); clear HC hb; have HC := HC2; clear HC2)
          | (go_at_call 12; refine (hSp _).mono ?_; rintro e w2 ⟨v, rfl, hv, hb⟩; obtain ⟨Av, cv, rfl, hcv, hCv⟩ := Kd.R_reads hv; have HC2 := Lib.hid (And.intro (HC.out.1.below hb) (below_step HC.out.2 hb)); clear HC hb hv hCv; have HC := HC2; clear HC2))
        go_ret
        exact ⟨rfl, HC.out.2⟩
      · clear hBL hrL hbW hS hSz hST hL2
        go_wp2_with (first
          | (go_at_call 13; refine (hTx _ HC.out.1).mono ?_; rintro e w2 ⟨rfl, hb⟩; have HC2 := Lib.hid (And.intro (HC.out.1.below hb) (below_step HC.out.2 hb)); clear HC hb; have HC := HC2; clear HC2)
          | (go_at_call 12; refine (hSp _).mono ?_; rintro e w2 ⟨v, rfl, hv, hb⟩; obtain ⟨Av, cv, rfl, hcv, hCv⟩ := Kd.R_reads hv; have HV := Lib.hid (And.intro hcv hCv); have HQ := Lib.hid (Below.refl w2.heap.size w2); obtain ⟨wv, hwv⟩ : ∃ x, w2 = x := ⟨_, rfl⟩; rw [hwv] at HV hb ⊢; have HQ := Lib.hid (Below.refl wv.heap.size wv); have HC2 := Lib.hid (And.intro (HC.out.1.below hb) (below_step HC.out.2 hb)); clear HC hb hv hCv hcv hwv; have HC := HC2; clear HC2)
          | (go_at_call 14; refine (hPl _ HC.out.1).mono ?_; rintro e w3 ⟨rfl, hb⟩; have HQ2 := Lib.hid (below_step HQ.out hb); clear HQ; have HQ := HQ2; clear HQ2; have HC2 := Lib.hid (And.intro (HC.out.1.below hb) (below_step HC.out.2 hb)); clear HC hb; have HC := HC2; clear HC2)
          | (go_at_call 15; refine (hRP _ _ _ (Kd.C_below HV.out.2 HQ.out) HV.out.1).mono ?_; rintro e w3 ⟨rfl, hb⟩; have HQ2 := Lib.hid (below_step HQ.out hb); clear HQ; have HQ := HQ2; clear HQ2; have HC2 := Lib.hid (And.intro (HC.out.1.below hb) (below_step HC.out.2 hb)); clear HC hb; have HC := HC2; clear HC2)
          | (go_at_call 16; refine (hAt _ HC.out.1).mono ?_; rintro e w3 ⟨rfl, hb⟩; have HQ2 := Lib.hid (below_step HQ.out hb); clear HQ; have HQ := HQ2; clear HQ2; have HC2 := Lib.hid (And.intro (HC.out.1.below hb) (below_step HC.out.2 hb)); clear HC hb; have HC := HC2; clear HC2)
          | (go_at_call 17; refine (hRA _ _ _ (Kd.C_below HV.out.2 HQ.out) HV.out.1).mono ?_; rintro e w3 ⟨rfl, hb⟩; have HQ2 := Lib.hid (below_step HQ.out hb); clear HQ; have HQ := HQ2; clear HQ2; have HC2 := Lib.hid (And.intro (HC.out.1.below hb) (below_step HC.out.2 hb)); clear HC hb; have HC := HC2; clear HC2))
        go_ret
        exact ⟨by first | rfl | (simp; done), HC.out.2⟩
theorem places_true (s : ByteArray) (A : Option Addr) (len c : Nat) (l : List S32) (at_ n z9 : Int) (W : World) (hT : Aside0 (XAmb W)) (hl : l.length = len ∧ len ≤ c ∧ Kd.C k32 W A l.length l) :
    Calls Tryd.prog 3 #[.string s, .slice A len c, .agg #[.int .i64 at_, .int .i64 n, .int .i64 z9]] W fun e w' => e = .returned (.bool true) ∧ Below W.heap.size W w' := by
  obtain ⟨rfl, hc, hC⟩ := hl
  by_cases hg : greatA s l = true
  · exact places_g s A c l at_ n z9 W hT.out hC hc hg
  · have hg' : greatA s l = false := by simpa using hg
    have h3 := hg'
    unfold greatA at h3
    simp only [Bool.or_eq_false_iff, decide_eq_false_iff_not, List.any_eq_false, decide_eq_true_eq] at h3
    by_cases hn : (insR [] 0 s).2 = 0
    · obtain ⟨t, k, ht, hk, hk0, hlen, hfst⟩ := insR_ok0 hn
      have hk0' : k = 0 := by simpa using hk0
      subst hk0'
      have hfst2 : (insR [] 0 s).1 = t := by rw [hfst]; simp
      exact places_ok s A c l at_ n z9 W hT.out hC hc hg' (by omega) (fun x hx => by have := h3.2.2 x hx; omega) (by omega) t (Prod.ext hfst2 hn) (text_str ht).2
    · exact places_n s A c l at_ n z9 W hT.out hC hc hg' (by omega) hn
end Go.Proofs.YtfhnepihbofabaaDoor.X
