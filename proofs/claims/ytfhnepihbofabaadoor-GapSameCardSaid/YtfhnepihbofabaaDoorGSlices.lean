/-
  The statement GapSlices, walked by hand: it is true of every input: by this session. Conditions: as typed.
-/
import Derived.Test.YtfhnepihbofabaaDoorGap16
namespace Go.Proofs.YtfhnepihbofabaaDoor.X
open Go Go.RowKit Go.Lib Go.Shelf Go.Proofs.YtfhnepihbofabaaDoorW.PrintWords Go.Proofs.YtfhnepihbofabaaDoor.P
set_option linter.unusedVariables false
theorem kp_out2 {W W1 w2 : World} {g : Nat} (h : Kp (fun k => k < g) W1 w2) (hg : W.heap.size ≤ g) (hb : Below W.heap.size W W1) : Below W.heap.size W w2 := hb.trans (h.out.mono hg)
theorem joinS_runes {L : List Int} (h : allRunes L = true) : joinS L = strOf L := by
  unfold joinS
  rw [if_pos h]
  rfl
theorem run_f (L : List Int) (a n : Int) (hL : L.length ≤ 20000) : foolscapref02_Run.f L a n = some (decide (0 ≤ a ∧ a ≤ (L.length : Int) ∧ 0 ≤ n ∧ n ≤ (L.length : Int) - a)) := by
  unfold foolscapref02_Run.f
  by_cases h1 : 0 ≤ a
  · by_cases h2 : a ≤ (L.length : Int)
    · by_cases h3 : 0 ≤ n
      · have hw : wrap64 ((L.length : Int) - a) = (L.length : Int) - a := w_id (by omega) (by omega)
        rw [if_pos (show a ≥ 0 from h1), if_pos h2, if_pos (show n ≥ 0 from h3), hw]
        simp [h1, h2, h3]
      · rw [if_pos (show a ≥ 0 from h1), if_pos h2, if_neg (show ¬ n ≥ 0 from h3)]
        simp [h3]
    · rw [if_pos (show a ≥ 0 from h1), if_neg h2]
      simp [h2]
  · rw [if_neg (show ¬ a ≥ 0 from h1)]
    simp [h1]
/-- An act in the loop. -/
theorem do_l {W W' : World} {l : List S32} {g i : Nat} {L : List Int} (hT : XAmb W) (hg : ∀ x ∈ l, x.f3.size ≤ 300) (hi : i < l.length) (hB : Buf W' (fun k => k < g) g L) (hr : allRunes L = true) (hb : Below W.heap.size W W') (hgW : W.heap.size ≤ g) :
    Calls Tryd.prog 11 #[.pointer (some ⟨g, 0, none⟩), .agg #[.int .u8 (rd_T32 l (i : Int)).f0, .int .i64 (rd_T32 l (i : Int)).f1, .int .i64 (rd_T32 l (i : Int)).f2, .string (rd_T32 l (i : Int)).f3]] W' fun e w' => (∃ c, e = .returned (.int .i64 c)) ∧ (∃ L', Buf w' (fun k => k < g) g L' ∧ allRunes L' = true) ∧ Below W.heap.size W w' := by
  have hx : (rd_T32 l (i : Int)) ∈ l := by rw [rd32 l i hi]; exact List.getElem_mem hi
  obtain ⟨x, hxx⟩ : ∃ x, rd_T32 l (i : Int) = x := ⟨_, rfl⟩
  rw [hxx] at hx ⊢
  refine (do_a x.f0 x.f1 x.f2 x.f3 hB (Nat.le_trans (hg x hx) (by decide)) (XAmb_below hT hb)).mono ?_
  rintro e w' ⟨rfl, hB2, hk⟩
  exact ⟨⟨_, rfl⟩, ⟨_, hB2, actA_runes hr⟩, kp_out2 hk hgW hb⟩
set_option maxRecDepth 100000 in
set_option maxHeartbeats 8000000 in
theorem slices_g (s : ByteArray) (A : Option Addr) (c : Nat) (l : List S32) (at_ n : Int) (W : World) (hT : XAmb W) (hC : Kd.C k32 W A l.length l) (hc : l.length ≤ c) (hg : greatA s l = true) :
    Calls Tryd.prog 5 #[.string s, .slice A l.length c, .agg #[.int .i64 at_, .int .i64 n]] W fun e w' => e = .returned (.bool true) ∧ Below W.heap.size W w' := by
  have hG := fun (W' : World) (hb : Below W.heap.size W W') => greatA_w s A c l true hg W' (Kd.C_below hC hb) hc
  obtain ⟨W1, hW1⟩ : ∃ x, W.alloc (.cells #[.int .i64 at_, .int .i64 n] 51) = x := ⟨_, rfl⟩
  have hb1 : Below W.heap.size W W1 := hW1 ▸ below_alloc (Below.refl _ _) _
  have hh1 := (show W1.heap[W.heap.size]? = _ from hW1 ▸ Deep.blk_alloc_new W _)
  have r0 : W1.cell? ⟨W.heap.size, 0, none⟩ = some (.int .i64 at_) := (blk_cell hh1 0).trans rfl
  have r1 : W1.cell? ⟨W.heap.size, 1, none⟩ = some (.int .i64 n) := (blk_cell hh1 1).trans rfl
  have HW1 := Lib.hid (And.intro hW1 hb1)
  have hA := fun (W' : World) (hb : Below W.heap.size W W') => alive_w W' (XAmb_below hT hb)
  obtain ⟨k, hk⟩ : ∃ k, l.length = k := ⟨_, rfl⟩
  rw [hk] at hG ⊢
  clear hT hW1 hb1 hh1 hC hc hg hk
  go_enter Tryd.func5, Tryd.ntmps5
  go_upto_region 1 with fail
  rw [HW1.out.1]
  go_quiet (fail)
  obtain ⟨w0, hw0⟩ : ∃ x, W1.drewN nq = x := ⟨_, rfl⟩
  have hb0 : Below W.heap.size W w0 := hw0 ▸ pw_below_drewN HW1.out.2 nq
  rw [hw0]
  clear hw0 r0 r1
  go_wp2_with (first
    | (go_at_call 8; refine (hA _ hb0).mono ?_; rintro e w1 ⟨rfl, hb⟩; have ha1 := below_step hb0 hb; clear hA hb0 hb)
    | (go_at_call 9; refine (hG _ ha1).mono ?_; rintro e w2 ⟨rfl, hb⟩; have ha2 := below_step ha1 hb; clear hG ha1 hb))
  go_ret
  exact ⟨rfl, ha2⟩
set_option maxRecDepth 100000 in
set_option maxHeartbeats 8000000 in
theorem slices_n (s : ByteArray) (A : Option Addr) (c : Nat) (l : List S32) (at_ n : Int) (W : World) (hT : XAmb W) (hC : Kd.C k32 W A l.length l) (hc : l.length ≤ c) (hg : greatA s l = false) (hs : s.size ≤ 600) (hn : (insR [] 0 s).2 ≠ 0) :
    Calls Tryd.prog 5 #[.string s, .slice A l.length c, .agg #[.int .i64 at_, .int .i64 n]] W fun e w' => e = .returned (.bool true) ∧ Below W.heap.size W w' := by
  have hG := fun (W' : World) (hb : Below W.heap.size W W') => greatA_w s A c l false hg W' (Kd.C_below hC hb) hc
  obtain ⟨z, hz⟩ : ∃ z, (insR [] 0 s).2 = z := ⟨_, rfl⟩
  rw [hz] at hn
  have hN := fun (W' : World) (hb : Below W.heap.size W W') => new_no s (by omega) (XAmb_below hT hb) z hz hn
  have hc1 : (z == 0) = false := beq_eq_false_iff_ne.2 hn
  have hc2 : (z != 0) = true := by rw [bne_iff_ne]; exact hn
  obtain ⟨W1, hW1⟩ : ∃ x, W.alloc (.cells #[.int .i64 at_, .int .i64 n] 51) = x := ⟨_, rfl⟩
  have hb1 : Below W.heap.size W W1 := hW1 ▸ below_alloc (Below.refl _ _) _
  have hh1 := (show W1.heap[W.heap.size]? = _ from hW1 ▸ Deep.blk_alloc_new W _)
  have r0 : W1.cell? ⟨W.heap.size, 0, none⟩ = some (.int .i64 at_) := (blk_cell hh1 0).trans rfl
  have r1 : W1.cell? ⟨W.heap.size, 1, none⟩ = some (.int .i64 n) := (blk_cell hh1 1).trans rfl
  have HW1 := Lib.hid (And.intro hW1 hb1)
  have hA := fun (W' : World) (hb : Below W.heap.size W W') => alive_w W' (XAmb_below hT hb)
  obtain ⟨k, hk⟩ : ∃ k, l.length = k := ⟨_, rfl⟩
  rw [hk] at hG ⊢
  clear hT hW1 hb1 hh1 hC hc hg hk hs hz hn
  go_enter Tryd.func5, Tryd.ntmps5
  go_upto_region 1 with fail
  rw [HW1.out.1]
  go_quiet (fail)
  obtain ⟨w0, hw0⟩ : ∃ x, W1.drewN nq = x := ⟨_, rfl⟩
  have hb0 : Below W.heap.size W w0 := hw0 ▸ pw_below_drewN HW1.out.2 nq
  rw [hw0]
  clear hw0 r0 r1
  go_wp2_with (first
    | (go_at_call 8; refine (hA _ hb0).mono ?_; rintro e w1 ⟨rfl, hb⟩; have ha1 := below_step hb0 hb; clear hA hb0 hb)
    | (go_at_call 9; refine (hG _ ha1).mono ?_; rintro e w2 ⟨rfl, hb⟩; have ha2 := below_step ha1 hb; clear hG ha1 hb)
    | (go_at_call 10; refine (hN _ ha2).mono ?_; rintro e w4 ⟨rfl, hb4⟩))
  go_ret
  exact ⟨rfl, below_step ha2 hb4⟩
set_option maxRecDepth 100000 in
set_option maxHeartbeats 16000000 in
theorem slices_ok (s : ByteArray) (A : Option Addr) (c : Nat) (l : List S32) (at_ n : Int) (W : World) (hT : XAmb W) (hC : Kd.C k32 W A l.length l) (hc : l.length ≤ c) (hg : greatA s l = false) (hs : s.size ≤ 600) (hla : ∀ x ∈ l, x.f3.size ≤ 300) (hl60 : l.length ≤ 60) (L0 : List Int) (hn : insR [] 0 s = (L0, 0)) (hr0 : allRunes L0 = true) :
    Calls Tryd.prog 5 #[.string s, .slice A l.length c, .agg #[.int .i64 at_, .int .i64 n]] W fun e w' => e = .returned (.bool true) ∧ Below W.heap.size W w' := by
  have hG := fun (W' : World) (hb : Below W.heap.size W W') => greatA_w s A c l false hg W' (Kd.C_below hC hb) hc
  have hN := fun (W' : World) (hb : Below W.heap.size W W') => new_ok (W := W') s (by omega) (XAmb_below hT hb) (by rw [hn])
  rw [hn] at hN
  have HT := Lib.hid hT
  have HR0 := Lib.hid hr0
  have HLA := Lib.hid hla
  have HCC := Lib.hid hC
  obtain ⟨W1, hW1⟩ : ∃ x, W.alloc (.cells #[.int .i64 at_, .int .i64 n] 51) = x := ⟨_, rfl⟩
  have hb1 : Below W.heap.size W W1 := hW1 ▸ below_alloc (Below.refl _ _) _
  have hh1 := (show W1.heap[W.heap.size]? = _ from hW1 ▸ Deep.blk_alloc_new W _)
  have r0 : W1.cell? ⟨W.heap.size, 0, none⟩ = some (.int .i64 at_) := (blk_cell hh1 0).trans rfl
  have r1 : W1.cell? ⟨W.heap.size, 1, none⟩ = some (.int .i64 n) := (blk_cell hh1 1).trans rfl
  have HW1 := Lib.hid (And.intro hW1 hb1)
  have hA := fun (W' : World) (hb : Below W.heap.size W W') => alive_w W' (XAmb_below hT hb)
  obtain ⟨k, hk⟩ : ∃ k, l.length = k := ⟨_, rfl⟩
  have HK := Lib.hid hk
  rw [hk] at hG ⊢
  have hk60 : k ≤ 60 := hk ▸ hl60
  clear hT hW1 hb1 hh1 hC hc hg hk hs hn hr0 hla hl60
  go_enter Tryd.func5, Tryd.ntmps5
  go_upto_region 1 with fail
  rw [HW1.out.1]
  go_quiet (fail)
  obtain ⟨w0, hw0⟩ : ∃ x, W1.drewN nq = x := ⟨_, rfl⟩
  have hb0 : Below W.heap.size W w0 := hw0 ▸ pw_below_drewN HW1.out.2 nq
  rw [hw0]
  clear hw0 r0 r1
  go_upto_block 0 with (first
    | (go_at_call 8; refine (hA _ hb0).mono ?_; rintro e w1 ⟨rfl, hb⟩; have ha1 := below_step hb0 hb; clear hA hb0 hb)
    | (go_at_call 9; refine (hG _ ha1).mono ?_; rintro e w2 ⟨rfl, hb⟩; have ha2 := below_step ha1 hb; clear hG ha1 hb)
    | (go_at_call 10; refine (hN _ ha2).mono ?_; rintro e w4 ⟨rfl, hB4, hb4⟩; obtain ⟨g, hgg⟩ : ∃ g, w2.heap.size = g := ⟨_, rfl⟩; rw [hgg]; rw [hgg] at hB4; have HG := Lib.hid (show W.heap.size ≤ g from hgg ▸ ha2.size); have HC := Lib.hid (And.intro hB4 (below_step ha2 hb4)); clear hN ha2 hB4 hb4 hgg))
  go_wp2
  go_loopg [11] k (fun j u11 wr => ∃ i : Nat, u11 = .int .i64 (i : Nat) ∧ Aside0 (i + j = k ∧ (∃ L, Buf wr (fun k => k < g) g L ∧ allRunes L = true) ∧ Below W.heap.size W wr))
  case atStart => exact ⟨0, rfl, ⟨by omega, ⟨L0, HC.out.1, HR0.out⟩, HC.out.2⟩⟩
  case round =>
    obtain ⟨i, rfl, HR⟩ := hrel
    have HI := Lib.hid HR.out.1
    obtain ⟨⟨L, hBL, hrL⟩, hbW⟩ := HR.out.2
    clear HR
    by_cases hik : i < k
    · have hi0 : (0 : Int) ≤ (i : Int) := by omega
      have hi1 : (i : Int) < (k : Int) := by omega
      have hw : wrap64 ((i : Int) + 1) = ((i + 1 : Nat) : Int) := w_nat (by omega) (by omega)
      have hD := do_l HT.out HLA.out (i := i) (by rw [HK.out]; exact hik) hBL hrL hbW HG.out
      obtain ⟨ad, e0, x0, x1, x2, x3⟩ := at_T32 HCC.out (i : Int) hi0 (by rw [HK.out]; exact hi1)
      cases e0
      replace x0 := (hbW.cell (World.block_lt_of_cell? W _ x0)).trans x0
      replace x1 := (hbW.cell (World.block_lt_of_cell? W _ x1)).trans x1
      replace x2 := (hbW.cell (World.block_lt_of_cell? W _ x2)).trans x2
      replace x3 := (hbW.cell (World.block_lt_of_cell? W _ x3)).trans x3
      rw [Int.toNat_natCast] at x0 x1 x2 x3
      clear hBL hrL hbW
      go_wp2_with (go_at_call 11; refine hD.mono ?_; rintro e w2 ⟨⟨c2, rfl⟩, hB2, hb2⟩)
      go_roundg (k - (i + 1))
      case measure => have := HI.out; clear hw; omega
      case rel => exact ⟨i + 1, by first | rfl | (rw [hw]), ⟨by have := HI.out; clear hw; omega, hB2, hb2⟩⟩
    · have hi1 : ¬ (i : Int) < (k : Int) := by omega
      have hL2 : L.length ≤ 20000 := by obtain ⟨A2, m2, B2, _, _, h3, _⟩ := hBL; exact h3
      obtain ⟨S, hS⟩ : ∃ S, strOf L = S := ⟨_, rfl⟩
      have hSz : S.size ≤ 80000 := by rw [← hS]; have := strOf_le L; omega
      have hST : textOf S = some L := by rw [← hS]; exact textOf_str hrL
      have HC : Hid (Buf wr (fun k => k < g) g L ∧ Below W.heap.size W wr) := Lib.hid (And.intro hBL hbW)
      have hTx : ∀ W', Buf W' (fun k => k < g) g L → Calls Tryd.prog 13 #[.pointer (some ⟨g, 0, none⟩)] W' fun e w' => e = .returned (.string S) ∧ Below W'.heap.size W' w' := fun W' h => by
        have := text_b h
        rw [joinS_runes hrL, hS] at this
        exact this
      have hSp : ∀ W', Calls Tryd.prog 12 #[.string S] W' fun e w' => ∃ v, e = .returned (.tuple #[v, .bool true]) ∧ Kd.R (Kd.int .i32) 21 w' W'.heap.size (fun _ => True) v L ∧ Below W'.heap.size W' w' := fun W' => by
        obtain ⟨K, hK⟩ := split_ev S (by omega)
        have e := hK K (Nat.le_refl _)
        rw [hST] at e
        exact foolscapref01_Split.calls K S L true W' e
      have hRun : ∀ (b : Bool), decide (0 ≤ at_ ∧ at_ ≤ (L.length : Int) ∧ 0 ≤ n ∧ n ≤ (L.length : Int) - at_) = b → ∀ W' A c, Kd.C (Kd.int .i32) W' A L.length L → L.length ≤ c → Calls Tryd.prog 23 #[.slice A L.length c, .int .i64 at_, .int .i64 n] W' fun e w' => e = .returned (.bool b) ∧ Below W'.heap.size W' w' := fun b hb W' A c hC hc => by
        refine (foolscapref02_Run.calls A c L at_ n b W' hC hc (by rw [run_f L at_ n hL2, hb])).mono ?_
        rintro e w' ⟨rfl, m, rfl⟩
        exact ⟨rfl, pw_below_drewN (Below.refl _ _) m⟩
      have hLn : ∀ W', Buf W' (fun k => k < g) g L → Calls Tryd.prog 19 #[.pointer (some ⟨g, 0, none⟩)] W' fun e w' => e = .returned (.int .i64 (L.length : Int)) ∧ Below W'.heap.size W' w' := fun W' h => len_w h
      by_cases hrun : 0 ≤ at_ ∧ at_ ≤ (L.length : Int) ∧ 0 ≤ n ∧ n ≤ (L.length : Int) - at_
      · have hRu := hRun true (decide_eq_true hrun)
        obtain ⟨a, rfl⟩ : ∃ a : Nat, at_ = (a : Int) := ⟨at_.toNat, (Int.toNat_of_nonneg hrun.1).symm⟩
        obtain ⟨m, rfl⟩ : ∃ m : Nat, n = (m : Int) := ⟨n.toNat, (Int.toNat_of_nonneg hrun.2.2.1).symm⟩
        obtain ⟨q, hq⟩ : ∃ q, L.length = q := ⟨_, rfl⟩
        have ham : a + m ≤ q := by omega
        rw [hq] at hL2
        obtain ⟨X1, hX1⟩ : ∃ X, strOf (L.take a) = X := ⟨_, rfl⟩
        obtain ⟨U, hU⟩ : ∃ X, strOf ((L.drop a).take m) = X := ⟨_, rfl⟩
        obtain ⟨Y, hY⟩ : ∃ X, strOf (L.drop (a + m)) = X := ⟨_, rfl⟩
        have hcat : X1 ++ U ++ Y = S := by
          rw [← hX1, ← hU, ← hY, ← hS, ← strOf_append, ← strOf_append]
          congr 1
          rw [← List.drop_drop, List.append_assoc, List.take_append_drop, List.take_append_drop]
        have hSU : ∀ W', Buf W' (fun k => k < g) g L → Calls Tryd.prog 21 #[.pointer (some ⟨g, 0, none⟩), .int .i64 a, .int .i64 m] W' fun e w' => e = .returned (.tuple #[.string U, .int .i64 0]) ∧ Below W'.heap.size W' w' := fun W' h => by
          have := slice_ok a m h (by omega)
          rw [joinS_runes (allRunes_take (allRunes_drop hrL a) m), hU] at this
          exact this
        have hSX : ∀ W', Buf W' (fun k => k < g) g L → Calls Tryd.prog 21 #[.pointer (some ⟨g, 0, none⟩), .int .i64 0, .int .i64 a] W' fun e w' => e = .returned (.tuple #[.string X1, .int .i64 0]) ∧ Below W'.heap.size W' w' := fun W' h => by
          have := slice_ok 0 a h (by omega)
          rw [List.drop_zero, joinS_runes (allRunes_take hrL a), hX1] at this
          exact this
        obtain ⟨e, he⟩ : ∃ e, a + m = e := ⟨_, rfl⟩
        obtain ⟨p, hp⟩ : ∃ p, q - a = p := ⟨_, rfl⟩
        obtain ⟨z, hz⟩ : ∃ z, p - m = z := ⟨_, rfl⟩
        have hSY : ∀ W', Buf W' (fun k => k < g) g L → Calls Tryd.prog 21 #[.pointer (some ⟨g, 0, none⟩), .int .i64 e, .int .i64 z] W' fun e w' => e = .returned (.tuple #[.string Y, .int .i64 0]) ∧ Below W'.heap.size W' w' := fun W' h => by
          have := slice_ok e z h (by omega)
          rw [List.take_of_length_le (by rw [List.length_drop]; omega), joinS_runes (allRunes_drop hrL e), ← he, hY] at this
          rw [← he]
          exact this
        have hUl : textOf U = some ((L.drop a).take m) := by rw [← hU]; exact textOf_str (allRunes_take (allRunes_drop hrL a) m)
        have hRl : ∀ W', Calls Tryd.prog 20 #[.string U] W' fun e w' => e = .returned (.int .i64 (m : Int)) ∧ Below W'.heap.size W' w' := fun W' => by
          obtain ⟨K, hK⟩ := len_ev U (by rw [← hU]; have := strOf_le ((L.drop a).take m); rw [List.length_take, List.length_drop] at this; omega)
          have e := hK K (Nat.le_refl _)
          rw [lenU_of_some hUl, show ((L.drop a).take m).length = m by rw [List.length_take, List.length_drop]; omega] at e
          exact foolscapref01_Len.calls K U m W' e
        rw [hq] at hLn
        have v1 : X1.size ≤ 80000 := by rw [← hX1]; have := strOf_le (L.take a); rw [List.length_take] at this; omega
        have v2 : U.size ≤ 80000 := by rw [← hU]; have := strOf_le ((L.drop a).take m); rw [List.length_take, List.length_drop] at this; omega
        have v3 : Y.size ≤ 80000 := by rw [← hY]; have := strOf_le (L.drop (a + m)); rw [List.length_drop] at this; omega
        have z1 : ¬ 9223372036854775807 < X1.size + U.size := by omega
        have z2 : ¬ 9223372036854775807 < X1.size + U.size + Y.size := by omega
        have b1 : (a : Int) + (m : Int) = (e : Int) := by omega
        have b2 : (q : Int) - (a : Int) = (p : Int) := by omega
        have b3 : (p : Int) - (m : Int) = (z : Int) := by omega
        have b4 : e ≤ 1000000000 := by omega
        have b5 : p ≤ 1000000000 := by omega
        have b6 : z ≤ 1000000000 := by omega
        have g1 : wrap64 ((a : Int) + (m : Int)) = (e : Int) := w_nat b1 b4
        have g2 : wrap64 ((q : Int) - (a : Int)) = (p : Int) := w_nat b2 b5
        have g3 : wrap64 ((p : Int) - (m : Int)) = (z : Int) := w_nat b3 b6
        have HCAT := Lib.hid hcat
        have G := Lib.hid (And.intro g1 (And.intro g2 (And.intro g3 (And.intro b1 (And.intro b2 b3)))))
        clear g1 g2 g3 b1 b2 b3 b4 b5 b6 hrun hq ham hL2 hX1 hU hY hS hSz hST hUl he hp hz hBL hrL hbW hRun v1 v2 v3
        go_wp2_with (first
          | (go_at_call 13; refine (hTx _ HC.out.1).mono ?_; rintro e w2 ⟨rfl, hb⟩; have HC2 := Lib.hid (And.intro (HC.out.1.below hb) (below_step HC.out.2 hb)); clear HC hb; have HC := HC2; clear HC2)
          | (go_at_call 19; refine (hLn _ HC.out.1).mono ?_; rintro e w2 ⟨rfl, hb⟩; have HC2 := Lib.hid (And.intro (HC.out.1.below hb) (below_step HC.out.2 hb)); clear HC hb; have HC := HC2; clear HC2)
          | (go_at_call 21; refine (hSU _ HC.out.1).mono ?_; rintro e w2 ⟨rfl, hb⟩; have HC2 := Lib.hid (And.intro (HC.out.1.below hb) (below_step HC.out.2 hb)); clear HC hb; have HC := HC2; clear HC2; clear hSU)
          | (go_at_call 21; refine (hSX _ HC.out.1).mono ?_; rintro e w2 ⟨rfl, hb⟩; have HC2 := Lib.hid (And.intro (HC.out.1.below hb) (below_step HC.out.2 hb)); clear HC hb; have HC := HC2; clear HC2; clear hSX)
          | (go_at_call 21; (first | rw [G.out.1] | rw [G.out.2.2.2.1]); (first | rw [G.out.2.1] | rw [G.out.2.2.2.2.1]); (first | rw [G.out.2.2.1] | rw [G.out.2.2.2.2.2]); refine (hSY _ HC.out.1).mono ?_; rintro e w2 ⟨rfl, hb⟩; have HC2 := Lib.hid (And.intro (HC.out.1.below hb) (below_step HC.out.2 hb)); clear HC hb; have HC := HC2; clear HC2)
          | (go_at_call 20; refine (hRl _).mono ?_; rintro e w2 ⟨rfl, hb⟩; have HC2 := Lib.hid (And.intro (HC.out.1.below hb) (below_step HC.out.2 hb)); clear HC hb; have HC := HC2; clear HC2)
          | (go_at_call 12; refine (hSp _).mono ?_; rintro e w2 ⟨v, rfl, hv, hb⟩; obtain ⟨Av, cv, rfl, hcv, hCv⟩ := Kd.R_reads hv; have hRv := hRu w2 Av cv hCv hcv; have HC2 := Lib.hid (And.intro (HC.out.1.below hb) (below_step HC.out.2 hb)); clear HC hb hv hCv; have HC := HC2; clear HC2)
          | (go_at_call 23; refine hRv.mono ?_; rintro e w2 ⟨rfl, hb⟩; have HC2 := Lib.hid (And.intro (HC.out.1.below hb) (below_step HC.out.2 hb)); clear HC hb; have HC := HC2; clear HC2))
        go_ret
        exact ⟨by first | rfl | (rw [HCAT.out]; simp; done) | (simp [HCAT.out]; done), HC.out.2⟩
      · have hRu := hRun false (decide_eq_false hrun)
        have hSU : ∀ W', Buf W' (fun k => k < g) g L → Calls Tryd.prog 21 #[.pointer (some ⟨g, 0, none⟩), .int .i64 at_, .int .i64 n] W' fun e w' => e = .returned (.tuple #[.string ⟨#[]⟩, .int .i64 3]) ∧ Below W'.heap.size W' w' := fun W' h => slice_no at_ n h hrun
        clear hBL hrL hbW hRun hrun hS hSz hST hL2 hLn
        go_wp2_with (first
          | (go_at_call 13; refine (hTx _ HC.out.1).mono ?_; rintro e w2 ⟨rfl, hb⟩; have HC2 := Lib.hid (And.intro (HC.out.1.below hb) (below_step HC.out.2 hb)); clear HC hb; have HC := HC2; clear HC2)
          | (go_at_call 21; refine (hSU _ HC.out.1).mono ?_; rintro e w2 ⟨rfl, hb⟩; have HC2 := Lib.hid (And.intro (HC.out.1.below hb) (below_step HC.out.2 hb)); clear HC hb; have HC := HC2; clear HC2)
          | (go_at_call 12; refine (hSp _).mono ?_; rintro e w2 ⟨v, rfl, hv, hb⟩; obtain ⟨Av, cv, rfl, hcv, hCv⟩ := Kd.R_reads hv; have hRv := hRu w2 Av cv hCv hcv; have HC2 := Lib.hid (And.intro (HC.out.1.below hb) (below_step HC.out.2 hb)); clear HC hb hv hCv; have HC := HC2; clear HC2)
          | (go_at_call 23; refine hRv.mono ?_; rintro e w2 ⟨rfl, hb⟩; have HC2 := Lib.hid (And.intro (HC.out.1.below hb) (below_step HC.out.2 hb)); clear HC hb; have HC := HC2; clear HC2))
        go_ret
        exact ⟨by first | rfl | (simp; done), HC.out.2⟩
theorem slices_true (s : ByteArray) (A : Option Addr) (len c : Nat) (l : List S32) (at_ n : Int) (W : World) (hT : Aside0 (XAmb W)) (hl : l.length = len ∧ len ≤ c ∧ Kd.C k32 W A l.length l) :
    Calls Tryd.prog 5 #[.string s, .slice A len c, .agg #[.int .i64 at_, .int .i64 n]] W fun e w' => e = .returned (.bool true) ∧ Below W.heap.size W w' := by
  obtain ⟨rfl, hc, hC⟩ := hl
  by_cases hg : greatA s l = true
  · exact slices_g s A c l at_ n W hT.out hC hc hg
  · have hg' : greatA s l = false := by simpa using hg
    have h3 := hg'
    unfold greatA at h3
    simp only [Bool.or_eq_false_iff, decide_eq_false_iff_not, List.any_eq_false, decide_eq_true_eq] at h3
    by_cases hn : (insR [] 0 s).2 = 0
    · obtain ⟨t, k, ht, hk, hk0, hlen, hfst⟩ := insR_ok0 hn
      have hk0' : k = 0 := by simpa using hk0
      subst hk0'
      have hfst2 : (insR [] 0 s).1 = t := by rw [hfst]; simp
      exact slices_ok s A c l at_ n W hT.out hC hc hg' (by omega) (fun x hx => by have := h3.2.2 x hx; omega) (by omega) t (Prod.ext hfst2 hn) (text_str ht).2
    · exact slices_n s A c l at_ n W hT.out hC hc hg' (by omega) hn
end Go.Proofs.YtfhnepihbofabaaDoor.X
