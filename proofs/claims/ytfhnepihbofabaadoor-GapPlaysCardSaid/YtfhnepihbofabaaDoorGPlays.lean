/-
  The statement GapPlays, walked by hand: it is true of every input: by this session. Conditions: as typed.
-/
import Derived.Test.YtfhnepihbofabaaDoorPlays4
import Derived.Test.YtfhnepihbofabaaDoorPlays1
namespace Go.Proofs.YtfhnepihbofabaaDoor.X
open Go Go.RowKit Go.Lib Go.Shelf Go.Proofs.YtfhnepihbofabaaDoorW.PrintWords Go.Proofs.YtfhnepihbofabaaDoor.P
set_option linter.unusedVariables false
set_option maxRecDepth 100000 in
set_option maxHeartbeats 16000000 in
theorem plays_g (s : ByteArray) (A : Option Addr) (c : Nat) (l : List S32) (W : World) (hT : XAmb W) (hC : Kd.C k32 W A l.length l) (hc : l.length ≤ c) (hg : greatA s l = true) :
    Calls Tryd.prog 7 #[.string s, .slice A l.length c] W fun e w' => e = .returned (.bool true) ∧ Below W.heap.size W w' := by
  have hG := fun (W' : World) (hb : Below W.heap.size W W') => greatA_w s A c l true hg W' (Kd.C_below hC hb) hc
  have hA := fun (W' : World) (hb : Below W.heap.size W W') => alive_w W' (XAmb_below hT hb)
  obtain ⟨k, hk⟩ : ∃ k, l.length = k := ⟨_, rfl⟩
  rw [hk] at hG ⊢
  clear hT hC hc hg hk
  go_enter Tryd.func7, Tryd.ntmps7
  go_wp2_with (first
    | (go_at_call 8; refine (hA _ (Below.refl _ _)).mono ?_; rintro e w1 ⟨rfl, ha1⟩; clear hA)
    | (go_at_call 9; refine (hG _ ha1).mono ?_; rintro e w2 ⟨rfl, hb⟩; have ha2 := below_step ha1 hb; clear hG ha1 hb))
  go_ret
  exact ⟨rfl, ha2⟩
theorem r_ins0 (s : ByteArray) (hs : s.size ≤ 1000000) (L : List Int) (z : Int) (he : insR [] 0 s = (L, z)) (W : World) :
    Calls Tryd.prog 26 #[.slice none 0 0, .int .i64 0, .string s] W fun e w' => ∃ A' c', e = .returned (.tuple #[.slice A' L.length c', .int .i64 z]) ∧ L.length ≤ c' ∧ Kd.C (Kd.int .i32) w' A' L.length L ∧ Own W w' none A' ∧ Below W.heap.size W w' := by
  have h := r_ins none 0 [] 0 s W (Kd.C_nil _ _) (Nat.le_refl _) (by simp) hs
  rw [he] at h
  exact h
set_option maxRecDepth 100000 in
set_option maxHeartbeats 16000000 in
theorem plays_n (s : ByteArray) (A : Option Addr) (c : Nat) (l : List S32) (W : World) (hT : XAmb W) (hC : Kd.C k32 W A l.length l) (hc : l.length ≤ c) (hg : greatA s l = false) (hs : s.size ≤ 600) (hn : (insR [] 0 s).2 ≠ 0) :
    Calls Tryd.prog 7 #[.string s, .slice A l.length c] W fun e w' => e = .returned (.bool true) ∧ Below W.heap.size W w' := by
  have hG := fun (W' : World) (hb : Below W.heap.size W W') => greatA_w s A c l false hg W' (Kd.C_below hC hb) hc
  obtain ⟨⟨L, z⟩, hz⟩ : ∃ z, insR [] 0 s = z := ⟨_, rfl⟩
  rw [hz] at hn
  replace hn : z ≠ 0 := hn
  have hN := fun (W' : World) (hb : Below W.heap.size W W') => new_no s (by omega) (XAmb_below hT hb) z (by rw [hz]) hn
  have hI := r_ins0 s (by omega) L z hz
  have hc1 : (z == 0) = false := beq_eq_false_iff_ne.2 hn
  have hc2 : (z != 0) = true := by rw [bne_iff_ne]; exact hn
  have hc3 : (z != z) = false := by simp
  have hA := fun (W' : World) (hb : Below W.heap.size W W') => alive_w W' (XAmb_below hT hb)
  obtain ⟨k, hk⟩ : ∃ k, l.length = k := ⟨_, rfl⟩
  rw [hk] at hG ⊢
  clear hT hC hc hg hk hs hz hn
  go_enter Tryd.func7, Tryd.ntmps7
  go_wp2_with (first
    | (go_at_call 8; refine (hA _ (Below.refl _ _)).mono ?_; rintro e w1 ⟨rfl, ha1⟩; clear hA)
    | (go_at_call 9; refine (hG _ ha1).mono ?_; rintro e w2 ⟨rfl, hb⟩; have ha2 := below_step ha1 hb; clear hG ha1 hb)
    | (go_at_call 10; refine (hN _ ha2).mono ?_; rintro e w4 ⟨rfl, hb4⟩; have ha4 := below_step ha2 hb4; clear hN ha2 hb4)
    | (go_at_call 26; refine (hI _).mono ?_; rintro e w5 ⟨A5, c5, rfl, h51, h52, h53, hb5⟩; have ha5 := below_step ha4 hb5; clear hI ha4 hb5 h51 h52 h53))
  go_ret
  exact ⟨rfl, ha5⟩
set_option maxRecDepth 100000 in
set_option maxHeartbeats 16000000 in
theorem plays_ok (s : ByteArray) (A : Option Addr) (c : Nat) (l : List S32) (W : World) (hT : XAmb W) (hC : Kd.C k32 W A l.length l) (hc : l.length ≤ c) (hg : greatA s l = false) (hs : s.size ≤ 600) (hla : ∀ x ∈ l, x.f3.size ≤ 300) (hl60 : l.length ≤ 60) (L0 : List Int) (hn : insR [] 0 s = (L0, 0)) (hr0 : allRunes L0 = true) :
    Calls Tryd.prog 7 #[.string s, .slice A l.length c] W fun e w' => e = .returned (.bool true) ∧ Below W.heap.size W w' := by
  have hG := fun (W' : World) (hb : Below W.heap.size W W') => greatA_w s A c l false hg W' (Kd.C_below hC hb) hc
  have hN := fun (W' : World) (hb : Below W.heap.size W W') => new_ok (W := W') s (by omega) (XAmb_below hT hb) (by rw [hn])
  rw [hn] at hN
  have hI := r_ins0 s (by omega) L0 0 hn
  have HT := Lib.hid hT
  have HR0 := Lib.hid hr0
  have HLA := Lib.hid hla
  have HCC := Lib.hid hC
  have hA := fun (W' : World) (hb : Below W.heap.size W W') => alive_w W' (XAmb_below hT hb)
  obtain ⟨k, hk⟩ : ∃ k, l.length = k := ⟨_, rfl⟩
  have HK := Lib.hid hk
  rw [hk] at hG ⊢
  have hk60 : k ≤ 60 := hk ▸ hl60
  clear hT hC hc hg hk hs hn hr0 hla hl60
  go_enter Tryd.func7, Tryd.ntmps7
  go_upto_block 0 with (first
    | (go_at_call 8; refine (hA _ (Below.refl _ _)).mono ?_; rintro e w1 ⟨rfl, ha1⟩; clear hA)
    | (go_at_call 9; refine (hG _ ha1).mono ?_; rintro e w2 ⟨rfl, hb⟩; have ha2 := below_step ha1 hb; clear hG ha1 hb)
    | (go_at_call 10; refine (hN _ ha2).mono ?_; rintro e w4 ⟨rfl, hB4, hb4⟩; obtain ⟨g, hgg⟩ : ∃ g, w2.heap.size = g := ⟨_, rfl⟩; rw [hgg]; rw [hgg] at hB4; have HG := Lib.hid (show W.heap.size ≤ g from hgg ▸ ha2.size); have HC := Lib.hid (And.intro hB4 (below_step ha2 hb4)); clear hN ha2 hB4 hb4 hgg)
    | (go_at_call 26; refine (hI _).mono ?_; rintro e w5 ⟨A5, c5, rfl, h51, h52, h53, hb5⟩; have HS := Lib.hid (St.new HC.out.1 HC.out.2 HG.out hb5 h53 h51 h52); clear hI HC HG hb5 h51 h52 h53))
  go_wp2
  go_loopg [7, 9] k (fun j u7 u9 wr => ∃ (i c : Nat) (A : Option Addr) (L : List Int), u7 = .slice A L.length c ∧ u9 = .int .i64 (i : Nat) ∧ Aside0 (i + j = k ∧ St W wr g L A c L ∧ allRunes L = true))
  case atStart => exact ⟨0, c5, A5, L0, rfl, rfl, ⟨by omega, HS.out, HR0.out⟩⟩
  case round =>
    clear HS
    obtain ⟨i, cL, AL, L, rfl, rfl, HR⟩ := hrel
    have HI := Lib.hid HR.out.1
    obtain ⟨hS, hrL⟩ := HR.out.2
    clear HR
    have hbW := hS.below
    by_cases hik : i < k
    · have hi0 : (0 : Int) ≤ (i : Int) := by omega
      have hi1 : (i : Int) < (k : Int) := by omega
      obtain ⟨ad, e0, x0, x1, x2, x3⟩ := at_T32 HCC.out (i : Int) hi0 (by rw [HK.out]; exact hi1)
      cases e0
      replace x0 := (hbW.cell (World.block_lt_of_cell? W _ x0)).trans x0
      replace x1 := (hbW.cell (World.block_lt_of_cell? W _ x1)).trans x1
      replace x2 := (hbW.cell (World.block_lt_of_cell? W _ x2)).trans x2
      replace x3 := (hbW.cell (World.block_lt_of_cell? W _ x3)).trans x3
      rw [Int.toNat_natCast] at x0 x1 x2 x3
      have hx300 : (rd_T32 l (i : Int)).f3.size ≤ 300 := by
        rw [rd32 l i (by rw [HK.out]; exact hik)]
        exact HLA.out _ (List.getElem_mem _)
      obtain ⟨⟨f0, f1, f2, f3⟩, hx⟩ : ∃ x, rd_T32 l (i : Int) = x := ⟨_, rfl⟩
      rw [hx] at x0 x1 x2 x3 hx300
      replace x0 : wr.cell? _ = some (.int .u8 f0) := x0
      replace x1 : wr.cell? _ = some (.int .i64 f1) := x1
      replace x2 : wr.cell? _ = some (.int .i64 f2) := x2
      replace x3 : wr.cell? _ = some (.string f3) := x3
      replace hx300 : f3.size ≤ 300 := hx300
      have HS := Lib.hid hS
      obtain ⟨⟨N, z⟩, hact⟩ : ∃ x, actA L ⟨f0, f1, f2, f3⟩ = x := ⟨_, rfl⟩
      have hrN : allRunes N = true := by
        have := actA_runes (a := ⟨f0, f1, f2, f3⟩) hrL
        rw [hact] at this
        exact this
      have hDo : ∀ w A' c' M, St W w g L A' c' M → Calls Tryd.prog 11 #[.pointer (some ⟨g, 0, none⟩), .agg #[.int .u8 f0, .int .i64 f1, .int .i64 f2, .string f3]] w fun e w' => e = .returned (.int .i64 z) ∧ St W w' g N A' c' M := fun w A' c' M h => by
        have := st_do f0 f1 f2 f3 h (by omega) (XAmb_below HT.out h.below)
        rw [hact] at this
        exact this
      have hIns : ¬ f0.tmod 3 = 2 → ∀ w, St W w g L AL cL L → Calls Tryd.prog 26 #[.slice AL L.length cL, .int .i64 f1, .string f3] w fun e w' => ∃ A' c', e = .returned (.tuple #[.slice A' N.length c', .int .i64 z]) ∧ St W w' g L A' c' N ∧ Below w.heap.size w w' := fun hm w h => by
        have := st_rins f1 f3 h (by omega)
        rw [show insR L f1 f3 = (N, z) by rw [← hact]; unfold actA; rw [if_neg hm]] at this
        exact this
      have hDel : f0.tmod 3 = 2 → ∀ w, St W w g L AL cL L → Calls Tryd.prog 27 #[.slice AL L.length cL, .int .i64 f1, .int .i64 f2] w fun e w' => ∃ A' c', e = .returned (.tuple #[.slice A' N.length c', .int .i64 z]) ∧ St W w' g L A' c' N ∧ Below w.heap.size w w' := fun hm w h => by
        have := st_rdel f1 f2 h
        rw [show delR L f1 f2 = (N, z) by rw [← hact]; unfold actA; rw [if_pos hm]] at this
        exact this
      obtain ⟨T, hTN⟩ : ∃ T, strOf N = T := ⟨_, rfl⟩
      obtain ⟨q, hq⟩ : ∃ q, (((fa N).length + 1 : Nat) : Int) = q := ⟨_, rfl⟩
      have hX1 : ∀ w A' c', St W w g N A' c' N → Calls Tryd.prog 13 #[.pointer (some ⟨g, 0, none⟩)] w fun e w' => e = .returned (.string T) ∧ Below w.heap.size w w' := fun w A' c' h => by
        have := st_text h hrN
        rw [hTN] at this
        exact this
      have hX2 : ∀ w A' c', St W w g N A' c' N → Calls Tryd.prog 28 #[.slice A' N.length c'] w fun e w' => e = .returned (.string T) ∧ Below w.heap.size w w' := fun w A' c' h => by
        have := st_rtext h h.len hrN
        rw [hTN] at this
        exact this
      have hX3 : ∀ w A' c', St W w g N A' c' N → Calls Tryd.prog 25 #[.pointer (some ⟨g, 0, none⟩)] w fun e w' => e = .returned (.int .i64 q) ∧ Below w.heap.size w w' := fun w A' c' h => by
        have := st_lines h
        rw [hq] at this
        exact this
      have hX4 : ∀ w A' c', St W w g N A' c' N → Calls Tryd.prog 29 #[.slice A' N.length c'] w fun e w' => e = .returned (.int .i64 q) ∧ Below w.heap.size w w' := fun w A' c' h => by
        have := st_rlines h h.len
        rw [hq] at this
        exact this
      obtain ⟨n, hNn⟩ : ∃ n, N.length = n := ⟨_, rfl⟩
      have hX5 : ∀ w A' c', St W w g N A' c' N → Calls Tryd.prog 19 #[.pointer (some ⟨g, 0, none⟩)] w fun e w' => e = .returned (.int .i64 (n : Int)) ∧ Below w.heap.size w w' := fun w A' c' h => by
        have := st_len h
        rw [hNn] at this
        exact this
      have hNs : Hid (∀ w A' c', St W w g N A' c' N → ∃ r : Int, (∀ w A' c', St W w g N A' c' N → Calls Tryd.prog 30 #[.pointer (some ⟨g, 0, none⟩)] w fun e w' => e = .returned (.int .u64 r) ∧ Below w.heap.size w w') ∧ ∀ w, Calls Tryd.prog 31 #[.string T] w fun e w' => e = .returned (.int .u64 r) ∧ Below w.heap.size w w') := Lib.hid fun w A' c' h => by
        obtain ⟨r, h1, h2⟩ := digests T (by have h9 := strOf_le N; have h8 := h.len; rw [hTN] at h9; omega)
        exact ⟨r, fun w A' c' h => st_digest h hrN r (by rw [hTN]; exact h1), h2⟩
      rw [hNn] at hIns hDel hX2 hX4
      have HRN := Lib.hid (And.intro hrN hNn)
      have hTT : (T.toList == T.toList) = true := by simp
      have hTT2 : (T.toList != T.toList) = false := by simp
      have hzz : (z != z) = false := by simp
      have hnn : ((n : Int) != (n : Int)) = false := by simp
      have hqq : (q != q) = false := by simp
      have hw : wrap64 ((i : Int) + 1) = ((i + 1 : Nat) : Int) := w_nat (by omega) (by omega)
      have HW := Lib.hid hw
      clear hw hact hrN hTN hq hNn hS hrL hbW hx hx300
      obtain ⟨m, hm⟩ : ∃ m, f0.tmod 3 = m := ⟨_, rfl⟩
      rw [hm] at hIns hDel
      go_upto_region 15 with (first
        | ((with_reducible refine gate_dst (N := 10) rfl ?_); refine box_event ?hg (N := 10) ?hd (cs := #[.int .u8 0, .int .i64 0, .int .i64 0, .string (⟨#[]⟩ : ByteArray)]) (t := 32) ?hr ?_; (case hd => rfl); (case hg => rfl); (case hr => first | (go_simp; done) | (go_simp; rfl)); intro gb hgb w1 hbox hb1; have HBx := Lib.hid (And.intro hbox (And.intro hgb hb1)); have z0 := blk_cell hbox 0; have z1 := blk_cell hbox 1; have z2 := blk_cell hbox 2; have z3 := blk_cell hbox 3; have y0 := blk_frozen hbox 0; have y1 := blk_frozen hbox 1; have y2 := blk_frozen hbox 2; have y3 := blk_frozen hbox 3; clear hbox hgb hb1))
      have hBX : Bxs wr [(gb, #[.int .u8 0, .int .i64 0, .int .i64 0, .string (⟨#[]⟩ : ByteArray)], 32)] w1 := ⟨fun x hx => by
        rcases List.mem_singleton.1 hx with rfl
        exact HBx.out.1, by simp, fun x hx => by
        rcases List.mem_singleton.1 hx with rfl
        exact Nat.le_of_eq HBx.out.2.1.symm, HBx.out.2.2⟩
      have hB1 : Bxs wr [(gb, #[.int .u8 f0, .int .i64 0, .int .i64 0, .string (⟨#[]⟩ : ByteArray)], 32)] _ := hBX.put 0 rfl 0 (.int .u8 f0)
      have hB2 : Bxs wr [(gb, #[.int .u8 f0, .int .i64 f1, .int .i64 0, .string (⟨#[]⟩ : ByteArray)], 32)] _ := hB1.put 0 rfl 1 (.int .i64 f1)
      have hB3 : Bxs wr [(gb, #[.int .u8 f0, .int .i64 f1, .int .i64 f2, .string (⟨#[]⟩ : ByteArray)], 32)] _ := hB2.put 0 rfl 2 (.int .i64 f2)
      have hB4 : Bxs wr [(gb, #[.int .u8 f0, .int .i64 f1, .int .i64 f2, .string f3], 32)] _ := hB3.put 0 rfl 3 (.string f3)
      obtain ⟨w2, hw2⟩ : ∃ x, ((((w1.setCell ⟨gb, 0, none⟩ (.int .u8 f0)).setCell ⟨gb, 1, none⟩ (.int .i64 f1)).setCell ⟨gb, 2, none⟩ (.int .i64 f2)).setCell ⟨gb, 3, none⟩ (.string f3)) = x := ⟨_, rfl⟩
      rw [hw2] at hB4 ⊢
      have r0 : w2.cell? ⟨gb, 0, none⟩ = some (.int .u8 f0) := hB4.cell 0 rfl 0
      have r1 : w2.cell? ⟨gb, 1, none⟩ = some (.int .i64 f1) := hB4.cell 0 rfl 1
      have r2 : w2.cell? ⟨gb, 2, none⟩ = some (.int .i64 f2) := hB4.cell 0 rfl 2
      have r3 : w2.cell? ⟨gb, 3, none⟩ = some (.string f3) := hB4.cell 0 rfl 3
      have HS2 := Lib.hid (HS.out.read hB4.below)
      clear HS hBX hB1 hB2 hB3 hB4 HBx hw2 z0 z1 z2 z3 y0 y1 y2 y3 x0 x1 x2 x3
      have HS := HS2
      clear HS2
      by_cases hm2 : m = 2
      · have hq2 : (m == (2 : Int)) = true := by rw [hm2]; rfl
        have hRf := hDel hm2
        clear hDel hIns hm2
        go_wp2_with (first
          | (go_at_call 27; refine (hRf _ HS.out).mono ?_; rintro e w3 ⟨A3, c3, rfl, hS3, hb3⟩; have s0 := (hb3.cell (World.block_lt_of_cell? _ _ r0)).trans r0; have s1 := (hb3.cell (World.block_lt_of_cell? _ _ r1)).trans r1; have s2 := (hb3.cell (World.block_lt_of_cell? _ _ r2)).trans r2; have s3 := (hb3.cell (World.block_lt_of_cell? _ _ r3)).trans r3; have HM := Lib.hid hS3; clear r0 r1 r2 r3 HS hRf hS3 hb3)
          | (go_at_call 11; refine (hDo _ _ _ _ HM.out).mono ?_; rintro e w4 ⟨rfl, hS4⟩; obtain ⟨r, hr1, hr2⟩ := hNs.out _ _ _ hS4; have hrr : (r != r) = false := by simp
             have HF := Lib.hid hS4; clear HM hS4 hNs hDo s0 s1 s2 s3)
          | (go_at_call 19; refine (hX5 _ _ _ HF.out).mono ?_; rintro e w5 ⟨rfl, hb⟩; have HF2 := Lib.hid (HF.out.read hb); clear HF hb; have HF := HF2; clear HF2)
          | (go_at_call 13; refine (hX1 _ _ _ HF.out).mono ?_; rintro e w5 ⟨rfl, hb⟩; have HF2 := Lib.hid (HF.out.read hb); clear HF hb; have HF := HF2; clear HF2)
          | (go_at_call 28; refine (hX2 _ _ _ HF.out).mono ?_; rintro e w5 ⟨rfl, hb⟩; have HF2 := Lib.hid (HF.out.read hb); clear HF hb; have HF := HF2; clear HF2)
          | (go_at_call 25; refine (hX3 _ _ _ HF.out).mono ?_; rintro e w5 ⟨rfl, hb⟩; have HF2 := Lib.hid (HF.out.read hb); clear HF hb; have HF := HF2; clear HF2)
          | (go_at_call 29; refine (hX4 _ _ _ HF.out).mono ?_; rintro e w5 ⟨rfl, hb⟩; have HF2 := Lib.hid (HF.out.read hb); clear HF hb; have HF := HF2; clear HF2)
          | (go_at_call 30; refine (hr1 _ _ _ HF.out).mono ?_; rintro e w5 ⟨rfl, hb⟩; have HF2 := Lib.hid (HF.out.read hb); clear HF hb; have HF := HF2; clear HF2)
          | (go_at_call 31; refine (hr2 _).mono ?_; rintro e w5 ⟨rfl, hb⟩; have HF2 := Lib.hid (HF.out.read hb); clear HF hb; have HF := HF2; clear HF2))
        go_roundg (k - (i + 1))
        case measure => have := HI.out; omega
        case rel => exact ⟨i + 1, c3, A3, N, by rw [HRN.out.2], by first | rfl | (rw [HW.out]), ⟨by have := HI.out; omega, HF.out, HRN.out.1⟩⟩
      · have hq2 : (m == (2 : Int)) = false := by rw [beq_eq_false_iff_ne]; exact hm2
        have hRf := hIns hm2
        clear hDel hIns hm2
        go_wp2_with (first
          | (go_at_call 26; refine (hRf _ HS.out).mono ?_; rintro e w3 ⟨A3, c3, rfl, hS3, hb3⟩; have s0 := (hb3.cell (World.block_lt_of_cell? _ _ r0)).trans r0; have s1 := (hb3.cell (World.block_lt_of_cell? _ _ r1)).trans r1; have s2 := (hb3.cell (World.block_lt_of_cell? _ _ r2)).trans r2; have s3 := (hb3.cell (World.block_lt_of_cell? _ _ r3)).trans r3; have HM := Lib.hid hS3; clear r0 r1 r2 r3 HS hRf hS3 hb3)
          | (go_at_call 11; refine (hDo _ _ _ _ HM.out).mono ?_; rintro e w4 ⟨rfl, hS4⟩; obtain ⟨r, hr1, hr2⟩ := hNs.out _ _ _ hS4; have hrr : (r != r) = false := by simp
             have HF := Lib.hid hS4; clear HM hS4 hNs hDo s0 s1 s2 s3)
          | (go_at_call 19; refine (hX5 _ _ _ HF.out).mono ?_; rintro e w5 ⟨rfl, hb⟩; have HF2 := Lib.hid (HF.out.read hb); clear HF hb; have HF := HF2; clear HF2)
          | (go_at_call 13; refine (hX1 _ _ _ HF.out).mono ?_; rintro e w5 ⟨rfl, hb⟩; have HF2 := Lib.hid (HF.out.read hb); clear HF hb; have HF := HF2; clear HF2)
          | (go_at_call 28; refine (hX2 _ _ _ HF.out).mono ?_; rintro e w5 ⟨rfl, hb⟩; have HF2 := Lib.hid (HF.out.read hb); clear HF hb; have HF := HF2; clear HF2)
          | (go_at_call 25; refine (hX3 _ _ _ HF.out).mono ?_; rintro e w5 ⟨rfl, hb⟩; have HF2 := Lib.hid (HF.out.read hb); clear HF hb; have HF := HF2; clear HF2)
          | (go_at_call 29; refine (hX4 _ _ _ HF.out).mono ?_; rintro e w5 ⟨rfl, hb⟩; have HF2 := Lib.hid (HF.out.read hb); clear HF hb; have HF := HF2; clear HF2)
          | (go_at_call 30; refine (hr1 _ _ _ HF.out).mono ?_; rintro e w5 ⟨rfl, hb⟩; have HF2 := Lib.hid (HF.out.read hb); clear HF hb; have HF := HF2; clear HF2)
          | (go_at_call 31; refine (hr2 _).mono ?_; rintro e w5 ⟨rfl, hb⟩; have HF2 := Lib.hid (HF.out.read hb); clear HF hb; have HF := HF2; clear HF2))
        go_roundg (k - (i + 1))
        case measure => have := HI.out; omega
        case rel => exact ⟨i + 1, c3, A3, N, by rw [HRN.out.2], by first | rfl | (rw [HW.out]), ⟨by have := HI.out; omega, HF.out, HRN.out.1⟩⟩
    · have hi1 : ¬ (i : Int) < (k : Int) := by omega
      have HB := Lib.hid hbW
      clear hS hrL hbW
      go_wp2
      go_ret
      exact ⟨rfl, HB.out⟩
theorem plays_true (s : ByteArray) (A : Option Addr) (len c : Nat) (l : List S32) (W : World) (hT : Aside0 (XAmb W)) (hl : l.length = len ∧ len ≤ c ∧ Kd.C k32 W A l.length l) :
    Calls Tryd.prog 7 #[.string s, .slice A len c] W fun e w' => e = .returned (.bool true) ∧ Below W.heap.size W w' := by
  obtain ⟨rfl, hc, hC⟩ := hl
  by_cases hg : greatA s l = true
  · exact plays_g s A c l W hT.out hC hc hg
  · have hg' : greatA s l = false := by simpa using hg
    have h3 := hg'
    unfold greatA at h3
    simp only [Bool.or_eq_false_iff, decide_eq_false_iff_not, List.any_eq_false, decide_eq_true_eq] at h3
    by_cases hn : (insR [] 0 s).2 = 0
    · obtain ⟨u, k, ht, hk, hk0, hlen, hfst⟩ := insR_ok0 hn
      have hk0' : k = 0 := by simpa using hk0
      subst hk0'
      have hfst2 : (insR [] 0 s).1 = u := by rw [hfst]; simp
      exact plays_ok s A c l W hT.out hC hc hg' (by omega) (fun x hx => by have := h3.2.2 x hx; omega) (by omega) u (Prod.ext hfst2 hn) (text_str ht).2
    · exact plays_n s A c l W hT.out hC hc hg' (by omega) hn
end Go.Proofs.YtfhnepihbofabaaDoor.X
