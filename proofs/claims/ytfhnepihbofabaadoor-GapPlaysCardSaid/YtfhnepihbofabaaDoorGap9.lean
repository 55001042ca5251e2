/-
  package gap: Delete on a Buffer in memory: by this session. Conditions: as typed.
-/
import Derived.Test.YtfhnepihbofabaaDoorRefL
import Derived.Test.YtfhnepihbofabaaDoorGap7
namespace Go.Proofs.YtfhnepihbofabaaDoor.X
open Go Go.RowKit Go.Lib Go.Shelf Go.Proofs.YtfhnepihbofabaaDoorW.PrintWords
set_option linter.unusedVariables false
/-- The document's answer: the runes without some, and the error's number. -/
def delR (L : List Int) (at_ n : Int) : List Int × Int := if 0 ≤ at_ ∧ at_ ≤ (L.length : Int) ∧ 0 ≤ n ∧ n ≤ (L.length : Int) - at_ then (L.take at_.toNat ++ L.drop (at_ + n).toNat, 0) else (L, 3)
theorem run_b {W : World} {X : Nat → Prop} {g : Nat} {L : List Int} (h : Buf W X g L) (at_ n : Int) :
    Calls Tryd.prog 38 #[.pointer (some ⟨g, 0, none⟩), .int .i64 at_, .int .i64 n] W fun e w' => e = .returned (.bool (decide (0 ≤ at_ ∧ at_ ≤ (L.length : Int) ∧ 0 ≤ n ∧ n ≤ (L.length : Int) - at_))) ∧ Buf w' X g L ∧ Kp X W w' := by
  obtain ⟨A, m, B, h1, h2, h3, h⟩ := h
  have := run_z h (by omega) at_ n
  rw [show A.length + B.length = L.length by rw [← h1, List.length_append]] at this
  refine this.mono ?_
  rintro e w' ⟨rfl, q, rfl⟩
  exact ⟨rfl, ⟨A, m, B, h1, h2, h3, h.drewN q⟩, (Kp.refl W).drewN q⟩
theorem zip_take {W : World} {X : Nat → Prop} {g m : Nat} {A B ah be : List Int} {x : Int} (h : Zip W X g A m (x :: B) ah be) : ∃ r N cap, W.cell? ⟨g, 0, none⟩ = some (.slice (some ⟨r, 0, none⟩) N cap) ∧ W.cell? ⟨g, 2, none⟩ = some (.int .i64 (A.length + m : Nat)) ∧ W.frozen? ⟨g, 2, none⟩ = false ∧ A.length + m < N ∧ W.cell? ⟨r, A.length + m, none⟩ = some (.int .i32 x) ∧ r ≠ g := by
  obtain ⟨mid, vr, va, vb, hm, hz⟩ := h
  rcases rk_out hz.room with ⟨_, h2⟩ | ⟨r, cap, cur, rfl, _, hh, hle, hmx, hs2, ht⟩
  · simp at h2
  · refine ⟨r, _, cap, (blk_cell hz.blk 0).trans rfl, (blk_cell hz.blk 2).trans (by rw [← hm]; rfl), blk_frozen hz.blk 2, by rw [List.length_append, List.length_append, List.length_cons]; omega, (blk_cell hh _).trans (ck_at ht ?_), hz.gr rfl⟩
    rw [← hm, show A.length + mid.length = (A ++ mid).length by simp, List.getElem?_append_right (Nat.le_refl _), Nat.sub_self]
    rfl
theorem zip_less {W : World} {X : Nat → Prop} {g m : Nat} {A B ah be : List Int} {x : Int} (h : Zip W X g A m (x :: B) ah be) (l : Nat) (hl : l = A.length + m + 1) : Zip (W.setCell ⟨g, 2, none⟩ (.int .i64 (l : Nat))) X g A (m + 1) B ah be ∧ Kp X W (W.setCell ⟨g, 2, none⟩ (.int .i64 (l : Nat))) := by
  subst hl
  obtain ⟨mid, vr, va, vb, hm, hz⟩ := h
  have hk : ∀ k, k ≠ g → (W.setCell ⟨g, 2, none⟩ (.int .i64 ((A.length + m + 1 : Nat) : Int))).heap[k]? = W.heap[k]? := fun k hk => Below.heap_setCell W _ _ k hk
  have hB := blk_put hz.blk 2 (.int .i64 ((A.length + m + 1 : Nat) : Int)) rfl
  have hrow := rk_kept hz.room (fun b hb => hk b (hz.gr hb))
  refine ⟨⟨mid ++ [x], vr, va, vb, by rw [List.length_append, hm]; rfl, fun k hX => by have := hz.lt k hX; simpa using this, hz.nx, ?_, ?_, rk_kept hz.ra (fun b hb => hk b (hz.ga hb)), rk_kept hz.rb (fun b hb => hk b (hz.gb hb)), hz.ab, hz.xr, hz.xa, hz.xb⟩, (Kp.refl W).set hz.nx _⟩
  · rw [hB, List.length_append, List.length_singleton, hm, ← Nat.add_assoc]
    rfl
  · rw [show A ++ (mid ++ [x]) ++ B = A ++ mid ++ (x :: B) by simp]
    exact hrow
set_option maxRecDepth 100000 in
set_option maxHeartbeats 8000000 in
theorem delete_no {W : World} {X : Nat → Prop} {g : Nat} {L : List Int} (at_ n : Int) (h : Buf W X g L) (hc : ¬ (0 ≤ at_ ∧ at_ ≤ (L.length : Int) ∧ 0 ≤ n ∧ n ≤ (L.length : Int) - at_)) :
    Calls Tryd.prog 22 #[.pointer (some ⟨g, 0, none⟩), .int .i64 at_, .int .i64 n] W fun e w' => e = .returned (.int .i64 3) ∧ Buf w' X g L ∧ Kp X W w' := by
  have hR := run_b h at_ n
  rw [decide_eq_false hc] at hR
  clear h hc
  go_enter Tryd.func22, Tryd.ntmps22
  go_wp2_with (go_at_call 38; refine hR.mono ?_; rintro e w1 ⟨rfl, hb, hk⟩)
  go_ret
  exact ⟨rfl, hb, hk⟩
set_option maxRecDepth 100000 in
set_option maxHeartbeats 8000000 in
theorem delete_ok {W : World} {X : Nat → Prop} {g : Nat} {L : List Int} (at_ n : Nat) (h : Buf W X g L) (hc : at_ + n ≤ L.length) :
    Calls Tryd.prog 22 #[.pointer (some ⟨g, 0, none⟩), .int .i64 at_, .int .i64 n] W fun e w' => e = .returned (.int .i64 0) ∧ Buf w' X g (L.take at_ ++ L.drop (at_ + n)) ∧ Kp X W w' := by
  have hR := run_b h at_ n
  rw [decide_eq_true (show 0 ≤ (at_ : Int) ∧ (at_ : Int) ≤ (L.length : Int) ∧ 0 ≤ (n : Int) ∧ (n : Int) ≤ (L.length : Int) - (at_ : Int) by omega)] at hR
  obtain ⟨P, hP⟩ : ∃ P, L.take at_ = P := ⟨_, rfl⟩
  obtain ⟨Q, hQ⟩ : ∃ Q, L.drop at_ = Q := ⟨_, rfl⟩
  have hL2 : L.length ≤ 20000 := by obtain ⟨A, m, B, h1, h2, h3, h⟩ := h; exact h3
  have hPl : P.length = at_ := by rw [← hP, List.length_take]; omega
  have hQl : n ≤ Q.length ∧ P.length + Q.length ≤ 20000 := by rw [← hQ, hPl, List.length_drop]; omega
  have hQd : L.drop (at_ + n) = Q.drop n := by rw [← hQ, List.drop_drop]
  rw [hP, hQd]
  have hSeek : ∀ (W' : World), Buf W' X g L → Calls Tryd.prog 35 #[.pointer (some ⟨g, 0, none⟩), .int .i64 at_] W' fun e w' => e = .returned (.tuple #[]) ∧ (∃ m, P.length + m + Q.length ≤ 60000 ∧ Zip w' X g P m Q (fa P) (fa Q.reverse)) ∧ Kp X W' w' := fun W' h => by
    obtain ⟨A, m, B, h1, h2, h3, h⟩ := h
    have hABn : A.length + B.length = L.length := by rw [← List.length_append, h1]
    refine (seek_calls at_ h (by omega) (by omega)).mono ?_
    rintro e w' ⟨rfl, hz, hk⟩
    rw [h1, hP, hQ] at hz
    refine ⟨rfl, ⟨m, ?_, hz⟩, hk⟩
    rw [← hP, ← hQ, List.length_take, List.length_drop]
    omega
  have HP := Lib.hid (And.intro hPl hQl)
  have hn9 : n ≤ 20000 := by omega
  clear hP hQ hQd hPl hQl hL2 h hc
  go_enter Tryd.func22, Tryd.ntmps22
  go_upto_block 0 with (first
    | (go_at_call 38; refine hR.mono ?_; rintro e w1 ⟨rfl, hb1, hk1⟩; have hS1 := hSeek w1 hb1)
    | (go_at_call 35; refine hS1.mono ?_; rintro e w2 ⟨rfl, ⟨m, hm, hz2⟩, hk2⟩))
  have HZ2 := Lib.hid (And.intro hz2 (hk1.trans hk2))
  have HM := Lib.hid hm
  clear hz2 hk1 hk2 hb1 hS1 hSeek hR hm
  go_wp2
  go_loopg [18] n (fun j u18 wr => ∃ i : Nat, u18 = .int .i64 (i : Nat) ∧ Aside0 (i + j = n ∧ Zip wr X g P (m + i) (Q.drop i) (fa P) (fa (Q.drop i).reverse) ∧ Kp X W wr))
  case atStart => exact ⟨0, rfl, ⟨by omega, HZ2.out.1, HZ2.out.2⟩⟩
  case round =>
    obtain ⟨i, rfl, HR⟩ := hrel
    have HR1 := Lib.hid HR.out
    clear HR
    by_cases hik : i < n
    · have hti : i < Q.length := by have := HP.out.2.1; omega
      obtain ⟨x, R, hxR⟩ : ∃ x R, Q.drop i = x :: R := ⟨_, _, List.drop_eq_getElem_cons hti⟩
      have hR1 : Q.drop (i + 1) = R := by rw [← List.drop_drop, hxR]; rfl
      have hz := HR1.out.2.1
      rw [hxR] at hz
      obtain ⟨r, N, cap, c0, c2, f2, hlt, cx, hrg⟩ := zip_take hz
      obtain ⟨l, hl⟩ : ∃ l, P.length + (m + i) = l := ⟨_, rfl⟩
      have hl2 : l ≤ 80000 := by have := HM.out; have := HP.out.2; omega
      rw [hl] at c2 hlt cx
      have HE := Lib.hid (And.intro (And.intro hxR hR1) hl)
      have HZ := Lib.hid hz
      have hkw := HR1.out.2.2
      have hi1 : (i : Int) < (n : Int) := by omega
      have hi2 : (0 : Int) ≤ (l : Int) := by omega
      have hi3 : (l : Int) < (N : Int) := by omega
      have hw1 : wrap64 ((i : Int) + 1) = ((i + 1 : Nat) : Int) := w_nat (by omega) (by omega)
      have hw2 : wrap64 ((l : Int) + 1) = ((l + 1 : Nat) : Int) := w_nat (by omega) (by omega)
      clear hti hxR hR1 hz hl
      go_upto_region 8 with fail
      go_quiet (fail)
      obtain ⟨w3, hw3⟩ : ∃ x, wr.drewN nq = x := ⟨_, rfl⟩
      have HZ3 : Hid (Zip w3 X g P (m + i) (x :: R) (fa P) (fa (x :: R).reverse)) := Lib.hid (hw3 ▸ HZ.out.drewN nq)
      have hk3 : Kp X W w3 := hw3 ▸ hkw.drewN nq
      rw [hw3]
      clear hw3 c0 c2 f2 cx hkw HZ
      go_upto_if 30 with fail
      go_cut [] (fun wc => Aside0 (Zip wc X g P (m + i) (x :: R) (fa P) (fa R.reverse) ∧ Kp X W wc))
      case first =>
        by_cases hx : x = 10
        · have hq : (x == (10 : Int)) = true := by rw [hx]; rfl
          have HX := Lib.hid hx
          clear hx
          have hz3 := HZ3.out
          rw [List.reverse_cons, fa_snoc, if_pos HX.out] at hz3
          have hpop := pop_b hz3 (Nat.le_trans (fa_len _) (by
            have h1 := HP.out.2
            have h2 := congrArg List.length HE.out.1.1
            rw [List.length_drop, List.length_cons] at h2
            rw [List.length_reverse]
            omega))
          clear hz3
          go_wp2_with (go_at_call 42; refine hpop.mono ?_; rintro e w6 ⟨rfl, hz6, hk6⟩)
          all_goals go_meet
          case rel => exact ⟨hz6, hk3.trans hk6⟩
        · have hq : (x == (10 : Int)) = false := by rw [beq_eq_false_iff_ne]; exact hx
          have HX := Lib.hid hx
          clear hx
          go_wp2
          all_goals go_meet
          case rel =>
            have hz3 := HZ3.out
            rw [List.reverse_cons, fa_snoc, if_neg HX.out, List.append_nil] at hz3
            exact ⟨hz3, hk3⟩
      case rest =>
        obtain ⟨hz7, hk7⟩ := hcut.out
        obtain ⟨r, N, cap, c0, c2, f2, hlt, cx, hrg⟩ := zip_take hz7
        rw [HE.out.2] at c2
        have HF := Lib.hid (zip_less hz7 (l + 1) (by rw [HE.out.2]))
        clear c0 hlt cx hcut hz7
        go_wp2
        go_roundg (n - (i + 1))
        case measure => have := HR1.out.1; omega
        case rel =>
          refine ⟨i + 1, rfl, ⟨by have := HR1.out.1; omega, ?_, hk7.trans HF.out.2⟩⟩
          rw [HE.out.1.2]
          exact HF.out.1
    · have hik2 : ¬ (i : Int) < (n : Int) := by omega
      have hie : i = n := by have := HR1.out.1; omega
      have HI := Lib.hid hie
      clear hie
      go_wp2
      go_ret
      refine ⟨rfl, ?_, HR1.out.2.2⟩
      have hz := HR1.out.2.1
      rw [HI.out] at hz
      have h2 := HP.out
      have h3 := HM.out
      exact ⟨P, m + n, Q.drop n, rfl, by rw [List.length_drop]; omega, by rw [List.length_append, List.length_drop]; omega, hz⟩
theorem delete_b {W : World} {X : Nat → Prop} {g : Nat} {L : List Int} (at_ n : Int) (h : Buf W X g L) :
    Calls Tryd.prog 22 #[.pointer (some ⟨g, 0, none⟩), .int .i64 at_, .int .i64 n] W fun e w' => e = .returned (.int .i64 (delR L at_ n).2) ∧ Buf w' X g (delR L at_ n).1 ∧ Kp X W w' := by
  unfold delR
  by_cases hc : 0 ≤ at_ ∧ at_ ≤ (L.length : Int) ∧ 0 ≤ n ∧ n ≤ (L.length : Int) - at_
  · have := delete_ok (X := X) at_.toNat n.toNat h (by omega)
    rw [Int.toNat_of_nonneg hc.1, Int.toNat_of_nonneg hc.2.2.1, show at_.toNat + n.toNat = (at_ + n).toNat by omega] at this
    simpa only [if_pos hc] using this
  · have := delete_no at_ n h hc
    simpa only [if_neg hc] using this
end Go.Proofs.YtfhnepihbofabaaDoor.X
