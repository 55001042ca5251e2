/-
  package gap: Insert where all is well; Insert whole: by this session. Conditions: as typed.
-/
import Derived.Test.YtfhnepihbofabaaDoorGap7
namespace Go.Proofs.YtfhnepihbofabaaDoor.X
open Go Go.RowKit Go.Lib Go.Shelf Go.Proofs.YtfhnepihbofabaaDoorW.PrintWords
set_option linter.unusedVariables false
theorem stp_leg (s : ByteArray) : ∀ f pos, pos ≤ s.size → (stp s f pos).length ≤ s.size - pos
  | 0, pos, _ => by simp [stp]
  | f + 1, pos, hp => by
    simp only [stp]
    split
    · rename_i h
      split
      · simp; omega
      · have h1 := decode_pos s pos h
        have h2 := decode_le s pos h
        have := stp_leg s f (pos + (Utf8.decode s pos).2) h2
        simp only [List.length_cons]
        omega
    · simp
theorem textOf_len {s : ByteArray} {l : List Int} (h : textOf s = some l) : l.length ≤ s.size := by
  unfold textOf at h
  split at h
  · obtain rfl := Option.some.inj h
    have := stp_leg s s.size 0 (Nat.zero_le _)
    simpa using this
  · cases h
theorem buf_row {W w1 : World} {X : Nat → Prop} {g : Nat} {L t : List Int} {v : Value} (h : Buf W X g L) (hv : Kd.R (Kd.int .i32) 21 w1 W.heap.size (fun _ => True) v t) (hb : Below W.heap.size W w1) : Buf w1 (fun j => X j ∨ v.ownBlock = some j) g L := by
  obtain ⟨A, m, B, q1, q2, q3, q4⟩ := h
  refine ⟨A, m, B, q1, q2, q3, q4.more hb (fun j hj => ?_)⟩
  obtain ⟨cur, hh⟩ := rk_blk (Kd.R_lower hv (Nat.zero_le _)) hj
  exact ⟨Kd.R_base hv j hj, blk_lt hh⟩
set_option maxRecDepth 100000 in
set_option maxHeartbeats 8000000 in
theorem insert_ok {W : World} {X : Nat → Prop} {g : Nat} {L t : List Int} (at_ : Nat) (s : ByteArray) (h : Buf W X g L) (hs : s.size ≤ 35184372088832) (hT : XAmb W) (ht : textOf s = some t) (hat : at_ ≤ L.length) (hc : L.length + t.length ≤ 20000) :
    Calls Tryd.prog 18 #[.pointer (some ⟨g, 0, none⟩), .int .i64 at_, .string s] W fun e w' => e = .returned (.int .i64 0) ∧ Buf w' X g (L.take at_ ++ t ++ L.drop at_) ∧ Kp X W w' := by
  have hS := split_some s W t hs hT ht
  have HB := Lib.hid h
  obtain ⟨n, hn⟩ : ∃ n, L.length = n := ⟨_, rfl⟩
  obtain ⟨k, hk⟩ : ∃ k, t.length = k := ⟨_, rfl⟩
  obtain ⟨P, hP⟩ : ∃ P, L.take at_ = P := ⟨_, rfl⟩
  obtain ⟨Q, hQ⟩ : ∃ Q, L.drop at_ = Q := ⟨_, rfl⟩
  have hPl : P.length = at_ := by rw [← hP, List.length_take]; omega
  have hPQ : P.length + Q.length = n := by rw [← List.length_append, ← hP, ← hQ, List.take_append_drop, hn]
  rw [hP, hQ]
  rw [hn] at hat
  rw [hn, hk] at hc
  have hSeek : ∀ (X' : Nat → Prop) (W' : World), Buf W' X' g L → Calls Tryd.prog 35 #[.pointer (some ⟨g, 0, none⟩), .int .i64 at_] W' fun e w' => e = .returned (.tuple #[]) ∧ (∃ m, P.length + m + Q.length ≤ 60000 ∧ Zip w' X' g P m Q (fa P) (fa Q.reverse)) ∧ Kp X' W' w' := fun X' W' h => by
    obtain ⟨A, m, B, h1, h2, h3, h⟩ := h
    have hABn : A.length + B.length = n := by rw [← List.length_append, h1, hn]
    refine (seek_calls at_ h (by omega) (by omega)).mono ?_
    rintro e w' ⟨rfl, hz, hk⟩
    rw [h1, hP, hQ] at hz
    exact ⟨rfl, ⟨m, by omega, hz⟩, hk⟩
  have hWiden : ∀ (X' : Nat → Prop) (W' : World) (m : Nat), P.length + m + Q.length ≤ 60000 → Zip W' X' g P m Q (fa P) (fa Q.reverse) → Calls Tryd.prog 36 #[.pointer (some ⟨g, 0, none⟩), .int .i64 k] W' fun e w' => e = .returned (.tuple #[]) ∧ (∃ m', k ≤ m' ∧ P.length + m' + Q.length ≤ 60000 ∧ Zip w' X' g P m' Q (fa P) (fa Q.reverse)) ∧ Kp X' W' w' := fun X' W' m h2 h => widen_z k h h2 (by omega)
  have hLen : ∀ (X' : Nat → Prop) W', Buf W' X' g L → Calls Tryd.prog 19 #[.pointer (some ⟨g, 0, none⟩)] W' fun e w' => e = .returned (.int .i64 (n : Int)) ∧ Buf w' X' g L ∧ Kp X' W' w' := fun X' W' h => hn ▸ len_b h
  have h1' : ¬ (at_ : Int) < 0 := by omega
  have h2' : ¬ (n : Int) < (at_ : Int) := by omega
  have e0 : wrap64 (20000 - (n : Int)) = 20000 - (n : Int) := w_id (by omega) (by omega)
  have h3' : ¬ 20000 - (n : Int) < (k : Int) := by omega
  have HN := Lib.hid (And.intro (And.intro hn hk) (And.intro hat hc))
  have HP := Lib.hid (And.intro hPl hPQ)
  clear h hs ht hn hat hc hP hQ hPl hPQ
  go_enter Tryd.func18, Tryd.ntmps18
  go_upto_region 10 with (first
      | (go_at_call 34; refine hS.mono ?_; rintro e w1 ⟨v, rfl, hv, hb⟩; obtain ⟨A1, c1, rfl⟩ := Kd.R_slice hv; obtain ⟨X', hX'⟩ : ∃ X' : Nat → Prop, X' = fun j => X j ∨ (Value.slice A1 t.length c1).ownBlock = some j := ⟨_, rfl⟩; have hB1 : Buf w1 X' g L := hX' ▸ buf_row HB.out hv hb; have HV := Lib.hid (And.intro (And.intro hv hb) hX'); have hl1 := hLen X' w1 hB1; clear hv hb hX' hB1)
      | (go_at_call 19; refine Calls.mono hl1 ?_; rintro e w2 ⟨rfl, hb2, hk2⟩; have hl2 := hLen X' w2 hb2; clear hl1)
      | (go_at_call 19; refine Calls.mono hl2 ?_; rintro e w3 ⟨rfl, hb3, hk3⟩))
  have hS3 := hSeek X' w3 hb3
  have H3 := Lib.hid (And.intro hk2 hk3)
  clear hl2 hk2 hk3 hb3 hb2 hLen
  go_upto_block 0 with (first
      | (go_at_call 35; refine hS3.mono ?_; rintro e w4 ⟨rfl, ⟨m1, hm1, hz4⟩, hk4⟩; have hW4 := hWiden X' w4 m1 hm1 hz4; clear hS3 hz4)
      | (go_at_call 36; refine hW4.mono ?_; rintro e w5 ⟨rfl, ⟨m2, hm2, hm3, hz5⟩, hk5⟩))
  have hK5 : Kp X' w1 w5 := (H3.out.1.trans H3.out.2).trans (hk4.trans hk5)
  have HZ5 := Lib.hid (And.intro hz5 hK5)
  have HM := Lib.hid (And.intro hm2 hm3)
  have hk9 : k ≤ 20000 := by have := HN.out.2.2; omega
  clear hz5 hK5 hm2 hm3 hm1 hk4 hk5 hW4 hWiden hSeek hS hT e0
  try clear h1' h2' h3'
  go_wp2
  go_loopg [10, 44] k (fun j u10 u44 wr => ∃ i : Nat, u44 = .int .i64 (i : Nat) ∧ Aside0 (i + j = k ∧ Zip wr X' g (P ++ t.take i) (m2 - i) Q (fa (P ++ t.take i)) (fa Q.reverse) ∧ Kp X' w1 wr))
  case atStart => exact ⟨0, rfl, ⟨by omega, by simpa using HZ5.out.1, HZ5.out.2⟩⟩
  case round =>
    obtain ⟨i, rfl, HR⟩ := hrel
    have HR1 := Lib.hid HR.out
    clear HR
    by_cases hik : i < k
    · have hti : i < t.length := by rw [hk]; exact hik
      obtain ⟨x, hx⟩ : ∃ x, t[i]? = some x := ⟨_, List.getElem?_eq_getElem hti⟩
      obtain ⟨b, hA1, hcell⟩ : ∃ b, A1 = some ⟨b, 0, none⟩ ∧ wr.cell? ⟨b, i, none⟩ = some (.int .i32 x) := by
        obtain ⟨⟨hv, hb⟩, hX'⟩ := HV.out
        rcases rk_out hv with ⟨_, h2⟩ | ⟨b, cap, cur, h2, _, hh, _, _, _, hct⟩
        · rw [h2] at hti; simp at hti
        · injection h2 with h2 h3 h4
          subst h2
          refine ⟨b, rfl, ?_⟩
          rw [World.cell?_of_block (w := w1) (HR1.out.2.2.block b (by rw [hX']; exact .inr rfl))]
          exact (blk_cell hh i).trans (ck_at hct hx)
      subst hA1
      have htk : t.take (i + 1) = t.take i ++ [x] := by
        rw [List.take_succ_eq_append_getElem hti]
        congr 1
        rw [List.getElem?_eq_getElem hti] at hx
        cases hx
        rfl
      obtain ⟨F, hF⟩ : ∃ F, P ++ t.take i = F := ⟨_, rfl⟩
      have hFx : P ++ t.take (i + 1) = F ++ [x] := by rw [htk, ← List.append_assoc, hF]
      obtain ⟨m3, hm3⟩ : ∃ m3, m2 - i = m3 + 1 := ⟨m2 - i - 1, by have := HM.out.1; omega⟩
      have HE := Lib.hid (And.intro (And.intro hF hFx) hm3)
      have hz := HR1.out.2.1
      rw [hF, hm3] at hz
      obtain ⟨f, hf⟩ : ∃ f, F.length = f := ⟨_, rfl⟩
      have hf2 : f ≤ 60000 := by
        rw [← hf, ← hF, List.length_append, List.length_take]
        have := HP.out.2
        have := HN.out
        omega
      have HZ := Lib.hid (And.intro hz hf)
      have hi0 : (0 : Int) ≤ (i : Int) := by omega
      have hi1 : (i : Int) < (k : Int) := by omega
      have hw1 : wrap64 ((i : Int) + 1) = ((i + 1 : Nat) : Int) := w_nat (by omega) (by omega)
      have hw2 : wrap64 ((f : Int) + 1) = ((f + 1 : Nat) : Int) := w_nat (by omega) (by omega)
      have hkw := HR1.out.2.2
      clear hti hx htk hF hFx hm3 hz
      go_upto_if 49 with fail
      go_cut [] (fun wc => Aside0 (Zip wc X' g F (m3 + 1) Q (fa (F ++ [x])) (fa Q.reverse) ∧ Kp X' w1 wc))
      case first =>
        by_cases hx : x = 10
        · have hq : (x == (10 : Int)) = true := by rw [hx]; rfl
          have HX := Lib.hid hx
          clear hx
          obtain ⟨r, N, cap, old, _, c1, _⟩ := zip_put HZ.out.1 x
          rw [HZ.out.2] at c1
          have hfl : (fa F).length ≤ 1099511627776 := Nat.le_trans (fa_len F) (by rw [HZ.out.2]; omega)
          go_upto_region 16 with fail
          go_still_tail 7, (by kernel_rfl)
          change wpList _ _ _ _ _ wr.drew
          have hpush := push_a (f : Int) HZ.out.1.drew hfl
          go_wp2_with (go_at_call 37; refine hpush.mono ?_; rintro e w6 ⟨rfl, hz6, hk6⟩)
          all_goals go_meet
          case rel =>
            refine ⟨?_, (hkw.drew).trans hk6⟩
            rw [fa_snoc, if_pos HX.out, HZ.out.2]
            exact hz6
        · have hq : (x == (10 : Int)) = false := by rw [beq_eq_false_iff_ne]; exact hx
          have HX := Lib.hid hx
          clear hx
          go_wp2
          all_goals go_meet
          case rel =>
            refine ⟨?_, hkw⟩
            rw [fa_snoc, if_neg HX.out, List.append_nil]
            exact HZ.out.1
      case rest =>
        obtain ⟨hz7, hk7⟩ := hcut.out
        obtain ⟨r, N, cap, old, c0, c1, f1, hlt, co, fo, hrg, hfin⟩ := zip_put hz7 x
        rw [HZ.out.2] at c1 hlt co fo hfin
        have HF := Lib.hid hfin
        have hi2 : (0 : Int) ≤ (f : Int) := by omega
        have hi3 : (f : Int) < (N : Int) := by omega
        have hgr : ¬ g = r := fun e => hrg e.symm
        clear hfin hcut hz7 hcell hkw
        go_upto_region 17 with fail
        go_still_tail 10, (by kernel_rfl)
        change wpList _ _ _ _ _ wc.drew
        go_wp2
        go_roundg (k - (i + 1))
        case measure => have := HR1.out.1; omega
        case rel =>
          obtain ⟨z1, z2⟩ := HF.out 1 (f + 1) rfl
          refine ⟨i + 1, rfl, ⟨by have := HR1.out.1; omega, ?_, hk7.trans z2⟩⟩
          rw [HE.out.1.2, show m2 - (i + 1) = m3 by have := HE.out.2; omega]
          exact z1
    · have hik2 : ¬ (i : Int) < (k : Int) := by omega
      have hie : i = k := by have := HR1.out.1; omega
      have HI := Lib.hid hie
      clear hie
      go_wp2
      go_ret
      refine ⟨rfl, ?_, ?_⟩
      · have hz := HR1.out.2.1
        rw [HI.out, ← hk, List.take_length] at hz
        have hz2 := hz.mono (Y := X) (fun j hj => by rw [HV.out.2]; exact .inl hj)
        have h1 := HN.out
        have h2 := HP.out
        have h3 := HM.out
        exact ⟨P ++ t, m2 - k, Q, List.append_assoc P t Q, by rw [List.length_append]; omega, by rw [List.length_append, List.length_append]; omega, by rw [← hk]; exact hz2⟩
      · exact (Kp.below0 HB.out.lt HV.out.1.2).trans (HR1.out.2.2.mono (fun j hj => by rw [HV.out.2]; exact .inl hj))
/-- Insert, whatever it is asked. -/
theorem insert_b {W : World} {X : Nat → Prop} {g : Nat} {L : List Int} (at_ : Int) (s : ByteArray) (h : Buf W X g L) (hs : s.size ≤ 1000000) (hT : XAmb W) :
    Calls Tryd.prog 18 #[.pointer (some ⟨g, 0, none⟩), .int .i64 at_, .string s] W fun e w' => e = .returned (.int .i64 (insR L at_ s).2) ∧ Buf w' X g (insR L at_ s).1 ∧ Kp X W w' := by
  unfold insR
  cases ht : textOf s with
  | none => exact insert_bad at_ s h (by omega) hT ht
  | some t =>
    have htl : t.length ≤ 35184372088832 := Nat.le_trans (textOf_len ht) (by omega)
    by_cases h1 : 0 ≤ at_ ∧ at_ ≤ (L.length : Int)
    · by_cases h2 : (L.length : Int) + (t.length : Int) ≤ 20000
      · have he : at_ = ((at_.toNat : Nat) : Int) := (Int.toNat_of_nonneg h1.1).symm
        have := insert_ok (X := X) at_.toNat s h (by omega) hT ht (by omega) (by omega)
        rw [← he] at this
        simpa only [if_pos h1, if_pos h2] using this
      · have := insert_no at_ s 4 h (by omega) hT ht htl (.inr (.inr ⟨h1.1, h1.2, by omega, rfl⟩))
        simpa only [if_pos h1, if_neg h2] using this
    · have := insert_no at_ s 3 h (by omega) hT ht htl (by
        by_cases h3 : at_ < 0
        · exact .inl ⟨h3, rfl⟩
        · exact .inr (.inl ⟨by omega, by omega, rfl⟩))
      simpa only [if_neg h1] using this
end Go.Proofs.YtfhnepihbofabaaDoor.X
