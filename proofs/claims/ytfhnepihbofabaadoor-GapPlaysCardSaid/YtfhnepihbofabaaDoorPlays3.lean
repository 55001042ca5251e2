/-
  The reference's Insert and Delete, Text, Lines and Digest told on lists; the buffer's Digest: by this session. Conditions: as typed.
-/
import Derived.Test.YtfhnepihbofabaaDoorPlays2
import Derived.Test.YtfhnepihbofabaaDoorPx3
import Derived.Test.YtfhnepihbofabaaDoorPx1
import Derived.Test.YtfhnepihbofabaaDoorPx4
namespace Go.Proofs.YtfhnepihbofabaaDoor.X
open Go Go.RowKit Go.Lib Go.Shelf Go.Proofs.YtfhnepihbofabaaDoorW.PrintWords Go.Proofs.YtfhnepihbofabaaDoor.P
set_option linter.unusedVariables false
theorem run_f0 (L : List Int) (a n : Int) (hL : L.length ≤ 20000) : foolscapref02_Run.f L a n = some (decide (0 ≤ a ∧ a ≤ (L.length : Int) ∧ 0 ≤ n ∧ n ≤ (L.length : Int) - a)) := by
  unfold foolscapref02_Run.f
  by_cases h1 : 0 ≤ a
  · by_cases h2 : a ≤ (L.length : Int)
    · by_cases h3 : 0 ≤ n
      · have hw : wrap64 ((L.length : Int) - a) = (L.length : Int) - a := w_id (by omega) (by omega)
        rw [if_pos (show a ≥ 0 from h1), if_pos h2, if_pos (show n ≥ 0 from h3), hw]
        simp [h1, h2, h3]
      · rw [if_pos (show a ≥ 0 from h1), if_pos h2, if_neg (show ¬ n ≥ 0 from h3)]
        simp [h3]
    · rw [if_pos (show a ≥ 0 from h1), if_neg h2]
      simp [h2]
  · rw [if_neg (show ¬ a ≥ 0 from h1)]
    simp [h1]
set_option maxRecDepth 100000 in
set_option maxHeartbeats 8000000 in
theorem r_del_no (A : Option Addr) (c : Nat) (L : List Int) (at_ n : Int) (W : World) (hC : Kd.C (Kd.int .i32) W A L.length L) (hc : L.length ≤ c) (hL : L.length ≤ 20000) (hno : ¬ (0 ≤ at_ ∧ at_ ≤ (L.length : Int) ∧ 0 ≤ n ∧ n ≤ (L.length : Int) - at_)) :
    Calls Tryd.prog 27 #[.slice A L.length c, .int .i64 at_, .int .i64 n] W fun e w' => e = .returned (.tuple #[.slice A L.length c, .int .i64 3]) ∧ Below W.heap.size W w' := by
  have hR := foolscapref02_Run.calls A c L at_ n false W hC hc (by rw [run_f0 L at_ n hL, decide_eq_false hno])
  clear hC hc hL hno
  obtain ⟨m, hm⟩ : ∃ m, L.length = m := ⟨_, rfl⟩
  rw [hm] at hR ⊢
  clear hm
  go_enter Tryd.func27, Tryd.ntmps27
  go_wp2_with (go_at_call 23; refine hR.mono ?_; rintro e w1 ⟨rfl, q, rfl⟩)
  go_ret2
  exact ⟨rfl, pw_below_drewN (Below.refl _ _) _⟩
set_option maxRecDepth 100000 in
set_option maxHeartbeats 8000000 in
theorem r_del_ok (A : Option Addr) (c k d : Nat) (L : List Int) (W : World) (hC : Kd.C (Kd.int .i32) W A L.length L) (hc : L.length ≤ c) (hL : L.length ≤ 20000) (hk : k + d ≤ L.length) :
    Calls Tryd.prog 27 #[.slice A L.length c, .int .i64 k, .int .i64 d] W fun e w' => ∃ v, e = .returned (.tuple #[v, .int .i64 0]) ∧ Kd.R (Kd.int .i32) 21 w' W.heap.size (fun _ => True) v (L.take k ++ L.drop (k + d)) ∧ Below W.heap.size W w' := by
  have hR := foolscapref02_Run.calls A c L k d true W hC hc (by rw [run_f0 L k d hL, decide_eq_true (by omega)])
  obtain ⟨n, hn⟩ : ∃ n, L.length = n := ⟨_, rfl⟩
  obtain ⟨q, hq⟩ : ∃ q, k + d = q := ⟨_, rfl⟩
  obtain ⟨X, hX⟩ : ∃ X, L.take k = X := ⟨_, rfl⟩
  obtain ⟨Y, hY⟩ : ∃ Y, L.drop q = Y := ⟨_, rfl⟩
  obtain ⟨A2, hA2⟩ : ∃ A2, (if c = q then A else A.map (·.add q)) = A2 := ⟨_, rfl⟩
  obtain ⟨p, hp⟩ : ∃ p, n - q = p := ⟨_, rfl⟩
  rw [hq] at hk ⊢
  have hk2 : k ≤ L.length := by omega
  have hCX : ∀ w, Below W.heap.size W w → Kd.C (Kd.int .i32) w A k X := fun w hb => by rw [← hX]; exact C_tk (Kd.C_below hC hb) hk2
  have hCY : ∀ w, Below W.heap.size W w → Kd.C (Kd.int .i32) w A2 p Y := fun w hb => by
    have := C_dp (c := c) (Kd.C_below hC hb) hk hc
    rw [hA2, hY, hn, hp] at this
    exact this
  have hct1 := cut_lo A n c k (by rw [← hn]; exact hk2) (by rw [← hn]; exact hc)
  have hct2 := cut_hi A n c q (by rw [← hn]; exact hk)
  rw [hA2, hp] at hct2
  have g1 : (k : Int) + (d : Int) = (q : Int) := by omega
  have g2 : q ≤ 1000000000 := by omega
  have h0 : (0 : Int) ≤ (k : Int) := by omega
  have h1 : (k : Int) ≤ (n : Int) := by omega
  have h2 : (0 : Int) ≤ (q : Int) := by omega
  have h3 : (q : Int) ≤ (n : Int) := by omega
  have HX := Lib.hid (show X.length = k by rw [← hX, List.length_take, Nat.min_eq_left hk2])
  have HZ := Lib.hid (show k + p ≤ 100000 by omega)
  have hw : wrap64 ((k : Int) + (d : Int)) = (q : Int) := w_nat g1 g2
  rw [hX, hY]
  rw [hn] at hR ⊢
  clear g1 g2 hC hc hk hk2 hn hq hX hY hA2 hp hL
  go_enter Tryd.func27, Tryd.ntmps27
  go_wp2_with (first
    | (go_at_call 23; refine hR.mono ?_; rintro e w1 ⟨rfl, q_, rfl⟩; have HB := Lib.hid (pw_below_drewN (Below.refl W.heap.size W) q_); clear hR; obtain ⟨w0, hw0⟩ : ∃ x, W.drewN q_ = x := ⟨_, rfl⟩; rw [hw0] at HB ⊢; clear hw0)
    | ((with_reducible refine gate_dst (N := 15) rfl ?_); refine Kd.R_lit (Kd.int .i32) _ 21 ?hg (N := 15) ?hd (xs := ([] : List Int)) (inner := []) (ok := fun _ => True) (okp := fun _ => True) ?hr ?hp (fun _ hk => hk) trivial (Below.refl _ _) (Nat.le_refl _) (by simp) ?_; (case hd => rfl); (case hg => rfl); (case hr => first | (go_simp; done) | (go_simp; rfl)); (case hp => exact (Reps.none _ _)); intro v2 w2 ho hb hg_ hnew_; clear hg_ hnew_; have HO := Lib.hid (Kd.R_lower ho (q_B HB).size); have HB2 := Lib.hid (below_step (q_B HB) hb); clear HB ho hb; have HB := HB2; clear HB2)
    | ((with_reducible refine gate_builtin (b := .append) (xs := #[.tmp 15, .tmp 18]) rfl ?_); at_builtin; refine Kd.R_append_rows (Kd.int .i32) (w0 := W) W.heap.size rfl (.tmp 15) (.tmp 18) 33 21 (.int .i32 0) 4 rfl Tryd.underlying33 info21 rfl (by decide) (by omega) v2 ([] : List Int) X _ _ _ (fun _ => True) (fun _ => False) rfl rfl ?aO ?aR (fun _ _ h => h) (fun _ h => h.elim) (fun _ _ => trivial) ?aB ?aS ?aL ?_; (case aO => exact q_R HO); (case aR => exact hCX _ (q_B HB)); (case aB => exact q_B HB); (case aS => exact (q_B HB).size); (case aL => have := HZ.out; simp only [List.length_nil]; omega); intro v3 w3 ho hb hg hat; clear HO HB; have HO := Lib.hid ho; have HB := Lib.hid hb; clear ho hb hg hat)
    | ((with_reducible refine gate_builtin (b := .append) (xs := #[.tmp 20, .tmp 25]) rfl ?_); at_builtin; refine Kd.R_append_rows (Kd.int .i32) (w0 := W) W.heap.size rfl (.tmp 20) (.tmp 25) 33 21 (.int .i32 0) 4 rfl Tryd.underlying33 info21 rfl (by decide) (by omega) v3 ([] ++ X) Y _ _ _ (fun _ => True) (fun _ => False) rfl rfl ?aO ?aR (fun _ _ h => h) (fun _ h => h.elim) (fun _ _ => trivial) ?aB ?aS ?aL ?_; (case aO => exact q_R HO); (case aR => exact hCY _ (q_B HB)); (case aB => exact q_B HB); (case aS => exact (q_B HB).size); (case aL => have := HZ.out; simp only [List.length_append, List.length_nil, HX.out]; omega); intro v4 w3 ho hb hg hat; clear HO HB; have HO := Lib.hid ho; have HB := Lib.hid hb; clear ho hb hg hat))
  go_ret2
  exact ⟨_, rfl, by have := HO.out; rwa [List.nil_append] at this, HB.out⟩
/-- What a handed-back row is: the one that came in, or one of one's own. -/
def Own (W w' : World) (A A' : Option Addr) : Prop := A' = A ∨ ∀ a, A' = some a → W.heap.size ≤ a.block ∧ a.block < w'.heap.size
theorem own_R {W w' : World} {A : Option Addr} {v : Value} {L : List Int} (h : Kd.R (Kd.int .i32) 21 w' W.heap.size (fun _ => True) v L) : ∃ A' c', v = .slice A' L.length c' ∧ L.length ≤ c' ∧ Kd.C (Kd.int .i32) w' A' L.length L ∧ Own W w' A A' := by
  obtain ⟨A', c', rfl, hc, hC⟩ := Kd.R_reads h
  refine ⟨A', c', rfl, hc, hC, .inr fun a ha => ?_⟩
  subst ha
  exact ⟨Kd.R_base h _ rfl, Kd.R_lt h _ rfl⟩
theorem r_ins (A : Option Addr) (c : Nat) (L : List Int) (at_ : Int) (s : ByteArray) (W : World) (hC : Kd.C (Kd.int .i32) W A L.length L) (hc : L.length ≤ c) (hL : L.length ≤ 20000) (hs : s.size ≤ 1000000) :
    Calls Tryd.prog 26 #[.slice A L.length c, .int .i64 at_, .string s] W fun e w' => ∃ A' c', e = .returned (.tuple #[.slice A' (insR L at_ s).1.length c', .int .i64 (insR L at_ s).2]) ∧ (insR L at_ s).1.length ≤ c' ∧ Kd.C (Kd.int .i32) w' A' (insR L at_ s).1.length (insR L at_ s).1 ∧ Own W w' A A' ∧ Below W.heap.size W w' := by
  cases ht : textOf s with
  | none =>
    have e : insR L at_ s = (L, 2) := by unfold insR; rw [ht]
    rw [e]
    refine (r_ins_bad A c L.length at_ s W hs ht).mono ?_
    rintro e w' ⟨rfl, hb⟩
    exact ⟨A, c, rfl, hc, Kd.C_below hC hb, .inl rfl, hb⟩
  | some t =>
    have hm2 := textOf_len ht
    by_cases h1 : 0 ≤ at_ ∧ at_ ≤ (L.length : Int)
    · by_cases h2 : (L.length : Int) + (t.length : Int) ≤ 20000
      · have e : insR L at_ s = (L.take at_.toNat ++ t ++ L.drop at_.toNat, 0) := by unfold insR; rw [ht]; simp only; rw [if_pos h1, if_pos h2]
        rw [e]
        obtain ⟨k, rfl⟩ : ∃ k : Nat, at_ = (k : Int) := ⟨at_.toNat, (Int.toNat_of_nonneg h1.1).symm⟩
        rw [Int.toNat_natCast]
        refine (r_ins_ok A c k L t s W hC hc hs ht (by omega) (by omega)).mono ?_
        rintro e w' ⟨v, rfl, hv, hb⟩
        obtain ⟨A', c', rfl, hc', hC', ho⟩ := own_R (A := A) hv
        exact ⟨A', c', rfl, hc', hC', ho, hb⟩
      · have e : insR L at_ s = (L, 4) := by unfold insR; rw [ht]; simp only; rw [if_pos h1, if_neg h2]
        rw [e]
        refine (r_ins_no A c L.length t.length at_ 4 s t W hs ht hL rfl (by omega) (.inr (.inr ⟨by omega, by omega, by omega, rfl⟩))).mono ?_
        rintro e w' ⟨rfl, hb⟩
        exact ⟨A, c, rfl, hc, Kd.C_below hC hb, .inl rfl, hb⟩
    · have e : insR L at_ s = (L, 3) := by unfold insR; rw [ht]; simp only; rw [if_neg h1]
      rw [e]
      refine (r_ins_no A c L.length t.length at_ 3 s t W hs ht hL rfl (by omega) (by by_cases h0 : at_ < 0; exact .inl ⟨h0, rfl⟩; exact .inr (.inl ⟨h0, by omega, rfl⟩))).mono ?_
      rintro e w' ⟨rfl, hb⟩
      exact ⟨A, c, rfl, hc, Kd.C_below hC hb, .inl rfl, hb⟩
theorem r_del (A : Option Addr) (c : Nat) (L : List Int) (at_ n : Int) (W : World) (hC : Kd.C (Kd.int .i32) W A L.length L) (hc : L.length ≤ c) (hL : L.length ≤ 20000) :
    Calls Tryd.prog 27 #[.slice A L.length c, .int .i64 at_, .int .i64 n] W fun e w' => ∃ A' c', e = .returned (.tuple #[.slice A' (delR L at_ n).1.length c', .int .i64 (delR L at_ n).2]) ∧ (delR L at_ n).1.length ≤ c' ∧ Kd.C (Kd.int .i32) w' A' (delR L at_ n).1.length (delR L at_ n).1 ∧ Own W w' A A' ∧ Below W.heap.size W w' := by
  by_cases h1 : 0 ≤ at_ ∧ at_ ≤ (L.length : Int) ∧ 0 ≤ n ∧ n ≤ (L.length : Int) - at_
  · have e : delR L at_ n = (L.take at_.toNat ++ L.drop (at_ + n).toNat, 0) := by unfold delR; rw [if_pos h1]
    rw [e]
    obtain ⟨k, rfl⟩ : ∃ k : Nat, at_ = (k : Int) := ⟨at_.toNat, (Int.toNat_of_nonneg h1.1).symm⟩
    obtain ⟨d, rfl⟩ : ∃ d : Nat, n = (d : Int) := ⟨n.toNat, (Int.toNat_of_nonneg h1.2.2.1).symm⟩
    rw [Int.toNat_natCast, show ((k : Int) + (d : Int)).toNat = k + d by omega]
    refine (r_del_ok A c k d L W hC hc hL (by omega)).mono ?_
    rintro e w' ⟨v, rfl, hv, hb⟩
    obtain ⟨A', c', rfl, hc', hC', ho⟩ := own_R (A := A) hv
    exact ⟨A', c', rfl, hc', hC', ho, hb⟩
  · have e : delR L at_ n = (L, 3) := by unfold delR; rw [if_neg h1]
    rw [e]
    refine (r_del_no A c L at_ n W hC hc hL h1).mono ?_
    rintro e w' ⟨rfl, hb⟩
    exact ⟨A, c, rfl, hc, Kd.C_below hC hb, .inl rfl, hb⟩
theorem rd_at (l : List Int) (i : Nat) (h : i < l.length) : rd l (i : Int) = l[i] := by
  simp [rd, List.getD_eq_getElem?_getD, List.getElem?_eq_getElem h]
theorem join_l0 (l : List Int) (hl : l.length ≤ 17592186044416) : ∀ (f k i : Nat), l.length = i + f → allRunes (l.take i) = true →
    foolscapref01_Join.l0 (k + f + 1) l ((l.take i).flatMap Lib.encodeRuneZ) (i : Int) = some (if allRunes l = true then (strOf l, true) else (⟨#[]⟩, false)) := by
  intro f
  induction f with
  | zero =>
    intro k i hi ha
    obtain ⟨m, hm⟩ : ∃ m, k + 0 = m := ⟨_, rfl⟩
    rw [hm]
    simp only [foolscapref01_Join.l0]
    rw [if_neg (by omega)]
    rw [show l.take i = l by rw [List.take_of_length_le (by omega)]] at ha ⊢
    rw [if_pos ha]
    rfl
  | succ f ih =>
    intro k i hi ha
    obtain ⟨m, hm⟩ : ∃ m, k + f + 1 = m := ⟨_, rfl⟩
    rw [show k + (f + 1) + 1 = m + 1 by omega]
    simp only [foolscapref01_Join.l0]
    have hlt : i < l.length := by omega
    rw [if_pos (by omega), if_pos (by omega), rd_at l i hlt, is_f, Option.bind_some]
    have htk : l.take (i + 1) = l.take i ++ [l[i]] := by rw [List.take_succ_eq_append_getElem hlt]
    by_cases hv : Lib.validRune l[i] = true
    · have hv' : (0 ≤ l[i] ∧ l[i] < 55296) ∨ (57343 < l[i] ∧ l[i] ≤ 1114111) := of_decide_eq_true hv
      rw [if_pos hv, bytes_f _ (by omega) (by omega) hv, Option.bind_some]
      have h1 := flat_len (l.take i)
      have h2 : (l.take i).length ≤ i := List.length_take_le _ _
      have h3 := (Lib.encodeRuneZ_length l[i]).2
      rw [if_pos (by omega), show wrap64 ((i : Int) + 1) = ((i + 1 : Nat) : Int) by unfold wrap64; omega]
      have h4 : (l.take i).flatMap Lib.encodeRuneZ ++ Lib.encodeRuneZ l[i] = (l.take (i + 1)).flatMap Lib.encodeRuneZ := by rw [htk, List.flatMap_append, List.flatMap_singleton]
      rw [h4, ← hm]
      exact ih k (i + 1) (by omega) (by rw [htk, allRunes_append, ha]; simp [allRunes, hv])
    · rw [if_neg hv]
      have hno : allRunes l = false := by
        rw [← Bool.not_eq_true]
        exact fun h => hv (List.all_eq_true.1 h _ (List.getElem_mem hlt))
      rw [hno]
      rfl
theorem join_ev (l : List Int) (hl : l.length ≤ 17592186044416) : Ev (fun k => foolscapref01_Join.f k l) (if allRunes l = true then (strOf l, true) else (⟨#[]⟩, false)) :=
  ⟨l.length + 1, fun k hk => by
    have h := join_l0 l hl l.length (k - l.length - 1) 0 (by omega) rfl
    rw [show k - l.length - 1 + l.length + 1 = k by omega] at h
    exact h⟩
theorem r_text (A : Option Addr) (c : Nat) (L : List Int) (W : World) (hC : Kd.C (Kd.int .i32) W A L.length L) (hc : L.length ≤ c) (hL : L.length ≤ 20000) (hr : allRunes L = true) :
    Calls Tryd.prog 28 #[.slice A L.length c] W fun e w' => e = .returned (.string (strOf L)) ∧ Below W.heap.size W w' := by
  obtain ⟨K, hK⟩ := join_ev L (by omega)
  have e : foolscapref01_Join.f K L = some (strOf L, true) := by
    have e := hK K (Nat.le_refl _)
    rw [if_pos hr] at e
    exact e
  exact foolscapref02_Text.calls K A c L (strOf L) W hC hc (by unfold foolscapref02_Text.f; rw [e]; rfl)
theorem lines_l0 (L : List Int) (hL : L.length ≤ 20000) : ∀ (f k i n : Nat), L.length = i + f → n ≤ 1 + i → foolscapref02_Lines.l0 (k + f + 1) L (n : Int) (i : Int) = some (((n + (fa (L.drop i)).length : Nat)) : Int) := by
  intro f
  induction f with
  | zero =>
    intro k i n hi hn
    obtain ⟨m, hm⟩ : ∃ m, k + 0 = m := ⟨_, rfl⟩
    rw [hm, foolscapref02_Lines.l0, if_neg (by omega), List.drop_of_length_le (by omega)]
    simp [fa]
  | succ f ih =>
    intro k i n hi hn
    have hlt : i < L.length := by omega
    rw [show k + (f + 1) + 1 = (k + f + 1) + 1 by omega, foolscapref02_Lines.l0, if_pos (by omega), if_pos (by omega), rd_at L i hlt, List.drop_eq_getElem_cons hlt]
    have w1 : wrap64 ((n : Int) + 1) = ((n + 1 : Nat) : Int) := w_nat (by omega) (by omega)
    have w2 : wrap64 ((i : Int) + 1) = ((i + 1 : Nat) : Int) := w_nat (by omega) (by omega)
    by_cases h : L[i] = 10
    · rw [if_pos h, w1, w2, ih k (i + 1) (n + 1) (by clear w1 w2; omega) (by clear w1 w2; omega)]
      congr 2
      simp only [fa, if_pos h, List.length_append, List.length_map, List.length_singleton]
      clear w1 w2
      omega
    · rw [if_neg h, w2, ih k (i + 1) n (by clear w1 w2; omega) (by clear w1 w2; omega)]
      congr 2
      simp only [fa, if_neg h, List.length_append, List.length_map, List.length_nil]
      clear w1 w2
      omega
theorem r_lines (A : Option Addr) (c : Nat) (L : List Int) (W : World) (hC : Kd.C (Kd.int .i32) W A L.length L) (hc : L.length ≤ c) (hL : L.length ≤ 20000) :
    Calls Tryd.prog 29 #[.slice A L.length c] W fun e w' => e = .returned (.int .i64 (((fa L).length + 1 : Nat) : Int)) ∧ Below W.heap.size W w' := by
  have e := lines_l0 L hL L.length 0 0 1 (by omega) (by omega)
  rw [List.drop_zero] at e
  refine (foolscapref02_Lines.calls (0 + L.length + 1) A c L _ W hC hc e).mono ?_
  rintro e w' ⟨rfl, m, rfl⟩
  exact ⟨by rw [Nat.add_comm], pw_below_drewN (Below.refl _ _) m⟩
theorem dig_eq (s : ByteArray) : ∀ (k : Nat) (h i : Int), runes_Digest.l0 k s h (s.size : Int) i = foolscapref01_Digest.l0 k s h i := by
  intro k
  induction k with
  | zero => intro h i; rfl
  | succ k ih =>
    intro h i
    simp only [runes_Digest.l0, foolscapref01_Digest.l0]
    by_cases c : i < (s.size : Int)
    · by_cases c2 : 0 ≤ i
      · simp only [if_pos c, if_pos c2, ih]
      · simp only [if_pos c, if_neg c2]
    · simp only [if_neg c]
theorem dig_ends (s : ByteArray) (hs : s.size ≤ 9223372036854775806) : ∀ (f k i : Nat) (h : Int), i + f = s.size → ∃ r, ∀ m, foolscapref01_Digest.l0 (m + f + 1) s h (i : Int) = some r := by
  intro f
  induction f with
  | zero =>
    intro k i h hi
    refine ⟨h, fun m => ?_⟩
    obtain ⟨n, hn⟩ : ∃ n, m + 0 = n := ⟨_, rfl⟩
    rw [hn]
    simp only [foolscapref01_Digest.l0]
    rw [if_neg (by omega)]
  | succ f ih =>
    intro k i h hi
    obtain ⟨r, hr⟩ := ih k (i + 1) (IntKind.u64.wrap ((Go.bits .xor .u64 h (IntKind.u64.wrap (bt s (i : Int)))) * 1099511628211)) (by omega)
    refine ⟨r, fun m => ?_⟩
    obtain ⟨n, hn⟩ : ∃ n, m + f + 1 = n := ⟨_, rfl⟩
    rw [show m + (f + 1) + 1 = n + 1 by omega]
    simp only [foolscapref01_Digest.l0]
    rw [if_pos (by omega), if_pos (by omega), show wrap64 ((i : Int) + 1) = ((i + 1 : Nat) : Int) by unfold wrap64; omega, ← hn]
    exact hr m
theorem dig_ev (s : ByteArray) (hs : s.size ≤ 9223372036854775806) : ∃ r, ∀ m, s.size + 1 ≤ m → runes_Digest.f m s = some r ∧ foolscapref01_Digest.f m s = some r := by
  obtain ⟨r, hr⟩ := dig_ends s hs s.size 0 0 14695981039346656037 (by omega)
  refine ⟨r, fun m hm => ?_⟩
  have h := hr (m - s.size - 1)
  rw [show m - s.size - 1 + s.size + 1 = m by omega] at h
  refine ⟨?_, h⟩
  unfold runes_Digest.f
  rw [dig_eq]
  exact h
theorem digests (s : ByteArray) (hs : s.size ≤ 1000000) : ∃ h : Int, (∀ W, Calls Tryd.prog 44 #[.string s] W fun e w' => e = .returned (.int .u64 h) ∧ Below W.heap.size W w') ∧ (∀ W, Calls Tryd.prog 31 #[.string s] W fun e w' => e = .returned (.int .u64 h) ∧ Below W.heap.size W w') := by
  obtain ⟨r, hr⟩ := dig_ev s (by omega)
  have h := hr (s.size + 1) (Nat.le_refl _)
  refine ⟨r, fun W => ?_, fun W => ?_⟩
  · refine (runes_Digest.calls _ s r W h.1).mono ?_
    rintro e w' ⟨rfl, m, rfl⟩
    exact ⟨rfl, pw_below_drewN (Below.refl _ _) m⟩
  · refine (foolscapref01_Digest.calls _ s r W h.2).mono ?_
    rintro e w' ⟨rfl, m, rfl⟩
    exact ⟨rfl, pw_below_drewN (Below.refl _ _) m⟩
theorem digest_b {W : World} {X : Nat → Prop} {g : Nat} {L : List Int} (h : Buf W X g L) (r : Int) (hd : ∀ W, Calls Tryd.prog 44 #[.string (joinS L)] W fun e w' => e = .returned (.int .u64 r) ∧ Below W.heap.size W w') :
    Calls Tryd.prog 30 #[.pointer (some ⟨g, 0, none⟩)] W fun e w' => e = .returned (.int .u64 r) ∧ Below W.heap.size W w' := by
  have hT := text_b h
  clear h
  go_enter Tryd.func30, Tryd.ntmps30
  go_wp2_with (first
    | (go_at_call 13; refine hT.mono ?_; rintro e w1 ⟨rfl, hb1⟩)
    | (go_at_call 44; refine (hd _).mono ?_; rintro e w2 ⟨rfl, hb2⟩))
  go_ret
  exact ⟨rfl, below_step hb1 hb2⟩
end Go.Proofs.YtfhnepihbofabaaDoor.X
