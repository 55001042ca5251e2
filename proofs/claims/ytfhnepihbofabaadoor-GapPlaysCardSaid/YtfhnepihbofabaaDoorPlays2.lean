/-
  The reference's Insert and Delete, walked by hand, where all is well: by this session. Conditions: as typed.
-/
import Derived.Test.YtfhnepihbofabaaDoorPlays1
namespace Go.Proofs.YtfhnepihbofabaaDoor.X
open Go Go.RowKit Go.Lib Go.Shelf Go.Proofs.YtfhnepihbofabaaDoorW.PrintWords Go.Proofs.YtfhnepihbofabaaDoor.P
set_option linter.unusedVariables false
theorem C_tk {W : World} {A : Option Addr} {L : List Int} {k : Nat} (h : Kd.C (Kd.int .i32) W A L.length L) (hk : k ≤ L.length) : Kd.C (Kd.int .i32) W A k (L.take k) := by
  have := Kd.C_take (m := k) h hk
  rwa [List.length_take, Nat.min_eq_left hk] at this
theorem C_dp {W : World} {A : Option Addr} {L : List Int} {k c : Nat} (h : Kd.C (Kd.int .i32) W A L.length L) (hk : k ≤ L.length) (hc : L.length ≤ c) : Kd.C (Kd.int .i32) W (if c = k then A else A.map (·.add k)) (L.length - k) (L.drop k) := by
  have := Kd.C_drop (m := k) (c := c) h hk hc
  rw [List.length_drop] at this
  simp only [show (Kd.int .i32).sz = 1 from rfl, Nat.mul_one] at this
  exact this
theorem cut_lo (A : Option Addr) (n c k : Nat) (h1 : k ≤ n) (h2 : n ≤ c) (W : World) : (Instr.slice 33 (.slice A n c) none (some (.int .i64 (k : Nat))) none).run Tryd.prog W = .ok (.slice A k c) W := by
  obtain ⟨i0, hi, _, _, _⟩ := info_parts info21
  have := cut_to (P := Tryd.prog) 33 21 .i64 Tryd.underlying33 hi A n c (k : Int) (by omega) (by omega) h2 W
  rwa [Int.toNat_natCast] at this
theorem cut_hi (A : Option Addr) (n c k : Nat) (h1 : k ≤ n) (W : World) : (Instr.slice 33 (.slice A n c) (some (.int .i64 (k : Nat))) none none).run Tryd.prog W = .ok (.slice (if c = k then A else A.map (·.add k)) (n - k) (c - k)) W := by
  obtain ⟨i0, hi, _, hsz, _⟩ := info_parts info21
  have := cut_from (P := Tryd.prog) 33 21 .i64 Tryd.underlying33 hi 1 hsz A n c (k : Int) (by omega) (by omega) W
  rwa [Int.toNat_natCast, Nat.mul_one] at this
theorem q_B {B : Nat} {w W W' : World} (h : Hid (Below B w W)) (hq : Below B w W → Below B w W' := by intro h_; first | exact h_ | exact pw_below_drewN h_ _) : Below B w W' := hq h.out
theorem q_R {d : Kd Int} {e base : Nat} {w w' : World} {ok : Nat → Prop} {v : Value} {xs : List Int} (h : Hid (Kd.R d e w base ok v xs)) (hq : Kd.R d e w base ok v xs → Kd.R d e w' base ok v xs := by intro h_; (with_reducible repeat (first | apply Kd.R_alloc | apply Kd.R_drewN | apply Kd.R_drew)); exact h_) : Kd.R d e w' base ok v xs := hq h.out
theorem r_C {e base c m : Nat} {w w' : World} {ok : Nat → Prop} {A : Option Addr} {t : List Int} (h : Hid (Kd.R (Kd.int .i32) e w base ok (.slice A m c) t)) (hm : Hid (t.length = m)) (hq : Kd.R (Kd.int .i32) e w base ok (.slice A m c) t → Kd.R (Kd.int .i32) e w' base ok (.slice A m c) t := by intro h_; (with_reducible repeat (first | apply Kd.R_alloc | apply Kd.R_drewN | apply Kd.R_drew)); exact h_) : Kd.C (Kd.int .i32) w' A m t := by
  have := (Kd.R_reads' (hq h.out)).2.2
  rwa [hm.out] at this
set_option maxRecDepth 100000 in
set_option maxHeartbeats 8000000 in
theorem r_ins_ok (A : Option Addr) (c k : Nat) (L t : List Int) (s : ByteArray) (W : World) (hC : Kd.C (Kd.int .i32) W A L.length L) (hc : L.length ≤ c) (hs : s.size ≤ 1000000) (ht : textOf s = some t) (hk : k ≤ L.length) (hl : L.length + t.length ≤ 20000) :
    Calls Tryd.prog 26 #[.slice A L.length c, .int .i64 k, .string s] W fun e w' => ∃ v, e = .returned (.tuple #[v, .int .i64 0]) ∧ Kd.R (Kd.int .i32) 21 w' W.heap.size (fun _ => True) v (L.take k ++ t ++ L.drop k) ∧ Below W.heap.size W w' := by
  have hS : Calls Tryd.prog 12 #[.string s] W fun e w' => ∃ v, e = .returned (.tuple #[v, .bool true]) ∧ Kd.R (Kd.int .i32) 21 w' W.heap.size (fun _ => True) v t ∧ Below W.heap.size W w' := by
    have h := r_split s hs W
    rw [ht] at h
    exact h
  obtain ⟨n, hn⟩ : ∃ n, L.length = n := ⟨_, rfl⟩
  obtain ⟨m, hm⟩ : ∃ m, t.length = m := ⟨_, rfl⟩
  obtain ⟨q, hq⟩ : ∃ q, n + m = q := ⟨_, rfl⟩
  obtain ⟨X, hX⟩ : ∃ X, L.take k = X := ⟨_, rfl⟩
  obtain ⟨Y, hY⟩ : ∃ Y, L.drop k = Y := ⟨_, rfl⟩
  obtain ⟨A2, hA2⟩ : ∃ A2, (if c = k then A else A.map (·.add k)) = A2 := ⟨_, rfl⟩
  obtain ⟨p, hp⟩ : ∃ p, n - k = p := ⟨_, rfl⟩
  have hCX : ∀ w, Below W.heap.size W w → Kd.C (Kd.int .i32) w A k X := fun w hb => by rw [← hX]; exact C_tk (Kd.C_below hC hb) hk
  have hCY : ∀ w, Below W.heap.size W w → Kd.C (Kd.int .i32) w A2 p Y := fun w hb => by
    have := C_dp (c := c) (Kd.C_below hC hb) hk hc
    rw [hA2, hY, hn, hp] at this
    exact this
  have hct1 := cut_lo A n c k (by rw [← hn]; exact hk) (by rw [← hn]; exact hc)
  have hct2 := cut_hi A n c k (by rw [← hn]; exact hk)
  rw [hA2, hp] at hct2
  have g1 : (n : Int) + (m : Int) = (q : Int) := by omega
  have g2 : q ≤ 1000000000 := by omega
  have h0 : ¬ (k : Int) < 0 := by omega
  have h1 : ¬ (n : Int) < (k : Int) := by omega
  have h2 : ¬ (20000 : Int) < (q : Int) := by omega
  have HM := Lib.hid hm
  have HX := Lib.hid (show X.length = k by rw [← hX, List.length_take, Nat.min_eq_left hk])
  have HZ := Lib.hid (show k + m + p ≤ 100000 by omega)
  have hw : wrap64 ((n : Int) + (m : Int)) = (q : Int) := w_nat g1 g2
  rw [hn, hX, hY]
  clear g1 g2 hC hc hs ht hk hl hn hm hq hX hY hA2 hp
  go_enter Tryd.func26, Tryd.ntmps26
  go_wp2_with (first
    | (go_at_call 12; refine hS.mono ?_; rintro e w1 ⟨v, rfl, hv, hb⟩; obtain ⟨A1, c1, rfl⟩ := Kd.R_slice hv; rw [HM.out] at hv ⊢; have HV := Lib.hid hv; have HB := Lib.hid hb; clear hv hb hS)
    | ((with_reducible refine gate_dst (N := 35) rfl ?_); refine Kd.R_lit (Kd.int .i32) _ 21 ?hg (N := 35) ?hd (xs := ([] : List Int)) (inner := []) (ok := fun _ => True) (okp := fun _ => True) ?hr ?hp (fun _ hk => hk) trivial (Below.refl _ _) (Nat.le_refl _) (by simp) ?_; (case hd => rfl); (case hg => rfl); (case hr => first | (go_simp; done) | (go_simp; rfl)); (case hp => exact (Reps.none _ _)); intro v2 w2 ho hb hg_ hnew_; clear hg_ hnew_; have HO := Lib.hid (Kd.R_lower ho (q_B HB).size); have HV2 := Lib.hid (Kd.R_elder' (q_R HV) (Kd.R_base ho) hb); have HB2 := Lib.hid (below_step (q_B HB) hb); clear HB HV ho hb; have HB := HB2; have HV := HV2; clear HB2 HV2)
    | ((with_reducible refine gate_builtin (b := .append) (xs := #[.tmp 35, .tmp 38]) rfl ?_); at_builtin; refine Kd.R_append_rows (Kd.int .i32) (w0 := W) W.heap.size rfl (.tmp 35) (.tmp 38) 33 21 (.int .i32 0) 4 rfl Tryd.underlying33 info21 rfl (by decide) (by omega) v2 ([] : List Int) X _ _ _ (fun _ => True) (fun _ => False) rfl rfl ?aO ?aR (fun _ _ h => h) (fun _ h => h.elim) (fun _ _ => trivial) ?aB ?aS ?aL ?_; (case aO => exact q_R HO); (case aR => exact hCX _ (q_B HB)); (case aB => exact q_B HB); (case aS => exact (q_B HB).size); (case aL => have := HZ.out; simp only [List.length_nil]; omega); intro v3 w3 ho hb hg hat; have HV2 := Lib.hid (Kd.R_after (q_R HV) hg hat); clear HV; have HV := HV2; clear HV2; clear HO HB; have HO := Lib.hid ho; have HB := Lib.hid hb; clear ho hb hg hat)
    | ((with_reducible refine gate_builtin (b := .append) (xs := #[.tmp 40, .tmp 41]) rfl ?_); at_builtin; refine Kd.R_append_rows (Kd.int .i32) (w0 := W) W.heap.size rfl (.tmp 40) (.tmp 41) 33 21 (.int .i32 0) 4 rfl Tryd.underlying33 info21 rfl (by decide) (by omega) v3 ([] ++ X) t _ _ _ (fun _ => True) (fun _ => False) rfl rfl ?aO ?aR (fun _ _ h => h) (fun _ h => h.elim) (fun _ _ => trivial) ?aB ?aS ?aL ?_; (case aO => exact q_R HO); (case aR => exact (r_C HV HM)); (case aB => exact q_B HB); (case aS => exact (q_B HB).size); (case aL => have := HZ.out; simp only [List.length_append, List.length_nil, HX.out]; omega); intro v4 w3 ho hb hg hat; clear HO HB; have HO := Lib.hid ho; have HB := Lib.hid hb; clear ho hb hg hat)
    | ((with_reducible refine gate_builtin (b := .append) (xs := #[.tmp 43, .tmp 46]) rfl ?_); at_builtin; refine Kd.R_append_rows (Kd.int .i32) (w0 := W) W.heap.size rfl (.tmp 43) (.tmp 46) 33 21 (.int .i32 0) 4 rfl Tryd.underlying33 info21 rfl (by decide) (by omega) v4 ([] ++ X ++ t) Y _ _ _ (fun _ => True) (fun _ => False) rfl rfl ?aO ?aR (fun _ _ h => h) (fun _ h => h.elim) (fun _ _ => trivial) ?aB ?aS ?aL ?_; (case aO => exact q_R HO); (case aR => exact hCY _ (q_B HB)); (case aB => exact q_B HB); (case aS => exact (q_B HB).size); (case aL => have := HZ.out; simp only [List.length_append, List.length_nil, HX.out, HM.out]; omega); intro v5 w3 ho hb hg hat; clear HO HB; have HO := Lib.hid ho; have HB := Lib.hid hb; clear ho hb hg hat))
  go_ret2
  exact ⟨_, rfl, by have := HO.out; rwa [List.nil_append] at this, HB.out⟩
end Go.Proofs.YtfhnepihbofabaaDoor.X
