/-
  package gap: parts, Slice, Text, Digest on a Buffer in memory: by this session. Conditions: as typed.
-/
import Derived.Test.YtfhnepihbofabaaDoorGap9
import Derived.Test.YtfhnepihbofabaaDoorConcat
import Derived.Test.YtfhnepihbofabaaDoorRefL
namespace Go.Proofs.YtfhnepihbofabaaDoor.X
open Go Go.RowKit Go.Lib Go.Shelf Go.Proofs.YtfhnepihbofabaaDoorW.PrintWords
set_option linter.unusedVariables false
theorem cut3 (A : Option Addr) (n c lo hi : Nat) (h1 : lo ≤ hi) (h2 : hi ≤ c) (W : World) : (Instr.slice 33 (.slice A n c) (some (.int .i64 (lo : Nat))) (some (.int .i64 (hi : Nat))) (some (.int .i64 (hi : Nat)))).run Tryd.prog W = .ok (.slice (if hi = lo then A else A.map (·.add lo)) (hi - lo) (hi - lo)) W := by
  have hz : ∀ w, (Go.sizeOf 21).run Tryd.prog w = .ok 1 w := Tryd.sizeOf21
  have hel : Tryd.prog.elem 33 = 21 := by simp [Program.elem, Tryd.underlying33]
  have hu : Tryd.prog.underlying 33 = some (.slice (Tryd.prog.elem 33)) := by rw [hel]; exact Tryd.underlying33
  rw [run_slice_lhm W 33 A n c hu .i64 .i64 .i64 (lo : Int) (hi : Int) (hi : Int) (by omega) (by omega) (by omega) (by omega), hel, hz]
  simp [sliced, Result.andThen]
set_option maxRecDepth 100000 in
set_option maxHeartbeats 8000000 in
theorem parts_raw (g at_ n e f l N cap c d h x y z k1 k2 : Nat) (A0 a1 a2 : Option Addr) (w : World) (c0 : w.cell? ⟨g, 0, none⟩ = some (.slice A0 N cap)) (c1 : w.cell? ⟨g, 1, none⟩ = some (.int .i64 (f : Nat))) (c2 : w.cell? ⟨g, 2, none⟩ = some (.int .i64 (l : Nat)))
    (E1 : (at_ : Int) + (n : Int) = (e : Int)) (hc : min (max (f : Int) (at_ : Int)) (e : Int) = (c : Int)) (E2 : (c : Int) + (l : Int) = (x : Int)) (E3 : (x : Int) - (f : Int) = (y : Int)) (hd : (c < f ∧ d = c) ∨ (¬ c < f ∧ d = y)) (E4 : (d : Int) + (e : Int) = (z : Int)) (E5 : (z : Int) - (c : Int) = (h : Int)) (hbig : e ≤ 1000000 ∧ x ≤ 1000000 ∧ y ≤ 1000000 ∧ z ≤ 1000000 ∧ h ≤ 1000000)
    (s1 : ∀ W, (Instr.slice 33 (.slice A0 N cap) (some (.int .i64 (at_ : Nat))) (some (.int .i64 (c : Nat))) (some (.int .i64 (c : Nat)))).run Tryd.prog W = .ok (.slice a1 k1 k1) W)
    (s2 : ∀ W, (Instr.slice 33 (.slice A0 N cap) (some (.int .i64 (d : Nat))) (some (.int .i64 (h : Nat))) (some (.int .i64 (h : Nat)))).run Tryd.prog W = .ok (.slice a2 k2 k2) W) :
    Calls Tryd.prog 39 #[.pointer (some ⟨g, 0, none⟩), .int .i64 at_, .int .i64 n] w fun e w' => e = .returned (.tuple #[.slice a1 k1 k1, .slice a2 k2 k2]) ∧ ∃ q, w' = w.drewN q := by
  have hu := Tryd.underlying68
  have hu3 := Tryd.underlying33
  have b1 : e ≤ 1000000000 := by omega
  have b2 : x ≤ 1000000000 := by omega
  have b3 : y ≤ 1000000000 := by omega
  have b4 : z ≤ 1000000000 := by omega
  have b5 : h ≤ 1000000000 := by omega
  clear hbig
  rcases hd with ⟨hcf, hdc⟩ | ⟨hcf, hdc⟩
  · have hcf' : (c : Int) < (f : Int) := by omega
    subst hdc
    have e1 : wrap64 ((at_ : Int) + (n : Int)) = (e : Int) := w_nat E1 b1
    have e2 : wrap64 ((d : Int) + (l : Int)) = (x : Int) := w_nat E2 b2
    have e3 : wrap64 ((x : Int) - (f : Int)) = (y : Int) := w_nat E3 b3
    have e4 : wrap64 ((d : Int) + (e : Int)) = (z : Int) := w_nat E4 b4
    have e5 : wrap64 ((z : Int) - (d : Int)) = (h : Int) := w_nat E5 b5
    have e2' : IntKind.i64.wrap ((d : Int) + (l : Int)) = (x : Int) := i_nat E2 b2
    have e3' : IntKind.i64.wrap ((x : Int) - (f : Int)) = (y : Int) := i_nat E3 b3
    have e4' : IntKind.i64.wrap ((d : Int) + (e : Int)) = (z : Int) := i_nat E4 b4
    have e5' : IntKind.i64.wrap ((z : Int) - (d : Int)) = (h : Int) := i_nat E5 b5
    clear E1 E2 E3 E4 E5 b1 b2 b3 b4 b5
    go_enter Tryd.func39, Tryd.ntmps39
    go_upto_region 3 with fail
    try rw [e1]
    go_upto_region 4 with fail
    go_quiet (fail)
    obtain ⟨w2, hw2⟩ : ∃ x, w.drewN nq = x := ⟨_, rfl⟩
    have c0' : w2.cell? ⟨g, 0, none⟩ = some (.slice A0 N cap) := hw2 ▸ c0
    have c1' : w2.cell? ⟨g, 1, none⟩ = some (.int .i64 (f : Nat)) := hw2 ▸ c1
    have HW := Lib.hid hw2
    rw [hw2]
    clear hw2 c0 c1 c2
    go_upto_region 7 with fail
    go_quiet (fail)
    go_wp2
    go_ret2
    exact ⟨rfl, _, by rw [← HW.out]; exact World.drewN_drewN _ _ _⟩
  · have hcf' : ¬ (c : Int) < (f : Int) := by omega
    subst hdc
    have e1 : wrap64 ((at_ : Int) + (n : Int)) = (e : Int) := w_nat E1 b1
    have e2 : wrap64 ((c : Int) + (l : Int)) = (x : Int) := w_nat E2 b2
    have e3 : wrap64 ((x : Int) - (f : Int)) = (d : Int) := w_nat E3 b3
    have e4 : wrap64 ((d : Int) + (e : Int)) = (z : Int) := w_nat E4 b4
    have e5 : wrap64 ((z : Int) - (c : Int)) = (h : Int) := w_nat E5 b5
    have e2' : IntKind.i64.wrap ((c : Int) + (l : Int)) = (x : Int) := i_nat E2 b2
    have e3' : IntKind.i64.wrap ((x : Int) - (f : Int)) = (d : Int) := i_nat E3 b3
    have e4' : IntKind.i64.wrap ((d : Int) + (e : Int)) = (z : Int) := i_nat E4 b4
    have e5' : IntKind.i64.wrap ((z : Int) - (c : Int)) = (h : Int) := i_nat E5 b5
    clear E1 E2 E3 E4 E5 b1 b2 b3 b4 b5
    go_enter Tryd.func39, Tryd.ntmps39
    go_upto_region 3 with fail
    try rw [e1]
    go_upto_region 4 with fail
    go_quiet (fail)
    obtain ⟨w2, hw2⟩ : ∃ x, w.drewN nq = x := ⟨_, rfl⟩
    have c0' : w2.cell? ⟨g, 0, none⟩ = some (.slice A0 N cap) := hw2 ▸ c0
    have c1' : w2.cell? ⟨g, 1, none⟩ = some (.int .i64 (f : Nat)) := hw2 ▸ c1
    have HW := Lib.hid hw2
    rw [hw2]
    clear hw2 c0 c1 c2
    go_upto_region 7 with fail
    go_quiet (fail)
    go_wp2
    go_ret2
    exact ⟨rfl, _, by rw [← HW.out]; exact World.drewN_drewN _ _ _⟩
theorem C_mid3 {W : World} {A : Option Addr} {xs : List Int} {lo hi : Nat} (h : Kd.C (Kd.int .i32) W A xs.length xs) (h1 : lo ≤ hi) (h2 : hi ≤ xs.length) : Kd.C (Kd.int .i32) W (if hi = lo then A else A.map (·.add lo)) ((xs.take hi).drop lo).length ((xs.take hi).drop lo) := by
  have hl : (xs.take hi).length = hi := by rw [List.length_take]; omega
  have := Kd.C_drop (c := hi) (Kd.C_take h h2) (m := lo) (by omega) (by omega)
  simpa [Kd.int, Kd.scalar] using this
theorem lists_low {A mid B : List Int} {at_ n : Nat} (h : at_ + n ≤ A.length) : ((A ++ mid ++ B).take (at_ + n)).drop at_ = ((A ++ B).drop at_).take n := by
  rw [List.take_drop, List.append_assoc, List.take_append_of_le_length h, List.take_append_of_le_length h]
theorem lists_mid {A mid B : List Int} {at_ n : Nat} (h1 : at_ ≤ A.length) (h2 : A.length ≤ at_ + n) : ((A ++ mid ++ B).take A.length).drop at_ ++ ((A ++ mid ++ B).take (at_ + n + mid.length)).drop (A.length + mid.length) = ((A ++ B).drop at_).take n := by
  have hAm : (A ++ mid).length = A.length + mid.length := List.length_append
  rw [List.take_drop, show at_ + n = A.length + (at_ + n - A.length) by omega, List.take_length_add_append, List.drop_append_of_le_length h1]
  obtain ⟨k, hk⟩ : ∃ k, at_ + n - A.length = k := ⟨_, rfl⟩
  rw [hk, show A.length + k + mid.length = (A ++ mid).length + k by omega, List.take_length_add_append, ← hAm, List.drop_left, List.append_assoc A mid B, List.take_left]
theorem lists_high {A mid B : List Int} {at_ n : Nat} (h1 : A.length ≤ at_) : ((A ++ mid ++ B).take (at_ + n + mid.length)).drop (at_ + mid.length) = ((A ++ B).drop at_).take n := by
  have hAm : (A ++ mid).length = A.length + mid.length := List.length_append
  obtain ⟨k, hk⟩ : ∃ k, at_ = A.length + k := ⟨at_ - A.length, by omega⟩
  rw [List.take_drop, hk, show A.length + k + n + mid.length = (A ++ mid).length + (k + n) by omega, List.take_length_add_append, show A.length + k + mid.length = (A ++ mid).length + k by omega, List.drop_length_add_append, show A.length + k + n = A.length + (k + n) by omega, List.take_length_add_append, List.drop_length_add_append]
theorem parts_z {W : World} {X : Nat → Prop} {g m : Nat} {A B ah be : List Int} (at_ n : Nat) (h : Zip W X g A m B ah be) (hb : A.length + m + B.length ≤ 60000) (hn : at_ + n ≤ A.length + B.length) :
    ∃ a1 a2 l1 l2, l1 ++ l2 = ((A ++ B).drop at_).take n ∧ Kd.C (Kd.int .i32) W a1 l1.length l1 ∧ Kd.C (Kd.int .i32) W a2 l2.length l2 ∧ Calls Tryd.prog 39 #[.pointer (some ⟨g, 0, none⟩), .int .i64 at_, .int .i64 n] W fun e w' => e = .returned (.tuple #[.slice a1 l1.length l1.length, .slice a2 l2.length l2.length]) ∧ ∃ q, w' = W.drewN q := by
  obtain ⟨mid, vr, va, vb, hm, hz⟩ := h
  obtain ⟨A0, cap, rfl, hcap, hC⟩ := Kd.R_reads hz.room
  have hN : (A ++ mid ++ B).length = A.length + m + B.length := by rw [List.length_append, List.length_append, hm]
  have c0 : W.cell? ⟨g, 0, none⟩ = some (.slice A0 (A ++ mid ++ B).length cap) := (blk_cell hz.blk 0).trans rfl
  have c1 : W.cell? ⟨g, 1, none⟩ = some (.int .i64 (A.length : Nat)) := (blk_cell hz.blk 1).trans rfl
  have c2 : W.cell? ⟨g, 2, none⟩ = some (.int .i64 (A.length + m : Nat)) := (blk_cell hz.blk 2).trans (by rw [← hm]; rfl)
  have key : ∀ (c d h x y z : Nat) (hc : min (max (A.length : Int) (at_ : Int)) ((at_ + n : Nat) : Int) = (c : Int)) (hx : c + (A.length + m) = x) (hy : x - A.length = y) (hd : (c < A.length ∧ d = c) ∨ (¬ c < A.length ∧ d = y)) (hz1 : d + (at_ + n) = z) (hh : z - c = h) (h1 : at_ ≤ c) (h2 : c ≤ (A ++ mid ++ B).length) (h3 : d ≤ h) (h4 : h ≤ (A ++ mid ++ B).length) (hcc : c ≤ at_ + n)
      (hl : ((A ++ mid ++ B).take c).drop at_ ++ ((A ++ mid ++ B).take h).drop d = ((A ++ B).drop at_).take n),
      ∃ a1 a2 l1 l2, l1 ++ l2 = ((A ++ B).drop at_).take n ∧ Kd.C (Kd.int .i32) W a1 l1.length l1 ∧ Kd.C (Kd.int .i32) W a2 l2.length l2 ∧ Calls Tryd.prog 39 #[.pointer (some ⟨g, 0, none⟩), .int .i64 at_, .int .i64 n] W fun e w' => e = .returned (.tuple #[.slice a1 l1.length l1.length, .slice a2 l2.length l2.length]) ∧ ∃ q, w' = W.drewN q := by
    intro c d h x y z hc hx hy hd hz1 hh h1 h2 h3 h4 hcc hl
    refine ⟨_, _, _, _, hl, C_mid3 hC h1 h2, C_mid3 hC h3 h4, ?_⟩
    have l1 : (((A ++ mid ++ B).take c).drop at_).length = c - at_ := by rw [List.length_drop, List.length_take, Nat.min_eq_left h2]
    have l2 : (((A ++ mid ++ B).take h).drop d).length = h - d := by rw [List.length_drop, List.length_take, Nat.min_eq_left h4]
    rw [l1, l2]
    exact parts_raw g at_ n (at_ + n) A.length (A.length + m) _ cap c d h x y z (c - at_) (h - d) A0 _ _ W c0 c1 c2 (by omega) hc (by omega) (by omega) hd (by omega) (by omega) (by omega) (fun W => cut3 A0 _ cap at_ c h1 (by omega) W) (fun W => cut3 A0 _ cap d h h3 (by omega) W)
  by_cases h1 : at_ + n < A.length
  · refine key (at_ + n) (at_ + n) (at_ + n) _ _ _ (by omega) rfl rfl (.inl ⟨h1, rfl⟩) rfl (by omega) (by omega) (by omega) (by omega) (by omega) (by omega) ?_
    rw [lists_low (by omega), List.drop_eq_nil_of_le (show ((A ++ mid ++ B).take (at_ + n)).length ≤ at_ + n by rw [List.length_take]; omega), List.append_nil]
  · by_cases h2 : at_ ≤ A.length
    · refine key A.length (A.length + m) (at_ + n + m) _ _ _ (by omega) rfl rfl (.inr ⟨by omega, by omega⟩) rfl (by omega) (by omega) (by omega) (by omega) (by omega) (by omega) ?_
      have := lists_mid (mid := mid) (B := B) h2 (show A.length ≤ at_ + n by omega)
      rw [hm] at this
      exact this
    · refine key at_ (at_ + m) (at_ + n + m) _ _ _ (by omega) rfl rfl (.inr ⟨by omega, by omega⟩) rfl (by omega) (by omega) (by omega) (by omega) (by omega) (by omega) ?_
      have := lists_high (mid := mid) (B := B) (n := n) (show A.length ≤ at_ by omega)
      rw [hm] at this
      rw [List.drop_eq_nil_of_le (show ((A ++ mid ++ B).take at_).length ≤ at_ by rw [List.length_take]; omega), List.nil_append]
      exact this
theorem two_C {W : World} {H : Nat} {a1 a2 : Option Addr} {l1 l2 : List Int} (h : W.heap[H]? = some (.cells #[.slice a1 l1.length l1.length, .slice a2 l2.length l2.length] 33 (0, 0))) (h1 : Kd.C (Kd.int .i32) W a1 l1.length l1) (h2 : Kd.C (Kd.int .i32) W a2 l2.length l2) : Kd.C (Kd.slice 21 (Kd.int .i32)) W (some ⟨H, 0, none⟩) ([l1, l2] : List (List Int)).length [l1, l2] := by
  refine ⟨rfl, by simp, fun _ => ⟨_, rfl, fun j x hj => ?_⟩⟩
  rcases j with _ | _ | j
  · cases hj
    refine ⟨[.slice a1 l1.length l1.length], rfl, ⟨a1, _, rfl, Nat.le_refl _, h1⟩, fun i u hu => ?_⟩
    rcases i with _ | i
    · rw [show (⟨H, 0, none⟩ : Addr).add (0 * (Kd.slice 21 (Kd.int .i32)).sz + 0) = ⟨H, 0, none⟩ from Addr.add_lit _ _ _, blk_cell h 0]
      exact hu
    · cases hu
  · cases hj
    refine ⟨[.slice a2 l2.length l2.length], rfl, ⟨a2, _, rfl, Nat.le_refl _, h2⟩, fun i u hu => ?_⟩
    rcases i with _ | i
    · rw [show (⟨H, 0, none⟩ : Addr).add ((0 + 1) * (Kd.slice 21 (Kd.int .i32)).sz + 0) = ⟨H, 1, none⟩ from Addr.add_lit _ _ _, blk_cell h 1]
      exact hu
    · cases hu
  · cases hj
theorem len_w {W : World} {X : Nat → Prop} {g : Nat} {L : List Int} (h : Buf W X g L) :
    Calls Tryd.prog 19 #[.pointer (some ⟨g, 0, none⟩)] W fun e w' => e = .returned (.int .i64 (L.length : Int)) ∧ Below W.heap.size W w' := by
  obtain ⟨A, m, B, h1, h2, h3, h⟩ := h
  refine (len_z h (by omega)).mono ?_
  rintro e w' ⟨rfl, q, rfl⟩
  exact ⟨by rw [← h1, List.length_append], pw_below_drewN (Below.refl _ _) q⟩
theorem run_w {W : World} {X : Nat → Prop} {g : Nat} {L : List Int} (h : Buf W X g L) (at_ n : Int) :
    Calls Tryd.prog 38 #[.pointer (some ⟨g, 0, none⟩), .int .i64 at_, .int .i64 n] W fun e w' => e = .returned (.bool (decide (0 ≤ at_ ∧ at_ ≤ (L.length : Int) ∧ 0 ≤ n ∧ n ≤ (L.length : Int) - at_))) ∧ Below W.heap.size W w' := by
  obtain ⟨A, m, B, h1, h2, h3, h⟩ := h
  have := run_z h (by omega) at_ n
  rw [show A.length + B.length = L.length by rw [← h1, List.length_append]] at this
  refine this.mono ?_
  rintro e w' ⟨rfl, q, rfl⟩
  exact ⟨rfl, pw_below_drewN (Below.refl _ _) q⟩
/-- The text of runes, or none where one of them is none. -/
def joinS (l : List Int) : ByteArray := (if allRunes l = true then (strOfNums (l.flatMap Lib.encodeRuneZ), (0 : Int)) else (⟨#[]⟩, 2)).1
def sliceR (L : List Int) (at_ n : Int) : ByteArray × Int := if 0 ≤ at_ ∧ at_ ≤ (L.length : Int) ∧ 0 ≤ n ∧ n ≤ (L.length : Int) - at_ then (joinS ((L.drop at_.toNat).take n.toNat), 0) else (⟨#[]⟩, 3)
set_option maxRecDepth 100000 in
set_option maxHeartbeats 8000000 in
theorem slice_no {W : World} {X : Nat → Prop} {g : Nat} {L : List Int} (at_ n : Int) (h : Buf W X g L) (hc : ¬ (0 ≤ at_ ∧ at_ ≤ (L.length : Int) ∧ 0 ≤ n ∧ n ≤ (L.length : Int) - at_)) :
    Calls Tryd.prog 21 #[.pointer (some ⟨g, 0, none⟩), .int .i64 at_, .int .i64 n] W fun e w' => e = .returned (.tuple #[.string ⟨#[]⟩, .int .i64 3]) ∧ Below W.heap.size W w' := by
  have hR := run_w h at_ n
  rw [decide_eq_false hc] at hR
  clear h hc
  go_enter Tryd.func21, Tryd.ntmps21
  go_wp2_with (go_at_call 38; refine hR.mono ?_; rintro e w1 ⟨rfl, hb⟩)
  go_ret2
  exact ⟨rfl, hb⟩
set_option maxRecDepth 100000 in
set_option maxHeartbeats 8000000 in
theorem slice_ok {W : World} {X : Nat → Prop} {g : Nat} {L : List Int} (at_ n : Nat) (h : Buf W X g L) (hc : at_ + n ≤ L.length) :
    Calls Tryd.prog 21 #[.pointer (some ⟨g, 0, none⟩), .int .i64 at_, .int .i64 n] W fun e w' => e = .returned (.tuple #[.string (joinS ((L.drop at_).take n)), .int .i64 0]) ∧ Below W.heap.size W w' := by
  have hR := run_w h at_ n
  rw [decide_eq_true (show 0 ≤ (at_ : Int) ∧ (at_ : Int) ≤ (L.length : Int) ∧ 0 ≤ (n : Int) ∧ (n : Int) ≤ (L.length : Int) - (at_ : Int) by omega)] at hR
  have hL2 : L.length ≤ 20000 := by obtain ⟨A, m, B, h1, h2, h3, h⟩ := h; exact h3
  obtain ⟨T, hT⟩ : ∃ T, (L.drop at_).take n = T := ⟨_, rfl⟩
  have hTl : T.length ≤ 20000 := by rw [← hT, List.length_take, List.length_drop]; omega
  have hP : ∀ W', Buf W' X g L → ∃ a1 a2 l1 l2, l1 ++ l2 = T ∧ Kd.C (Kd.int .i32) W' a1 l1.length l1 ∧ Kd.C (Kd.int .i32) W' a2 l2.length l2 ∧ Calls Tryd.prog 39 #[.pointer (some ⟨g, 0, none⟩), .int .i64 at_, .int .i64 n] W' fun e w' => e = .returned (.tuple #[.slice a1 l1.length l1.length, .slice a2 l2.length l2.length]) ∧ ∃ q, w' = W'.drewN q := fun W' h => by
    obtain ⟨A, m, B, h1, h2, h3, h⟩ := h
    have hABn : A.length + B.length = L.length := by rw [← List.length_append, h1]
    have := parts_z at_ n h (by omega) (by omega)
    rw [h1, hT] at this
    exact this
  rw [hT]
  obtain ⟨S, hS⟩ : ∃ S, joinS T = S := ⟨_, rfl⟩
  rw [hS]
  unfold joinS at hS
  obtain ⟨E, hE⟩ : ∃ E, (if allRunes T = true then (strOfNums (T.flatMap Lib.encodeRuneZ), (0 : Int)) else (⟨#[]⟩, 2)).2 = E := ⟨_, rfl⟩
  have HS := Lib.hid (show (if allRunes T = true then (strOfNums (T.flatMap Lib.encodeRuneZ), (0 : Int)) else (⟨#[]⟩, 2)) = (S, E) from Prod.ext hS hE)
  have HTl := Lib.hid hTl
  have HBuf := Lib.hid h
  clear hS hE hT hTl h hc hL2
  go_enter Tryd.func21, Tryd.ntmps21
  go_upto_region 5 with (go_at_call 38; refine hR.mono ?_; rintro e w1 ⟨rfl, hb⟩)
  obtain ⟨a1, a2, l1, l2, hl, hC1, hC2, hcall⟩ := hP w1 (HBuf.out.below hb)
  have HB := Lib.hid hb
  have HC := Lib.hid (And.intro hl (And.intro hC1 hC2))
  clear hP hR hb hl hC1 hC2
  go_upto_region 6 with (go_at_call 39; refine hcall.mono ?_; rintro e w2 ⟨rfl, q, rfl⟩)
  obtain ⟨W2, hW2⟩ : ∃ x, w1.drewN q = x := ⟨_, rfl⟩
  have hb2 : Below w1.heap.size w1 W2 := hW2 ▸ pw_below_drewN (Below.refl _ _) q
  rw [hW2]
  clear hW2 hcall
  obtain ⟨W3, hW3⟩ : ∃ x, W2.alloc (.cells #[.slice a1 l1.length l1.length, .slice a2 l2.length l2.length] 33) = x := ⟨_, rfl⟩
  have hb3 : Below w1.heap.size w1 W3 := hW3 ▸ below_alloc hb2 _
  have hh3 : W3.heap[W2.heap.size]? = some (.cells #[.slice a1 l1.length l1.length, .slice a2 l2.length l2.length] 33 (0, 0)) := hW3 ▸ Deep.blk_alloc_new W2 _
  have hcc := concat_calls (some ⟨W2.heap.size, 0, none⟩) 2 [l1, l2] W3 (two_C hh3 (Kd.C_below HC.out.2.1 hb3) (Kd.C_below HC.out.2.2 hb3)) (by have h1 := HC.out.1; have h2 := HTl.out; rw [← h1] at h2; simpa using Nat.le_trans h2 (by decide)) (by simp)
  rw [show ([l1, l2] : List (List Int)).flatten = T by rw [← HC.out.1]; simp] at hcc
  have H3 := Lib.hid (And.intro hb3 hW3)
  clear hh3 hb3 hW3 hb2
  go_wp2_with (first
    | (go_at_call 41; rw [H3.out.2]; refine hcc.mono ?_; rintro e w4 ⟨v, rfl, hv, hb4⟩; obtain ⟨A4, c4, rfl, hc4, hC4⟩ := Kd.R_reads hv; have hj := join_calls A4 c4 T w4 hC4 hc4 (Nat.le_trans HTl.out (by decide)) S E HS.out; have HB4 := Lib.hid hb4; clear hcc hv hb4 hC4)
    | (go_at_call 40; refine hj.mono ?_; rintro e w5 ⟨rfl, hb5⟩))
  go_ret2
  have hb : Below w1.heap.size w1 w5 := below_step (below_step H3.out.1 HB4.out) hb5
  exact ⟨rfl, below_step HB.out hb⟩
theorem slice_b {W : World} {X : Nat → Prop} {g : Nat} {L : List Int} (at_ n : Int) (h : Buf W X g L) :
    Calls Tryd.prog 21 #[.pointer (some ⟨g, 0, none⟩), .int .i64 at_, .int .i64 n] W fun e w' => e = .returned (.tuple #[.string (sliceR L at_ n).1, .int .i64 (sliceR L at_ n).2]) ∧ Below W.heap.size W w' := by
  unfold sliceR
  by_cases hc : 0 ≤ at_ ∧ at_ ≤ (L.length : Int) ∧ 0 ≤ n ∧ n ≤ (L.length : Int) - at_
  · have := slice_ok (X := X) at_.toNat n.toNat h (by omega)
    rw [Int.toNat_of_nonneg hc.1, Int.toNat_of_nonneg hc.2.2.1] at this
    simpa only [if_pos hc] using this
  · have := slice_no at_ n h hc
    simpa only [if_neg hc] using this
set_option maxRecDepth 100000 in
set_option maxHeartbeats 8000000 in
theorem text_b {W : World} {X : Nat → Prop} {g : Nat} {L : List Int} (h : Buf W X g L) :
    Calls Tryd.prog 13 #[.pointer (some ⟨g, 0, none⟩)] W fun e w' => e = .returned (.string (joinS L)) ∧ Below W.heap.size W w' := by
  have hL := len_w h
  have hSl : ∀ W', Buf W' X g L → Calls Tryd.prog 21 #[.pointer (some ⟨g, 0, none⟩), .int .i64 0, .int .i64 (L.length : Nat)] W' fun e w' => e = .returned (.tuple #[.string (joinS L), .int .i64 0]) ∧ Below W'.heap.size W' w' := fun W' h => by
    have := slice_ok (X := X) 0 L.length h (by omega)
    rw [List.drop_zero, List.take_length] at this
    exact this
  obtain ⟨S, hS⟩ : ∃ S, joinS L = S := ⟨_, rfl⟩
  obtain ⟨n, hn⟩ : ∃ n, L.length = n := ⟨_, rfl⟩
  rw [hS] at hSl ⊢
  rw [hn] at hL hSl
  have HBuf := Lib.hid h
  clear hS hn h
  go_enter Tryd.func13, Tryd.ntmps13
  go_wp2_with (first
    | (go_at_call 19; refine hL.mono ?_; rintro e w1 ⟨rfl, hb1⟩; have hs1 := hSl w1 (HBuf.out.below hb1))
    | (go_at_call 21; refine hs1.mono ?_; rintro e w2 ⟨rfl, hb2⟩))
  go_ret
  exact ⟨rfl, below_step hb1 hb2⟩
theorem slice_nil (at_ n : Int) (W : World) : Calls Tryd.prog 21 #[.pointer none, .int .i64 at_, .int .i64 n] W fun e w' => e = .returned (.tuple #[.string ⟨#[]⟩, .int .i64 1]) ∧ w' = W := by
  go_enter Tryd.func21, Tryd.ntmps21
  go_wp2
  go_ret2
  exact ⟨rfl, rfl⟩
theorem text_nil (W : World) : Calls Tryd.prog 13 #[.pointer none] W fun e w' => e = .returned (.string ⟨#[]⟩) ∧ w' = W := by
  go_enter Tryd.func13, Tryd.ntmps13
  go_wp2_with (first
    | (go_at_call 19; refine (len_none _).mono ?_; rintro e w1 ⟨rfl, rfl⟩)
    | (go_at_call 21; refine (slice_nil _ _ _).mono ?_; rintro e w2 ⟨rfl, rfl⟩))
  go_ret
  exact ⟨rfl, rfl⟩
theorem insert_nil (at_ : Int) (s : ByteArray) (W : World) : Calls Tryd.prog 18 #[.pointer none, .int .i64 at_, .string s] W fun e w' => e = .returned (.int .i64 1) ∧ w' = W := by
  go_enter Tryd.func18, Tryd.ntmps18
  go_wp2
  go_ret
  exact ⟨rfl, rfl⟩
theorem delete_nil (at_ n : Int) (W : World) : Calls Tryd.prog 22 #[.pointer none, .int .i64 at_, .int .i64 n] W fun e w' => e = .returned (.int .i64 1) ∧ w' = W := by
  go_enter Tryd.func22, Tryd.ntmps22
  go_wp2
  go_ret
  exact ⟨rfl, rfl⟩
theorem lines_w {W : World} {X : Nat → Prop} {g : Nat} {L : List Int} (h : Buf W X g L) :
    Calls Tryd.prog 25 #[.pointer (some ⟨g, 0, none⟩)] W fun e w' => e = .returned (.int .i64 (((fa L).length + 1 : Nat) : Int)) ∧ Below W.heap.size W w' := by
  obtain ⟨A, m, B, h1, h2, h3, h⟩ := h
  have hl := tot_len (tot_start A B)
  have hf := fa_len A
  have hg := fa_len B.reverse
  rw [List.length_reverse] at hg
  refine (lines_z h (by omega) (by omega)).mono ?_
  rintro e w' ⟨rfl, q, rfl⟩
  exact ⟨by rw [hl, h1], pw_below_drewN (Below.refl _ _) q⟩
theorem feed_w {W : World} {X : Nat → Prop} {g : Nat} {L : List Int} (h : Buf W X g L) (k : Nat) (x : Int) (hx : (fa L)[k]? = some x) :
    Calls Tryd.prog 33 #[.pointer (some ⟨g, 0, none⟩), .int .i64 k] W fun e w' => e = .returned (.int .i64 x) ∧ Below W.heap.size W w' := by
  obtain ⟨A, m, B, h1, h2, h3, h⟩ := h
  have hf := fa_len A
  have hg := fa_len B.reverse
  rw [List.length_reverse] at hg
  refine (feed_z h (by omega) (by omega) (by omega) (tot_start A B) k x (by rw [h1]; exact hx)).mono ?_
  rintro e w' ⟨rfl, q, rfl⟩
  exact ⟨rfl, pw_below_drewN (Below.refl _ _) q⟩
end Go.Proofs.YtfhnepihbofabaaDoor.X
