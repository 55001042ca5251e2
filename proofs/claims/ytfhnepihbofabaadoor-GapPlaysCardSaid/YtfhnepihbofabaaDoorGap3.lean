/-
  package gap: Len, Lines, feedAt on a Buffer in memory, and Len and Lines of none: by this session. Conditions: as typed.
-/
import Derived.Test.YtfhnepihbofabaaDoorGap2
namespace Go.Proofs.YtfhnepihbofabaaDoor.X
open Go Go.RowKit Go.Proofs.YtfhnepihbofabaaDoorW.PrintWords
set_option linter.unusedVariables false
theorem len_z {W : World} {X : Nat → Prop} {g m : Nat} {A B ah be : List Int} (h : Zip W X g A m B ah be) (hb : A.length + m + B.length ≤ 1000000) :
    Calls Tryd.prog 19 #[.pointer (some ⟨g, 0, none⟩)] W fun e w' => e = .returned (.int .i64 ((A.length + B.length : Nat) : Int)) ∧ ∃ q, w' = W.drewN q := by
  obtain ⟨mid, vr, va, vb, hm, h⟩ := h
  obtain ⟨A0, c0, rfl⟩ := Kd.R_slice h.room
  refine (len_calls g (A ++ mid ++ B).length A.length (A.length + mid.length) c0 A0 W ((blk_cell h.blk 0).trans rfl) ((blk_cell h.blk 1).trans rfl) ((blk_cell h.blk 2).trans rfl) (by omega) (by simp) (by simp; omega)).mono ?_
  rintro e w' ⟨rfl, hw⟩
  refine ⟨?_, hw⟩
  rw [show (A ++ mid ++ B).length - (A.length + mid.length - A.length) = A.length + B.length by simp; omega]
theorem len_none (W : World) : Calls Tryd.prog 19 #[.pointer none] W fun e w' => e = .returned (.int .i64 0) ∧ w' = W := by
  go_enter Tryd.func19, Tryd.ntmps19
  go_wp2
  go_ret
  exact ⟨rfl, rfl⟩
theorem lines_none (W : World) : Calls Tryd.prog 25 #[.pointer none] W fun e w' => e = .returned (.int .i64 0) ∧ w' = W := by
  go_enter Tryd.func25, Tryd.ntmps25
  go_wp2
  go_ret
  exact ⟨rfl, rfl⟩
set_option maxRecDepth 100000 in
set_option maxHeartbeats 4000000 in
theorem lines_calls (g n k c3 c4 : Nat) (A3 A4 : Option Addr) (w : World) (h3 : w.cell? ⟨g, 3, none⟩ = some (.slice A3 n c3)) (h4 : w.cell? ⟨g, 4, none⟩ = some (.slice A4 k c4)) (hn : n ≤ 1099511627776) (hk : k ≤ 1099511627776) :
    Calls Tryd.prog 25 #[.pointer (some ⟨g, 0, none⟩)] w fun e w' => e = .returned (.int .i64 ((n + k + 1 : Nat) : Int)) ∧ ∃ q, w' = w.drewN q := by
  have hu := Tryd.underlying68
  have hu2 := Tryd.underlying66
  go_enter Tryd.func25, Tryd.ntmps25
  go_upto_region 3 with fail
  go_quiet (fail)
  go_wp2
  go_ret
  exact ⟨rfl, _, rfl⟩
theorem lines_z {W : World} {X : Nat → Prop} {g m : Nat} {A B ah be : List Int} (h : Zip W X g A m B ah be) (ha : ah.length ≤ 1000000) (hb : be.length ≤ 1000000) :
    Calls Tryd.prog 25 #[.pointer (some ⟨g, 0, none⟩)] W fun e w' => e = .returned (.int .i64 ((ah.length + be.length + 1 : Nat) : Int)) ∧ ∃ q, w' = W.drewN q := by
  obtain ⟨mid, vr, va, vb, hm, h⟩ := h
  obtain ⟨A3, c3, rfl⟩ := Kd.R_slice h.ra
  obtain ⟨A4, c4, rfl⟩ := Kd.R_slice h.rb
  exact lines_calls g ah.length be.length c3 c4 A3 A4 W ((blk_cell h.blk 3).trans rfl) ((blk_cell h.blk 4).trans rfl) (by omega) (by omega)
set_option maxRecDepth 100000 in
set_option maxHeartbeats 4000000 in
theorem feed_ahead (g n k c3 b : Nat) (x : Int) (w : World) (h3 : w.cell? ⟨g, 3, none⟩ = some (.slice (some ⟨b, 0, none⟩) n c3)) (hx : w.cell? ⟨b, k, none⟩ = some (.int .i64 x)) (hn : n ≤ 1099511627776) (hk : k < n) :
    Calls Tryd.prog 33 #[.pointer (some ⟨g, 0, none⟩), .int .i64 k] w fun e w' => e = .returned (.int .i64 x) ∧ ∃ q, w' = w.drewN q := by
  have hu := Tryd.underlying68
  have hu2 := Tryd.underlying66
  have e1 : (k : Int) < (n : Int) := by omega
  go_enter Tryd.func33, Tryd.ntmps33
  go_wp2
  all_goals go_ret
  all_goals exact ⟨rfl, 0, rfl⟩
set_option maxRecDepth 100000 in
set_option maxHeartbeats 4000000 in
theorem feed_behind (g n k c3 c4 b nb s : Nat) (A3 : Option Addr) (x : Int) (w : World) (h3 : w.cell? ⟨g, 3, none⟩ = some (.slice A3 n c3)) (h4 : w.cell? ⟨g, 4, none⟩ = some (.slice (some ⟨b, 0, none⟩) nb c4)) (hx : w.cell? ⟨b, nb - 1 - (k - n), none⟩ = some (.int .i64 x)) (hn : n ≤ 1000000) (hnb : nb ≤ 1000000) (hs : s ≤ 1000000) (hk : n ≤ k) (hk2 : k < n + nb) (hx1 : -1000000 ≤ x) (hx2 : x ≤ 1000000)
    (hL : ∀ q, Calls Tryd.prog 19 #[.pointer (some ⟨g, 0, none⟩)] (w.drewN q) fun e w' => e = .returned (.int .i64 (s : Int)) ∧ ∃ m, w' = (w.drewN q).drewN m) :
    Calls Tryd.prog 33 #[.pointer (some ⟨g, 0, none⟩), .int .i64 k] w fun e w' => e = .returned (.int .i64 ((s : Int) - 1 - x)) ∧ ∃ q, w' = w.drewN q := by
  have hu := Tryd.underlying68
  have hu2 := Tryd.underlying66
  have e1 : ¬ ((k : Int) < (n : Int)) := by omega
  have e2 : wrap64 ((k : Int) - (n : Int)) = ((k - n : Nat) : Int) := by unfold wrap64; omega
  obtain ⟨z, hz⟩ : ∃ z, k - n = z := ⟨_, rfl⟩
  rw [hz] at e2 hx
  obtain ⟨y, hy⟩ : ∃ y, nb - 1 - z = y := ⟨_, rfl⟩
  rw [hy] at hx
  have e3 : IntKind.i64.wrap (IntKind.i64.wrap ((nb : Int) - 1) - (z : Int)) = (y : Int) := by rw [IntKind.wrap_i64, IntKind.wrap_i64]; omega
  have e4 : wrap64 (wrap64 ((nb : Int) - 1) - (z : Int)) = (y : Int) := by unfold wrap64; omega
  have e5 : (0 : Int) ≤ (y : Int) := by omega
  have e6 : (y : Int) < (nb : Int) := by omega
  have e7 : wrap64 (wrap64 ((s : Int) - 1) - x) = (s : Int) - 1 - x := by unfold wrap64; omega
  have e8 : IntKind.i64.wrap (IntKind.i64.wrap ((s : Int) - 1) - x) = (s : Int) - 1 - x := by rw [IntKind.wrap_i64, IntKind.wrap_i64]; omega
  have e9 : (nb : Int) - 1 - (z : Int) = (y : Int) := by omega
  have e10 : IntKind.i64.wrap ((nb : Int) - 1 - (z : Int)) = (y : Int) := by rw [IntKind.wrap_i64]; omega
  have e11 : wrap64 ((nb : Int) - 1 - (z : Int)) = (y : Int) := by unfold wrap64; omega
  have e12 : wrap64 ((nb : Int) - 1) = (nb : Int) - 1 := by unfold wrap64; omega
  have e13 : IntKind.i64.wrap ((s : Int) - 1 - x) = (s : Int) - 1 - x := by rw [IntKind.wrap_i64]; omega
  have e14 : (k : Int) - (n : Int) = (z : Int) := by omega
  have e15 : (0 : Int) ≤ (nb : Int) - 1 - (z : Int) := by omega
  have e16 : (nb : Int) - 1 - (z : Int) < (nb : Int) := by omega
  have e17 : ((nb : Int) - 1 - (z : Int)).toNat = y := by omega
  clear hz hy
  have E14 := Lib.hid e14
  clear e14
  go_enter Tryd.func33, Tryd.ntmps33
  go_upto_region 4 with fail
  rw [E14.out]
  go_quiet ((go_at_call 19; refine Calls.quiet_of (hL _)))
  go_wp2
  go_ret
  exact ⟨rfl, _, rfl⟩
/-- The k-th feed. -/
theorem feed_z {W : World} {X : Nat → Prop} {g m : Nat} {A B ah be : List Int} (h : Zip W X g A m B ah be) (hb : A.length + m + B.length ≤ 1000000) (ha : ah.length ≤ 1000000) (hbe : be.length ≤ 1000000) (hT : Tot (A ++ B).length (fa (A ++ B)) ah be) (k : Nat) (x : Int) (hx : (fa (A ++ B))[k]? = some x) :
    Calls Tryd.prog 33 #[.pointer (some ⟨g, 0, none⟩), .int .i64 k] W fun e w' => e = .returned (.int .i64 x) ∧ ∃ q, w' = W.drewN q := by
  have hL : ∀ q, Calls Tryd.prog 19 #[.pointer (some ⟨g, 0, none⟩)] (W.drewN q) fun e w' => e = .returned (.int .i64 ((A.length + B.length : Nat) : Int)) ∧ ∃ m, w' = (W.drewN q).drewN m := fun q => len_z (h.drewN q) hb
  have hkl : k < (fa (A ++ B)).length := (List.getElem?_eq_some_iff.1 hx).1
  have htl := tot_len hT
  have hbnd : ∀ y ∈ be, 0 ≤ y ∧ y < ((A ++ B).length : Int) := fun y hy => tot_last hT (fun x hx => fa_mem hx) hy
  obtain ⟨mid, vr, va, vb, hm, h⟩ := h
  unfold Tot at hT
  by_cases hk : k < ah.length
  · rw [← hT, List.getElem?_append_left hk] at hx
    rcases rk_out h.ra with ⟨_, h2⟩ | ⟨b, cap, cur, rfl, _, hh, hle, hm2, hs, ht⟩
    · rw [h2] at hk; simp at hk
    · exact feed_ahead g ah.length k cap b x W ((blk_cell h.blk 3).trans rfl) ((blk_cell hh k).trans (ck_at ht hx)) (by omega) hk
  · rw [← hT, List.getElem?_append_right (by omega), List.getElem?_map, Option.map_eq_some_iff] at hx
    obtain ⟨y, hy, rfl⟩ := hx
    have hlt : k - ah.length < be.length := by
      have := (List.getElem?_eq_some_iff.1 hy).1
      simpa using this
    rw [List.getElem?_reverse hlt] at hy
    obtain ⟨A3, c3, rfl⟩ := Kd.R_slice h.ra
    rcases rk_out h.rb with ⟨_, h2⟩ | ⟨b, cap, cur, rfl, _, hh, hle, hm2, hs, ht⟩
    · rw [h2] at hlt; simp at hlt
    · have hyb := hbnd y (List.mem_of_getElem? hy)
      rw [List.length_append] at hyb
      have := feed_behind g ah.length k c3 cap b be.length (A.length + B.length) A3 y W ((blk_cell h.blk 3).trans rfl) ((blk_cell h.blk 4).trans rfl) ((blk_cell hh _).trans (ck_at ht hy)) ha hbe (by omega) (by omega) (by omega) (by omega) (by omega) hL
      rw [show ((A ++ B).length : Int) = ((A.length + B.length : Nat) : Int) by rw [List.length_append]]
      exact this
end Go.Proofs.YtfhnepihbofabaaDoor.X
