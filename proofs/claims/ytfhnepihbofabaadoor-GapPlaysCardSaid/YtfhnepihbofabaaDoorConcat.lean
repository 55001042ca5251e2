/-
  slices.Grow of nil, and slices.Concat, of runes: their contracts in the print's form, by this session. Conditions: at most 2^40 runes in all.
-/
import Derived.Test.YtfhnepihbofabaaDoorExt
import Derived.Deep.LoopGhost
namespace Go.Proofs.YtfhnepihbofabaaDoor.X
open Go Go.RowKit Go.Shelf Go.Proofs.YtfhnepihbofabaaDoorW.PrintWords
set_option linter.unusedVariables false

theorem info_rune2 : (Tryd.prog.info? 21).map (fun i => (i.zero, i.size, i.bytes)) = some (some (.int .i32 0), 1, 4) := by kernel_rfl

set_option maxRecDepth 100000 in
set_option maxHeartbeats 4000000 in
theorem grow_nil (n : Nat) (hn : n ≤ 1099511627776) (w : World) :
    Calls Tryd.prog 51 #[.slice none 0 0, .int .i64 n] w fun e w' => ∃ v, e = .returned v ∧ Kd.R (Kd.int .i32) 21 w' w.heap.size (fun _ => True) v [] ∧ Below w.heap.size w w' := by
  have hd : decide ((n : Int) < 0) = false := decide_eq_false (by omega)
  have hw : wrap64 ((n : Int) - 0) = (n : Int) := by unfold wrap64; omega
  have hw2 : wrap64 (n : Int) = (n : Int) := by unfold wrap64; omega
  by_cases h0 : n = 0
  · subst h0
    go_enter Tryd.func51, Tryd.ntmps51
    go_wp2
    go_ret
    exact ⟨_, rfl, Kd.R_nil _ _ _ _ _, Below.refl _ _⟩
  · have g1 : decide ((0 : Int) < (n : Int)) = true := decide_eq_true (by omega)
    have g2 : decide (0 < n) = true := decide_eq_true (by omega)
    have g3 : 0 < n := by omega
    clear h0
    go_enter Tryd.func51, Tryd.ntmps51
    go_wp2_with ((with_reducible refine gate_dst (N := 22) rfl ?_); refine Kd.R_append_zeros (Kd.int .i32) (w0 := w) w.heap.size rfl (.tmp 20) (.tmp 21) 33 3 21 (.int .i32 0) 4 rfl Tryd.underlying33 (k := .i64) Tryd.underlying3 info_rune2 rfl (by decide) (by omega) (.slice none 0 0) [] 0 (n : Int) (fun _ => True) rfl rfl rfl (fun _ _ => trivial) (Kd.R_nil _ _ _ _ _) (by omega) (Below.refl _ _) (Nat.le_refl _) (by simp; omega) ?_; intro v1 w1 ho hb _ _; obtain ⟨A, c, rfl⟩ := Kd.R_slice ho)
    go_ret
    exact ⟨_, rfl, by have := Kd.R_take ho (m := 0) (Nat.zero_le _); simpa using this, hb⟩

def slices_Concat.f (l0 : List (List Int)) : Option (List Int) := if l0.flatten.length ≤ 1099511627776 then if l0.length ≤ 1099511627776 then some l0.flatten else none else none
theorem flat_next {l : List (List Int)} {i : Nat} (h : i < l.length) : (l.take (i + 1)).flatten = (l.take i).flatten ++ l.getD i [] := by
  rw [List.take_succ_eq_append_getElem h, List.flatten_append, List.getD_eq_getElem?_getD, List.getElem?_eq_getElem h]
  simp
theorem flat_le (l : List (List Int)) (i : Nat) : (l.take i).flatten.length ≤ l.flatten.length := by
  conv => rhs; rw [← List.take_append_drop i l, List.flatten_append, List.length_append]
  omega
set_option maxRecDepth 100000 in
set_option maxHeartbeats 8000000 in
theorem concat_calls (A0 : Option Addr) (c0 : Nat) (l0 : List (List Int)) (w : World) (hr0 : Kd.C (Kd.slice 21 (Kd.int .i32)) w A0 l0.length l0) (h1 : l0.flatten.length ≤ 1099511627776) (h2 : l0.length ≤ 1099511627776) :
    Calls Tryd.prog 41 #[.slice A0 l0.length c0] w fun e w' => ∃ v0_ : Value, e = .returned v0_ ∧ Kd.R (Kd.int .i32) 21 w' w.heap.size (fun _ => True) v0_ l0.flatten ∧ Below w.heap.size w w' := by
  have cG := grow_nil l0.flatten.length h1
  have HR := Lib.hid hr0
  have hget : ∀ i : Nat, i < l0.length → ∃ ad A c, A0 = some ad ∧ w.cell? (ad.add i) = some (.slice A (l0.getD i []).length c) ∧ (Kd.int .i32).C w A (l0.getD i []).length (l0.getD i []) := fun i hi => by
    obtain ⟨ad, c, e, _, hK, hc⟩ := Kd.C_get hr0 [] (i : Int) (by omega) (by omega)
    rw [Int.toNat_natCast] at hK hc
    obtain ⟨A, c', rfl, _, g⟩ := hK
    have h3 := hc 0 _ rfl
    have e1 : (Kd.slice 21 (Kd.int .i32)).sz = 1 := rfl
    rw [e1, Nat.mul_one, Nat.add_zero] at h3
    exact ⟨ad, A, c', e, h3, g⟩
  have HG := Lib.hid hget
  have H1 := Lib.hid h1
  have H2 := Lib.hid h2
  clear hr0 hget h1 h2
  go_enter Tryd.func41, Tryd.ntmps41
  go_wp2
  go_loopg [3, 11] l0.length (fun k u3 u11 wr => ∃ i : Nat, u3 = .int .i64 ((l0.take i).flatten.length : Nat) ∧ u11 = .int .i64 (i : Nat) ∧ Aside0 (i + k = l0.length) ∧ wr = w)
  case atStart => exact ⟨0, rfl, rfl, ⟨by omega⟩, rfl⟩
  case round =>
    obtain ⟨i, rfl, rfl, HI, rfl⟩ := hrel
    by_cases hi : i < l0.length
    · obtain ⟨ad, A, c, eA, hcell, _⟩ := HG.out i hi
      subst eA
      have e1 : decide ((i : Int) < (l0.length : Int)) = true := decide_eq_true (by omega)
      have e2 : decide (i < l0.length) = true := decide_eq_true hi
      have hfl := flat_le l0 (i + 1)
      have hfn := congrArg List.length (flat_next hi)
      rw [List.length_append] at hfn
      obtain ⟨S, hS⟩ : ∃ S, (l0.take i).flatten.length = S := ⟨_, rfl⟩
      obtain ⟨B, hB⟩ : ∃ B, (l0.getD i []).length = B := ⟨_, rfl⟩
      rw [hS, hB] at hfn
      rw [hB] at hcell
      rw [hS]
      have h3 := H1.out
      have h4 := H2.out
      have hw1 : wrap64 ((S : Int) + (B : Int)) = ((S + B : Nat) : Int) := by unfold wrap64; omega
      have hw2 : wrap64 ((i : Int) + 1) = ((i + 1 : Nat) : Int) := by unfold wrap64; omega
      have hn : decide (((S + B : Nat) : Int) < 0) = false := decide_eq_false (by omega)
      have hn2 : decide ((S : Int) + (B : Int) < 0) = false := decide_eq_false (by omega)
      have hi0 : (0 : Int) ≤ (i : Int) := by omega
      have hi1 : (i : Int) < (l0.length : Int) := by omega
      have HF := Lib.hid hfn
      clear hfl hfn hS hB h3 h4
      go_wp2
      go_roundg (gk - 1)
      case measure => have := HI.out; omega
      case rel => exact ⟨i + 1, by rw [HF.out]; first | rfl | rw [hw1], by first | rfl | rw [hw2], ⟨by have := HI.out; omega⟩, rfl⟩
    · have e1 : decide ((i : Int) < (l0.length : Int)) = false := decide_eq_false (by omega)
      have e2 : decide (i < l0.length) = false := decide_eq_false hi
      have hall : l0.take i = l0 := List.take_of_length_le (by omega)
      rw [hall]
      obtain ⟨T, hT⟩ : ∃ T, l0.flatten.length = T := ⟨_, rfl⟩
      rw [hT] at cG ⊢
      have HT := Lib.hid hT
      clear hi hall hT
      go_wp2_with (go_at_call 51; refine (cG _).mono ?_; rintro e w1 ⟨v, rfl, hv, hb⟩)
      have H0 := Lib.hid (show Kd.R (Kd.int .i32) 21 w1 wr.heap.size (fun _ => True) v [] ∧ Below wr.heap.size wr w1 from ⟨hv, hb⟩)
      clear hv hb cG
      obtain ⟨gk0, rfl⟩ : ∃ x, x = gk := ⟨_, rfl⟩
      obtain ⟨W, rfl⟩ : ∃ x, x = wr := ⟨_, rfl⟩
      try go_wp2
      go_loopg [6, 27] l0.length (fun k u6 u27 wr => ∃ i : Nat, u27 = .int .i64 (i : Nat) ∧ Aside0 (i + k = l0.length) ∧ Aside0 (Kd.R (Kd.int .i32) 21 wr W.heap.size (fun _ => True) u6 (l0.take i).flatten) ∧ Aside0 (Below W.heap.size W wr))
      case atStart => exact ⟨0, rfl, ⟨by omega⟩, ⟨H0.out.1⟩, ⟨H0.out.2⟩⟩
      case round =>
        obtain ⟨j, rfl, HJ, HO, HBl⟩ := hrel
        by_cases hj : j < l0.length
        · obtain ⟨ad, A, c, eA, hcell0, hrow0⟩ := HG.out j hj
          subst eA
          have e3 : decide ((j : Int) < (l0.length : Int)) = true := decide_eq_true (by omega)
          have e4 : decide (j < l0.length) = true := decide_eq_true hj
          have hlt := World.block_lt_of_cell? W (ad.add j) hcell0
          have hcell : wr.cell? (ad.add j) = some (.slice A (l0.getD j []).length c) := (HBl.out.cell hlt).trans hcell0
          have hrow := Kd.C_below hrow0 HBl.out
          have hfl := flat_le l0 (j + 1)
          have hfn := flat_next hj
          have hfm := congrArg List.length hfn
          rw [List.length_append] at hfm
          obtain ⟨ys, hys⟩ : ∃ ys, l0.getD j [] = ys := ⟨_, rfl⟩
          obtain ⟨xs, hxs⟩ : ∃ xs, (l0.take j).flatten = xs := ⟨_, rfl⟩
          rw [hys] at hcell hrow hfn hfm
          rw [hxs] at hfn hfm
          have HO2 : Kd.R (Kd.int .i32) 21 wr W.heap.size (fun _ => True) u6 xs := by rw [← hxs]; exact HO.out
          have hbd : (xs.length + ys.length) * 4 ≤ 140737488355328 := by have := H1.out; omega
          obtain ⟨B, hB⟩ : ∃ B, ys.length = B := ⟨_, rfl⟩
          rw [hB] at hcell hrow hbd
          have hw2 : wrap64 ((j : Int) + 1) = ((j + 1 : Nat) : Int) := by have := H2.out; unfold wrap64; omega
          have hj0 : (0 : Int) ≤ (j : Int) := by omega
          have hj1 : (j : Int) < (l0.length : Int) := by omega
          have HFN := Lib.hid hfn
          have hbl := HBl.out
          have hsz := hbl.size
          clear hcell0 hrow0 hfl hfn hfm hys hxs hB HO hlt
          go_wp2_with ((with_reducible refine gate_dst (N := 33) rfl ?_); refine Kd.R_append_rows (Kd.int .i32) (Rr := (Kd.int .i32).K wr) (w0 := W) W.heap.size rfl (.tmp 31) (.tmp 32) 33 21 (.int .i32 0) 4 rfl Tryd.underlying33 info_rune2 rfl (by decide) (by omega) u6 xs ys A B c (fun _ => True) (fun _ => False) rfl rfl HO2 hrow (fun _ _ h => h) (fun _ h => h.elim) (fun _ _ => trivial) hbl hsz hbd ?_; intro v5 w5 ho5 hb5 _ _)
          go_roundg (gk - 1)
          case measure => have := HJ.out; omega
          case rel => exact ⟨j + 1, by first | rfl | rw [hw2], ⟨by have := HJ.out; omega⟩, ⟨by rw [HFN.out]; exact ho5⟩, ⟨hb5⟩⟩
        · have e3 : decide ((j : Int) < (l0.length : Int)) = false := decide_eq_false (by omega)
          have e4 : decide (j < l0.length) = false := decide_eq_false hj
          have hall : l0.take j = l0 := List.take_of_length_le (by omega)
          have HO3 := Lib.hid (show Kd.R (Kd.int .i32) 21 wr W.heap.size (fun _ => True) u6 l0.flatten from by have h9 := HO.out; rw [hall] at h9; exact h9)
          clear hj hall HO
          go_wp2
          go_ret
          exact ⟨_, rfl, HO3.out, HBl.out⟩
theorem slices_Concat.calls (A0 : Option Addr) (c0 : Nat) (l0 : List (List Int)) (r : List Int) (w : World) (hr0 : Kd.C (Kd.slice 21 (Kd.int .i32)) w A0 l0.length l0) (hc0 : l0.length ≤ c0) (h : slices_Concat.f l0 = some r) :
    Calls Tryd.prog 41 #[.slice A0 l0.length c0] w fun e w' => ∃ v0_ : Value, e = .returned v0_ ∧ Kd.R (Kd.int .i32) 21 w' w.heap.size (fun _ => True) v0_ r ∧ Below w.heap.size w w' := by
  unfold slices_Concat.f at h
  split at h
  · rename_i h1
    split at h
    · rename_i h2
      obtain rfl := Option.some.inj h
      exact concat_calls A0 c0 l0 w hr0 h1 h2
    · cases h
  · cases h
end Go.Proofs.YtfhnepihbofabaaDoor.X
