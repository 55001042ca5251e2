/-
  package gap's stack of integers: push, pop, top, by hand: by this session. Conditions: as typed.
-/
import Derived.Test.YtfhnepihbofabaaDoorProg
import Derived.WalkKit
import Derived.Test.YtfhnepihbofabaaDoorWWords
import Derived.Test.YtfhnepihbofabaaDoorWMore
import Derived.Test.YtfhnepihbofabaaDoorWApart
import Derived.Lib.Hide
import Derived.Deep.QuietTactic
import Derived.BigQuiet
namespace Go.Proofs.YtfhnepihbofabaaDoor.X
open Go Go.RowKit Go.Proofs.YtfhnepihbofabaaDoorW.PrintWords
set_option linter.unusedVariables false
/-- A row of one's own, of integers. -/
abbrev Ri (W : World) (base : Nat) (v : Value) (xs : List Int) : Prop := Kd.R (Kd.int .i64) 3 W base (fun _ => True) v xs
theorem rk_out {k : IntKind} {e : TypeId} {W : World} {base : Nat} {v : Value} {xs : List Int} (h : Kd.R (Kd.int k) e W base (fun _ => True) v xs) : (v = .slice none 0 0 ∧ xs = []) ∨ ∃ g cap cur, v = .slice (some ⟨g, 0, none⟩) xs.length cap ∧ base ≤ g ∧ W.heap[g]? = some (.cells cur e (0, 0)) ∧ xs.length ≤ cap ∧ cap ≤ maxLen ∧ cur.size = cap ∧ cur.toList.take xs.length = xs.map (Value.int k) := by
  obtain ⟨_, inner, hown, hr⟩ := h
  have hin : inner = xs.map (Value.int k) := by
    apply List.ext_getElem?
    intro j
    rw [List.getElem?_map]
    cases hx : xs[j]? with
    | none =>
      have hl := hr.1
      rw [List.getElem?_eq_none_iff] at hx
      rw [List.getElem?_eq_none (by rw [hl]; show xs.length * 1 ≤ j; omega)]
      rfl
    | some x =>
      have h2 : (inner.drop (j * 1)).take 1 = [Value.int k x] := hr.2 j x hx
      have h3 := congrArg (·[0]?) h2
      simp only [Nat.mul_one, List.getElem?_take, List.getElem?_drop, Nat.add_zero] at h3
      simpa using h3
  subst hin
  rcases hown.2 with ⟨hv, hn⟩ | ⟨g, cap, cur, hv, hb, hh, hle, hm, hs, ht⟩
  · exact .inl ⟨hv, List.eq_nil_of_length_eq_zero hn⟩
  · exact .inr ⟨g, cap, cur, hv, hb, hh, hle, hm, by simpa [Kd.int, Kd.scalar] using hs, by simpa [Kd.int, Kd.scalar] using ht⟩
theorem rk_in {k : IntKind} {e : TypeId} {W : World} {base g cap : Nat} {cur : Array Value} {xs : List Int} (hb : base ≤ g) (hh : W.heap[g]? = some (.cells cur e (0, 0))) (hle : xs.length ≤ cap) (hm : cap ≤ maxLen) (hs : cur.size = cap) (ht : cur.toList.take xs.length = xs.map (Value.int k)) : Kd.R (Kd.int k) e W base (fun _ => True) (.slice (some ⟨g, 0, none⟩) xs.length cap) xs := by
  refine ⟨fun _ _ => trivial, xs.map (Value.int k), ⟨by simp [Kd.int, Kd.scalar], .inr ⟨g, cap, cur, rfl, hb, hh, hle, hm, by simpa [Kd.int, Kd.scalar] using hs, by simpa [Kd.int, Kd.scalar] using ht⟩⟩, by simp [Kd.int, Kd.scalar], fun j x hx => ?_⟩
  show ((xs.map (Value.int k)).drop (j * 1)).take 1 = [Value.int k x]
  obtain ⟨hj, hx'⟩ := List.getElem?_eq_some_iff.1 hx
  rw [Nat.mul_one, List.drop_eq_getElem_cons (by simpa using hj)]
  simp [hx']
theorem ck_at {k : IntKind} {cur : Array Value} {xs : List Int} (ht : cur.toList.take xs.length = xs.map (Value.int k)) {t : Nat} {x : Int} (hx : xs[t]? = some x) : cur[t]? = some (.int k x) := by
  have hl := (List.getElem?_eq_some_iff.1 hx).1
  have h := congrArg (·[t]?) ht
  simp only [List.getElem?_take, List.getElem?_map, if_pos hl, hx, Option.map_some, Array.getElem?_toList] at h
  exact h
set_option maxRecDepth 100000 in
set_option maxHeartbeats 4000000 in
theorem top_none (g j c : Nat) (A : Option Addr) (w : World) (hc : w.cell? ⟨g, j, none⟩ = some (.slice A 0 c)) :
    Calls Tryd.prog 48 #[.pointer (some ⟨g, j, none⟩)] w fun e w' => e = .returned (.tuple #[.int .i64 0, .bool false]) ∧ w' = w := by
  have hu := Tryd.underlying66
  go_enter Tryd.func48, Tryd.ntmps48
  go_wp2
  go_ret2
  exact ⟨rfl, rfl⟩
set_option maxRecDepth 100000 in
set_option maxHeartbeats 4000000 in
theorem top_some (g j b n c : Nat) (x : Int) (w : World) (hc : w.cell? ⟨g, j, none⟩ = some (.slice (some ⟨b, 0, none⟩) (n + 1) c)) (hx : w.cell? ⟨b, n, none⟩ = some (.int .i64 x)) (hn : n ≤ 1099511627776) :
    Calls Tryd.prog 48 #[.pointer (some ⟨g, j, none⟩)] w fun e w' => e = .returned (.tuple #[.int .i64 x, .bool true]) ∧ ∃ q, w' = w.drewN q := by
  have hu := Tryd.underlying66
  have e1 : (((n + 1 : Nat) : Int) == 0) = false := beq_eq_false_iff_ne.2 (by omega)
  have e2 : wrap64 (((n + 1 : Nat) : Int) - 1) = (n : Int) := by unfold wrap64; omega
  have e3 : IntKind.i64.wrap (((n + 1 : Nat) : Int) - 1) = (n : Int) := by rw [IntKind.wrap_i64]; omega
  have e4 : (0 : Int) ≤ (n : Int) := by omega
  have e5 : (n : Int) < ((n + 1 : Nat) : Int) := by omega
  go_enter Tryd.func48, Tryd.ntmps48
  go_upto_region 4 with fail
  go_quiet (fail)
  go_wp2
  go_ret2
  exact ⟨rfl, _, rfl⟩
set_option maxRecDepth 100000 in
set_option maxHeartbeats 4000000 in
theorem pop_calls (g j b n c : Nat) (x : Int) (w : World) (hc : w.cell? ⟨g, j, none⟩ = some (.slice (some ⟨b, 0, none⟩) (n + 1) c)) (hf : w.frozen? ⟨g, j, none⟩ = false) (hx : w.cell? ⟨b, n, none⟩ = some (.int .i64 x)) (hn : n ≤ 1099511627776) (hnc : n + 1 ≤ c) (hc63 : c ≤ 9223372036854775807) :
    Calls Tryd.prog 42 #[.pointer (some ⟨g, j, none⟩)] w fun e w' => e = .returned (.int .i64 x) ∧ ∃ q, w' = ((w.drewN q).setCell ⟨g, j, none⟩ (.slice (some ⟨b, 0, none⟩) n c)).drew := by
  have hu := Tryd.underlying66
  have e2 : wrap64 (((n + 1 : Nat) : Int) - 1) = (n : Int) := by unfold wrap64; omega
  have e3 : IntKind.i64.wrap (((n + 1 : Nat) : Int) - 1) = (n : Int) := by rw [IntKind.wrap_i64]; omega
  have e4 : (0 : Int) ≤ (n : Int) := by omega
  have e5 : (n : Int) < ((n + 1 : Nat) : Int) := by omega
  have e6 : n ≤ c := by omega
  have e7 : (n : Int) ≤ (c : Int) := by omega
  go_enter Tryd.func42, Tryd.ntmps42
  go_upto_region 1 with fail
  go_quiet (fail)
  obtain ⟨W2, hW2⟩ : ∃ x, w.drewN nq = x := ⟨_, rfl⟩
  rw [hW2]
  have c2 : W2.cell? ⟨g, j, none⟩ = some (.slice (some ⟨b, 0, none⟩) (n + 1) c) := by rw [← hW2]; exact hc
  have f2 : W2.frozen? ⟨g, j, none⟩ = false := by rw [← hW2]; exact hf
  have HW := Lib.hid hW2
  clear hc hf hx hW2
  go_upto_region 2 with fail
  go_region
  go_wp2
  go_ret
  exact ⟨rfl, nq, by rw [HW.out]⟩
set_option maxRecDepth 100000 in
set_option maxHeartbeats 4000000 in
theorem len_calls (g n f l c : Nat) (A : Option Addr) (w : World) (h0 : w.cell? ⟨g, 0, none⟩ = some (.slice A n c)) (h1 : w.cell? ⟨g, 1, none⟩ = some (.int .i64 f)) (h2 : w.cell? ⟨g, 2, none⟩ = some (.int .i64 l)) (hfl : f ≤ l) (hln : l ≤ n) (hn : n ≤ 1099511627776) :
    Calls Tryd.prog 19 #[.pointer (some ⟨g, 0, none⟩)] w fun e w' => e = .returned (.int .i64 ((n - (l - f) : Nat) : Int)) ∧ ∃ q, w' = w.drewN q := by
  have hu := Tryd.underlying68
  have e1 : wrap64 ((l : Int) - (f : Int)) = ((l - f : Nat) : Int) := by unfold wrap64; omega
  have e2 : wrap64 ((n : Int) - ((l - f : Nat) : Int)) = ((n - (l - f) : Nat) : Int) := by unfold wrap64; omega
  go_enter Tryd.func19, Tryd.ntmps19
  go_upto_region 3 with fail
  go_quiet (fail)
  go_wp2
  go_ret
  exact ⟨by rw [show ((n - (l - f) : Nat) : Int) = (n : Int) - ((l : Int) - (f : Int)) by omega]; rfl, _, rfl⟩
theorem rk_kept {k : IntKind} {e : TypeId} {W W' : World} {base : Nat} {v : Value} {xs : List Int} (h : Kd.R (Kd.int k) e W base (fun _ => True) v xs) (hb : ∀ b, v.ownBlock = some b → W'.heap[b]? = W.heap[b]?) : Kd.R (Kd.int k) e W' base (fun _ => True) v xs :=
  Kd.R_reok rfl (Kd.R_step (Kd.R_tight rfl h) (fun b ho _ => hb b ho.symm)) (fun _ _ => trivial)
theorem info_int : (Tryd.prog.info? 3).map (fun i => (i.zero, i.size, i.bytes)) = some (some (.int .i64 0), 1, 8) := by kernel_rfl
set_option maxRecDepth 100000 in
set_option maxHeartbeats 4000000 in
theorem push_calls (base g j : Nat) (x : Int) (va : Value) (xs : List Int) (cs : Array Value) (w : World) (hR : Ri w base va xs) (hh : w.heap[g]? = some (.cells cs 68 (0, 0))) (hj : cs[j]? = some va) (hg : base ≤ g) (hne : some g ≠ va.ownBlock) (hb : base ≤ w.heap.size) (hn : xs.length ≤ 1099511627776) :
    Calls Tryd.prog 37 #[.pointer (some ⟨g, j, none⟩), .int .i64 x] w fun e w' => ∃ va', e = .returned (.tuple #[]) ∧ Ri w' base va' (xs ++ [x]) ∧ w'.heap[g]? = some (.cells (cs.setIfInBounds j va') 68 (0, 0)) ∧ (∀ k, k < w.heap.size → k ≠ g → some k ≠ va.ownBlock → w'.heap[k]? = w.heap[k]?) ∧
      (va'.ownBlock = va.ownBlock ∨ ∃ b, va'.ownBlock = some b ∧ w.heap.size ≤ b) ∧ w.heap.size ≤ w'.heap.size ∧ ∀ w0, Below base w0 w → Below base w0 w' := by
  have hu := Tryd.underlying66
  have hc : w.cell? ⟨g, j, none⟩ = some va := (blk_cell hh j).trans hj
  have lt : g < w.heap.size := blk_lt hh
  obtain ⟨A, c, rfl⟩ := Kd.R_slice hR
  have HR := Lib.hid hR
  have HK := Lib.hid (And.intro hh (And.intro hne lt))
  have HJ := Lib.hid hj
  clear hR hh hj hne
  go_enter Tryd.func37, Tryd.ntmps37
  go_wp2_with (at_builtin; refine Kd.R_append (Kd.int .i64) (w0 := w) base rfl (.tmp 8) (.tmp 10) 64 3 (.int .i64 0) 8 rfl Tryd.underlying64 info_int rfl (by decide) (by omega) (.slice A xs.length c) xs x [.int .i64 x] (fun _ => True) (fun _ => False) rfl rfl rfl (fun _ h => h.elim) (fun _ _ => trivial) HR.out (Below.refl _ _) hb (by omega) ?_; intro v1 w1 ho hb1 hg1 hat; obtain ⟨A1, c1', rfl⟩ := Kd.R_slice ho; have h1 := (hg1.block g HK.out.2.2 HK.out.2.1).trans HK.out.1; have c1 := (blk_cell h1 j).trans HJ.out; have f1 := blk_frozen h1 j; have HO := Lib.hid (And.intro (And.intro ho hb1) (And.intro hg1 (And.intro hat h1))); clear ho hb1 hg1 hat h1)
  go_end0
  obtain ⟨⟨ho, hb1⟩, hg1, hat, h1⟩ := HO.out
  obtain ⟨hh, hne, -⟩ := HK.out
  have hne1 : some g ≠ (Value.slice A1 (xs ++ [x]).length c1').ownBlock := by
    rcases hat with e | ⟨b, e, hb2⟩
    · rw [e]; exact hne
    · rw [e]; intro h; cases h; omega
  have hB := blk_put h1 j (.slice A1 (xs.length + 1) c1') rfl
  refine ⟨.slice A1 (xs ++ [x]).length c1', rfl, rk_kept ho (fun k e => Below.heap_setCell _ _ _ _ (fun h => hne1 (e.trans (congrArg some h)).symm)), ?_, fun k hk hkg hko => ?_, hat, ?_, fun w0 hb0 => ?_⟩
  · simpa using hB
  · rw [Below.heap_setCell _ _ _ _ hkg]; exact hg1.block k hk hko
  · exact Nat.le_trans hg1.size (by simp)
  · exact (hb0.grown hg1 hb (fun k e => by
      rcases rk_out HR.out with ⟨e2, _⟩ | ⟨b, cap, cur, e2, hb2, _⟩
      · rw [e2] at e; cases e
      · rw [e2] at e; cases e; exact hb2)).setCell hg _
end Go.Proofs.YtfhnepihbofabaaDoor.X
