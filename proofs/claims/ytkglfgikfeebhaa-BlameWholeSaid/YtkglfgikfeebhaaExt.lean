/-
  What the printed texts lean on beside the print's own words, by this session: a make with a capacity; short words: walked by hand, in the print's form. Conditions: as typed.
-/
import Derived.Test.YtkglfgikfeebhaaShelf
import Derived.Below
import Derived.Lib.Hide
import Derived.OwnWalk
import Derived.Laws.MakeOwn
import Derived.Laws.OwnMore
import Derived.WalkKit
import Derived.Test.YtkglfgikfeebhaaWWords
import Derived.Test.YtkglfgikfeebhaaWMore
namespace Go.Proofs.YtkglfgikfeebhaaW.PrintWords
open Go Go.RowKit
set_option linter.unusedVariables false
variable {α : Type} {P : Program} {ops : Array Oper} {rest : List Oper} {o : Oper} {a : Act} {Q : Exit → Act → World → Prop}
/-- make([]T, 0, n): a row of its own, still empty. -/
theorem Kd.R_make0 (d : Kd α) {w0 W : World} (base e : Nat) (hgd : o.guard = none) {N : Tmp} (hd : o.dst = some N) (t : TypeId) (x y : Operand) (ho : o.op = .makeSlice t x y) (n : Int) (hx : a.eval x = .int .i64 0) (hy : a.eval y = .int .i64 n)
    (ht : P.underlying t = some (.slice e)) (z : Value) (bytes : Nat) (hinfo : (P.info? e).map (fun i => (i.zero, i.size, i.bytes)) = some (some z, d.sz, bytes)) (hz : z.cells.size = d.sz) (hs0 : 0 < d.sz) (hb0 : 0 < bytes)
    (z0 : α) {ok okp : Nat → Prop} (hzero : d.M W base okp z0 z.cells.toList) (hok : ∀ k, okp k → ok k) (hfresh : ok W.heap.size) (h0 : 0 ≤ n) (hl : n.toNat * bytes ≤ 281474976710656) (HB : Below base w0 W) (hbase : base ≤ W.heap.size)
    (h : ∀ v1 w1, d.R e w1 base ok v1 [] → Below base w0 w1 → W.grownBy w1 none → (∃ b, v1.ownBlock = some b ∧ W.heap.size ≤ b) → wpList P ops Q rest (a.put o.dst v1) w1) : wpList P ops Q (o :: rest) a W := by
  obtain ⟨m, rfl⟩ := Int.eq_ofNat_of_zero_le h0
  obtain ⟨i0, hi, hzz⟩ := Option.map_eq_some_iff.1 hinfo
  simp only [Prod.mk.injEq] at hzz
  obtain ⟨hz0, hz1, hz2⟩ := hzz
  simp only [Int.toNat_natCast] at hl
  have hm : m ≤ 281474976710656 := Nat.le_trans (Nat.le_mul_of_pos_right _ hb0) hl
  obtain ⟨w1, hr, hown, hg⟩ := run_make_own (P := P) W base t e i0 z d.sz ht hi hz0 hz1 .i64 .i64 m (by rw [hz2, Nat.mul_comm]; exact hl) (by unfold maxLen; omega) hbase
  refine event_run hgd (show (execOp a.eval o).run P W = .ok (.value (.slice (some ⟨W.heap.size, 0, none⟩) 0 m)) w1 by simp [execOp, ho, hx, hy, hr]) (h _ _ ⟨fun k hk => ?_, [], hown, Reps.none _ _⟩ (HB.grown hg hbase (fun k e => by cases e)) hg ⟨W.heap.size, by simp [Value.ownBlock], Nat.le_refl _⟩)
  have : W.heap.size = k := by simpa [Value.ownBlock] using hk
  subst this
  exact hfresh
end Go.Proofs.YtkglfgikfeebhaaW.PrintWords

namespace Go.Proofs.Ytkglfgikfeebhaa.X
open Go Go.RowKit Go.Proofs.YtkglfgikfeebhaaW.PrintWords
/-- What is known of a block, behind what leaves it alone; and what lay below. (Short words for the printed texts.) -/
theorem bk_ {p q : Prop} (h : Aside0 p) (hq : p → q := by intro h_; (with_reducible repeat (first | refine blk_drewN ?_ _ | refine blk_drew ?_ | refine blk_alloc ?_ _)); exact h_) : q := hq h.out
theorem ro_ {p q : Prop} (h : Aside0 p) (hq : p → q := by intro h_; (with_reducible repeat (first | apply Kd.R_alloc | apply Kd.R_drewN | apply Kd.R_drew)); exact h_) : q := hq h.out
theorem dt_ {p : Prop} [Decidable p] (h : decide p = true := by first | (with_reducible assumption) | assumption) : p := of_decide_eq_true h
theorem hb0_ {p q : Prop} (h : Aside0 p) (hq : p → q := by intro h_; repeat (first | (with_reducible first | exact h_ | apply below_alloc | apply pw_below_drewN | apply below_drew1) | exact h_)) : q := hq h.out
theorem hb1_ {p q r0 : Prop} (h : Aside0 p) (g0 : Aside0 r0) (hq : p → r0 → q := by intro h_ g0_; repeat (first | (with_reducible first | exact h_ | apply below_alloc | apply pw_below_drewN | apply below_drew1 | refine below_set ?_ g0_) | exact h_)) : q := hq h.out g0.out
theorem hb2_ {p q r0 r1 : Prop} (h : Aside0 p) (g0 : Aside0 r0) (g1 : Aside0 r1) (hq : p → r0 → r1 → q := by intro h_ g0_ g1_; repeat (first | (with_reducible first | exact h_ | apply below_alloc | apply pw_below_drewN | apply below_drew1 | refine below_set ?_ g0_ | refine below_set ?_ g1_) | exact h_)) : q := hq h.out g0.out g1.out
theorem hb3_ {p q r0 r1 r2 : Prop} (h : Aside0 p) (g0 : Aside0 r0) (g1 : Aside0 r1) (g2 : Aside0 r2) (hq : p → r0 → r1 → r2 → q := by intro h_ g0_ g1_ g2_; repeat (first | (with_reducible first | exact h_ | apply below_alloc | apply pw_below_drewN | apply below_drew1 | refine below_set ?_ g0_ | refine below_set ?_ g1_ | refine below_set ?_ g2_) | exact h_)) : q := hq h.out g0.out g1.out g2.out
theorem hb4_ {p q r0 r1 r2 r3 : Prop} (h : Aside0 p) (g0 : Aside0 r0) (g1 : Aside0 r1) (g2 : Aside0 r2) (g3 : Aside0 r3) (hq : p → r0 → r1 → r2 → r3 → q := by intro h_ g0_ g1_ g2_ g3_; repeat (first | (with_reducible first | exact h_ | apply below_alloc | apply pw_below_drewN | apply below_drew1 | refine below_set ?_ g0_ | refine below_set ?_ g1_ | refine below_set ?_ g2_ | refine below_set ?_ g3_) | exact h_)) : q := hq h.out g0.out g1.out g2.out g3.out
theorem hb5_ {p q r0 r1 r2 r3 r4 : Prop} (h : Aside0 p) (g0 : Aside0 r0) (g1 : Aside0 r1) (g2 : Aside0 r2) (g3 : Aside0 r3) (g4 : Aside0 r4) (hq : p → r0 → r1 → r2 → r3 → r4 → q := by intro h_ g0_ g1_ g2_ g3_ g4_; repeat (first | (with_reducible first | exact h_ | apply below_alloc | apply pw_below_drewN | apply below_drew1 | refine below_set ?_ g0_ | refine below_set ?_ g1_ | refine below_set ?_ g2_ | refine below_set ?_ g3_ | refine below_set ?_ g4_) | exact h_)) : q := hq h.out g0.out g1.out g2.out g3.out g4.out
theorem hb6_ {p q r0 r1 r2 r3 r4 r5 : Prop} (h : Aside0 p) (g0 : Aside0 r0) (g1 : Aside0 r1) (g2 : Aside0 r2) (g3 : Aside0 r3) (g4 : Aside0 r4) (g5 : Aside0 r5) (hq : p → r0 → r1 → r2 → r3 → r4 → r5 → q := by intro h_ g0_ g1_ g2_ g3_ g4_ g5_; repeat (first | (with_reducible first | exact h_ | apply below_alloc | apply pw_below_drewN | apply below_drew1 | refine below_set ?_ g0_ | refine below_set ?_ g1_ | refine below_set ?_ g2_ | refine below_set ?_ g3_ | refine below_set ?_ g4_ | refine below_set ?_ g5_) | exact h_)) : q := hq h.out g0.out g1.out g2.out g3.out g4.out g5.out
theorem hb7_ {p q r0 r1 r2 r3 r4 r5 r6 : Prop} (h : Aside0 p) (g0 : Aside0 r0) (g1 : Aside0 r1) (g2 : Aside0 r2) (g3 : Aside0 r3) (g4 : Aside0 r4) (g5 : Aside0 r5) (g6 : Aside0 r6) (hq : p → r0 → r1 → r2 → r3 → r4 → r5 → r6 → q := by intro h_ g0_ g1_ g2_ g3_ g4_ g5_ g6_; repeat (first | (with_reducible first | exact h_ | apply below_alloc | apply pw_below_drewN | apply below_drew1 | refine below_set ?_ g0_ | refine below_set ?_ g1_ | refine below_set ?_ g2_ | refine below_set ?_ g3_ | refine below_set ?_ g4_ | refine below_set ?_ g5_ | refine below_set ?_ g6_) | exact h_)) : q := hq h.out g0.out g1.out g2.out g3.out g4.out g5.out g6.out
theorem hb8_ {p q r0 r1 r2 r3 r4 r5 r6 r7 : Prop} (h : Aside0 p) (g0 : Aside0 r0) (g1 : Aside0 r1) (g2 : Aside0 r2) (g3 : Aside0 r3) (g4 : Aside0 r4) (g5 : Aside0 r5) (g6 : Aside0 r6) (g7 : Aside0 r7) (hq : p → r0 → r1 → r2 → r3 → r4 → r5 → r6 → r7 → q := by intro h_ g0_ g1_ g2_ g3_ g4_ g5_ g6_ g7_; repeat (first | (with_reducible first | exact h_ | apply below_alloc | apply pw_below_drewN | apply below_drew1 | refine below_set ?_ g0_ | refine below_set ?_ g1_ | refine below_set ?_ g2_ | refine below_set ?_ g3_ | refine below_set ?_ g4_ | refine below_set ?_ g5_ | refine below_set ?_ g6_ | refine below_set ?_ g7_) | exact h_)) : q := hq h.out g0.out g1.out g2.out g3.out g4.out g5.out g6.out g7.out
theorem hb9_ {p q r0 r1 r2 r3 r4 r5 r6 r7 r8 : Prop} (h : Aside0 p) (g0 : Aside0 r0) (g1 : Aside0 r1) (g2 : Aside0 r2) (g3 : Aside0 r3) (g4 : Aside0 r4) (g5 : Aside0 r5) (g6 : Aside0 r6) (g7 : Aside0 r7) (g8 : Aside0 r8) (hq : p → r0 → r1 → r2 → r3 → r4 → r5 → r6 → r7 → r8 → q := by intro h_ g0_ g1_ g2_ g3_ g4_ g5_ g6_ g7_ g8_; repeat (first | (with_reducible first | exact h_ | apply below_alloc | apply pw_below_drewN | apply below_drew1 | refine below_set ?_ g0_ | refine below_set ?_ g1_ | refine below_set ?_ g2_ | refine below_set ?_ g3_ | refine below_set ?_ g4_ | refine below_set ?_ g5_ | refine below_set ?_ g6_ | refine below_set ?_ g7_ | refine below_set ?_ g8_) | exact h_)) : q := hq h.out g0.out g1.out g2.out g3.out g4.out g5.out g6.out g7.out g8.out
end Go.Proofs.Ytkglfgikfeebhaa.X
