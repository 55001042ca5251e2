/-
  Two texts as one (Len, Ext): by this session, or printed. Conditions: as typed.
-/
import Derived.Test.YtabhfloclcmjnaaDoorSteps
import Derived.Test.YtabhfloclcmjnaaDoorWWords
import Derived.Test.YtabhfloclcmjnaaDoorWMore
namespace Go.Proofs.YtabhfloclcmjnaaDoor.X
open Go Go.RowKit Go.Shelf
set_option linter.unusedVariables false
attribute [local go_sem] Oper.semAt_some

/-- The runes of a text; none: it is none. -/
def textOf (s : ByteArray) : Option (List Int) := if (stp s s.size 0).all (fun x => decide (0 ≤ x.1)) then some ((stp s s.size 0).map (·.1)) else none
/-- How many runes a text has; -1. -/
def lenU (s : ByteArray) : Int := match textOf s with | some l => l.length | none => -1

theorem lenU_ok {s : ByteArray} (h : ∀ x ∈ stp s s.size 0, 0 ≤ x.1) : lenU s = (stp s s.size 0).length := by
  unfold lenU textOf
  rw [if_pos (List.all_eq_true.2 fun x hx => decide_eq_true (h x hx))]
  simp
theorem lenU_no {s : ByteArray} {pre : List (Int × Int)} (hp : pre ⊆ stp s s.size 0) (hx : ∃ x ∈ pre, x.1 < 0) : lenU s = -1 := by
  unfold lenU textOf
  rw [if_neg]
  intro h
  obtain ⟨x, hx, hn⟩ := hx
  have := of_decide_eq_true (List.all_eq_true.1 h x (hp hx))
  omega

set_option maxRecDepth 100000 in
set_option maxHeartbeats 4000000 in
theorem len_in (s : ByteArray) (w : World) (hs : s.size ≤ 140737488355328) (hT : Lib.Utf8Tabs 0 1 w) :
    CallsIn Fence.wide 8 Tryd.prog 43 #[.string s] w fun e W' => e = .returned (.int .i64 (lenU s)) ∧ Below w.heap.size w W' := by
  refine callsIn_of_wp_marks Tryd.func43 rfl trivial ?_ rfl
  simp only [Tryd.ntmps43, List.size_toArray, List.length_cons, List.length_nil, Nat.reduceAdd, Nat.reduceSub, Array.replicate_succ, Array.replicate_zero, List.push_toArray, List.append_toArray, List.nil_append, List.cons_append]
  gi_wp2_with (refine ⟨trivial, ?_⟩; gi_at_call 59; refine (callsIn_wide.2 (steps_calls _ _)).mono ?_; rintro e w' ⟨rfl, rfl⟩)
  obtain ⟨W0, hW0⟩ : ∃ W0, ((w.alloc (.cells #[.int .i64 0] 3)).alloc (.cells #[.int .i64 0] 3)).alloc (.cells #[.string s] 9) = W0 := ⟨_, rfl⟩
  have hz : W0.heap.size = w.heap.size + 3 := by rw [← hW0]; simp
  have b0 : W0.heap[w.heap.size]? = some (.cells #[.int .i64 0] 3 (0, 0)) := by
    rw [← hW0]; exact ((Boxed.new w 3 (.int .i64 0)).alloc _).alloc _
  have b1 : W0.heap[w.heap.size + 1]? = some (.cells #[.int .i64 0] 3 (0, 0)) := by
    rw [← hW0]; have h := (Boxed.new (w.alloc (.cells #[.int .i64 0] 3)) 3 (.int .i64 0)).alloc (.cells #[.string s] 9); rw [World.size_alloc] at h; exact h
  have b2 : W0.heap[w.heap.size + 2]? = some (.cells #[.string s] 9 (0, 0)) := by
    rw [← hW0]; have h := Boxed.new ((w.alloc (.cells #[.int .i64 0] 3)).alloc (.cells #[.int .i64 0] 3)) 9 (.string s); rw [World.size_alloc, World.size_alloc] at h; exact h
  have hB0 : Below w.heap.size w W0 := by
    rw [← hW0]; exact ((((Below.refl _ w).alloc (Nat.le_refl _) _).alloc (by simp) _).alloc (by simp; omega) _)
  have hlt1 : 0 < w.heap.size := World.block_lt_of_cell? w _ (hT.1 0 (by omega))
  have hlt2 : 1 < w.heap.size := World.block_lt_of_cell? w _ (hT.2 0 (by omega)).1
  have hT0 := tabs_below hT hB0 hlt1 hlt2
  rw [hW0]
  refine wpIn_range_cell rfl (by omega) (gf := 67) (lb := #[.pointer (some ⟨w.heap.size + 2, 0, none⟩)]) rfl trivial (enters_of Tryd.func67 (by kernel_rfl) rfl) (encs := encs2) (n₀ := w.heap.size) (b := w.heap.size + 2) (by omega) (by omega)
    (iter_calls s w.heap.size (w.heap.size + 2) W0 (by omega) hs b2 hT0 (by omega) (by omega)) (fun _ => rfl)
    (fun pre W => (W.heap[w.heap.size]? = some (.cells #[.int .i64 0] 3 (0, 0)) ∧ W.heap[w.heap.size + 1]? = some (.cells #[.int .i64 pre.length] 3 (0, 0)) ∧ (∀ x ∈ pre, 0 ≤ x.1)) ∧ Below w.heap.size w W)
    (fun c pre W => (c = .ret ∧ W.heap[w.heap.size]? = some (.cells #[.int .i64 (-1)] 3 (0, 0)) ∧ ∃ x ∈ pre, x.1 < 0) ∧ Below w.heap.size w W)
    (abid_and (fun p A B row hs hg hr => ⟨abid_cells hs.1 hg hr (by omega), abid_cells hs.2.1 hg hr (by omega), hs.2.2⟩) (abid_below (Nat.le_refl _) (by omega) (by omega)))
    (fun c => abid_and (fun p A B row hs hg hr => ⟨hs.1, abid_cells hs.2.1 hg hr (by omega), hs.2.2⟩) (abid_below (Nat.le_refl _) (by omega) (by omega)))
    ⟨⟨b0, b1, by simp⟩, hB0⟩
    (fun x => { tmps := #[.string s, undef, .pointer (some ⟨w.heap.size, 0, none⟩), .pointer (some ⟨w.heap.size + 1, 0, none⟩), .int .i32 x.1, .string s, .func (.func 67) #[] #[.pointer (some ⟨w.heap.size + 1 + 1, 0, none⟩)], .int .i32 x.1, .int .i64 x.2, undef, undef, undef, undef, undef], defers := [] }) ?assign ?body ?done ?stop
  case assign =>
    rintro l ⟨r, n⟩ W K hK
    simp only [encs2]
    gi_wp2
    exact hK
  case body =>
    rintro l pre ⟨r, n⟩ W ⟨⟨h0, h1, hp⟩, hB⟩ hN
    have c0 := cell_at h0
    have c1 := cell_at h1
    have f0 := frozen_at h0
    have f1 := frozen_at h1
    by_cases hr : r < 0
    · gi_wp2
      exact ⟨KeepsOthers.setCell _ _ _, ⟨rfl, Boxed.set (B := w.heap.size) _ h0, ⟨(r, n), by simp, hr⟩⟩, hB.setCell (p := ⟨w.heap.size, 0, none⟩) (Nat.le_refl _) _⟩
    · gi_wp2
      refine ⟨KeepsOthers.setCell _ _ _, ⟨Below.heap_setCell W _ _ _ (by simp), (Below.refl w.heap.size W).setCell (p := ⟨w.heap.size + 1, 0, none⟩) (by simp) _⟩, ⟨?_, ?_, ?_⟩, hB.setCell (p := ⟨w.heap.size + 1, 0, none⟩) (by simp) _⟩
      · exact (Below.heap_setCell W _ _ _ (by simp)).trans h0
      · rw [List.length_append, List.length_singleton, Int.natCast_add]; exact Boxed.set (B := w.heap.size + 1) _ h1
      · intro a b hab
        rcases List.mem_append.1 hab with h | h
        · exact hp (a, b) h
        · simp at h; omega
  case done =>
    rintro D ys W hD rfl ⟨⟨h0, h1, hp⟩, hB⟩ hK
    have c0 := cell_at h0
    have c1 := cell_at h1
    have f0 := frozen_at h0
    gi_wp2
    have hK' := (KeepsOthers.setCell W ⟨w.heap.size, 0, none⟩ (.int .i64 ↑(stp s s.size 0).length)).same D _ hK rfl
    refine ⟨by simp, .inl ⟨_, _, rfl, run_takeDeferred hK', ?_⟩⟩
    have hc5 := cell_kept (World.cell?_setCell_same' W ⟨w.heap.size, 0, none⟩ (.int .i64 ↑(stp s s.size 0).length) (by rw [c0]; rfl)) (grownBy_putObj' _ D (.deferred none)) (fun r e => by cases e; exact ⟨_, hK', rfl⟩)
    refine ⟨.int .i64 (stp s s.size 0).length, ?_, by rw [lenU_ok hp], (hB.setCell (p := ⟨w.heap.size, 0, none⟩) (Nat.le_refl _) _).trans (belowK_b (w := w) (Nat.le_refl _) _ D _ _ (by omega) hK' rfl rfl)⟩
    simp [results, Tryd.f43, go_sem, hc5]
  case stop =>
    rintro D c pre W hD hpre ⟨⟨rfl, h0, hx⟩, hB⟩ hK
    have c0 := cell_at h0
    gi_wp2
    refine ⟨by simp, .inl ⟨_, _, rfl, run_takeDeferred hK, ?_⟩⟩
    have hc5 := cell_kept c0 (grownBy_putObj' _ D (.deferred none)) (fun r e => by cases e; exact ⟨_, hK, rfl⟩)
    refine ⟨.int .i64 (-1), ?_, by rw [lenU_no (hpre.subset) hx], hB.trans (belowK_b (w := w) (Nat.le_refl _) W D _ _ (by omega) hK rfl rfl)⟩
    simp [results, Tryd.f43, go_sem, hc5]
end Go.Proofs.YtabhfloclcmjnaaDoor.X
namespace Go.Proofs.YtabhfloclcmjnaaDoorW.PrintWords
open Go Go.RowKit
set_option linter.unusedVariables false
variable {α : Type} {P : Program} {ops : Array Oper} {rest : List Oper} {o : Oper} {a : Act} {Q : Exit → Act → World → Prop}
/-- make([]T, 0, n): a row of its own, still empty. -/
theorem Kd.R_make0 (d : Kd α) {w0 W : World} (base e : Nat) (hgd : o.guard = none) {N : Tmp} (hd : o.dst = some N) (t : TypeId) (x y : Operand) (ho : o.op = .makeSlice t x y) (n : Int) (hx : a.eval x = .int .i64 0) (hy : a.eval y = .int .i64 n)
    (ht : P.underlying t = some (.slice e)) (z : Value) (bytes : Nat) (hinfo : (P.info? e).map (fun i => (i.zero, i.size, i.bytes)) = some (some z, d.sz, bytes)) (hz : z.cells.size = d.sz) (hs0 : 0 < d.sz) (hb0 : 0 < bytes)
    (z0 : α) {ok okp : Nat → Prop} (hzero : d.M W base okp z0 z.cells.toList) (hok : ∀ k, okp k → ok k) (hfresh : ok W.heap.size) (h0 : 0 ≤ n) (hl : n.toNat * bytes ≤ 281474976710656) (HB : Below base w0 W) (hbase : base ≤ W.heap.size)
    (h : ∀ v1 w1, d.R e w1 base ok v1 [] → Below base w0 w1 → W.grownBy w1 none → (∃ b, v1.ownBlock = some b ∧ W.heap.size ≤ b) → wpList P ops Q rest (a.put o.dst v1) w1) : wpList P ops Q (o :: rest) a W := by
  obtain ⟨m, rfl⟩ := Int.eq_ofNat_of_zero_le h0
  obtain ⟨i0, hi, hzz⟩ := Option.map_eq_some_iff.1 hinfo
  simp only [Prod.mk.injEq] at hzz
  obtain ⟨hz0, hz1, hz2⟩ := hzz
  simp only [Int.toNat_natCast] at hl
  have hm : m ≤ 281474976710656 := Nat.le_trans (Nat.le_mul_of_pos_right _ hb0) hl
  obtain ⟨w1, hr, hown, hg⟩ := run_make_own (P := P) W base t e i0 z d.sz ht hi hz0 hz1 .i64 .i64 m (by rw [hz2, Nat.mul_comm]; exact hl) (by unfold maxLen; omega) hbase
  refine event_run hgd (show (execOp a.eval o).run P W = .ok (.value (.slice (some ⟨W.heap.size, 0, none⟩) 0 m)) w1 by simp [execOp, ho, hx, hy, hr]) (h _ _ ⟨fun k hk => ?_, [], hown, Reps.none _ _⟩ (HB.grown hg hbase (fun k e => by cases e)) hg ⟨W.heap.size, by simp [Value.ownBlock], Nat.le_refl _⟩)
  have : W.heap.size = k := by simpa [Value.ownBlock] using hk
  subst this
  exact hfresh
end Go.Proofs.YtabhfloclcmjnaaDoorW.PrintWords

namespace Go.Proofs.YtabhfloclcmjnaaDoor.X
open Go Go.RowKit Go.Proofs.YtabhfloclcmjnaaDoorW.PrintWords
/-- The two tables of unicode/utf8 lie as their texts lay them. -/
def XAmb (w : World) : Prop := Lib.Utf8Tabs 0 1 w
theorem XAmb_below {w W : World} (h : XAmb w) (hb : Below w.heap.size w W) : XAmb W :=
  tabs_below h hb (World.block_lt_of_cell? w _ (h.1 0 (by omega))) (World.block_lt_of_cell? w _ (h.2 0 (by omega)).1)
theorem XAmb_step {w W : World} (h : Aside0 (XAmb w)) (hb : Below w.heap.size w W) : Aside0 (XAmb W) := ⟨XAmb_below h.out hb⟩

/-- What is known of a block, behind what leaves it alone; and what lay below. (Short words for the printed texts.) -/
theorem bk_ {p q : Prop} (h : Aside0 p) (hq : p → q := by intro h_; (with_reducible repeat (first | refine blk_drewN ?_ _ | refine blk_drew ?_ | refine blk_alloc ?_ _)); exact h_) : q := hq h.out
theorem ro_ {p q : Prop} (h : Aside0 p) (hq : p → q := by intro h_; (with_reducible repeat (first | apply Kd.R_alloc | apply Kd.R_drewN | apply Kd.R_drew)); exact h_) : q := hq h.out
theorem dt_ {p : Prop} [Decidable p] (h : decide p = true := by first | (with_reducible assumption) | assumption) : p := of_decide_eq_true h
theorem hb0_ {p q : Prop} (h : Aside0 p) (hq : p → q := by intro h_; repeat (first | (with_reducible first | exact h_ | apply below_alloc | apply pw_below_drewN | apply below_drew1) | exact h_)) : q := hq h.out
theorem hb1_ {p q r0 : Prop} (h : Aside0 p) (g0 : Aside0 r0) (hq : p → r0 → q := by intro h_ g0_; repeat (first | (with_reducible first | exact h_ | apply below_alloc | apply pw_below_drewN | apply below_drew1 | refine below_set ?_ g0_) | exact h_)) : q := hq h.out g0.out
theorem hb2_ {p q r0 r1 : Prop} (h : Aside0 p) (g0 : Aside0 r0) (g1 : Aside0 r1) (hq : p → r0 → r1 → q := by intro h_ g0_ g1_; repeat (first | (with_reducible first | exact h_ | apply below_alloc | apply pw_below_drewN | apply below_drew1 | refine below_set ?_ g0_ | refine below_set ?_ g1_) | exact h_)) : q := hq h.out g0.out g1.out
theorem hb3_ {p q r0 r1 r2 : Prop} (h : Aside0 p) (g0 : Aside0 r0) (g1 : Aside0 r1) (g2 : Aside0 r2) (hq : p → r0 → r1 → r2 → q := by intro h_ g0_ g1_ g2_; repeat (first | (with_reducible first | exact h_ | apply below_alloc | apply pw_below_drewN | apply below_drew1 | refine below_set ?_ g0_ | refine below_set ?_ g1_ | refine below_set ?_ g2_) | exact h_)) : q := hq h.out g0.out g1.out g2.out
theorem hb4_ {p q r0 r1 r2 r3 : Prop} (h : Aside0 p) (g0 : Aside0 r0) (g1 : Aside0 r1) (g2 : Aside0 r2) (g3 : Aside0 r3) (hq : p → r0 → r1 → r2 → r3 → q := by intro h_ g0_ g1_ g2_ g3_; repeat (first | (with_reducible first | exact h_ | apply below_alloc | apply pw_below_drewN | apply below_drew1 | refine below_set ?_ g0_ | refine below_set ?_ g1_ | refine below_set ?_ g2_ | refine below_set ?_ g3_) | exact h_)) : q := hq h.out g0.out g1.out g2.out g3.out
theorem hb5_ {p q r0 r1 r2 r3 r4 : Prop} (h : Aside0 p) (g0 : Aside0 r0) (g1 : Aside0 r1) (g2 : Aside0 r2) (g3 : Aside0 r3) (g4 : Aside0 r4) (hq : p → r0 → r1 → r2 → r3 → r4 → q := by intro h_ g0_ g1_ g2_ g3_ g4_; repeat (first | (with_reducible first | exact h_ | apply below_alloc | apply pw_below_drewN | apply below_drew1 | refine below_set ?_ g0_ | refine below_set ?_ g1_ | refine below_set ?_ g2_ | refine below_set ?_ g3_ | refine below_set ?_ g4_) | exact h_)) : q := hq h.out g0.out g1.out g2.out g3.out g4.out
theorem hb6_ {p q r0 r1 r2 r3 r4 r5 : Prop} (h : Aside0 p) (g0 : Aside0 r0) (g1 : Aside0 r1) (g2 : Aside0 r2) (g3 : Aside0 r3) (g4 : Aside0 r4) (g5 : Aside0 r5) (hq : p → r0 → r1 → r2 → r3 → r4 → r5 → q := by intro h_ g0_ g1_ g2_ g3_ g4_ g5_; repeat (first | (with_reducible first | exact h_ | apply below_alloc | apply pw_below_drewN | apply below_drew1 | refine below_set ?_ g0_ | refine below_set ?_ g1_ | refine below_set ?_ g2_ | refine below_set ?_ g3_ | refine below_set ?_ g4_ | refine below_set ?_ g5_) | exact h_)) : q := hq h.out g0.out g1.out g2.out g3.out g4.out g5.out
theorem hb7_ {p q r0 r1 r2 r3 r4 r5 r6 : Prop} (h : Aside0 p) (g0 : Aside0 r0) (g1 : Aside0 r1) (g2 : Aside0 r2) (g3 : Aside0 r3) (g4 : Aside0 r4) (g5 : Aside0 r5) (g6 : Aside0 r6) (hq : p → r0 → r1 → r2 → r3 → r4 → r5 → r6 → q := by intro h_ g0_ g1_ g2_ g3_ g4_ g5_ g6_; repeat (first | (with_reducible first | exact h_ | apply below_alloc | apply pw_below_drewN | apply below_drew1 | refine below_set ?_ g0_ | refine below_set ?_ g1_ | refine below_set ?_ g2_ | refine below_set ?_ g3_ | refine below_set ?_ g4_ | refine below_set ?_ g5_ | refine below_set ?_ g6_) | exact h_)) : q := hq h.out g0.out g1.out g2.out g3.out g4.out g5.out g6.out
theorem hb8_ {p q r0 r1 r2 r3 r4 r5 r6 r7 : Prop} (h : Aside0 p) (g0 : Aside0 r0) (g1 : Aside0 r1) (g2 : Aside0 r2) (g3 : Aside0 r3) (g4 : Aside0 r4) (g5 : Aside0 r5) (g6 : Aside0 r6) (g7 : Aside0 r7) (hq : p → r0 → r1 → r2 → r3 → r4 → r5 → r6 → r7 → q := by intro h_ g0_ g1_ g2_ g3_ g4_ g5_ g6_ g7_; repeat (first | (with_reducible first | exact h_ | apply below_alloc | apply pw_below_drewN | apply below_drew1 | refine below_set ?_ g0_ | refine below_set ?_ g1_ | refine below_set ?_ g2_ | refine below_set ?_ g3_ | refine below_set ?_ g4_ | refine below_set ?_ g5_ | refine below_set ?_ g6_ | refine below_set ?_ g7_) | exact h_)) : q := hq h.out g0.out g1.out g2.out g3.out g4.out g5.out g6.out g7.out
theorem hb9_ {p q r0 r1 r2 r3 r4 r5 r6 r7 r8 : Prop} (h : Aside0 p) (g0 : Aside0 r0) (g1 : Aside0 r1) (g2 : Aside0 r2) (g3 : Aside0 r3) (g4 : Aside0 r4) (g5 : Aside0 r5) (g6 : Aside0 r6) (g7 : Aside0 r7) (g8 : Aside0 r8) (hq : p → r0 → r1 → r2 → r3 → r4 → r5 → r6 → r7 → r8 → q := by intro h_ g0_ g1_ g2_ g3_ g4_ g5_ g6_ g7_ g8_; repeat (first | (with_reducible first | exact h_ | apply below_alloc | apply pw_below_drewN | apply below_drew1 | refine below_set ?_ g0_ | refine below_set ?_ g1_ | refine below_set ?_ g2_ | refine below_set ?_ g3_ | refine below_set ?_ g4_ | refine below_set ?_ g5_ | refine below_set ?_ g6_ | refine below_set ?_ g7_ | refine below_set ?_ g8_) | exact h_)) : q := hq h.out g0.out g1.out g2.out g3.out g4.out g5.out g6.out g7.out g8.out
def runes_Len.f (a0 : ByteArray) : Option Int := if a0.size ≤ 140737488355328 then some (lenU a0) else none
theorem runes_Len.calls (a0 : ByteArray) (r : Int) (w : World) (hT : Aside0 (XAmb w)) (h : runes_Len.f a0 = some r) :
    Calls Tryd.prog 43 #[.string a0] w fun e w' => e = .returned (.int .i64 r) ∧ Below w.heap.size w w' := by
  unfold runes_Len.f at h
  split at h
  · rename_i hs
    obtain rfl := Option.some.inj h
    exact callsIn_wide.1 (len_in a0 w hs hT.out)
  · cases h
end Go.Proofs.YtabhfloclcmjnaaDoor.X
