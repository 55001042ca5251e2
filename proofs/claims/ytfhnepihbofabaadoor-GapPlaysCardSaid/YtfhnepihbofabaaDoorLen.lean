/-
  runes.Len: its contract, by this session. Conditions: the two tables of unicode/utf8 as they are laid; a text of at most 2^47 bytes.
-/
import Derived.Test.YtfhnepihbofabaaDoorSteps
namespace Go.Proofs.YtfhnepihbofabaaDoor.X
open Go Go.RowKit Go.Shelf
set_option linter.unusedVariables false
attribute [local go_sem] Oper.semAt_some

/-- The runes of a text; none: it is none. -/
def textOf (s : ByteArray) : Option (List Int) := if (stp s s.size 0).all (fun x => decide (0 ≤ x.1)) then some ((stp s s.size 0).map (·.1)) else none
/-- How many runes a text has; -1. -/
def lenU (s : ByteArray) : Int := match textOf s with | some l => l.length | none => -1

theorem lenU_ok {s : ByteArray} (h : ∀ x ∈ stp s s.size 0, 0 ≤ x.1) : lenU s = (stp s s.size 0).length := by
  unfold lenU textOf
  rw [if_pos (List.all_eq_true.2 fun x hx => decide_eq_true (h x hx))]
  simp
theorem lenU_no {s : ByteArray} {pre : List (Int × Int)} (hp : pre ⊆ stp s s.size 0) (hx : ∃ x ∈ pre, x.1 < 0) : lenU s = -1 := by
  unfold lenU textOf
  rw [if_neg]
  intro h
  obtain ⟨x, hx, hn⟩ := hx
  have := of_decide_eq_true (List.all_eq_true.1 h x (hp hx))
  omega

set_option maxRecDepth 100000 in
set_option maxHeartbeats 4000000 in
theorem len_in (s : ByteArray) (w : World) (hs : s.size ≤ 140737488355328) (hT : Lib.Utf8Tabs 0 1 w) :
    CallsIn Fence.wide 8 Tryd.prog 52 #[.string s] w fun e W' => e = .returned (.int .i64 (lenU s)) ∧ Below w.heap.size w W' := by
  refine callsIn_of_wp_marks Tryd.func52 rfl trivial ?_ rfl
  simp only [Tryd.ntmps52, List.size_toArray, List.length_cons, List.length_nil, Nat.reduceAdd, Nat.reduceSub, Array.replicate_succ, Array.replicate_zero, List.push_toArray, List.append_toArray, List.nil_append, List.cons_append]
  gi_wp2_with (refine ⟨trivial, ?_⟩; gi_at_call 54; refine (callsIn_wide.2 (steps_calls _ _)).mono ?_; rintro e w' ⟨rfl, rfl⟩)
  obtain ⟨W0, hW0⟩ : ∃ W0, ((w.alloc (.cells #[.int .i64 0] 3)).alloc (.cells #[.int .i64 0] 3)).alloc (.cells #[.string s] 9) = W0 := ⟨_, rfl⟩
  have hz : W0.heap.size = w.heap.size + 3 := by rw [← hW0]; simp
  have b0 : W0.heap[w.heap.size]? = some (.cells #[.int .i64 0] 3 (0, 0)) := by
    rw [← hW0]; exact ((Boxed.new w 3 (.int .i64 0)).alloc _).alloc _
  have b1 : W0.heap[w.heap.size + 1]? = some (.cells #[.int .i64 0] 3 (0, 0)) := by
    rw [← hW0]; have h := (Boxed.new (w.alloc (.cells #[.int .i64 0] 3)) 3 (.int .i64 0)).alloc (.cells #[.string s] 9); rw [World.size_alloc] at h; exact h
  have b2 : W0.heap[w.heap.size + 2]? = some (.cells #[.string s] 9 (0, 0)) := by
    rw [← hW0]; have h := Boxed.new ((w.alloc (.cells #[.int .i64 0] 3)).alloc (.cells #[.int .i64 0] 3)) 9 (.string s); rw [World.size_alloc, World.size_alloc] at h; exact h
  have hB0 : Below w.heap.size w W0 := by
    rw [← hW0]; exact ((((Below.refl _ w).alloc (Nat.le_refl _) _).alloc (by simp) _).alloc (by simp; omega) _)
  have hlt1 : 0 < w.heap.size := World.block_lt_of_cell? w _ (hT.1 0 (by omega))
  have hlt2 : 1 < w.heap.size := World.block_lt_of_cell? w _ (hT.2 0 (by omega)).1
  have hT0 := tabs_below hT hB0 hlt1 hlt2
  rw [hW0]
  refine wpIn_range_cell rfl (by omega) (gf := 55) (lb := #[.pointer (some ⟨w.heap.size + 2, 0, none⟩)]) rfl trivial (enters_of Tryd.func55 (by kernel_rfl) rfl) (encs := encs2) (n₀ := w.heap.size) (b := w.heap.size + 2) (by omega) (by omega)
    (iter_calls s w.heap.size (w.heap.size + 2) W0 (by omega) hs b2 hT0 (by omega) (by omega)) (fun _ => rfl)
    (fun pre W => (W.heap[w.heap.size]? = some (.cells #[.int .i64 0] 3 (0, 0)) ∧ W.heap[w.heap.size + 1]? = some (.cells #[.int .i64 pre.length] 3 (0, 0)) ∧ (∀ x ∈ pre, 0 ≤ x.1)) ∧ Below w.heap.size w W)
    (fun c pre W => (c = .ret ∧ W.heap[w.heap.size]? = some (.cells #[.int .i64 (-1)] 3 (0, 0)) ∧ ∃ x ∈ pre, x.1 < 0) ∧ Below w.heap.size w W)
    (abid_and (fun p A B row hs hg hr => ⟨abid_cells hs.1 hg hr (by omega), abid_cells hs.2.1 hg hr (by omega), hs.2.2⟩) (abid_below (Nat.le_refl _) (by omega) (by omega)))
    (fun c => abid_and (fun p A B row hs hg hr => ⟨hs.1, abid_cells hs.2.1 hg hr (by omega), hs.2.2⟩) (abid_below (Nat.le_refl _) (by omega) (by omega)))
    ⟨⟨b0, b1, by simp⟩, hB0⟩
    (fun x => { tmps := #[.string s, undef, .pointer (some ⟨w.heap.size, 0, none⟩), .pointer (some ⟨w.heap.size + 1, 0, none⟩), .int .i32 x.1, .string s, .func (.func 55) #[] #[.pointer (some ⟨w.heap.size + 1 + 1, 0, none⟩)], .int .i32 x.1, .int .i64 x.2, undef, undef, undef, undef, undef], defers := [] }) ?assign ?body ?done ?stop
  case assign =>
    rintro l ⟨r, n⟩ W K hK
    simp only [encs2]
    gi_wp2
    exact hK
  case body =>
    rintro l pre ⟨r, n⟩ W ⟨⟨h0, h1, hp⟩, hB⟩ hN
    have c0 := cell_at h0
    have c1 := cell_at h1
    have f0 := frozen_at h0
    have f1 := frozen_at h1
    by_cases hr : r < 0
    · gi_wp2
      exact ⟨KeepsOthers.setCell _ _ _, ⟨rfl, Boxed.set (B := w.heap.size) _ h0, ⟨(r, n), by simp, hr⟩⟩, hB.setCell (p := ⟨w.heap.size, 0, none⟩) (Nat.le_refl _) _⟩
    · gi_wp2
      refine ⟨KeepsOthers.setCell _ _ _, ⟨Below.heap_setCell W _ _ _ (by simp), (Below.refl w.heap.size W).setCell (p := ⟨w.heap.size + 1, 0, none⟩) (by simp) _⟩, ⟨?_, ?_, ?_⟩, hB.setCell (p := ⟨w.heap.size + 1, 0, none⟩) (by simp) _⟩
      · exact (Below.heap_setCell W _ _ _ (by simp)).trans h0
      · rw [List.length_append, List.length_singleton, Int.natCast_add]; exact Boxed.set (B := w.heap.size + 1) _ h1
      · intro a b hab
        rcases List.mem_append.1 hab with h | h
        · exact hp (a, b) h
        · simp at h; omega
  case done =>
    rintro D ys W hD rfl ⟨⟨h0, h1, hp⟩, hB⟩ hK
    have c0 := cell_at h0
    have c1 := cell_at h1
    have f0 := frozen_at h0
    gi_wp2
    have hK' := (KeepsOthers.setCell W ⟨w.heap.size, 0, none⟩ (.int .i64 ↑(stp s s.size 0).length)).same D _ hK rfl
    refine ⟨by simp, .inl ⟨_, _, rfl, run_takeDeferred hK', ?_⟩⟩
    have hc5 := cell_kept (World.cell?_setCell_same' W ⟨w.heap.size, 0, none⟩ (.int .i64 ↑(stp s s.size 0).length) (by rw [c0]; rfl)) (grownBy_putObj' _ D (.deferred none)) (fun r e => by cases e; exact ⟨_, hK', rfl⟩)
    refine ⟨.int .i64 (stp s s.size 0).length, ?_, by rw [lenU_ok hp], (hB.setCell (p := ⟨w.heap.size, 0, none⟩) (Nat.le_refl _) _).trans (belowK_b (w := w) (Nat.le_refl _) _ D _ _ (by omega) hK' rfl rfl)⟩
    simp [results, Tryd.f52, go_sem, hc5]
  case stop =>
    rintro D c pre W hD hpre ⟨⟨rfl, h0, hx⟩, hB⟩ hK
    have c0 := cell_at h0
    gi_wp2
    refine ⟨by simp, .inl ⟨_, _, rfl, run_takeDeferred hK, ?_⟩⟩
    have hc5 := cell_kept c0 (grownBy_putObj' _ D (.deferred none)) (fun r e => by cases e; exact ⟨_, hK, rfl⟩)
    refine ⟨.int .i64 (-1), ?_, by rw [lenU_no (hpre.subset) hx], hB.trans (belowK_b (w := w) (Nat.le_refl _) W D _ _ (by omega) hK rfl rfl)⟩
    simp [results, Tryd.f52, go_sem, hc5]
end Go.Proofs.YtfhnepihbofabaaDoor.X
