/-
  Variables in memory, each a block of its own, under one word, and what a store into one of them leaves: by this session. Conditions: as typed.
-/
import Derived.Test.YtkglfgikfeebhaaWWords
import Derived.Below
import Derived.Lib.Hide
namespace Go.Proofs.Ytkglfgikfeebhaa.X
open Go Go.RowKit Go.Proofs.YtkglfgikfeebhaaW.PrintWords
set_option linter.unusedVariables false
/-- The blocks listed hold these cells; what lay in the first world lies untouched. -/
structure Bxs (W0 : World) (l : List (Nat × Array Value × TypeId)) (W : World) : Prop where
  at_ : ∀ x, x ∈ l → W.heap[x.1]? = some (.cells x.2.1 x.2.2 (0, 0))
  nd : (l.map (·.1)).Nodup
  lo : ∀ x, x ∈ l → W0.heap.size ≤ x.1
  below : Below W0.heap.size W0 W
namespace Bxs
variable {W0 W W' : World} {l : List (Nat × Array Value × TypeId)}
theorem start (W : World) : Bxs W [] W := ⟨fun _ h => (by cases h), List.nodup_nil, fun _ h => (by cases h), Below.refl _ _⟩
theorem drew (h : Bxs W0 l W) : Bxs W0 l W.drew := ⟨h.at_, h.nd, h.lo, h.below.drew⟩
theorem drewN (h : Bxs W0 l W) (n : Nat) : Bxs W0 l (W.drewN n) := ⟨h.at_, h.nd, h.lo, ⟨h.below.os, h.below.tape, h.below.output, h.below.size, h.below.block⟩⟩
theorem blk (h : Bxs W0 l W) (n : Nat) {g : Nat} {cs : Array Value} {t : TypeId} (e : l[n]? = some (g, cs, t)) : W.heap[g]? = some (.cells cs t (0, 0)) := h.at_ _ (List.mem_of_getElem? e)
theorem cell (h : Bxs W0 l W) (n : Nat) {g : Nat} {cs : Array Value} {t : TypeId} (e : l[n]? = some (g, cs, t)) (i : Nat) : W.cell? ⟨g, i, none⟩ = cs[i]? := blk_cell (h.blk n e) i
theorem free (h : Bxs W0 l W) (n : Nat) {g : Nat} {cs : Array Value} {t : TypeId} (e : l[n]? = some (g, cs, t)) (i : Nat) : W.frozen? ⟨g, i, none⟩ = false := blk_frozen (h.blk n e) i
theorem lt (h : Bxs W0 l W) {x : Nat × Array Value × TypeId} (hx : x ∈ l) : x.1 < W.heap.size := by
  have := h.at_ x hx
  exact (Array.getElem?_eq_some_iff.1 this).1
theorem keep (h : Bxs W0 l W) (hb : Below W.heap.size W W') : Bxs W0 l W' :=
  ⟨fun x hx => (hb.block x.1 (h.lt hx)).trans (h.at_ x hx), h.nd, h.lo, below_step h.below hb⟩
theorem new (h : Bxs W0 l W) (cs : Array Value) (t : TypeId) : Bxs W0 ((W.heap.size, cs, t) :: l) (W.alloc (.cells cs t (0, 0))) := by
  refine ⟨fun x hx => ?_, ?_, fun x hx => ?_, below_alloc h.below _⟩
  · rcases List.mem_cons.1 hx with rfl | hx
    · exact blk_new W _
    · exact blk_alloc (h.at_ x hx) _
  · simp only [List.map_cons, List.nodup_cons]
    refine ⟨fun hm => ?_, h.nd⟩
    obtain ⟨y, hy, he⟩ := List.mem_map.1 hm
    have := h.lt hy
    omega
  · rcases List.mem_cons.1 hx with rfl | hx
    · exact h.below.size
    · exact h.lo x hx
theorem put (h : Bxs W0 l W) (n : Nat) {g : Nat} {cs : Array Value} {t : TypeId} (e : l[n]? = some (g, cs, t)) (i : Nat) (v : Value) : Bxs W0 (l.set n (g, cs.setIfInBounds i v, t)) (W.setCell ⟨g, i, none⟩ v) := by
  have hm := List.mem_of_getElem? e
  obtain ⟨hn, en⟩ := List.getElem?_eq_some_iff.1 e
  have hmap : (l.set n (g, cs.setIfInBounds i v, t)).map (·.1) = l.map (·.1) := by
    rw [List.map_set]
    apply List.ext_getElem?
    intro k
    rw [List.getElem?_set]
    split
    · rename_i hk
      subst hk
      simp [hn, en]
    · rfl
  refine ⟨fun x hx => ?_, by rw [hmap]; exact h.nd, fun x hx => ?_, below_set h.below (h.lo _ hm)⟩
  · obtain ⟨k, hk, ek⟩ := List.getElem_of_mem hx
    rw [List.getElem_set] at ek
    split at ek
    · rename_i hnk
      subst ek
      exact blk_put (h.at_ _ hm) i v rfl
    · rename_i hnk
      have hk' : k < l.length := by simpa using hk
      subst ek
      refine blk_far (h.at_ _ (List.getElem_mem hk')) ?_ v
      intro he
      have h1 : (l.map (·.1))[k]'(by simpa using hk') = (l.map (·.1))[n]'(by simpa using hn) := by simp only [List.getElem_map]; rw [en]; exact he
      have hp := List.pairwise_iff_getElem.1 h.nd
      rcases Nat.lt_or_gt_of_ne hnk with hlt | hlt
      · exact hp n k (by simpa using hn) (by simpa using hk') hlt h1.symm
      · exact hp k n (by simpa using hk') (by simpa using hn) hlt h1
  · obtain ⟨k, hk, ek⟩ := List.getElem_of_mem hx
    rw [List.getElem_set] at ek
    split at ek
    · subst ek
      exact h.lo (g, cs, t) hm
    · subst ek
      exact h.lo _ (List.getElem_mem _)
end Bxs
/-- A row of the call's own, behind three stores into a block of another type. -/
theorem R_three {α : Type} {d : Kd α} {e b base g t : Nat} {W : World} {v : Value} {xs : List α} {cs : Array Value} (h : d.R e W b (fun _ => True) v xs) (hb : base ≤ b) (hg : W.heap[g]? = some (.cells cs t (0, 0)))
    (ht : ∀ q, q ∈ e :: d.E → q ≠ t) (u0 u1 u2 : Value) : d.R e (((W.setCell ⟨g, 0, none⟩ u0).setCell ⟨g, 1, none⟩ u1).setCell ⟨g, 2, none⟩ u2) base (fun _ => True) v xs :=
  Kd.R_mono (Kd.R_lower (Kd.R_far (p := ⟨g, 2, none⟩) (Kd.R_far (p := ⟨g, 1, none⟩) (Kd.R_far (p := ⟨g, 0, none⟩) (Kd.R_types h hg ht) (fun _ hk => hk.2) u0) (fun _ hk => hk.2) u1) (fun _ hk => hk.2) u2) hb) (fun _ _ => trivial)
/-- A literal, just laid, is a row of the call's own. -/
theorem R_new {α : Type} (d : Kd α) {W : World} {base e : Nat} {xs : List α} {inner : List Value} (hbase : base ≤ W.heap.size) (hrep : Reps (d.M W base (fun _ => True)) d.sz xs inner) (hm : xs.length ≤ 9223372036854775807) :
    d.R e (W.alloc (.cells inner.toArray e (0, 0))) base (fun _ => True) (.slice (some ⟨W.heap.size, 0, none⟩) xs.length xs.length) xs := by
  refine ⟨fun k hk => trivial, inner, ?_, ?_⟩
  · have h2 := World.ownsRow_lit (base := base) (e := e) (size := d.sz) W inner.toArray xs.length hbase (by simpa [maxLen] using hm) (by simpa using hrep.1)
    simpa using h2
  · refine hrep.imp_ (fun p c hp => d.M_mono (fun k hk => ⟨trivial, fun he => ?_⟩) (Kd.M_below (d.M_bound hp) (below_alloc (Below.refl _ _) _)))
    have h3 : k = W.heap.size := by simpa [Value.ownBlock] using he
    have := hk.2.2.1
    omega
end Go.Proofs.Ytkglfgikfeebhaa.X
