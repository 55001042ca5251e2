/-
  package gap's Buffer in memory: its word, and what the stacks' push, pop and top do to it: by this session. Conditions: as typed.
-/
import Derived.Test.YtfhnepihbofabaaDoorGap1
import Derived.Test.YtfhnepihbofabaaDoorFeeds
import Derived.Test.YtfhnepihbofabaaDoorWApart
namespace Go.Proofs.YtfhnepihbofabaaDoor.X
open Go Go.RowKit Go.Proofs.YtfhnepihbofabaaDoorW.PrintWords
set_option linter.unusedVariables false
/-- The blocks that X names are as they were. -/
structure Kp (X : Nat → Prop) (w w' : World) : Prop where
  os : w'.os = w.os
  tape : w'.tape = w.tape
  output : w'.output = w.output
  size : w.heap.size ≤ w'.heap.size
  block : ∀ k, X k → w'.heap[k]? = w.heap[k]?
namespace Kp
variable {X : Nat → Prop} {a b c : World}
theorem refl (a : World) : Kp X a a := ⟨rfl, rfl, rfl, Nat.le_refl _, fun _ _ => rfl⟩
theorem trans (h : Kp X a b) (k : Kp X b c) : Kp X a c := ⟨k.os.trans h.os, k.tape.trans h.tape, k.output.trans h.output, Nat.le_trans h.size k.size, fun i hi => (k.block i hi).trans (h.block i hi)⟩
theorem drewN (h : Kp X a b) (n : Nat) : Kp X a (b.drewN n) := ⟨h.os, h.tape, h.output, h.size, h.block⟩
theorem drew (h : Kp X a b) : Kp X a b.drew := ⟨h.os, h.tape, h.output, h.size, h.block⟩
theorem set (h : Kp X a b) {p : Addr} (hp : ¬ X p.block) (u : Value) : Kp X a (b.setCell p u) :=
  ⟨h.os, h.tape, h.output, by simpa using h.size, fun k hk => (Below.heap_setCell b p u k (fun e => hp (e ▸ hk))).trans (h.block k hk)⟩
theorem below (hX : ∀ k, X k → k < a.heap.size) (h : Below a.heap.size a b) : Kp X a b := ⟨h.os, h.tape, h.output, h.size, fun k hk => h.block k (hX k hk)⟩
theorem mono {Y : Nat → Prop} (h : Kp X a b) (hY : ∀ k, Y k → X k) : Kp Y a b := ⟨h.os, h.tape, h.output, h.size, fun k hk => h.block k (hY k hk)⟩
theorem out {n : Nat} (h : Kp (fun k => k < n) a b) : Below n a b := ⟨h.os, h.tape, h.output, h.size, h.block⟩
end Kp
/-- A row of runes of one's own. -/
abbrev Ru (W : World) (v : Value) (xs : List Int) : Prop := Kd.R (Kd.int .i32) 21 W 0 (fun _ => True) v xs
theorem rk_blk {k : IntKind} {e : TypeId} {W : World} {v : Value} {xs : List Int} (h : Kd.R (Kd.int k) e W 0 (fun _ => True) v xs) {b : Nat} (hb : v.ownBlock = some b) : ∃ cur, W.heap[b]? = some (.cells cur e (0, 0)) := by
  rcases rk_out h with ⟨rfl, _⟩ | ⟨g, cap, cur, rfl, _, hh, _⟩
  · cases hb
  · cases hb; exact ⟨cur, hh⟩
theorem blk_types {W : World} {a b : Nat} {c c' : Array Value} {t t' : TypeId} (h : W.heap[a]? = some (.cells c t (0, 0))) (h' : W.heap[b]? = some (.cells c' t' (0, 0))) (ht : t ≠ t') : a ≠ b := by
  rintro rfl
  rw [h] at h'
  injection h' with h'
  injection h' with _ h2
  exact ht h2
/-- The buffer at block g: the runes ahead of the gap, the gap, the runes behind it, the two stacks; the blocks of X are no part of it. -/
structure ZipV (W : World) (X : Nat → Prop) (g : Nat) (A mid B ah be : List Int) (vr va vb : Value) : Prop where
  lt : ∀ k, X k → k < W.heap.size
  nx : ¬ X g
  blk : W.heap[g]? = some (.cells #[vr, .int .i64 (A.length : Nat), .int .i64 (A.length + mid.length : Nat), va, vb] 68 (0, 0))
  room : Ru W vr (A ++ mid ++ B)
  ra : Ri W 0 va ah
  rb : Ri W 0 vb be
  ab : ∀ b, va.ownBlock = some b → vb.ownBlock ≠ some b
  xr : ∀ b, vr.ownBlock = some b → ¬ X b
  xa : ∀ b, va.ownBlock = some b → ¬ X b
  xb : ∀ b, vb.ownBlock = some b → ¬ X b
def Zip (W : World) (X : Nat → Prop) (g : Nat) (A : List Int) (m : Nat) (B ah be : List Int) : Prop := ∃ mid vr va vb, mid.length = m ∧ ZipV W X g A mid B ah be vr va vb
namespace ZipV
variable {W W' : World} {X : Nat → Prop} {g : Nat} {A mid B ah be : List Int} {vr va vb : Value}
theorem glt (h : ZipV W X g A mid B ah be vr va vb) : g < W.heap.size := blk_lt h.blk
theorem gr (h : ZipV W X g A mid B ah be vr va vb) {b : Nat} (hb : vr.ownBlock = some b) : b ≠ g := by
  obtain ⟨c, hc⟩ := rk_blk h.room hb
  exact blk_types hc h.blk (by decide)
theorem ga (h : ZipV W X g A mid B ah be vr va vb) {b : Nat} (hb : va.ownBlock = some b) : b ≠ g := by
  obtain ⟨c, hc⟩ := rk_blk h.ra hb
  exact blk_types hc h.blk (by decide)
theorem gb (h : ZipV W X g A mid B ah be vr va vb) {b : Nat} (hb : vb.ownBlock = some b) : b ≠ g := by
  obtain ⟨c, hc⟩ := rk_blk h.rb hb
  exact blk_types hc h.blk (by decide)
theorem la (h : ZipV W X g A mid B ah be vr va vb) {b : Nat} (hb : va.ownBlock = some b) : b < W.heap.size := by
  obtain ⟨c, hc⟩ := rk_blk h.ra hb
  exact blk_lt hc
theorem lb (h : ZipV W X g A mid B ah be vr va vb) {b : Nat} (hb : vb.ownBlock = some b) : b < W.heap.size := by
  obtain ⟨c, hc⟩ := rk_blk h.rb hb
  exact blk_lt hc
theorem lr (h : ZipV W X g A mid B ah be vr va vb) {b : Nat} (hb : vr.ownBlock = some b) : b < W.heap.size := by
  obtain ⟨c, hc⟩ := rk_blk h.room hb
  exact blk_lt hc
theorem ra_ne (h : ZipV W X g A mid B ah be vr va vb) {a b : Nat} (ha : vr.ownBlock = some a) (hb : va.ownBlock = some b) : a ≠ b := by
  obtain ⟨c, hc⟩ := rk_blk h.room ha
  obtain ⟨c', hc'⟩ := rk_blk h.ra hb
  exact blk_types hc hc' (by decide)
theorem rb_ne (h : ZipV W X g A mid B ah be vr va vb) {a b : Nat} (ha : vr.ownBlock = some a) (hb : vb.ownBlock = some b) : a ≠ b := by
  obtain ⟨c, hc⟩ := rk_blk h.room ha
  obtain ⟨c', hc'⟩ := rk_blk h.rb hb
  exact blk_types hc hc' (by decide)
/-- Whatever leaves the buffer's own blocks alone. -/
theorem keep (h : ZipV W X g A mid B ah be vr va vb) (hs : W.heap.size ≤ W'.heap.size) (hk : ∀ k, k < W.heap.size → ¬ X k → W'.heap[k]? = W.heap[k]?) : ZipV W' X g A mid B ah be vr va vb :=
  ⟨fun k hX => Nat.lt_of_lt_of_le (h.lt k hX) hs, h.nx, (hk g h.glt h.nx).trans h.blk, rk_kept h.room (fun b hb => hk b (h.lr hb) (h.xr b hb)), rk_kept h.ra (fun b hb => hk b (h.la hb) (h.xa b hb)), rk_kept h.rb (fun b hb => hk b (h.lb hb) (h.xb b hb)), h.ab, h.xr, h.xa, h.xb⟩
end ZipV
namespace Zip
variable {W W' : World} {X : Nat → Prop} {g m : Nat} {A B ah be : List Int}
theorem drewN (h : Zip W X g A m B ah be) (n : Nat) : Zip (W.drewN n) X g A m B ah be := by
  obtain ⟨mid, vr, va, vb, hm, h⟩ := h
  exact ⟨mid, vr, va, vb, hm, h.keep (Nat.le_refl _) (fun _ _ _ => rfl)⟩
theorem drew (h : Zip W X g A m B ah be) : Zip W.drew X g A m B ah be := h.drewN 1
theorem below (h : Zip W X g A m B ah be) (hb : Below W.heap.size W W') : Zip W' X g A m B ah be := by
  obtain ⟨mid, vr, va, vb, hm, h⟩ := h
  exact ⟨mid, vr, va, vb, hm, h.keep hb.size (fun k hk _ => hb.block k hk)⟩
theorem lt (h : Zip W X g A m B ah be) : ∀ k, X k → k < W.heap.size := by
  obtain ⟨mid, vr, va, vb, hm, h⟩ := h
  exact h.lt
theorem mono {Y : Nat → Prop} (h : Zip W X g A m B ah be) (hY : ∀ k, Y k → X k) : Zip W Y g A m B ah be := by
  obtain ⟨mid, vr, va, vb, hm, h⟩ := h
  exact ⟨mid, vr, va, vb, hm, fun k hk => h.lt k (hY k hk), fun hk => h.nx (hY _ hk), h.blk, h.room, h.ra, h.rb, h.ab, fun b hb hk => h.xr b hb (hY _ hk), fun b hb hk => h.xa b hb (hY _ hk), fun b hb hk => h.xb b hb (hY _ hk)⟩
end Zip
theorem drewN_cell (W : World) (q : Nat) (a : Addr) : (W.drewN q).cell? a = W.cell? a := rfl
theorem last_idx {xs : List Int} {x : Int} : (xs ++ [x])[xs.length]? = some x := by simp
/-! ### Top, pop, push on either stack -/
set_option maxRecDepth 100000 in
theorem top_row {W : World} {g j : Nat} {v : Value} {xs : List Int} (hc : W.cell? ⟨g, j, none⟩ = some v) (hr : Ri W 0 v xs) (hl : xs.length ≤ 1099511627776) :
    Calls Tryd.prog 48 #[.pointer (some ⟨g, j, none⟩)] W fun e w' => e = .returned (.tuple #[.int .i64 (xs.getLast?.getD 0), .bool xs.getLast?.isSome]) ∧ ∃ q, w' = W.drewN q := by
  rcases List.eq_nil_or_concat xs with h0 | ⟨ys, x, h0⟩
  · subst h0
    obtain ⟨A, c, rfl⟩ := Kd.R_slice hr
    refine (top_none g j c A W hc).mono ?_
    rintro e w' ⟨rfl, rfl⟩
    exact ⟨rfl, 0, rfl⟩
  · rw [List.concat_eq_append] at h0
    subst h0
    rcases rk_out hr with ⟨_, h2⟩ | ⟨b, cap, cur, rfl, _, hh, hle, hm, hs, ht⟩
    · simp at h2
    · simp only [List.length_append, List.length_singleton] at hc hl
      refine (top_some g j b ys.length cap x W hc ((blk_cell hh _).trans (ck_at ht last_idx)) (by omega)).mono ?_
      rintro e w' ⟨rfl, q, rfl⟩
      exact ⟨by simp, q, rfl⟩
theorem top_a {W : World} {X : Nat → Prop} {g m : Nat} {A B ah be : List Int} (h : Zip W X g A m B ah be) (hl : ah.length ≤ 1099511627776) :
    Calls Tryd.prog 48 #[.pointer (some ⟨g, 3, none⟩)] W fun e w' => e = .returned (.tuple #[.int .i64 (ah.getLast?.getD 0), .bool ah.getLast?.isSome]) ∧ ∃ q, w' = W.drewN q := by
  obtain ⟨mid, vr, va, vb, hm, h⟩ := h
  exact top_row ((blk_cell h.blk 3).trans rfl) h.ra hl
theorem top_b {W : World} {X : Nat → Prop} {g m : Nat} {A B ah be : List Int} (h : Zip W X g A m B ah be) (hl : be.length ≤ 1099511627776) :
    Calls Tryd.prog 48 #[.pointer (some ⟨g, 4, none⟩)] W fun e w' => e = .returned (.tuple #[.int .i64 (be.getLast?.getD 0), .bool be.getLast?.isSome]) ∧ ∃ q, w' = W.drewN q := by
  obtain ⟨mid, vr, va, vb, hm, h⟩ := h
  exact top_row ((blk_cell h.blk 4).trans rfl) h.rb hl
theorem row_less {W : World} {b cap : Nat} {cur : Array Value} {xs : List Int} {x : Int} (hh : W.heap[b]? = some (.cells cur 3 (0, 0))) (hle : (xs ++ [x]).length ≤ cap) (hm : cap ≤ maxLen) (hs : cur.size = cap) (ht : cur.toList.take (xs ++ [x]).length = (xs ++ [x]).map (Value.int .i64)) : Ri W 0 (.slice (some ⟨b, 0, none⟩) xs.length cap) xs := by
  simp only [List.length_append, List.length_singleton] at hle
  refine rk_in (Nat.zero_le _) hh (by omega) hm hs ?_
  have := congrArg (List.take xs.length) ht
  rw [List.take_take, List.length_append, Nat.min_eq_left (by omega), List.map_append, List.take_left' (by simp)] at this
  exact this
theorem pop_a {W : World} {X : Nat → Prop} {g m : Nat} {A B ah be : List Int} {x : Int} (h : Zip W X g A m B (ah ++ [x]) be) (hl : ah.length ≤ 1099511627776) :
    Calls Tryd.prog 42 #[.pointer (some ⟨g, 3, none⟩)] W fun e w' => e = .returned (.int .i64 x) ∧ Zip w' X g A m B ah be ∧ Kp X W w' := by
  obtain ⟨mid, vr, va, vb, hmid, h⟩ := h
  rcases rk_out h.ra with ⟨_, h2⟩ | ⟨b, cap, cur, rfl, _, hh, hle, hm, hs, ht⟩
  · simp at h2
  · have hle2 : ah.length + 1 ≤ cap := by simpa using hle
    have hc : W.cell? ⟨g, 3, none⟩ = some (.slice (some ⟨b, 0, none⟩) (ah.length + 1) cap) := by rw [blk_cell h.blk 3]; simp
    refine (pop_calls g 3 b ah.length cap x W hc (blk_frozen h.blk 3) ((blk_cell hh _).trans (ck_at ht last_idx)) hl hle2 (by simpa [maxLen] using hm)).mono ?_
    rintro e w' ⟨rfl, q, rfl⟩
    have hblk := blk_put (w := W.drewN q) h.blk 3 (.slice (some ⟨b, 0, none⟩) ah.length cap) rfl
    have hk : ∀ k, k ≠ g → ((W.drewN q).setCell ⟨g, 3, none⟩ (.slice (some ⟨b, 0, none⟩) ah.length cap)).drew.heap[k]? = W.heap[k]? := fun k hk => Below.heap_setCell (W.drewN q) _ _ k hk
    refine ⟨rfl, ⟨mid, vr, .slice (some ⟨b, 0, none⟩) ah.length cap, vb, hmid, fun k hX => by have := h.lt k hX; simpa using this, h.nx, hblk, rk_kept h.room (fun b hb => hk b (h.gr hb)), row_less ((hk b (h.ga rfl)).trans hh) hle hm hs ht, rk_kept h.rb (fun b hb => hk b (h.gb hb)), fun b' hb' => h.ab b' hb', h.xr, fun b' hb' => h.xa b' hb', h.xb⟩, (((Kp.refl W).drewN q).set h.nx _).drew⟩
theorem pop_b {W : World} {X : Nat → Prop} {g m : Nat} {A B ah be : List Int} {x : Int} (h : Zip W X g A m B ah (be ++ [x])) (hl : be.length ≤ 1099511627776) :
    Calls Tryd.prog 42 #[.pointer (some ⟨g, 4, none⟩)] W fun e w' => e = .returned (.int .i64 x) ∧ Zip w' X g A m B ah be ∧ Kp X W w' := by
  obtain ⟨mid, vr, va, vb, hmid, h⟩ := h
  rcases rk_out h.rb with ⟨_, h2⟩ | ⟨b, cap, cur, rfl, _, hh, hle, hm, hs, ht⟩
  · simp at h2
  · have hle2 : be.length + 1 ≤ cap := by simpa using hle
    have hc : W.cell? ⟨g, 4, none⟩ = some (.slice (some ⟨b, 0, none⟩) (be.length + 1) cap) := by rw [blk_cell h.blk 4]; simp
    refine (pop_calls g 4 b be.length cap x W hc (blk_frozen h.blk 4) ((blk_cell hh _).trans (ck_at ht last_idx)) hl hle2 (by simpa [maxLen] using hm)).mono ?_
    rintro e w' ⟨rfl, q, rfl⟩
    have hblk := blk_put (w := W.drewN q) h.blk 4 (.slice (some ⟨b, 0, none⟩) be.length cap) rfl
    have hk : ∀ k, k ≠ g → ((W.drewN q).setCell ⟨g, 4, none⟩ (.slice (some ⟨b, 0, none⟩) be.length cap)).drew.heap[k]? = W.heap[k]? := fun k hk => Below.heap_setCell (W.drewN q) _ _ k hk
    refine ⟨rfl, ⟨mid, vr, va, .slice (some ⟨b, 0, none⟩) be.length cap, hmid, fun k hX => by have := h.lt k hX; simpa using this, h.nx, hblk, rk_kept h.room (fun b hb => hk b (h.gr hb)), rk_kept h.ra (fun b hb => hk b (h.ga hb)), row_less ((hk b (h.gb rfl)).trans hh) hle hm hs ht, fun b' hb' => h.ab b' hb', h.xr, h.xa, fun b' hb' => h.xb b' hb'⟩, (((Kp.refl W).drewN q).set h.nx _).drew⟩
theorem push_a {W : World} {X : Nat → Prop} {g m : Nat} {A B ah be : List Int} (x : Int) (h : Zip W X g A m B ah be) (hl : ah.length ≤ 1099511627776) :
    Calls Tryd.prog 37 #[.pointer (some ⟨g, 3, none⟩), .int .i64 x] W fun e w' => e = .returned (.tuple #[]) ∧ Zip w' X g A m B (ah ++ [x]) be ∧ Kp X W w' := by
  obtain ⟨mid, vr, va, vb, hmid, h⟩ := h
  refine (push_calls 0 g 3 x va ah _ W h.ra h.blk rfl (Nat.zero_le _) (fun e => h.ga e.symm rfl) (Nat.zero_le _) hl).mono ?_
  rintro e w' ⟨va', rfl, hR, hB, hk, hown, hsz, hbel⟩
  have hb0 := hbel W (Below.refl _ _)
  refine ⟨rfl, ⟨mid, vr, va', vb, hmid, fun k hX => Nat.lt_of_lt_of_le (h.lt k hX) hsz, h.nx, hB, rk_kept h.room (fun b hb => hk b (h.lr hb) (h.gr hb) (fun e => h.ra_ne hb e.symm rfl)), hR, rk_kept h.rb (fun b hb => hk b (h.lb hb) (h.gb hb) (fun e => h.ab b e.symm hb)), fun b hb hb' => ?_, h.xr, fun b hb => ?_, h.xb⟩, hb0.os, hb0.tape, hb0.output, hsz, fun k hX => hk k (h.lt k hX) (fun e => h.nx (e ▸ hX)) (fun e => h.xa k e.symm hX)⟩
  · rcases hown with e | ⟨b2, e, hlt⟩
    · exact h.ab b (e ▸ hb) hb'
    · rw [e] at hb; cases hb
      have := h.lb hb'
      omega
  · rcases hown with e | ⟨b2, e, hlt⟩
    · exact h.xa b (e ▸ hb)
    · rw [e] at hb; cases hb
      exact fun hX => absurd (h.lt _ hX) (by omega)
theorem push_b {W : World} {X : Nat → Prop} {g m : Nat} {A B ah be : List Int} (x : Int) (h : Zip W X g A m B ah be) (hl : be.length ≤ 1099511627776) :
    Calls Tryd.prog 37 #[.pointer (some ⟨g, 4, none⟩), .int .i64 x] W fun e w' => e = .returned (.tuple #[]) ∧ Zip w' X g A m B ah (be ++ [x]) ∧ Kp X W w' := by
  obtain ⟨mid, vr, va, vb, hmid, h⟩ := h
  refine (push_calls 0 g 4 x vb be _ W h.rb h.blk rfl (Nat.zero_le _) (fun e => h.gb e.symm rfl) (Nat.zero_le _) hl).mono ?_
  rintro e w' ⟨vb', rfl, hR, hB, hk, hown, hsz, hbel⟩
  have hb0 := hbel W (Below.refl _ _)
  refine ⟨rfl, ⟨mid, vr, va, vb', hmid, fun k hX => Nat.lt_of_lt_of_le (h.lt k hX) hsz, h.nx, hB, rk_kept h.room (fun b hb => hk b (h.lr hb) (h.gr hb) (fun e => h.rb_ne hb e.symm rfl)), rk_kept h.ra (fun b hb => hk b (h.la hb) (h.ga hb) (fun e => h.ab b hb e.symm)), hR, fun b hb hb' => ?_, h.xr, h.xa, fun b hb => ?_⟩, hb0.os, hb0.tape, hb0.output, hsz, fun k hX => hk k (h.lt k hX) (fun e => h.nx (e ▸ hX)) (fun e => h.xb k e.symm hX)⟩
  · rcases hown with e | ⟨b2, e, hlt⟩
    · exact h.ab b hb (e ▸ hb')
    · rw [e] at hb'; cases hb'
      have := h.la hb
      omega
  · rcases hown with e | ⟨b2, e, hlt⟩
    · exact h.xb b (e ▸ hb)
    · rw [e] at hb; cases hb
      exact fun hX => absurd (h.lt _ hX) (by omega)
end Go.Proofs.YtfhnepihbofabaaDoor.X
