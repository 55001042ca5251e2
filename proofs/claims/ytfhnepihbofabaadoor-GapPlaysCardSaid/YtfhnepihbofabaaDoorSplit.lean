/-
  runes.Split: its contract in the print's form, by this session. Conditions: the two tables of unicode/utf8 as they are laid; a text of at most 2^45 bytes.
-/
import Derived.Test.YtfhnepihbofabaaDoorExt
import Derived.Lib.OthersKept
namespace Go.Proofs.YtfhnepihbofabaaDoor.X
open Go Go.RowKit Go.Shelf Go.Proofs.YtfhnepihbofabaaDoorW.PrintWords
set_option linter.unusedVariables false

theorem info_rune : (Tryd.prog.info? 21).map (fun i => (i.zero, i.size, i.bytes)) = some (some (.int .i32 0), 1, 4) := by kernel_rfl

theorem may_calls (s : ByteArray) (w : World) (hs : s.size ≤ 140737488355328) (hT : XAmb w) :
    Calls Tryd.prog 47 #[.string s] w fun e w' => e = .returned (.bool (decide (0 ≤ lenU s))) ∧ Below w.heap.size w w' := by
  have c := callsIn_wide.1 (len_in s w hs hT)
  obtain ⟨n, hn⟩ : ∃ n, lenU s = n := ⟨_, rfl⟩
  rw [hn] at c ⊢
  clear hn
  go_enter Tryd.func47, Tryd.ntmps47
  go_wp2_with (go_at_call 52; refine c.mono ?_; rintro e w1 ⟨rfl, hb⟩)
  go_ret
  exact ⟨rfl, hb⟩

def runes_Split.f (a0 : ByteArray) : Option (List Int × Int) :=
  if a0.size ≤ 35184372088832 then some (match textOf a0 with | some l => (l, 0) | none => ([], 2)) else none

theorem lenU_of_some {s : ByteArray} {l : List Int} (h : textOf s = some l) : lenU s = l.length := by simp [lenU, h]
theorem lenU_of_none {s : ByteArray} (h : textOf s = none) : lenU s = -1 := by simp [lenU, h]

set_option maxRecDepth 100000 in
set_option maxHeartbeats 4000000 in
theorem split_none (s : ByteArray) (w : World) (hs : s.size ≤ 35184372088832) (hT : XAmb w) (h : textOf s = none) :
    Calls Tryd.prog 34 #[.string s] w fun e w' => e = .returned (.tuple #[.slice none 0 0, .int .i64 2]) ∧ Below w.heap.size w w' := by
  have c := may_calls s w (by omega) hT
  rw [lenU_of_none h] at c
  go_enter Tryd.func34, Tryd.ntmps34
  go_wp2_with (go_at_call 47; refine c.mono ?_; rintro e w1 ⟨rfl, hb⟩)
  go_ret2
  exact ⟨rfl, hb⟩

/-- What holds at the head of a round: the iterator (block I) at a place, the row what has been told. -/
def RelS (s : ByteArray) (l : List Int) (w : World) (I : Nat) (u : Value) (wr : World) : Prop :=
  ∃ (pos f : Nat) (acc : List Int), wr.heap[I]? = some (.stringIter s pos) ∧ Kd.R (Kd.int .i32) 21 wr w.heap.size (fun _ => True) u acc ∧ Below w.heap.size w wr ∧
    acc ++ (stp s f pos).map (·.1) = l ∧ s.size ≤ pos + f ∧ (∀ x ∈ stp s f pos, 0 ≤ x.1) ∧ acc.length ≤ pos
theorem relS {s : ByteArray} {l : List Int} {v : Value} {w w1 : World} (h : textOf s = some l) (ho : Kd.R (Kd.int .i32) 21 w1 w.heap.size (fun _ => True) v []) (hb : Below w.heap.size w w1) : RelS s l w w1.heap.size v (w1.iter s 0) := by
  unfold textOf at h
  split at h
  · rename_i ha
    obtain rfl := Option.some.inj h
    exact ⟨0, s.size, [], World.iter_heap w1 s 0, Kd.R_below ho (below_alloc (Below.refl _ _) _), hb.alloc hb.size _, rfl, by omega, fun x hx => of_decide_eq_true (List.all_eq_true.1 ha x hx), Nat.le_refl _⟩
  · cases h
theorem R_iterAt {α : Type} {d : Kd α} {e : Nat} {w : World} {base : Nat} {ok : Nat → Prop} {v : Value} {xs : List α} {I pos : Nat} {s : ByteArray} (h : d.R e w base ok v xs) (hk : w.heap[I]? = some (.stringIter s pos)) (pos' : Nat) : d.R e (w.iterAt I s pos') base ok v xs := by
  refine Kd.R_mono (Kd.R_move (Kd.R_bound h) (fun k hk2 => ?_)) (fun _ hk => hk.1)
  obtain ⟨_, _, _, q, _, cells, hc⟩ := hk2
  have hne : k ≠ I := by
    rintro rfl
    rw [hk] at hc
    cases hc
  simp [World.iterAt, Ne.symm hne]

theorem own_ne_iterR {α : Type} {d : Kd α} {e : Nat} {w : World} {base : Nat} {ok : Nat → Prop} {v : Value} {xs : List α} {I pos : Nat} {s : ByteArray} (h : d.R e w base ok v xs) (hk : w.heap[I]? = some (.stringIter s pos)) : some I ≠ v.ownBlock := by
  intro he
  obtain ⟨_, _, _, q, _, cells, hc⟩ := (Kd.R_bound h).1 I he.symm
  rw [hk] at hc
  cases hc
theorem relS_next {s : ByteArray} {f pos : Nat} (h : pos < s.size) (hp : ∀ x ∈ stp s f pos, 0 ≤ x.1) (hf : 0 < f) :
    stp s f pos = (((Utf8.decode s pos).1 : Int), ((Utf8.decode s pos).2 : Int)) :: stp s (f - 1) (pos + (Utf8.decode s pos).2) := by
  cases f with
  | zero => omega
  | succ f =>
    simp only [stp] at hp ⊢
    rw [if_pos h] at hp ⊢
    split at hp
    · have := hp (-1, 0) (by simp)
      simp at this
    · rename_i hb
      rw [if_neg hb]
      rfl

set_option maxRecDepth 100000 in
set_option maxHeartbeats 4000000 in
theorem split_some (s : ByteArray) (w : World) (l : List Int) (hs : s.size ≤ 35184372088832) (hT : XAmb w) (h : textOf s = some l) :
    Calls Tryd.prog 34 #[.string s] w fun e w' => ∃ v, e = .returned (.tuple #[v, .int .i64 0]) ∧ Kd.R (Kd.int .i32) 21 w' w.heap.size (fun _ => True) v l ∧ Below w.heap.size w w' := by
  have c := may_calls s w (by omega) hT
  rw [lenU_of_some h] at c
  rw [show decide (0 ≤ (l.length : Int)) = true by simp] at c
  go_enter Tryd.func34, Tryd.ntmps34
  go_wp2_with (first | (go_at_call 47; refine c.mono ?_; rintro e w1 ⟨rfl, hb⟩) | (at_make; refine Kd.R_make0 (Kd.int .i32) (w0 := w) w.heap.size 21 rfl (N := 12) rfl 33 _ _ rfl (s.size : Int) rfl rfl Tryd.underlying33 (.int .i32 0) 4 info_rune rfl (by decide) (by omega) 0 (ok := fun _ => True) (okp := fun _ => True) rfl (fun _ h => h) trivial (by omega) (by simp; omega) hb hb.size ?_; intro v w2 ho hb2 hg2 _))
  have hr0 := relS (s := s) (l := l) (v := v) (w := w) (w1 := w2) h ho hb2
  have hw2 : w.heap.size ≤ w2.heap.size := hb2.size
  clear ho hb2 hg2
  go_loopw [4] (fun u wr => RelS s l w w2.heap.size u wr) (fun _ wr => s.size - wr.iterPos w2.heap.size)
  case atStart => exact hr0
  case round =>
    obtain ⟨pos, f, acc, hit, hR, hB, hl, hf, hp, ha⟩ := hrel
    have HL := Lib.hid hl
    clear hl
    have hwI : w.heap.size ≤ w2.heap.size := hw2
    by_cases hpz : pos < s.size
    · have hnx : ∀ ty, (Instr.next (.pointer (some ⟨w2.heap.size, 0, none⟩)) true ty).run Tryd.prog wr = _ := fun ty => Lib.run_next_any_at wr w2.heap.size s pos ty hit hpz
      have hdl := decode_le s pos hpz
      have hdp := decode_pos s pos hpz
      obtain ⟨R, hRr⟩ : ∃ R, (Utf8.decode s pos).1 = R := ⟨_, rfl⟩
      obtain ⟨K, hKr⟩ : ∃ K, (Utf8.decode s pos).2 = K := ⟨_, rfl⟩
      rw [hRr, hKr] at hnx
      rw [hKr] at hdl hdp
      have HR2 := Lib.hid hRr
      have HK2 := Lib.hid hKr
      clear hRr hKr
      have ho1 := R_iterAt hR hit (pos + K)
      have hb1 := Lib.below_iterAt hB hwI s (pos + K)
      have hit1 := Lib.iterAt_heap wr w2.heap.size s pos (pos + K) hit
      obtain ⟨w3, hw3⟩ : ∃ w3, wr.iterAt w2.heap.size s (pos + K) = w3 := ⟨_, rfl⟩
      rw [hw3] at hnx ho1 hb1 hit1
      clear hw3
      have hne : some w2.heap.size ≠ u4.ownBlock := own_ne_iterR ho1 hit1
      go_wp2_with (at_builtin; refine Kd.R_append (Kd.int .i32) (w0 := w) w.heap.size rfl (.tmp 18) (.tmp 20) 33 21 (.int .i32 0) 4 rfl Tryd.underlying33 info_rune rfl (by decide) (by omega) u4 acc (R : Int) [.int .i32 R] (fun _ => True) (fun _ => False) rfl rfl rfl (fun _ h => h.elim) (fun _ _ => trivial) ho1 hb1 hb1.size (by omega) ?_; intro v3 w4 ho4 hb4 hg4 _)
      have hlt1 := (Array.getElem?_eq_some_iff.1 hit1).1
      have hit4 : w4.heap[w2.heap.size]? = some (.stringIter s (pos + K)) := (hg4.block _ hlt1 hne).trans hit1
      go_roundw
      case rel =>
        refine ⟨pos + K, f - 1, acc ++ [(R : Int)], hit4, ho4, hb4, ?_, by omega, ?_, by simp; omega⟩
        · rw [← HL.out, relS_next hpz hp (by omega), HR2.out, HK2.out]; simp
        · intro x hx
          exact hp x (by rw [relS_next hpz hp (by omega), HK2.out]; exact List.mem_cons_of_mem _ hx)
      case measure =>
        simp only [World.iterPos, hit4, hit]
        omega
    · have hnx : ∀ ty, (Instr.next (.pointer (some ⟨w2.heap.size, 0, none⟩)) true ty).run Tryd.prog wr = _ := fun ty => Lib.run_next_end_at wr w2.heap.size s pos ty hit hpz
      go_wp2
      go_ret2
      have hfin : acc = l := by rw [← HL.out, stp_end s f pos hpz]; simp
      exact ⟨_, rfl, hfin ▸ hR, hB⟩

theorem runes_Split.calls (a0 : ByteArray) (r1 : List Int) (r2 : Int) (w : World) (hT : Aside0 (XAmb w)) (h : runes_Split.f a0 = some (r1, r2)) :
    Calls Tryd.prog 34 #[.string a0] w fun e w' => ∃ v0_ : Value, e = .returned (.tuple #[v0_, .int .i64 r2]) ∧ Kd.R (Kd.int .i32) 21 w' w.heap.size (fun _ => True) v0_ r1 ∧ Below w.heap.size w w' := by
  unfold runes_Split.f at h
  split at h
  · rename_i hs
    cases ht : textOf a0 with
    | none =>
      rw [ht] at h
      simp only [Option.some.injEq, Prod.mk.injEq] at h
      obtain ⟨rfl, rfl⟩ := h
      exact (split_none a0 w hs hT.out ht).mono fun e w' ⟨he, hb⟩ => ⟨_, he, Kd.R_nil _ _ _ _ _, hb⟩
    | some l =>
      rw [ht] at h
      simp only [Option.some.injEq, Prod.mk.injEq] at h
      obtain ⟨rfl, rfl⟩ := h
      exact split_some a0 w _ hs hT.out ht
  · cases h
end Go.Proofs.YtfhnepihbofabaaDoor.X
