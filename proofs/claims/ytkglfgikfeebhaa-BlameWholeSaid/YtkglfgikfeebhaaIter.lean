/-
  slices.Chunk's iterator over cells: its contract: by this session. Conditions: as typed.
-/
import Derived.Test.YtkglfgikfeebhaaCount
import Derived.Test.YtkglfgikfeebhaaRound
import Derived.RangeFuncNested
import Derived.RangeFuncBound
import Derived.RangeFuncCalls
import Derived.RangeFuncLeaves
import Derived.Shelf.Abstract
import Derived.Shelf.RegionOpen
import Derived.WalkKit
import Derived.OwnWalkIn
import Derived.TacticsInMore
import Derived.LoopNIn
import Derived.LoopIn
import Derived.Sort.CutIn
import Derived.Deep.QuietTactic
import Derived.BigQuiet
namespace Go.Proofs.Ytkglfgikfeebhaa.X
open Go Go.RowKit Go.Shelf Go.Lib Go.Proofs.YtkglfgikfeebhaaW.PrintWords Go.Proofs.Ytkglfgikfeebhaa.P
set_option linter.unusedVariables false
attribute [local go_sem] Oper.semAt_some
/-- A chunk of cells, as it lies in the world where they came in. -/
abbrev Chk (w : World) := { x : Option Addr × Nat × Nat // ∃ xs : List S46, xs.length = x.2.1 ∧ x.2.1 ≤ x.2.2 ∧ x.2.1 ≤ 20000 ∧ Kd.C k46 w x.1 xs.length xs }
def chkV {w : World} (x : Chk w) : Array Value := #[.slice x.1.1 x.1.2.1 x.1.2.2]
/-- What a round must keep: what lay when the call began, and the iterator's two variables. -/
def KpN (n₀ b1 b2 : Nat) (W W' : World) : Prop := Below n₀ W W' ∧ W'.heap[b1]? = W.heap[b1]? ∧ W'.heap[b2]? = W.heap[b2]?
theorem cut3_46 (A : Option Addr) (n c lo hi : Nat) (h1 : lo ≤ hi) (h2 : hi ≤ c) (W : World) : (Instr.slice 22 (.slice A n c) (some (.int .i64 (lo : Nat))) (some (.int .i64 (hi : Nat))) (some (.int .i64 (hi : Nat)))).run Try.prog W = .ok (.slice (if hi = lo then A else A.map (·.add (lo * 5))) (hi - lo) (hi - lo)) W := by
  have hz : ∀ w, (Go.sizeOf 46).run Try.prog w = .ok 5 w := Try.sizeOf46
  have hel : Try.prog.elem 22 = 46 := by simp [Program.elem, Try.underlying22]
  have hu : Try.prog.underlying 22 = some (.slice (Try.prog.elem 22)) := by rw [hel]; exact Try.underlying22
  rw [run_slice_lhm W 22 A n c hu .i64 .i64 .i64 (lo : Int) (hi : Int) (hi : Int) (by omega) (by omega) (by omega) (by omega), hel, hz]
  simp [sliced, Result.andThen]
theorem C46_mid {W : World} {A : Option Addr} {xs : List S46} {lo hi : Nat} (h : Kd.C k46 W A xs.length xs) (h1 : lo ≤ hi) (h2 : hi ≤ xs.length) : Kd.C k46 W (if hi = lo then A else A.map (·.add (lo * 5))) ((xs.take hi).drop lo).length ((xs.take hi).drop lo) := by
  have ht : (xs.take hi).length = hi := by rw [List.length_take, Nat.min_eq_left h2]
  have := Kd.C_drop (m := lo) (c := hi) (Kd.C_take h h2) (by rw [ht]; exact h1) (by rw [ht]; exact Nat.le_refl _)
  exact this
set_option maxRecDepth 100000 in
set_option maxHeartbeats 8000000 in
theorem chunk_stops (A : Option Addr) (c n s : Nat) (l : List S46) (w Wc : World) (hn : l.length = n) (hC : Kd.C k46 w A l.length l) (hc : n ≤ c) (hl : n ≤ 20000) (hws : w.heap.size ≤ s) (hsz : s + 5 ≤ Wc.heap.size) (hb0 : Below w.heap.size w Wc)
    (q3 : Wc.heap[s + 3]? = some (.cells #[.slice A n c] 22 (0, 0))) (q4 : Wc.heap[s + 4]? = some (.cells #[.int .i64 64] 3 (0, 0))) :
    SeqStopsK Fence.wide (8 - 1) Try.prog 37 #[.pointer (some ⟨s + 3, 0, none⟩), .pointer (some ⟨s + 4, 0, none⟩)] (chkV (w := w)) (KpN w.heap.size (s + 3) (s + 4)) (fun _ => True) (fun _ => True) n Wc := fun q J Jx W hW hJ hJx hY h0 => by
  refine callsIn_of_wp Try.func37 rfl trivial ?_ rfl
  simp only [Try.ntmps37, List.size_toArray, List.length_cons, List.length_nil, Nat.reduceAdd, Nat.reduceSub, Array.replicate_succ, Array.replicate_zero, List.push_toArray, List.append_toArray, List.nil_append, List.cons_append]
  gi_wp2
  gi_loopw [4] (fun u4 wr => ∃ (k : Nat) (pre : List (Chk w)), u4 = .int .i64 ((64 * k : Nat) : Int) ∧ pre.length = k ∧ J pre wr ∧ wr.heap[s + 3]? = some (.cells #[.slice A n c] 22 (0, 0)) ∧ wr.heap[s + 4]? = some (.cells #[.int .i64 64] 3 (0, 0)) ∧ W.heap.size ≤ wr.heap.size)
    (fun u4 _ => n + 64 - (RowKit.intOf u4).toNat)
  case atStart => exact ⟨0, [], rfl, rfl, h0, (hW.block (s + 3) (by omega)).trans q3, (hW.block (s + 4) (by omega)).trans q4, Nat.le_refl _⟩
  case round =>
    obtain ⟨k, pre, rfl, hpl, hJs, p3, p4, hsW⟩ := hrel
    have c3 : wr.cell? ⟨s + 3, 0, none⟩ = some (.slice A n c) := blk_cell p3 0
    have c4 : wr.cell? ⟨s + 4, 0, none⟩ = some (.int .i64 64) := blk_cell p4 0
    obtain ⟨i, hi⟩ : ∃ i, 64 * k = i := ⟨_, rfl⟩
    rw [hi]
    by_cases hin : i < n
    · have hi0 : (0 : Int) ≤ (i : Int) := by omega
      have hi1 : (i : Int) < (n : Int) := by omega
      have hic : ¬ c = i := by omega
      obtain ⟨i1, hi9, _, hsz1, _⟩ := info_parts info46
      have hct2 := fun W => cut_from (P := Try.prog) 22 46 .i64 Try.underlying22 hi9 5 hsz1 A n c (i : Int) (by omega) (by omega) W
      simp only [Int.toNat_natCast, if_neg hic] at hct2
      obtain ⟨p, hp⟩ : ∃ p, n - i = p := ⟨_, rfl⟩
      rw [hp] at hct2
      have HP := Lib.hid hp
      clear hi9 hsz1 hp
      gi_upto_region 3 with fail
      refine wpIn_wide.2 ?_
      go_quiet (fail)
      obtain ⟨e, he⟩ : ∃ e : Nat, min (64 : Int) (p : Int) = (e : Int) := ⟨min 64 p, by omega⟩
      have he1 : 1 ≤ e ∧ e ≤ 64 ∧ i + e ≤ n ∧ (64 ≤ p → e = 64) ∧ (p ≤ 64 → e = p) := by have := HP.out; omega
      rw [he]
      obtain ⟨m, hm⟩ : ∃ m, i + e = m := ⟨_, rfl⟩
      have hct3 := fun W => cut3_46 A n c i m (by omega) (by omega) W
      rw [if_neg (show ¬ m = i by omega), show m - i = e by omega] at hct3
      have hJd : ∀ w1, Below wr.heap.size wr w1 → J pre w1 := fun w1 h => hJ pre wr w1 none hJs ⟨h.os, h.tape, h.output, h.size, fun k hk _ => h.block k hk⟩ (fun r e => by cases e)
      have hb3 : Below wr.heap.size wr (wr.drewN nq) := pw_below_drewN (Below.refl _ _) nq
      have hx : ∃ xs : List S46, xs.length = e ∧ e ≤ e ∧ e ≤ 20000 ∧ Kd.C k46 w (A.map (·.add (i * 5))) xs.length xs := by
        have h9 := C46_mid hC (lo := i) (hi := m) (by omega) (by omega)
        rw [if_neg (show ¬ m = i by omega)] at h9
        exact ⟨_, by rw [List.length_drop, List.length_take]; omega, Nat.le_refl _, by omega, h9⟩
      have hbb : s + 4 < wr.heap.size := (Array.getElem?_eq_some_iff.1 p4).1
      have p3' := (hb3.block (s + 3) (by omega)).trans p3
      have p4' := (hb3.block (s + 4) (by omega)).trans p4
      have hJ3 := hJd _ hb3
      have hs3 : W.heap.size ≤ (wr.drewN nq).heap.size := Nat.le_trans hsW hb3.size
      obtain ⟨W3, hW3⟩ : ∃ x, wr.drewN nq = x := ⟨_, rfl⟩
      rw [hW3] at p3' p4' hJ3 hs3 ⊢
      obtain ⟨x, hxv⟩ : ∃ x : Chk w, chkV x = #[.slice (A.map (·.add (i * 5))) e e] := ⟨⟨(A.map (·.add (i * 5)), e, e), hx⟩, rfl⟩
      obtain ⟨fn, tmps, assign, body, hy, hR⟩ := hY pre x W3 hJ3 (by omega)
      rw [hxv] at hy
      have c3' : W3.cell? ⟨s + 3, 0, none⟩ = some (.slice A n c) := blk_cell p3' 0
      have hie : (i : Int) + (e : Int) = (m : Int) := by omega
      have hw : wrap64 ((i : Int) + (e : Int)) = (m : Int) := by rw [hie]; unfold wrap64; omega
      have HE := Lib.hid (And.intro he1 (And.intro hm (And.intro hi (And.intro hpl (And.intro p4' hs3)))))
      have HP3 := Lib.hid (And.intro p3' hie)
      clear he he1 hm hi hpl p3 p4 p3' p4' hs3 hb3 hJs hJ3 hJd hie hic hct2 c3 c4 hW3 hsW hbb hx
      gi_wp2
      refine hR.mono ?_
      rintro e' W' (⟨rfl, hJ', hk⟩ | ⟨rfl, hJx'⟩)
      · have p4'' : W'.heap[s + 4]? = some (.cells #[.int .i64 64] 3 (0, 0)) := hk.2.2.trans HE.out.2.2.2.2.1
        have p3'' : W'.heap[s + 3]? = some (.cells #[.slice A n c] 22 (0, 0)) := hk.2.1.trans HP3.out.1
        have c4'' : W'.cell? ⟨s + 4, 0, none⟩ = some (.int .i64 64) := blk_cell p4'' 0
        have hws' : W.heap.size ≤ W'.heap.size := Nat.le_trans HE.out.2.2.2.2.2 hk.1.size
        have HZ := Lib.hid (And.intro hJ' (And.intro p3'' (And.intro p4'' hws')))
        have hw2 : wrap64 ((i : Int) + 64) = ((64 * (k + 1) : Nat) : Int) := by
          have := HE.out.2.2.1
          clear hw
          unfold wrap64
          omega
        have HW2 := Lib.hid hw2
        clear hJ' p3'' p4'' hws' hk hw hw2
        gi_wp2
        go_roundw
        case rel => exact ⟨k + 1, pre ++ [x], by first | rfl | (rw [HW2.out]) | (have := HE.out.2.2.1; congr 1; omega), by rw [List.length_append, HE.out.2.2.2.1]; rfl, HZ.out⟩
        case measure =>
          (try rw [HW2.out])
          simp only [RowKit.intOf]
          have := HE.out.2.2.1
          omega
      · gi_wp2
        refine bodyPost_ret (results_none rfl _ _ _) rfl ?_
        exact ⟨⟨_, rfl⟩, .inr ⟨_, trivial, hJx'⟩⟩
    · have hi1 : ¬ (i : Int) < (n : Int) := by omega
      gi_wp2
      go_end0
      exact ⟨⟨_, rfl⟩, .inl ⟨pre, hJs⟩⟩
end Go.Proofs.Ytkglfgikfeebhaa.X
