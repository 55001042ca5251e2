/-
  runes.steps: the iterator's contract (its captured text in one cell), by this session. Conditions: the two tables of unicode/utf8 as they are laid.
-/
import Derived.Test.YtfhnepihbofabaaDoorRf
import Derived.Test.YtfhnepihbofabaaDoorShelf
import Derived.Lib.RuneCountTail
import Derived.Lib.Hide
namespace Go.Proofs.YtfhnepihbofabaaDoor.X
open Go Go.RowKit Go.Shelf
set_option linter.unusedVariables false

/-- What the iterator tells of a text from a place on: each rune and its width; a wrong one as -1, and ends it. -/
def stp (s : ByteArray) : Nat → Nat → List (Int × Int)
  | 0, _ => []
  | f + 1, pos =>
    if pos < s.size then
      if (Utf8.decode s pos).1 = 65533 ∧ (Utf8.decode s pos).2 < 2 then [(-1, 0)]
      else (((Utf8.decode s pos).1 : Int), ((Utf8.decode s pos).2 : Int)) :: stp s f (pos + (Utf8.decode s pos).2)
    else []

theorem stp_end (s : ByteArray) (f pos : Nat) (h : ¬ pos < s.size) : stp s f pos = [] := by
  cases f <;> simp [stp, h]
theorem decode_pos (s : ByteArray) (pos : Nat) (h : pos < s.size) : 1 ≤ (Utf8.decode s pos).2 := by
  by_cases ha : (s[pos]'h).toNat < 128
  · rw [decode_ascii s pos h ha]
    exact Nat.le_refl _
  · exact (decode_high s pos h (by omega)).2

def encs2 (x : Int × Int) : Array Value := #[.int .i32 x.1, .int .i64 x.2]

/-- How much the iterator has still to tell. -/
def leftAt (b : Nat) (W : World) : Nat :=
  match W.heap[b]? with
  | some (Obj.cells cs _ _) => (match cs[0]? with | some (Value.string s) => s.size | _ => 0)
  | _ => 0
theorem leftAt_eq {b : Nat} {W : World} {s : ByteArray} {t : TypeId} {f : Nat × Nat} (h : W.heap[b]? = some (.cells #[.string s] t f)) : leftAt b W = s.size := by
  simp [leftAt, h]
theorem cell_at {b : Nat} {W : World} {v : Value} {t : TypeId} {f : Nat × Nat} (h : W.heap[b]? = some (.cells #[v] t f)) : W.cell? ⟨b, 0, none⟩ = some v := by simp [World.cell?, h]
theorem frozen_at {b : Nat} {W : World} {v : Value} {t : TypeId} (h : W.heap[b]? = some (.cells #[v] t (0, 0))) : W.frozen? ⟨b, 0, none⟩ = false := by simp [World.frozen?, h]
theorem extract_all (s : ByteArray) : s.extract 0 s.size = s := by
  apply ByteArray.ext
  simp
theorem tabs_below {g3 g4 b : Nat} {w W : World} (hT : Lib.Utf8Tabs g3 g4 w) (hb : Below b w W) (h3 : g3 < b) (h4 : g4 < b) : Lib.Utf8Tabs g3 g4 W :=
  ⟨fun c hc => (hb.cell (p := ⟨g3, c, none⟩) h3).trans (hT.1 c hc), fun i hi => ⟨(hb.cell (p := ⟨g4, 2 * i, none⟩) h4).trans (hT.2 i hi).1, (hb.cell (p := ⟨g4, 2 * i + 1, none⟩) h4).trans (hT.2 i hi).2⟩⟩

theorem grown_none {w w' : World} (h : Below w.heap.size w w') : w.grownBy w' none := ⟨h.os, h.tape, h.output, h.size, fun i hi _ => h.block i hi⟩
theorem decode_le (s : ByteArray) (pos : Nat) (h : pos < s.size) : pos + (Utf8.decode s pos).2 ≤ s.size := by
  rw [Lib.decode_at]
  unfold Lib.decodeN
  repeat' split
  all_goals (simp only; omega)

theorem tail_tail {s t : ByteArray} {pos K : Nat} (h : s.extract pos s.size = t) (hp : pos ≤ s.size) (hk : K ≤ t.size) : s.extract (pos + K) s.size = t.extract K t.size := by
  subst h
  have hs : (s.extract pos s.size).size = s.size - pos := Lib.tail_size s pos
  rw [hs]
  apply ByteArray.ext
  simp only [ByteArray.data_extract, Array.extract_extract]
  congr 1
  omega

attribute [local go_sem] Oper.semAt_some

set_option maxRecDepth 100000 in
set_option maxHeartbeats 4000000 in
theorem steps_calls (s : ByteArray) (w : World) :
    Calls Tryd.prog 54 #[.string s] w fun e w' => e = .returned (.func (.func 55) #[] #[.pointer (some ⟨w.heap.size, 0, none⟩)]) ∧ w.alloc (.cells #[.string s] 9) = w' := by
  go_enter Tryd.func54, Tryd.ntmps54
  go_wp2
  go_ret
  exact ⟨rfl, rfl⟩

set_option maxRecDepth 100000 in
set_option maxHeartbeats 4000000 in
theorem iter_calls (s : ByteArray) (n₀ b : Nat) (w : World) (hnb : n₀ ≤ b) (hs : s.size ≤ 140737488355328) (hb : w.heap[b]? = some (.cells #[.string s] 9 (0, 0))) (hT : Lib.Utf8Tabs 0 1 w) (hg1 : 0 < n₀) (hg2 : 1 < n₀) :
    SeqC Fence.wide 7 Tryd.prog 55 #[.pointer (some ⟨b, 0, none⟩)] encs2 n₀ b (fun xs => xs = stp s s.size 0) (fun pre => pre <+: stp s s.size 0) (s.size + 1) w := fun l J Jx W hWb hWB hJ hJx hY h0 => by
  refine callsIn_of_wp Tryd.func55 rfl trivial ?_ rfl
  simp only [Tryd.ntmps55, List.size_toArray, List.length_cons, List.length_nil, Nat.reduceAdd, Nat.reduceSub, Array.replicate_succ, Array.replicate_zero, List.push_toArray, List.append_toArray, List.nil_append, List.cons_append]
  gi_wp2
  gi_loopw [3, 4] (fun r n wr => ∃ (pre : List (Int × Int)) (pos f : Nat), J pre wr ∧ pos ≤ s.size ∧ s.size ≤ pos + f ∧ pre.length ≤ pos ∧ wr.heap[b]? = some (.cells #[.string (s.extract pos s.size)] 9 (0, 0)) ∧ stp s s.size 0 = pre ++ stp s f pos ∧ Below n₀ w wr)
    (fun _ _ wr => leftAt b wr)
  case atStart =>
    exact ⟨[], 0, s.size, h0, Nat.zero_le _, by omega, Nat.le_refl _, by rw [hWb, hb, extract_all], rfl, hWB⟩
  case round =>
    obtain ⟨pre, pos, f, hJs, hpos, hf, hpl, hcell, hstp, hB⟩ := hrel
    have hc1 := cell_at hcell
    have hf1 := frozen_at hcell
    have hTr := tabs_below hT hB hg1 hg2
    have HS := Lib.hid hstp
    obtain ⟨t, ht⟩ : ∃ t, s.extract pos s.size = t := ⟨_, rfl⟩
    have hts : t.size = s.size - pos := by rw [← ht]; exact Lib.tail_size s pos
    have hdec : Utf8.decode t 0 = Utf8.decode s pos := by rw [← ht]; exact Lib.tail_decode s pos 0
    rw [ht] at hc1 hcell
    clear hstp
    by_cases hp : pos < s.size
    · have hn0 : (0 : Int) < (t.size : Int) := by omega
      have hn1 : 0 < t.size := by omega
      obtain ⟨R, hR⟩ : ∃ R, (Utf8.decode s pos).1 = R := ⟨_, rfl⟩
      obtain ⟨K, hK⟩ : ∃ K, (Utf8.decode s pos).2 = K := ⟨_, rfl⟩
      have hgo : Lib.decodeGo t = (R, K) := by
        unfold Lib.decodeGo
        rw [if_neg (by omega), hdec, ← hR, ← hK]
      have cD := Tryd.utf8_DecodeRuneInString t wr hTr
      rw [hgo] at cD
      have HT := Lib.hid ht
      have HT2 := Lib.hid hts
      have HR := Lib.hid hR
      have HK := Lib.hid hK
      have hbl : b < wr.heap.size := (Array.getElem?_eq_some_iff.1 hcell).1
      have hK1 : 1 ≤ K := by have := decode_pos s pos hp; omega
      have hK2 : K ≤ t.size := by have := decode_le s pos hp; omega
      have hJd : ∀ w1, Below wr.heap.size wr w1 → J pre w1 := fun w1 h => hJ pre wr w1 none hJs (grown_none h) (fun r e => by cases e)
      have hcd : ∀ w1, Below wr.heap.size wr w1 → w1.heap[b]? = some (.cells #[.string t] 9 (0, 0)) := fun w1 h => (h.block b hbl).trans hcell
      clear ht hts hR hK hgo hdec
      by_cases hbad : R = 65533 ∧ K < 2
      · have hr : ((R : Int) == 65533) = true := by simp [hbad.1]
        have hk : (K : Int) < 2 := by omega
        have hd0 : decide ((K : Int) < 2) = true := decide_eq_true hk
        have Hbad := Lib.hid hbad
        clear hbad
        gi_wp2_with (refine ⟨trivial, ?_⟩; gi_at_call 56; refine (callsIn_wide.2 cD).mono ?_; rintro e w1 ⟨rfl, hb1⟩; have hc2 := cell_at (hcd w1 hb1); have hf2 := frozen_at (hcd w1 hb1); have hJ1 := hJd w1 hb1; obtain ⟨fn, tmps, assign, body, hy, hR⟩ := hY pre (-1, 0) w1 hJ1 (by omega); simp only [encs2] at hy)
        have hend : stp s s.size 0 = pre ++ [(-1, 0)] := by
          rw [HS.out]
          cases f with
          | zero => omega
          | succ f => simp only [stp]; rw [if_pos hp, HR.out, HK.out, if_pos Hbad.out]
        refine hR.mono ?_
        rintro e W' (⟨rfl, hJ', hk'⟩ | ⟨rfl, hJx'⟩)
        · gi_wp2
          refine bodyPost_ret (results_none rfl _ _ _) rfl ?_
          exact ⟨⟨_, rfl⟩, .inl ⟨_, rfl, by rw [hend]; exact hJ'⟩⟩
        · gi_wp2
          refine bodyPost_ret (results_none rfl _ _ _) rfl ?_
          exact ⟨⟨_, rfl⟩, .inr ⟨_, by rw [hend]; exact List.prefix_refl _, hJx'⟩⟩
      · have hnext : stp s f pos = ((R : Int), (K : Int)) :: stp s (f - 1) (pos + K) := by
          cases f with
          | zero => omega
          | succ f => simp only [stp]; rw [if_pos hp, HR.out, HK.out, if_neg hbad]; rfl
        have Hnext := Lib.hid hnext
        have Hbad := Lib.hid hbad
        have hcase : (((R : Int) == 65533) = true ∧ ¬ (K : Int) < 2) ∨ ((R : Int) == 65533) = false := by
          by_cases h : R = 65533
          · exact .inl ⟨by simp [h], by omega⟩
          · exact .inr (by simp; omega)
        clear hbad hnext
        rcases hcase with ⟨hr, hk⟩ | hr
        all_goals
          gi_wp2_with (refine ⟨trivial, ?_⟩; gi_at_call 56; refine (callsIn_wide.2 cD).mono ?_; rintro e w1 ⟨rfl, hb1⟩; have hc2 := cell_at (hcd w1 hb1); have hf2 := frozen_at (hcd w1 hb1); have hJ1 := hJd w1 hb1; obtain ⟨fn, tmps, assign, body, hy, hR⟩ := hY pre (R, K) w1 hJ1 (by omega); simp only [encs2] at hy)
          refine hR.mono ?_
          rintro e W' (⟨rfl, hJ', hk', hbb⟩ | ⟨rfl, hJx'⟩)
          · have hcW : W'.heap[b]? = some (.cells #[.string t] 9 (0, 0)) := hk'.trans (hcd w1 hb1)
            have hc3 := cell_at hcW
            have hf3 := frozen_at hcW
            gi_wp2
            go_roundw
            case rel =>
              refine ⟨pre ++ [((R : Int), (K : Int))], pos + K, f - 1, ?_, ?_, ?_, ?_, ?_, ?_, ?_⟩
              · exact hJ _ _ _ (some b) hJ' (grownBy_setCell' W' b _) (fun r e => by cases e; rfl)
              · have := HT2.out; omega
              · omega
              · simp; omega
              · rw [tail_tail HT.out hpos (by omega)]; exact Boxed.set (B := b) _ hcW
              · rw [HS.out, Hnext.out]; simp
              · exact ((hB.trans (hb1.mono (Nat.le_trans hnb (Nat.le_of_lt hbl)))).trans hbb).setCell (p := ⟨b, 0, none⟩) hnb _
            case measure =>
              rw [leftAt_eq (Boxed.set (B := b) _ hcW), leftAt_eq hcell]
              rw [Lib.tail_size]
              omega
          · gi_wp2
            refine bodyPost_ret (results_none rfl _ _ _) rfl ?_
            exact ⟨⟨_, rfl⟩, .inr ⟨_, by rw [HS.out, Hnext.out]; exact ⟨stp s (f - 1) (pos + K), by simp⟩, hJx'⟩⟩
    · gi_wp2
      go_end0
      exact ⟨⟨_, rfl⟩, .inl ⟨pre, by rw [HS.out, stp_end s f pos hp, List.append_nil], hJs⟩⟩
end Go.Proofs.YtfhnepihbofabaaDoor.X
