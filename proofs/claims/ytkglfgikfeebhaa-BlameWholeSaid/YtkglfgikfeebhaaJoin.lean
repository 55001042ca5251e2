/-
  runes.Join: its contract in the print's form, by this session. Conditions: at most 2^44 numbers.
-/
import Derived.Test.YtkglfgikfeebhaaExt
import Derived.Lib.OthersKept
import Derived.Deep.LoopGhost
import Derived.Lib.ConvBytes
import Derived.RowKit3
import Derived.Deep.QuietTactic
namespace Go.Proofs.Ytkglfgikfeebhaa.X
open Go Go.RowKit Go.Shelf Go.Proofs.YtkglfgikfeebhaaW.PrintWords
set_option linter.unusedVariables false

theorem info_byte : (Try.prog.info? 5).map (fun i => (i.zero, i.size, i.bytes)) = some (some (.int .u8 0), 1, 1) := by kernel_rfl

/-- Are these all runes? -/
def allRunes (l : List Int) : Bool := l.all Lib.validRune
def runes_Join.f (l0 : List Int) : Option (ByteArray × Int) :=
  if l0.length ≤ 17592186044416 then some (if allRunes l0 = true then (strOfNums (l0.flatMap Lib.encodeRuneZ), 0) else (⟨#[]⟩, 2)) else none

theorem flat_len (l : List Int) : (l.flatMap Lib.encodeRuneZ).length ≤ 4 * l.length := by
  induction l with
  | nil => simp
  | cons x r ih =>
    have := (Lib.encodeRuneZ_length x).2
    simp only [List.flatMap_cons, List.length_append, List.length_cons]
    omega
/-- Between two rounds: what has been joined. -/
def JoinI (l0 : List Int) (w : World) (k : Nat) (u : Value) (wr : World) : Prop :=
  Kd.R (Kd.int .u8) 5 wr w.heap.size (fun _ => True) u ((l0.take k).flatMap Lib.encodeRuneZ) ∧ Below w.heap.size w wr ∧ allRunes (l0.take k) = true

set_option maxRecDepth 100000 in
set_option maxHeartbeats 4000000 in
theorem join_calls (A0 : Option Addr) (c0 : Nat) (l0 : List Int) (w : World) (hr0 : Kd.C (Kd.int .i32) w A0 l0.length l0) (hc0 : l0.length ≤ c0) (hl : l0.length ≤ 17592186044416) (S : ByteArray) (E : Int) (hSE : (if allRunes l0 = true then (strOfNums (l0.flatMap Lib.encodeRuneZ), (0 : Int)) else (⟨#[]⟩, 2)) = (S, E)) :
    Calls Try.prog 22 #[.slice A0 l0.length c0] w fun e w' => e = .returned (.tuple #[.string S, .int .i64 E]) ∧ Below w.heap.size w w' := by
  have HSE := Lib.hid hSE
  clear hSE
  have H0 := Aside0.mk hr0
  clear hr0
  obtain ⟨n, hn⟩ : ∃ n, l0.length = n := ⟨_, rfl⟩
  rw [hn] at hc0 hl ⊢
  have HN := Lib.hid hn
  clear hn
  go_enter Try.func22, Try.ntmps22
  go_wp2_with (at_make; refine Kd.R_make0 (Kd.int .u8) (w0 := w) w.heap.size 5 rfl (N := 9) rfl 70 _ _ rfl (n : Int) rfl rfl Try.underlying70 (.int .u8 0) 1 info_byte rfl (by decide) (by omega) 0 (ok := fun _ => True) (okp := fun _ => True) rfl (fun _ h => h) trivial (by omega) (by simp; omega) (Below.refl _ _) (Nat.le_refl _) ?_; intro v w2 ho hb2 hg2 _)
  go_loopw [4, 6, 12] (fun u _ x wr => ∃ k : Nat, k ≤ n ∧ x = .int .i64 k ∧ JoinI l0 w k u wr) (fun _ _ x _ => n - (intOf x).toNat)
  case atStart => exact ⟨0, Nat.zero_le _, rfl, ho, hb2, by simp [allRunes]⟩
  case round =>
    obtain ⟨k, hk, rfl, hR, hB, hall⟩ := hrel
    by_cases hkn : k < n
    · have hki : (k : Int) < (l0.length : Int) := by have := HN.out; omega
      obtain ⟨ad, rfl, hc⟩ := Kd.at_int H0.out (k : Int) (by omega) (by omega)
      have hcr := (hB.cell (World.block_lt_of_cell? w _ hc)).trans hc
      simp only [Int.toNat_natCast] at hcr
      obtain ⟨r, hr⟩ : ∃ r, rd l0 (k : Int) = r := ⟨_, rfl⟩
      rw [hr] at hcr
      have htk : l0.take (k + 1) = l0.take k ++ [r] := by
        rw [← hr, List.take_succ_eq_append_getElem (by omega)]
        simp [rd, List.getElem?_eq_getElem (show k < l0.length by omega), List.getD_eq_getElem?_getD]
      have HR := Lib.hid hr
      have HTK := Lib.hid htk
      clear hr htk hc
      cases hv : Lib.validRune r with
      | false =>
        have cV := fun W => Try.utf8_ValidRune r W
        simp only [hv] at cV
        have HV := Lib.hid hv
        clear hv
        go_wp2_with (go_at_call 28; refine (cV _).mono ?_; rintro e w' ⟨rfl, rfl⟩)
        go_ret2
        have hno : allRunes l0 = false := by
          have h1 := HTK.out
          rw [← List.take_append_drop (k + 1) l0, h1]
          simp [allRunes, HV.out]
        have h2 := HSE.out
        rw [hno, if_neg (by simp)] at h2
        simp only [Prod.mk.injEq] at h2
        obtain ⟨rfl, rfl⟩ := h2
        exact ⟨rfl, hB⟩
      | true =>
        have cV := fun W => Try.utf8_ValidRune r W
        simp only [hv] at cV
        have hr1 : 0 ≤ r ∧ r ≤ 1114111 := by simp [Lib.validRune] at hv; omega
        have HV := Lib.hid hv
        clear hv
        have hlen : ((l0.take k).flatMap Lib.encodeRuneZ).length ≤ 4 * k := by
          have h := flat_len (l0.take k)
          have h2 : (l0.take k).length ≤ k := List.length_take_le _ _
          omega
        go_wp2_with (first | (go_at_call 28; refine (cV _).mono ?_; rintro e w' ⟨rfl, rfl⟩) | (go_at_call 29; refine (Try.utf8_AppendRune_plain w.heap.size u4 _ _ r (by omega) (by omega) _ (Kd.own_of_R hR) (by omega) hB.size).mono ?_; rintro e w4 ⟨v4, rfl, ho4, o, hg4⟩))
        go_roundw
        case rel =>
          refine ⟨k + 1, by omega, by go_num, ?_, ?_, ?_⟩
          · have ho5 : Kd.R (Kd.int .u8) 5 w4 w.heap.size (fun _ => True) v4 ((l0.take k).flatMap Lib.encodeRuneZ ++ Lib.encodeRuneZ r) := by
              refine Kd.R_of_own ?_ (fun _ _ => trivial)
              have e1 : ((l0.take k).flatMap Lib.encodeRuneZ ++ Lib.encodeRuneZ r).length = ((l0.take k).flatMap Lib.encodeRuneZ).length + (Lib.runeCells r).length := by simp [Lib.runeCells]
              have e2 : encs (Value.int .u8) ((l0.take k).flatMap Lib.encodeRuneZ ++ Lib.encodeRuneZ r) = encs (Value.int .u8) ((l0.take k).flatMap Lib.encodeRuneZ) ++ Lib.runeCells r := by simp [encs, Lib.runeCells]
              rw [e1, e2]; exact ho4
            rw [HTK.out, List.flatMap_append, List.flatMap_singleton]; exact ho5
          · exact (hB.alloc hB.size o).grown hg4 (by have := hB.size; simp; omega) (fun q e => Kd.R_base hR q e)
          · rw [HTK.out]; simp only [allRunes, List.all_append, Bool.and_eq_true]; exact ⟨hall, by simp [HV.out]⟩
        case measure => simp [intOf]; omega
    · obtain rfl : k = n := by omega
      have hall2 : allRunes l0 = true := by rw [← List.take_length (l := l0), HN.out]; exact hall
      have htk : l0.take k = l0 := by rw [← HN.out, List.take_length]
      rw [htk] at hR
      clear htk hall
      have hcv := own_string (P := Try.prog) Try.underlying70 Try.underlying5 Try.underlying9 (Kd.own_of_R hR)
      have h2 := HSE.out
      rw [if_pos hall2] at h2
      simp only [Prod.mk.injEq] at h2
      obtain ⟨h3, rfl⟩ := h2
      rw [h3] at hcv
      clear h3 hall2
      go_wp2
      go_ret2
      exact ⟨rfl, hB⟩

theorem runes_Join.calls (A0 : Option Addr) (c0 : Nat) (l0 : List Int) (r1 : ByteArray) (r2 : Int) (w : World) (hr0 : Kd.C (Kd.int .i32) w A0 l0.length l0) (hc0 : l0.length ≤ c0) (h : runes_Join.f l0 = some (r1, r2)) :
    Calls Try.prog 22 #[.slice A0 l0.length c0] w fun e w' => e = .returned (.tuple #[.string r1, .int .i64 r2]) ∧ Below w.heap.size w w' := by
  unfold runes_Join.f at h
  split at h
  · rename_i hl
    exact join_calls A0 c0 l0 w hr0 hc0 hl r1 r2 (Option.some.inj h)
  · cases h
end Go.Proofs.Ytkglfgikfeebhaa.X
