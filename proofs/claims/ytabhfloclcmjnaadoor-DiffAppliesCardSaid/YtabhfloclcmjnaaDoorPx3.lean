/-
  Two texts as one (Join, Px3): by this session, or printed. Conditions: as typed.
-/
import Derived.Test.YtabhfloclcmjnaaDoorSplit
import Derived.Test.YtabhfloclcmjnaaDoorPx0
namespace Go.Proofs.YtabhfloclcmjnaaDoor.X
open Go Go.RowKit Go.Shelf Go.Proofs.YtabhfloclcmjnaaDoorW.PrintWords
set_option linter.unusedVariables false

theorem info_byte : (Tryd.prog.info? 5).map (fun i => (i.zero, i.size, i.bytes)) = some (some (.int .u8 0), 1, 1) := by kernel_rfl

/-- Are these all runes? -/
def allRunes (l : List Int) : Bool := l.all Lib.validRune
def runes_Join.f (l0 : List Int) : Option (ByteArray × Int) :=
  if l0.length ≤ 17592186044416 then some (if allRunes l0 = true then (strOfNums (l0.flatMap Lib.encodeRuneZ), 0) else (⟨#[]⟩, 2)) else none

theorem flat_len (l : List Int) : (l.flatMap Lib.encodeRuneZ).length ≤ 4 * l.length := by
  induction l with
  | nil => simp
  | cons x r ih =>
    have := (Lib.encodeRuneZ_length x).2
    simp only [List.flatMap_cons, List.length_append, List.length_cons]
    omega
/-- Between two rounds: what has been joined. -/
def JoinI (l0 : List Int) (w : World) (k : Nat) (u : Value) (wr : World) : Prop :=
  Kd.R (Kd.int .u8) 5 wr w.heap.size (fun _ => True) u ((l0.take k).flatMap Lib.encodeRuneZ) ∧ Below w.heap.size w wr ∧ allRunes (l0.take k) = true

set_option maxRecDepth 100000 in
set_option maxHeartbeats 4000000 in
theorem join_calls (A0 : Option Addr) (c0 : Nat) (l0 : List Int) (w : World) (hr0 : Kd.C (Kd.int .i32) w A0 l0.length l0) (hc0 : l0.length ≤ c0) (hl : l0.length ≤ 17592186044416) (S : ByteArray) (E : Int) (hSE : (if allRunes l0 = true then (strOfNums (l0.flatMap Lib.encodeRuneZ), (0 : Int)) else (⟨#[]⟩, 2)) = (S, E)) :
    Calls Tryd.prog 46 #[.slice A0 l0.length c0] w fun e w' => e = .returned (.tuple #[.string S, .int .i64 E]) ∧ Below w.heap.size w w' := by
  have HSE := Lib.hid hSE
  clear hSE
  have H0 := Aside0.mk hr0
  clear hr0
  obtain ⟨n, hn⟩ : ∃ n, l0.length = n := ⟨_, rfl⟩
  rw [hn] at hc0 hl ⊢
  have HN := Lib.hid hn
  clear hn
  go_enter Tryd.func46, Tryd.ntmps46
  go_wp2_with (at_make; refine Kd.R_make0 (Kd.int .u8) (w0 := w) w.heap.size 5 rfl (N := 9) rfl 54 _ _ rfl (n : Int) rfl rfl Tryd.underlying54 (.int .u8 0) 1 info_byte rfl (by decide) (by omega) 0 (ok := fun _ => True) (okp := fun _ => True) rfl (fun _ h => h) trivial (by omega) (by simp; omega) (Below.refl _ _) (Nat.le_refl _) ?_; intro v w2 ho hb2 hg2 _)
  go_loopw [4, 6, 12] (fun u _ x wr => ∃ k : Nat, k ≤ n ∧ x = .int .i64 k ∧ JoinI l0 w k u wr) (fun _ _ x _ => n - (intOf x).toNat)
  case atStart => exact ⟨0, Nat.zero_le _, rfl, ho, hb2, by simp [allRunes]⟩
  case round =>
    obtain ⟨k, hk, rfl, hR, hB, hall⟩ := hrel
    by_cases hkn : k < n
    · have hki : (k : Int) < (l0.length : Int) := by have := HN.out; omega
      obtain ⟨ad, rfl, hc⟩ := Kd.at_int H0.out (k : Int) (by omega) (by omega)
      have hcr := (hB.cell (World.block_lt_of_cell? w _ hc)).trans hc
      simp only [Int.toNat_natCast] at hcr
      obtain ⟨r, hr⟩ : ∃ r, rd l0 (k : Int) = r := ⟨_, rfl⟩
      rw [hr] at hcr
      have htk : l0.take (k + 1) = l0.take k ++ [r] := by
        rw [← hr, List.take_succ_eq_append_getElem (by omega)]
        simp [rd, List.getElem?_eq_getElem (show k < l0.length by omega), List.getD_eq_getElem?_getD]
      have HR := Lib.hid hr
      have HTK := Lib.hid htk
      clear hr htk hc
      cases hv : Lib.validRune r with
      | false =>
        have cV := fun W => Tryd.utf8_ValidRune r W
        simp only [hv] at cV
        have HV := Lib.hid hv
        clear hv
        go_wp2_with (go_at_call 61; refine (cV _).mono ?_; rintro e w' ⟨rfl, rfl⟩)
        go_ret2
        have hno : allRunes l0 = false := by
          have h1 := HTK.out
          rw [← List.take_append_drop (k + 1) l0, h1]
          simp [allRunes, HV.out]
        have h2 := HSE.out
        rw [hno, if_neg (by simp)] at h2
        simp only [Prod.mk.injEq] at h2
        obtain ⟨rfl, rfl⟩ := h2
        exact ⟨rfl, hB⟩
      | true =>
        have cV := fun W => Tryd.utf8_ValidRune r W
        simp only [hv] at cV
        have hr1 : 0 ≤ r ∧ r ≤ 1114111 := by simp [Lib.validRune] at hv; omega
        have HV := Lib.hid hv
        clear hv
        have hlen : ((l0.take k).flatMap Lib.encodeRuneZ).length ≤ 4 * k := by
          have h := flat_len (l0.take k)
          have h2 : (l0.take k).length ≤ k := List.length_take_le _ _
          omega
        go_wp2_with (first | (go_at_call 61; refine (cV _).mono ?_; rintro e w' ⟨rfl, rfl⟩) | (go_at_call 62; refine (Tryd.utf8_AppendRune_plain w.heap.size u4 _ _ r (by omega) (by omega) _ (Kd.own_of_R hR) (by omega) hB.size).mono ?_; rintro e w4 ⟨v4, rfl, ho4, o, hg4⟩))
        go_roundw
        case rel =>
          refine ⟨k + 1, by omega, by go_num, ?_, ?_, ?_⟩
          · have ho5 : Kd.R (Kd.int .u8) 5 w4 w.heap.size (fun _ => True) v4 ((l0.take k).flatMap Lib.encodeRuneZ ++ Lib.encodeRuneZ r) := by
              refine Kd.R_of_own ?_ (fun _ _ => trivial)
              have e1 : ((l0.take k).flatMap Lib.encodeRuneZ ++ Lib.encodeRuneZ r).length = ((l0.take k).flatMap Lib.encodeRuneZ).length + (Lib.runeCells r).length := by simp [Lib.runeCells]
              have e2 : encs (Value.int .u8) ((l0.take k).flatMap Lib.encodeRuneZ ++ Lib.encodeRuneZ r) = encs (Value.int .u8) ((l0.take k).flatMap Lib.encodeRuneZ) ++ Lib.runeCells r := by simp [encs, Lib.runeCells]
              rw [e1, e2]; exact ho4
            rw [HTK.out, List.flatMap_append, List.flatMap_singleton]; exact ho5
          · exact (hB.alloc hB.size o).grown hg4 (by have := hB.size; simp; omega) (fun q e => Kd.R_base hR q e)
          · rw [HTK.out]; simp only [allRunes, List.all_append, Bool.and_eq_true]; exact ⟨hall, by simp [HV.out]⟩
        case measure => simp [intOf]; omega
    · obtain rfl : k = n := by omega
      have hall2 : allRunes l0 = true := by rw [← List.take_length (l := l0), HN.out]; exact hall
      have htk : l0.take k = l0 := by rw [← HN.out, List.take_length]
      rw [htk] at hR
      clear htk hall
      have hcv := own_string (P := Tryd.prog) Tryd.underlying54 Tryd.underlying5 Tryd.underlying9 (Kd.own_of_R hR)
      have h2 := HSE.out
      rw [if_pos hall2] at h2
      simp only [Prod.mk.injEq] at h2
      obtain ⟨h3, rfl⟩ := h2
      rw [h3] at hcv
      clear h3 hall2
      go_wp2
      go_ret2
      exact ⟨rfl, hB⟩

theorem runes_Join.calls (A0 : Option Addr) (c0 : Nat) (l0 : List Int) (r1 : ByteArray) (r2 : Int) (w : World) (hr0 : Kd.C (Kd.int .i32) w A0 l0.length l0) (hc0 : l0.length ≤ c0) (h : runes_Join.f l0 = some (r1, r2)) :
    Calls Tryd.prog 46 #[.slice A0 l0.length c0] w fun e w' => e = .returned (.tuple #[.string r1, .int .i64 r2]) ∧ Below w.heap.size w w' := by
  unfold runes_Join.f at h
  split at h
  · rename_i hl
    exact join_calls A0 c0 l0 w hr0 hc0 hl r1 r2 (Option.some.inj h)
  · cases h
end Go.Proofs.YtabhfloclcmjnaaDoor.X
namespace Go.Proofs.YtabhfloclcmjnaaDoor.P
open Go.RowKit Go.Proofs.YtabhfloclcmjnaaDoor.X Go.Proofs.YtabhfloclcmjnaaDoorW.PrintWords Go.Proofs.YtabhfloclcmjnaaDoorW.PrintLast Go.Proofs.YtabhfloclcmjnaaDoorW.PrintMore
attribute [local go_sem] max2_int min2_int max_two min_two max_three min_three max_four min_four   -- for this text's walks alone
set_option linter.unusedVariables false
set_option linter.unusedSimpArgs false

/-! ### diff_common_rune: function 40 -/
def diff_common_rune.l0 : Nat → List Int → List Int → Int → Option (Int)
 | 0, _, _, _ => none
 | k + 1, x0, x1, x5 => if x5 < (x0.length : Int) then (if x5 < (x1.length : Int) then (if 0 ≤ x5 then (if (rd x0 x5) = (rd x1 x5) then (diff_common_rune.l0 k x0 x1 (wrap64 (x5 + 1))) else (some x5)) else (none)) else (some x5)) else (some x5)
def diff_common_rune.f (k : Nat) (l0 : List Int) (l1 : List Int) : Option (Int) := diff_common_rune.l0 k l0 l1 0
theorem diff_common_rune.mono_l : ∀ k, (∀ y0 y1 y2, LeO (diff_common_rune.l0 k y0 y1 y2) (diff_common_rune.l0 (k + 1) y0 y1 y2))
 | 0 => fun _ _ _ r h => by simp [diff_common_rune.l0] at h
 | k + 1 => by
  have ih0 := diff_common_rune.mono_l k
  ·intro y0 y1 y2
   unfold diff_common_rune.l0
   repeat' first
   | (with_reducible exact ih0 _ _ _)
   | (with_reducible exact LeO.refl _)
   | (with_reducible exact LeO.none _)
   | (with_reducible refine LeO.ite ?_ ?_)
   | (with_reducible refine LeO.bind ?_ (fun _ => ?_))
   | exact ih0 _ _ _
   | exact LeO.none _
   | refine LeO.ite ?_ ?_
   | refine LeO.bind ?_ (fun _ => ?_)
theorem diff_common_rune.mono : ∀ a0 a1 k, LeO (diff_common_rune.f k a0 a1) (diff_common_rune.f (k + 1) a0 a1) := by
 intro a0 a1 k
 have ih0 := diff_common_rune.mono_l k
 unfold diff_common_rune.f
 repeat' first
   | (with_reducible exact ih0 _ _ _)
   | (with_reducible exact LeO.refl _)
   | (with_reducible exact LeO.none _)
   | (with_reducible refine LeO.ite ?_ ?_)
   | (with_reducible refine LeO.bind ?_ (fun _ => ?_))
   | exact ih0 _ _ _
   | exact LeO.none _
   | refine LeO.ite ?_ ?_
   | refine LeO.bind ?_ (fun _ => ?_)
set_option maxHeartbeats 8000000 in
set_option maxRecDepth 100000 in
theorem diff_common_rune.calls (k : Nat) (A0 : Option Addr) (c0 : Nat) (l0 : List Int) (A1 : Option Addr) (c1 : Nat) (l1 : List Int) (r : Int) (w : World) (hr0 : Kd.C (Kd.int .i32) w A0 l0.length l0) (hc0 : l0.length ≤ c0) (hr1 : Kd.C (Kd.int .i32) w A1 l1.length l1) (hc1 : l1.length ≤ c1) (h : diff_common_rune.f k l0 l1 = some r) :
  Calls Tryd.prog 40 #[.slice A0 l0.length c0, .slice A1 l1.length c1] w fun e w' => e = .returned (.int .i64 r) ∧ Drawn0 w w' := by
 have HR0 := Aside0.mk hr0
 have HC0 := Aside0.mk hc0
 clear hr0 hc0
 have HR1 := Aside0.mk hr1
 have HC1 := Aside0.mk hc1
 clear hr1 hc1
 have H : (diff_common_rune.l0 k l0 l1 0) = some r := h
 clear h
 have H' := Aside0.mk H
 clear H
 go_enter Tryd.func40, Tryd.ntmps40
 go_wp2
 repeat (go_quiet (fail); try go_wp2)
 go_loopg [5] k (fun kq v5 w' => ∃ (x5_1 : Int), v5 = .int .i64 x5_1 ∧ Aside0 (diff_common_rune.l0 kq l0 l1 x5_1 = some r) ∧ Aside0 (kq ≤ k) ∧ Drawn0 w w')
 case atStart => exact ⟨(0), (by first | rfl | (simp; done) | (simp [*]; done)), H', ⟨Nat.le_refl _⟩, by repeat (first | exact Drawn0.refl _ | apply Drawn0.step)⟩
 case round =>
  clear H'
  try clear c1
  try clear p2
  obtain ⟨x5_1, rfl, HA, HK1, ⟨m1, rfl⟩⟩ := hrel
  cases gk with
  | zero => exact absurd HA.out (by simp [diff_common_rune.l0])
  | succ k1 =>
   have H := HA.out
   clear HA
   simp only [diff_common_rune.l0] at H
   by_cases c3 : x5_1 < (l0.length : Int)
   ·rw [if_pos c3] at H
    have c3b0 : decide (x5_1 < (l0.length : Int)) = true := decide_eq_true c3
    clear c3
    by_cases c4 : x5_1 < (l1.length : Int)
    ·rw [if_pos c4] at H
     have c4b0 : decide (x5_1 < (l1.length : Int)) = true := decide_eq_true c4
     clear c4
     by_cases c5 : 0 ≤ x5_1
     ·rw [if_pos c5] at H
      have c5b0 : decide (0 ≤ x5_1) = true := decide_eq_true c5
      clear c5
      by_cases c6 : (rd l0 x5_1) = (rd l1 x5_1)
      ·rw [if_pos c6] at H
       have c6b0 : ((rd l0 x5_1) == (rd l1 x5_1)) = true := beq_iff_eq.mpr c6
       have c6b1 : ((rd l0 x5_1) != (rd l1 x5_1)) = false := bne_eq_false_iff_eq.mpr c6
       clear c6
       have H' := Aside0.mk H
       clear H
       have p101 : 0 ≤ (x5_1 : Int) := dt_
       have q101 : x5_1 < (l0.length : Int) := dt_
       obtain ⟨ad101, e101, hx101_0⟩ := Kd.at_int HR0.out x5_1 p101 q101
       cases e101
       replace p101 := eq_true p101
       replace q101 := eq_true q101
       have p102 : 0 ≤ (x5_1 : Int) := dt_
       have q102 : x5_1 < (l1.length : Int) := dt_
       obtain ⟨ad102, e102, hx102_0⟩ := Kd.at_int HR1.out x5_1 p102 q102
       cases e102
       replace p102 := eq_true p102
       replace q102 := eq_true q102
       go_wp2
       repeat (go_quiet (fail); try go_wp2)
       go_roundg k1
       case measure => have := HK1.out; omega
       case rel => exact ⟨(wrap64 (x5_1 + 1)), (by first | rfl | (simp; done) | (simp [*]; done)), H', ⟨by have := HK1.out; omega⟩, by repeat (first | exact Drawn0.refl _ | apply Drawn0.step)⟩
      ·rw [if_neg c6] at H
       have c6b0 : ((rd l0 x5_1) == (rd l1 x5_1)) = false := beq_eq_false_iff_ne.mpr c6
       have c6b1 : ((rd l0 x5_1) != (rd l1 x5_1)) = true := bne_iff_ne.mpr c6
       obtain rfl := Option.some.inj H
       have p101 : 0 ≤ (x5_1 : Int) := dt_
       have q101 : x5_1 < (l0.length : Int) := dt_
       obtain ⟨ad101, e101, hx101_0⟩ := Kd.at_int HR0.out x5_1 p101 q101
       cases e101
       replace p101 := eq_true p101
       replace q101 := eq_true q101
       have p102 : 0 ≤ (x5_1 : Int) := dt_
       have q102 : x5_1 < (l1.length : Int) := dt_
       obtain ⟨ad102, e102, hx102_0⟩ := Kd.at_int HR1.out x5_1 p102 q102
       cases e102
       replace p102 := eq_true p102
       replace q102 := eq_true q102
       go_wp2
       repeat (go_quiet (fail); try go_wp2)
       go_ret
       exact ⟨by first | rfl | (simp; done) | (simp [*]; done), by repeat (first | exact Drawn0.refl _ | apply Drawn0.step)⟩
     ·rw [if_neg c5] at H
      exact absurd H (by simp)
    ·rw [if_neg c4] at H
     have c4b0 : decide (x5_1 < (l1.length : Int)) = false := decide_eq_false c4
     clear c4
     obtain rfl := Option.some.inj H
     go_wp2
     repeat (go_quiet (fail); try go_wp2)
     go_ret
     exact ⟨by first | rfl | (simp; done) | (simp [*]; done), by repeat (first | exact Drawn0.refl _ | apply Drawn0.step)⟩
   ·rw [if_neg c3] at H
    have c3b0 : decide (x5_1 < (l0.length : Int)) = false := decide_eq_false c3
    clear c3
    obtain rfl := Option.some.inj H
    go_wp2
    repeat (go_quiet (fail); try go_wp2)
    go_ret
    exact ⟨by first | rfl | (simp; done) | (simp [*]; done), by repeat (first | exact Drawn0.refl _ | apply Drawn0.step)⟩

end Go.Proofs.YtabhfloclcmjnaaDoor.P
