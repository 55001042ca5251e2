/- Printed by a program of this session (wip/xprint) over the kit's print: functions of the seat and what they come to, with their proofs. Conditions: as typed. -/
import Derived.Test.YtabhfloclcmjnaaDoorPx0
import Derived.Test.YtabhfloclcmjnaaDoorPx15
import Derived.Test.YtabhfloclcmjnaaDoorPx19
namespace Go.Proofs.YtabhfloclcmjnaaDoor.P
open Go.RowKit Go.Proofs.YtabhfloclcmjnaaDoor.X Go.Proofs.YtabhfloclcmjnaaDoorW.PrintWords Go.Proofs.YtabhfloclcmjnaaDoorW.PrintLast Go.Proofs.YtabhfloclcmjnaaDoorW.PrintMore
attribute [local go_sem] max2_int min2_int max_two min_two max_three min_three max_four min_four   -- for this text's walks alone
set_option linter.unusedVariables false
set_option linter.unusedSimpArgs false

/-! ### foolscapref32_Apply: function 33 -/
def foolscapref32_Apply.l0 : Nat → ByteArray → List (S93) → ByteArray → ByteArray → Int → Option (ByteArray × Int)
 | 0, _, _, _, _, _ => none
 | k + 1, x0, x1, x7, x8, x9 => if x9 < (x1.length : Int) then (if 0 ≤ x9 then (if ((rd_T93 x1 x9).f0) = 1 then (if ((rd_T93 x1 x9).f0) = 2 then (none) else (if x8.size + ((rd_T93 x1 x9).f1).size ≤ 9223372036854775807 then (foolscapref32_Apply.l0 k x0 x1 x7 (x8 ++ ((rd_T93 x1 x9).f1)) (wrap64 (x9 + 1))) else (none))) else (if x7.size + ((rd_T93 x1 x9).f1).size ≤ 9223372036854775807 then (if ((rd_T93 x1 x9).f0) = 2 then (foolscapref32_Apply.l0 k x0 x1 (x7 ++ ((rd_T93 x1 x9).f1)) x8 (wrap64 (x9 + 1))) else (if x8.size + ((rd_T93 x1 x9).f1).size ≤ 9223372036854775807 then (foolscapref32_Apply.l0 k x0 x1 (x7 ++ ((rd_T93 x1 x9).f1)) (x8 ++ ((rd_T93 x1 x9).f1)) (wrap64 (x9 + 1))) else (none))) else (none))) else (none)) else (if x7.toList = x0.toList then (some (x8, 0)) else (some ((⟨#[]⟩ : ByteArray), 3)))
def foolscapref32_Apply.f (k : Nat) (a0 : ByteArray) (l1 : List (S93)) : Option (ByteArray × Int) := (foolscapref01_Len.f k a0).bind fun t348 => (if t348 < 0 then (some ((⟨#[]⟩ : ByteArray), 2)) else ((foolscapref32_asked.f k l1).bind fun t349 => (if t349 = 0 then (foolscapref32_Apply.l0 k a0 l1 (⟨#[]⟩ : ByteArray) (⟨#[]⟩ : ByteArray) 0) else (some ((⟨#[]⟩ : ByteArray), t349)))))
theorem foolscapref32_Apply.mono_l : ∀ k, (∀ y0 y1 y2 y3 y4, LeO (foolscapref32_Apply.l0 k y0 y1 y2 y3 y4) (foolscapref32_Apply.l0 (k + 1) y0 y1 y2 y3 y4))
 | 0 => fun _ _ _ _ _ r h => by simp [foolscapref32_Apply.l0] at h
 | k + 1 => by
  have ih0 := foolscapref32_Apply.mono_l k
  ·intro y0 y1 y2 y3 y4
   unfold foolscapref32_Apply.l0
   repeat' first
   | (with_reducible exact ih0 _ _ _ _ _)
   | (with_reducible exact foolscapref01_Len.mono _ _)
   | (with_reducible exact foolscapref32_asked.mono _ _)
   | (with_reducible exact LeO.refl _)
   | (with_reducible exact LeO.none _)
   | (with_reducible refine LeO.ite ?_ ?_)
   | (with_reducible refine LeO.bind ?_ (fun _ => ?_))
   | exact ih0 _ _ _ _ _
   | exact foolscapref01_Len.mono _ _
   | exact foolscapref32_asked.mono _ _
   | exact LeO.none _
   | refine LeO.ite ?_ ?_
   | refine LeO.bind ?_ (fun _ => ?_)
theorem foolscapref32_Apply.mono : ∀ a0 a1 k, LeO (foolscapref32_Apply.f k a0 a1) (foolscapref32_Apply.f (k + 1) a0 a1) := by
 intro a0 a1 k
 have ih0 := foolscapref32_Apply.mono_l k
 unfold foolscapref32_Apply.f
 repeat' first
   | (with_reducible exact ih0 _ _ _ _ _)
   | (with_reducible exact foolscapref01_Len.mono _ _)
   | (with_reducible exact foolscapref32_asked.mono _ _)
   | (with_reducible exact LeO.refl _)
   | (with_reducible exact LeO.none _)
   | (with_reducible refine LeO.ite ?_ ?_)
   | (with_reducible refine LeO.bind ?_ (fun _ => ?_))
   | exact ih0 _ _ _ _ _
   | exact foolscapref01_Len.mono _ _
   | exact foolscapref32_asked.mono _ _
   | exact LeO.none _
   | refine LeO.ite ?_ ?_
   | refine LeO.bind ?_ (fun _ => ?_)
set_option maxHeartbeats 8000000 in
set_option maxRecDepth 100000 in
theorem foolscapref32_Apply.calls (k : Nat) (a0 : ByteArray) (A1 : Option Addr) (c1 : Nat) (l1 : List (S93)) (r1 : ByteArray) (r2 : Int) (w : World) (hr1 : Kd.C k93 w A1 l1.length l1) (hc1 : l1.length ≤ c1) (h : foolscapref32_Apply.f k a0 l1 = some (r1, r2)) :
  Calls Tryd.prog 33 #[.string a0, .slice A1 l1.length c1] w fun e w' => e = .returned (.tuple #[.string r1, .int .i64 r2]) ∧ Below w.heap.size w w' := by
 have HR1 := Aside0.mk hr1
 have HC1 := Aside0.mk hc1
 clear hr1 hc1
 have HB := Aside0.mk (Below.refl w.heap.size w)
 have H : ((foolscapref01_Len.f k a0).bind fun t348 => (if t348 < 0 then (some ((⟨#[]⟩ : ByteArray), 2)) else ((foolscapref32_asked.f k l1).bind fun t349 => (if t349 = 0 then (foolscapref32_Apply.l0 k a0 l1 (⟨#[]⟩ : ByteArray) (⟨#[]⟩ : ByteArray) 0) else (some ((⟨#[]⟩ : ByteArray), t349)))))) = some (r1, r2) := h
 clear h
 replace H := Option.bind_eq_some_iff.mp H
 obtain ⟨t348, A30, H⟩ := H
 replace H : (if t348 < 0 then (some ((⟨#[]⟩ : ByteArray), 2)) else ((foolscapref32_asked.f k l1).bind fun t349 => (if t349 = 0 then (foolscapref32_Apply.l0 k a0 l1 (⟨#[]⟩ : ByteArray) (⟨#[]⟩ : ByteArray) 0) else (some ((⟨#[]⟩ : ByteArray), t349))))) = some (r1, r2) := H
 have A3 := Aside0.mk A30
 clear A30
 by_cases c4 : t348 < 0
 ·rw [if_pos c4] at H
  have c4b0 : decide (t348 < 0) = true := decide_eq_true c4
  clear c4
  simp only [Option.some.injEq, Prod.mk.injEq] at H
  obtain ⟨rfl, rfl⟩ := H
  go_enter Tryd.func33, Tryd.ntmps33
  go_wp2_with (first | ((with_reducible refine gate_callee (f := 25) rfl ?_); refine goesL_ (some 11) rfl rfl Tryd.func25 (by kernel_rfl) rfl #[.string a0] rfl (by (try simp only [List.map_toArray, List.map_cons, List.map_nil]); first | done | rfl | (simp only [List.length_drop, List.length_take]; rfl)) ?_; (with_reducible refine (foolscapref01_Len.calls k a0 t348 _ A3.out).mono ?_); rintro e w5 ⟨rfl, hb⟩; refine ⟨_, rfl, ?_⟩; have n0_ := Aside0.mk (below_step (hb0_ HB) hb); clear HB; have HB := n0_; clear n0_; (try clear hb); (try clear hb2); (try clear hk); (try clear hi)))
  go_ret2
  exact ⟨by first | rfl | (simp [errW_none, errW_some] <;> rfl) | (simp [*, errW_none, errW_some] <;> rfl), hb0_ HB⟩
 ·rw [if_neg c4] at H
  have c4b0 : decide (t348 < 0) = false := decide_eq_false c4
  clear c4
  replace H := Option.bind_eq_some_iff.mp H
  obtain ⟨t349, A60, H⟩ := H
  replace H : (if t349 = 0 then (foolscapref32_Apply.l0 k a0 l1 (⟨#[]⟩ : ByteArray) (⟨#[]⟩ : ByteArray) 0) else (some ((⟨#[]⟩ : ByteArray), t349))) = some (r1, r2) := H
  have A6 := Aside0.mk A60
  clear A60
  by_cases c7 : t349 = 0
  ·rw [if_pos c7] at H
   have c7b0 : (t349 == 0) = true := beq_iff_eq.mpr c7
   have c7b1 : (t349 != 0) = false := bne_eq_false_iff_eq.mpr c7
   clear c7
   have H' := Aside0.mk H
   clear H
   go_enter Tryd.func33, Tryd.ntmps33
   go_wp2_with (first | ((with_reducible refine gate_callee (f := 25) rfl ?_); refine goesL_ (some 11) rfl rfl Tryd.func25 (by kernel_rfl) rfl #[.string a0] rfl (by (try simp only [List.map_toArray, List.map_cons, List.map_nil]); first | done | rfl | (simp only [List.length_drop, List.length_take]; rfl)) ?_; (with_reducible refine (foolscapref01_Len.calls k a0 t348 _ A3.out).mono ?_); rintro e w8 ⟨rfl, hb⟩; refine ⟨_, rfl, ?_⟩; have n0_ := Aside0.mk (below_step (hb0_ HB) hb); clear HB; have HB := n0_; clear n0_; (try clear hb); (try clear hb2); (try clear hk); (try clear hi)) | ((with_reducible refine gate_callee (f := 52) rfl ?_); refine goesL_ (some 14) rfl rfl Tryd.func52 (by kernel_rfl) rfl #[.slice A1 l1.length c1] rfl (by (try simp only [List.map_toArray, List.map_cons, List.map_nil]); first | done | rfl | (simp only [List.length_drop, List.length_take]; rfl)) ?_; (with_reducible refine (foolscapref32_asked.calls k _ _ l1 t349 _ ?side1 ?side2 A6.out).mono ?_); (case side1 => repeat (first | exact (Kd.C_below HR1.out HB.out) | (with_reducible refine Kd.C_alloc ?_ _) | (with_reducible refine Kd.C_drewN ?_ _) | (with_reducible refine Kd.C_drew ?_))); (case side2 => exact HC1.out); rintro e w9 ⟨rfl, hb⟩; refine ⟨_, rfl, ?_⟩; have n0_ := Aside0.mk (below_step (hb0_ HB) hb); clear HB; have HB := n0_; clear n0_; (try clear hb); (try clear hb2); (try clear hk); (try clear hi)))
   go_loopg [7, 8, 9] k (fun kq v7 v8 v9 w' => ∃ (x7_1 : ByteArray) (x8_1 : ByteArray) (x9_1 : Int), v7 = .string x7_1 ∧ v8 = .string x8_1 ∧ v9 = .int .i64 x9_1 ∧ Aside0 (foolscapref32_Apply.l0 kq a0 l1 x7_1 x8_1 x9_1 = some (r1, r2)) ∧ Aside0 (kq ≤ k) ∧ Aside0 (Below w.heap.size w w'))
   case atStart => exact ⟨((⟨#[]⟩ : ByteArray)), ((⟨#[]⟩ : ByteArray)), (0), (by first | rfl | (simp; done) | (simp [*]; done)), (by first | rfl | (simp; done) | (simp [*]; done)), (by first | rfl | (simp; done) | (simp [*]; done)), H', ⟨Nat.le_refl _⟩, ⟨hb0_ HB⟩⟩
   case round =>
    clear H'
    try clear c1
    try clear c2
    try clear p2
    try clear c3
    try clear c4
    try clear c4b0
    try clear c5
    try clear c7
    try clear c7b0
    try clear c7b1
    obtain ⟨x7_1, x8_1, x9_1, rfl, rfl, rfl, HA, HK1, HB⟩ := hrel
    cases gk with
    | zero => exact absurd HA.out (by simp [foolscapref32_Apply.l0])
    | succ k1 =>
     have H := HA.out
     clear HA
     simp only [foolscapref32_Apply.l0] at H
     by_cases c10 : x9_1 < (l1.length : Int)
     ·rw [if_pos c10] at H
      have c10b0 : decide (x9_1 < (l1.length : Int)) = true := decide_eq_true c10
      clear c10
      by_cases c11 : 0 ≤ x9_1
      ·rw [if_pos c11] at H
       have c11b0 : decide (0 ≤ x9_1) = true := decide_eq_true c11
       clear c11
       by_cases c12 : ((rd_T93 l1 x9_1).f0) = 1
       ·rw [if_pos c12] at H
        have c12b0 : (((rd_T93 l1 x9_1).f0) == 1) = true := beq_iff_eq.mpr c12
        have c12b1 : (((rd_T93 l1 x9_1).f0) != 1) = false := bne_eq_false_iff_eq.mpr c12
        clear c12
        by_cases c13 : ((rd_T93 l1 x9_1).f0) = 2
        ·rw [if_pos c13] at H
         exact absurd H (by simp)
        ·rw [if_neg c13] at H
         have c13b0 : (((rd_T93 l1 x9_1).f0) == 2) = false := beq_eq_false_iff_ne.mpr c13
         have c13b1 : (((rd_T93 l1 x9_1).f0) != 2) = true := bne_iff_ne.mpr c13
         by_cases c14 : x8_1.size + ((rd_T93 l1 x9_1).f1).size ≤ 9223372036854775807
         ·rw [if_pos c14] at H
          have c14b0 := eq_true c14
          have c14b1 : decide (x8_1.size + ((rd_T93 l1 x9_1).f1).size ≤ 9223372036854775807) = true := decide_eq_true c14
          try have c14b2 : (9223372036854775807 < x8_1.size + ((rd_T93 l1 x9_1).f1).size) = False := eq_false (Nat.not_lt.2 c14)
          have H' := Aside0.mk H
          clear H
          have p350 : 0 ≤ (x9_1 : Int) := dt_
          have q350 : x9_1 < (l1.length : Int) := dt_
          obtain ⟨ad350, e350, hx350_0, hx350_1⟩ := at_T93 HR1.out x9_1 p350 q350
          cases e350
          replace hx350_0 := (HB.out.cell (World.block_lt_of_cell? w _ hx350_0)).trans hx350_0
          replace hx350_1 := (HB.out.cell (World.block_lt_of_cell? w _ hx350_1)).trans hx350_1
          replace p350 := eq_true p350
          replace q350 := eq_true q350
          have p351 : 0 ≤ (x9_1 : Int) := dt_
          have q351 : x9_1 < (l1.length : Int) := dt_
          obtain ⟨ad351, e351, hx351_0, hx351_1⟩ := at_T93 HR1.out x9_1 p351 q351
          obtain rfl : ad350 = ad351 := (by injection e351)
          replace hx351_0 := (HB.out.cell (World.block_lt_of_cell? w _ hx351_0)).trans hx351_0
          replace hx351_1 := (HB.out.cell (World.block_lt_of_cell? w _ hx351_1)).trans hx351_1
          replace p351 := eq_true p351
          replace q351 := eq_true q351
          have p352 : 0 ≤ (x9_1 : Int) := dt_
          have q352 : x9_1 < (l1.length : Int) := dt_
          obtain ⟨ad352, e352, hx352_0, hx352_1⟩ := at_T93 HR1.out x9_1 p352 q352
          obtain rfl : ad350 = ad352 := (by injection e352)
          replace hx352_0 := (HB.out.cell (World.block_lt_of_cell? w _ hx352_0)).trans hx352_0
          replace hx352_1 := (HB.out.cell (World.block_lt_of_cell? w _ hx352_1)).trans hx352_1
          replace p352 := eq_true p352
          replace q352 := eq_true q352
          go_wp2
          go_roundg k1
          case measure => have := HK1.out; omega
          case rel => exact ⟨(x7_1), (x8_1 ++ ((rd_T93 l1 x9_1).f1)), (wrap64 (x9_1 + 1)), (by first | rfl | (simp; done) | (simp [*]; done)), (by first | rfl | (simp; done) | (simp [*]; done)), (by first | rfl | (simp; done) | (simp [*]; done)), H', ⟨by have := HK1.out; omega⟩, ⟨hb0_ HB⟩⟩
         ·rw [if_neg c14] at H
          exact absurd H (by simp)
       ·rw [if_neg c12] at H
        have c12b0 : (((rd_T93 l1 x9_1).f0) == 1) = false := beq_eq_false_iff_ne.mpr c12
        have c12b1 : (((rd_T93 l1 x9_1).f0) != 1) = true := bne_iff_ne.mpr c12
        by_cases c15 : x7_1.size + ((rd_T93 l1 x9_1).f1).size ≤ 9223372036854775807
        ·rw [if_pos c15] at H
         have c15b0 := eq_true c15
         have c15b1 : decide (x7_1.size + ((rd_T93 l1 x9_1).f1).size ≤ 9223372036854775807) = true := decide_eq_true c15
         try have c15b2 : (9223372036854775807 < x7_1.size + ((rd_T93 l1 x9_1).f1).size) = False := eq_false (Nat.not_lt.2 c15)
         by_cases c16 : ((rd_T93 l1 x9_1).f0) = 2
         ·rw [if_pos c16] at H
          have c16b0 : (((rd_T93 l1 x9_1).f0) == 2) = true := beq_iff_eq.mpr c16
          have c16b1 : (((rd_T93 l1 x9_1).f0) != 2) = false := bne_eq_false_iff_eq.mpr c16
          clear c16
          have H' := Aside0.mk H
          clear H
          have p350 : 0 ≤ (x9_1 : Int) := dt_
          have q350 : x9_1 < (l1.length : Int) := dt_
          obtain ⟨ad350, e350, hx350_0, hx350_1⟩ := at_T93 HR1.out x9_1 p350 q350
          cases e350
          replace hx350_0 := (HB.out.cell (World.block_lt_of_cell? w _ hx350_0)).trans hx350_0
          replace hx350_1 := (HB.out.cell (World.block_lt_of_cell? w _ hx350_1)).trans hx350_1
          replace p350 := eq_true p350
          replace q350 := eq_true q350
          have p353 : 0 ≤ (x9_1 : Int) := dt_
          have q353 : x9_1 < (l1.length : Int) := dt_
          obtain ⟨ad353, e353, hx353_0, hx353_1⟩ := at_T93 HR1.out x9_1 p353 q353
          obtain rfl : ad350 = ad353 := (by injection e353)
          replace hx353_0 := (HB.out.cell (World.block_lt_of_cell? w _ hx353_0)).trans hx353_0
          replace hx353_1 := (HB.out.cell (World.block_lt_of_cell? w _ hx353_1)).trans hx353_1
          replace p353 := eq_true p353
          replace q353 := eq_true q353
          have p354 : 0 ≤ (x9_1 : Int) := dt_
          have q354 : x9_1 < (l1.length : Int) := dt_
          obtain ⟨ad354, e354, hx354_0, hx354_1⟩ := at_T93 HR1.out x9_1 p354 q354
          obtain rfl : ad350 = ad354 := (by injection e354)
          replace hx354_0 := (HB.out.cell (World.block_lt_of_cell? w _ hx354_0)).trans hx354_0
          replace hx354_1 := (HB.out.cell (World.block_lt_of_cell? w _ hx354_1)).trans hx354_1
          replace p354 := eq_true p354
          replace q354 := eq_true q354
          go_wp2
          go_roundg k1
          case measure => have := HK1.out; omega
          case rel => exact ⟨(x7_1 ++ ((rd_T93 l1 x9_1).f1)), (x8_1), (wrap64 (x9_1 + 1)), (by first | rfl | (simp; done) | (simp [*]; done)), (by first | rfl | (simp; done) | (simp [*]; done)), (by first | rfl | (simp; done) | (simp [*]; done)), H', ⟨by have := HK1.out; omega⟩, ⟨hb0_ HB⟩⟩
         ·rw [if_neg c16] at H
          have c16b0 : (((rd_T93 l1 x9_1).f0) == 2) = false := beq_eq_false_iff_ne.mpr c16
          have c16b1 : (((rd_T93 l1 x9_1).f0) != 2) = true := bne_iff_ne.mpr c16
          by_cases c17 : x8_1.size + ((rd_T93 l1 x9_1).f1).size ≤ 9223372036854775807
          ·rw [if_pos c17] at H
           have c17b0 := eq_true c17
           have c17b1 : decide (x8_1.size + ((rd_T93 l1 x9_1).f1).size ≤ 9223372036854775807) = true := decide_eq_true c17
           try have c17b2 : (9223372036854775807 < x8_1.size + ((rd_T93 l1 x9_1).f1).size) = False := eq_false (Nat.not_lt.2 c17)
           have H' := Aside0.mk H
           clear H
           have p350 : 0 ≤ (x9_1 : Int) := dt_
           have q350 : x9_1 < (l1.length : Int) := dt_
           obtain ⟨ad350, e350, hx350_0, hx350_1⟩ := at_T93 HR1.out x9_1 p350 q350
           cases e350
           replace hx350_0 := (HB.out.cell (World.block_lt_of_cell? w _ hx350_0)).trans hx350_0
           replace hx350_1 := (HB.out.cell (World.block_lt_of_cell? w _ hx350_1)).trans hx350_1
           replace p350 := eq_true p350
           replace q350 := eq_true q350
           have p353 : 0 ≤ (x9_1 : Int) := dt_
           have q353 : x9_1 < (l1.length : Int) := dt_
           obtain ⟨ad353, e353, hx353_0, hx353_1⟩ := at_T93 HR1.out x9_1 p353 q353
           obtain rfl : ad350 = ad353 := (by injection e353)
           replace hx353_0 := (HB.out.cell (World.block_lt_of_cell? w _ hx353_0)).trans hx353_0
           replace hx353_1 := (HB.out.cell (World.block_lt_of_cell? w _ hx353_1)).trans hx353_1
           replace p353 := eq_true p353
           replace q353 := eq_true q353
           have p354 : 0 ≤ (x9_1 : Int) := dt_
           have q354 : x9_1 < (l1.length : Int) := dt_
           obtain ⟨ad354, e354, hx354_0, hx354_1⟩ := at_T93 HR1.out x9_1 p354 q354
           obtain rfl : ad350 = ad354 := (by injection e354)
           replace hx354_0 := (HB.out.cell (World.block_lt_of_cell? w _ hx354_0)).trans hx354_0
           replace hx354_1 := (HB.out.cell (World.block_lt_of_cell? w _ hx354_1)).trans hx354_1
           replace p354 := eq_true p354
           replace q354 := eq_true q354
           have p355 : 0 ≤ (x9_1 : Int) := dt_
           have q355 : x9_1 < (l1.length : Int) := dt_
           obtain ⟨ad355, e355, hx355_0, hx355_1⟩ := at_T93 HR1.out x9_1 p355 q355
           obtain rfl : ad350 = ad355 := (by injection e355)
           replace hx355_0 := (HB.out.cell (World.block_lt_of_cell? w _ hx355_0)).trans hx355_0
           replace hx355_1 := (HB.out.cell (World.block_lt_of_cell? w _ hx355_1)).trans hx355_1
           replace p355 := eq_true p355
           replace q355 := eq_true q355
           go_wp2
           go_roundg k1
           case measure => have := HK1.out; omega
           case rel => exact ⟨(x7_1 ++ ((rd_T93 l1 x9_1).f1)), (x8_1 ++ ((rd_T93 l1 x9_1).f1)), (wrap64 (x9_1 + 1)), (by first | rfl | (simp; done) | (simp [*]; done)), (by first | rfl | (simp; done) | (simp [*]; done)), (by first | rfl | (simp; done) | (simp [*]; done)), H', ⟨by have := HK1.out; omega⟩, ⟨hb0_ HB⟩⟩
          ·rw [if_neg c17] at H
           exact absurd H (by simp)
        ·rw [if_neg c15] at H
         exact absurd H (by simp)
      ·rw [if_neg c11] at H
       exact absurd H (by simp)
     ·rw [if_neg c10] at H
      have c10b0 : decide (x9_1 < (l1.length : Int)) = false := decide_eq_false c10
      clear c10
      by_cases c18 : x7_1.toList = a0.toList
      ·rw [if_pos c18] at H
       have c18b0 : (x7_1.toList == a0.toList) = true := beq_iff_eq.mpr c18
       have c18b1 : (x7_1.toList != a0.toList) = false := bne_eq_false_iff_eq.mpr c18
       clear c18
       simp only [Option.some.injEq, Prod.mk.injEq] at H
       obtain ⟨rfl, rfl⟩ := H
       go_wp2
       go_ret2
       exact ⟨by first | rfl | (simp [errW_none, errW_some] <;> rfl) | (simp [*, errW_none, errW_some] <;> rfl), hb0_ HB⟩
      ·rw [if_neg c18] at H
       have c18b0 : (x7_1.toList == a0.toList) = false := beq_eq_false_iff_ne.mpr c18
       have c18b1 : (x7_1.toList != a0.toList) = true := bne_iff_ne.mpr c18
       simp only [Option.some.injEq, Prod.mk.injEq] at H
       obtain ⟨rfl, rfl⟩ := H
       go_wp2
       go_ret2
       exact ⟨by first | rfl | (simp [errW_none, errW_some] <;> rfl) | (simp [*, errW_none, errW_some] <;> rfl), hb0_ HB⟩
  ·rw [if_neg c7] at H
   have c7b0 : (t349 == 0) = false := beq_eq_false_iff_ne.mpr c7
   have c7b1 : (t349 != 0) = true := bne_iff_ne.mpr c7
   simp only [Option.some.injEq, Prod.mk.injEq] at H
   obtain ⟨rfl, rfl⟩ := H
   go_enter Tryd.func33, Tryd.ntmps33
   go_wp2_with (first | ((with_reducible refine gate_callee (f := 25) rfl ?_); refine goesL_ (some 11) rfl rfl Tryd.func25 (by kernel_rfl) rfl #[.string a0] rfl (by (try simp only [List.map_toArray, List.map_cons, List.map_nil]); first | done | rfl | (simp only [List.length_drop, List.length_take]; rfl)) ?_; (with_reducible refine (foolscapref01_Len.calls k a0 t348 _ A3.out).mono ?_); rintro e w19 ⟨rfl, hb⟩; refine ⟨_, rfl, ?_⟩; have n0_ := Aside0.mk (below_step (hb0_ HB) hb); clear HB; have HB := n0_; clear n0_; (try clear hb); (try clear hb2); (try clear hk); (try clear hi)) | ((with_reducible refine gate_callee (f := 52) rfl ?_); refine goesL_ (some 14) rfl rfl Tryd.func52 (by kernel_rfl) rfl #[.slice A1 l1.length c1] rfl (by (try simp only [List.map_toArray, List.map_cons, List.map_nil]); first | done | rfl | (simp only [List.length_drop, List.length_take]; rfl)) ?_; (with_reducible refine (foolscapref32_asked.calls k _ _ l1 t349 _ ?side1 ?side2 A6.out).mono ?_); (case side1 => repeat (first | exact (Kd.C_below HR1.out HB.out) | (with_reducible refine Kd.C_alloc ?_ _) | (with_reducible refine Kd.C_drewN ?_ _) | (with_reducible refine Kd.C_drew ?_))); (case side2 => exact HC1.out); rintro e w20 ⟨rfl, hb⟩; refine ⟨_, rfl, ?_⟩; have n0_ := Aside0.mk (below_step (hb0_ HB) hb); clear HB; have HB := n0_; clear n0_; (try clear hb); (try clear hb2); (try clear hk); (try clear hi)))
   go_ret2
   exact ⟨by first | rfl | (simp [errW_none, errW_some] <;> rfl) | (simp [*, errW_none, errW_some] <;> rfl), hb0_ HB⟩

end Go.Proofs.YtabhfloclcmjnaaDoor.P
