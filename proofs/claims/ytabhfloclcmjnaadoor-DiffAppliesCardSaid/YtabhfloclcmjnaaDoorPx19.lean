/- Printed by a program of this session (wip/xprint) over the kit's print: functions of the seat and what they come to, with their proofs. Conditions: as typed. -/
import Derived.Test.YtabhfloclcmjnaaDoorPx0
import Derived.Test.YtabhfloclcmjnaaDoorPx15
namespace Go.Proofs.YtabhfloclcmjnaaDoor.P
open Go.RowKit Go.Proofs.YtabhfloclcmjnaaDoor.X Go.Proofs.YtabhfloclcmjnaaDoorW.PrintWords Go.Proofs.YtabhfloclcmjnaaDoorW.PrintLast Go.Proofs.YtabhfloclcmjnaaDoorW.PrintMore
attribute [local go_sem] max2_int min2_int max_two min_two max_three min_three max_four min_four   -- for this text's walks alone
set_option linter.unusedVariables false
set_option linter.unusedSimpArgs false

/-! ### foolscapref32_asked: function 52 -/
mutual
def foolscapref32_asked.l0 : Nat → List (S93) → Int → Int → Option (Int)
 | 0, _, _, _ => none
 | k + 1, x0, x3, x4 => if x4 < (x0.length : Int) then (if 0 ≤ x4 then (if ((rd_T93 x0 x4).f0) < 0 then (foolscapref32_asked.l0 k x0 1 (wrap64 (x4 + 1))) else (if ((rd_T93 x0 x4).f0) > 2 then (foolscapref32_asked.l0 k x0 1 (wrap64 (x4 + 1))) else (if ((rd_T93 x0 x4).f1).toList = ([] : List UInt8) then (foolscapref32_asked.l0 k x0 1 (wrap64 (x4 + 1))) else (foolscapref32_asked.l0 k x0 x3 (wrap64 (x4 + 1)))))) else (none)) else (foolscapref32_asked.l1 k x0 x3 0)
def foolscapref32_asked.l1 : Nat → List (S93) → Int → Int → Option (Int)
 | 0, _, _, _ => none
 | k + 1, x0, x3, x5 => if x5 < (x0.length : Int) then (if 0 ≤ x5 then ((foolscapref01_Len.f k ((rd_T93 x0 x5).f1)).bind fun t347 => (if t347 < 0 then (foolscapref32_asked.l1 k x0 2 (wrap64 (x5 + 1))) else (foolscapref32_asked.l1 k x0 x3 (wrap64 (x5 + 1))))) else (none)) else (some x3)
end
def foolscapref32_asked.f (k : Nat) (l0 : List (S93)) : Option (Int) := foolscapref32_asked.l0 k l0 0 0
theorem foolscapref32_asked.mono_l : ∀ k, (∀ y0 y1 y2, LeO (foolscapref32_asked.l0 k y0 y1 y2) (foolscapref32_asked.l0 (k + 1) y0 y1 y2)) ∧ (∀ y0 y1 y2, LeO (foolscapref32_asked.l1 k y0 y1 y2) (foolscapref32_asked.l1 (k + 1) y0 y1 y2))
 | 0 => ⟨fun _ _ _ r h => by simp [foolscapref32_asked.l0] at h, fun _ _ _ r h => by simp [foolscapref32_asked.l1] at h⟩
 | k + 1 => by
  obtain ⟨ih0, ih1⟩ := foolscapref32_asked.mono_l k
  refine ⟨?_, ?_⟩
  ·intro y0 y1 y2
   unfold foolscapref32_asked.l0
   repeat' first
   | (with_reducible exact ih0 _ _ _)
   | (with_reducible exact ih1 _ _ _)
   | (with_reducible exact foolscapref01_Len.mono _ _)
   | (with_reducible exact LeO.refl _)
   | (with_reducible exact LeO.none _)
   | (with_reducible refine LeO.ite ?_ ?_)
   | (with_reducible refine LeO.bind ?_ (fun _ => ?_))
   | exact ih0 _ _ _
   | exact ih1 _ _ _
   | exact foolscapref01_Len.mono _ _
   | exact LeO.none _
   | refine LeO.ite ?_ ?_
   | refine LeO.bind ?_ (fun _ => ?_)
  ·intro y0 y1 y2
   unfold foolscapref32_asked.l1
   repeat' first
   | (with_reducible exact ih0 _ _ _)
   | (with_reducible exact ih1 _ _ _)
   | (with_reducible exact foolscapref01_Len.mono _ _)
   | (with_reducible exact LeO.refl _)
   | (with_reducible exact LeO.none _)
   | (with_reducible refine LeO.ite ?_ ?_)
   | (with_reducible refine LeO.bind ?_ (fun _ => ?_))
   | exact ih0 _ _ _
   | exact ih1 _ _ _
   | exact foolscapref01_Len.mono _ _
   | exact LeO.none _
   | refine LeO.ite ?_ ?_
   | refine LeO.bind ?_ (fun _ => ?_)
theorem foolscapref32_asked.mono : ∀ a0 k, LeO (foolscapref32_asked.f k a0) (foolscapref32_asked.f (k + 1) a0) := by
 intro a0 k
 obtain ⟨ih0, ih1⟩ := foolscapref32_asked.mono_l k
 unfold foolscapref32_asked.f
 repeat' first
   | (with_reducible exact ih0 _ _ _)
   | (with_reducible exact ih1 _ _ _)
   | (with_reducible exact foolscapref01_Len.mono _ _)
   | (with_reducible exact LeO.refl _)
   | (with_reducible exact LeO.none _)
   | (with_reducible refine LeO.ite ?_ ?_)
   | (with_reducible refine LeO.bind ?_ (fun _ => ?_))
   | exact ih0 _ _ _
   | exact ih1 _ _ _
   | exact foolscapref01_Len.mono _ _
   | exact LeO.none _
   | refine LeO.ite ?_ ?_
   | refine LeO.bind ?_ (fun _ => ?_)
set_option maxHeartbeats 8000000 in
set_option maxRecDepth 100000 in
theorem foolscapref32_asked.calls (k : Nat) (A0 : Option Addr) (c0 : Nat) (l0 : List (S93)) (r : Int) (w : World) (hr0 : Kd.C k93 w A0 l0.length l0) (hc0 : l0.length ≤ c0) (h : foolscapref32_asked.f k l0 = some r) :
  Calls Tryd.prog 52 #[.slice A0 l0.length c0] w fun e w' => e = .returned (.int .i64 r) ∧ Below w.heap.size w w' := by
 have HR0 := Aside0.mk hr0
 have HC0 := Aside0.mk hc0
 clear hr0 hc0
 have HB := Aside0.mk (Below.refl w.heap.size w)
 have H : (foolscapref32_asked.l0 k l0 0 0) = some r := h
 clear h
 have H' := Aside0.mk H
 clear H
 go_enter Tryd.func52, Tryd.ntmps52
 go_wp2
 go_loopg [3, 4] k (fun kq v3 v4 w' => ∃ (x3_1 : Int) (x4_1 : Int), v3 = .int .i64 x3_1 ∧ v4 = .int .i64 x4_1 ∧ Aside0 (foolscapref32_asked.l0 kq l0 x3_1 x4_1 = some r) ∧ Aside0 (kq ≤ k) ∧ Aside0 (Below w.heap.size w w'))
 case atStart => exact ⟨(0), (0), (by first | rfl | (simp; done) | (simp [*]; done)), (by first | rfl | (simp; done) | (simp [*]; done)), H', ⟨Nat.le_refl _⟩, ⟨hb0_ HB⟩⟩
 case round =>
  clear H'
  obtain ⟨x3_1, x4_1, rfl, rfl, HA, HK1, HB⟩ := hrel
  cases gk with
  | zero => exact absurd HA.out (by simp [foolscapref32_asked.l0])
  | succ k1 =>
   have H := HA.out
   clear HA
   simp only [foolscapref32_asked.l0] at H
   by_cases c2 : x4_1 < (l0.length : Int)
   ·rw [if_pos c2] at H
    have c2b0 : decide (x4_1 < (l0.length : Int)) = true := decide_eq_true c2
    clear c2
    by_cases c3 : 0 ≤ x4_1
    ·rw [if_pos c3] at H
     have c3b0 : decide (0 ≤ x4_1) = true := decide_eq_true c3
     clear c3
     by_cases c4 : ((rd_T93 l0 x4_1).f0) < 0
     ·rw [if_pos c4] at H
      have c4b0 : decide (((rd_T93 l0 x4_1).f0) < 0) = true := decide_eq_true c4
      clear c4
      have H' := Aside0.mk H
      clear H
      have p343 : 0 ≤ (x4_1 : Int) := dt_
      have q343 : x4_1 < (l0.length : Int) := dt_
      obtain ⟨ad343, e343, hx343_0, hx343_1⟩ := at_T93 HR0.out x4_1 p343 q343
      cases e343
      replace hx343_0 := (HB.out.cell (World.block_lt_of_cell? w _ hx343_0)).trans hx343_0
      replace hx343_1 := (HB.out.cell (World.block_lt_of_cell? w _ hx343_1)).trans hx343_1
      replace p343 := eq_true p343
      replace q343 := eq_true q343
      go_wp2
      go_roundg k1
      case measure => have := HK1.out; omega
      case rel => exact ⟨(1), (wrap64 (x4_1 + 1)), (by first | rfl | (simp; done) | (simp [*]; done)), (by first | rfl | (simp; done) | (simp [*]; done)), H', ⟨by have := HK1.out; omega⟩, ⟨hb0_ HB⟩⟩
     ·rw [if_neg c4] at H
      have c4b0 : decide (((rd_T93 l0 x4_1).f0) < 0) = false := decide_eq_false c4
      clear c4
      by_cases c5 : ((rd_T93 l0 x4_1).f0) > 2
      ·rw [if_pos c5] at H
       have c5b0 : decide (2 < ((rd_T93 l0 x4_1).f0)) = true := decide_eq_true c5
       clear c5
       have H' := Aside0.mk H
       clear H
       have p343 : 0 ≤ (x4_1 : Int) := dt_
       have q343 : x4_1 < (l0.length : Int) := dt_
       obtain ⟨ad343, e343, hx343_0, hx343_1⟩ := at_T93 HR0.out x4_1 p343 q343
       cases e343
       replace hx343_0 := (HB.out.cell (World.block_lt_of_cell? w _ hx343_0)).trans hx343_0
       replace hx343_1 := (HB.out.cell (World.block_lt_of_cell? w _ hx343_1)).trans hx343_1
       replace p343 := eq_true p343
       replace q343 := eq_true q343
       have p344 : 0 ≤ (x4_1 : Int) := dt_
       have q344 : x4_1 < (l0.length : Int) := dt_
       obtain ⟨ad344, e344, hx344_0, hx344_1⟩ := at_T93 HR0.out x4_1 p344 q344
       obtain rfl : ad343 = ad344 := (by injection e344)
       replace hx344_0 := (HB.out.cell (World.block_lt_of_cell? w _ hx344_0)).trans hx344_0
       replace hx344_1 := (HB.out.cell (World.block_lt_of_cell? w _ hx344_1)).trans hx344_1
       replace p344 := eq_true p344
       replace q344 := eq_true q344
       go_wp2
       go_roundg k1
       case measure => have := HK1.out; omega
       case rel => exact ⟨(1), (wrap64 (x4_1 + 1)), (by first | rfl | (simp; done) | (simp [*]; done)), (by first | rfl | (simp; done) | (simp [*]; done)), H', ⟨by have := HK1.out; omega⟩, ⟨hb0_ HB⟩⟩
      ·rw [if_neg c5] at H
       have c5b0 : decide (2 < ((rd_T93 l0 x4_1).f0)) = false := decide_eq_false c5
       clear c5
       by_cases c6 : ((rd_T93 l0 x4_1).f1).toList = ([] : List UInt8)
       ·rw [if_pos c6] at H
        have c6b0 : (((rd_T93 l0 x4_1).f1).toList == ([] : List UInt8)) = true := beq_iff_eq.mpr c6
        have c6b1 : (((rd_T93 l0 x4_1).f1).toList != ([] : List UInt8)) = false := bne_eq_false_iff_eq.mpr c6
        clear c6
        have H' := Aside0.mk H
        clear H
        have p343 : 0 ≤ (x4_1 : Int) := dt_
        have q343 : x4_1 < (l0.length : Int) := dt_
        obtain ⟨ad343, e343, hx343_0, hx343_1⟩ := at_T93 HR0.out x4_1 p343 q343
        cases e343
        replace hx343_0 := (HB.out.cell (World.block_lt_of_cell? w _ hx343_0)).trans hx343_0
        replace hx343_1 := (HB.out.cell (World.block_lt_of_cell? w _ hx343_1)).trans hx343_1
        replace p343 := eq_true p343
        replace q343 := eq_true q343
        have p344 : 0 ≤ (x4_1 : Int) := dt_
        have q344 : x4_1 < (l0.length : Int) := dt_
        obtain ⟨ad344, e344, hx344_0, hx344_1⟩ := at_T93 HR0.out x4_1 p344 q344
        obtain rfl : ad343 = ad344 := (by injection e344)
        replace hx344_0 := (HB.out.cell (World.block_lt_of_cell? w _ hx344_0)).trans hx344_0
        replace hx344_1 := (HB.out.cell (World.block_lt_of_cell? w _ hx344_1)).trans hx344_1
        replace p344 := eq_true p344
        replace q344 := eq_true q344
        have p345 : 0 ≤ (x4_1 : Int) := dt_
        have q345 : x4_1 < (l0.length : Int) := dt_
        obtain ⟨ad345, e345, hx345_0, hx345_1⟩ := at_T93 HR0.out x4_1 p345 q345
        obtain rfl : ad343 = ad345 := (by injection e345)
        replace hx345_0 := (HB.out.cell (World.block_lt_of_cell? w _ hx345_0)).trans hx345_0
        replace hx345_1 := (HB.out.cell (World.block_lt_of_cell? w _ hx345_1)).trans hx345_1
        replace p345 := eq_true p345
        replace q345 := eq_true q345
        go_wp2
        go_roundg k1
        case measure => have := HK1.out; omega
        case rel => exact ⟨(1), (wrap64 (x4_1 + 1)), (by first | rfl | (simp; done) | (simp [*]; done)), (by first | rfl | (simp; done) | (simp [*]; done)), H', ⟨by have := HK1.out; omega⟩, ⟨hb0_ HB⟩⟩
       ·rw [if_neg c6] at H
        have c6b0 : (((rd_T93 l0 x4_1).f1).toList == ([] : List UInt8)) = false := beq_eq_false_iff_ne.mpr c6
        have c6b1 : (((rd_T93 l0 x4_1).f1).toList != ([] : List UInt8)) = true := bne_iff_ne.mpr c6
        have H' := Aside0.mk H
        clear H
        have p343 : 0 ≤ (x4_1 : Int) := dt_
        have q343 : x4_1 < (l0.length : Int) := dt_
        obtain ⟨ad343, e343, hx343_0, hx343_1⟩ := at_T93 HR0.out x4_1 p343 q343
        cases e343
        replace hx343_0 := (HB.out.cell (World.block_lt_of_cell? w _ hx343_0)).trans hx343_0
        replace hx343_1 := (HB.out.cell (World.block_lt_of_cell? w _ hx343_1)).trans hx343_1
        replace p343 := eq_true p343
        replace q343 := eq_true q343
        have p344 : 0 ≤ (x4_1 : Int) := dt_
        have q344 : x4_1 < (l0.length : Int) := dt_
        obtain ⟨ad344, e344, hx344_0, hx344_1⟩ := at_T93 HR0.out x4_1 p344 q344
        obtain rfl : ad343 = ad344 := (by injection e344)
        replace hx344_0 := (HB.out.cell (World.block_lt_of_cell? w _ hx344_0)).trans hx344_0
        replace hx344_1 := (HB.out.cell (World.block_lt_of_cell? w _ hx344_1)).trans hx344_1
        replace p344 := eq_true p344
        replace q344 := eq_true q344
        have p345 : 0 ≤ (x4_1 : Int) := dt_
        have q345 : x4_1 < (l0.length : Int) := dt_
        obtain ⟨ad345, e345, hx345_0, hx345_1⟩ := at_T93 HR0.out x4_1 p345 q345
        obtain rfl : ad343 = ad345 := (by injection e345)
        replace hx345_0 := (HB.out.cell (World.block_lt_of_cell? w _ hx345_0)).trans hx345_0
        replace hx345_1 := (HB.out.cell (World.block_lt_of_cell? w _ hx345_1)).trans hx345_1
        replace p345 := eq_true p345
        replace q345 := eq_true q345
        go_wp2
        go_roundg k1
        case measure => have := HK1.out; omega
        case rel => exact ⟨(x3_1), (wrap64 (x4_1 + 1)), (by first | rfl | (simp; done) | (simp [*]; done)), (by first | rfl | (simp; done) | (simp [*]; done)), H', ⟨by have := HK1.out; omega⟩, ⟨hb0_ HB⟩⟩
    ·rw [if_neg c3] at H
     exact absurd H (by simp)
   ·rw [if_neg c2] at H
    have c2b0 : decide (x4_1 < (l0.length : Int)) = false := decide_eq_false c2
    clear c2
    have H' := Aside0.mk H
    clear H
    go_wp2
    go_loopg [3, 5] k1 (fun kq v3 v5 w' => ∃ (x3_2 : Int) (x5_2 : Int), v3 = .int .i64 x3_2 ∧ v5 = .int .i64 x5_2 ∧ Aside0 (foolscapref32_asked.l1 kq l0 x3_2 x5_2 = some r) ∧ Aside0 (kq ≤ k1) ∧ Aside0 (Below w.heap.size w w'))
    case atStart => exact ⟨(x3_1), (0), (by first | rfl | (simp; done) | (simp [*]; done)), (by first | rfl | (simp; done) | (simp [*]; done)), H', ⟨Nat.le_refl _⟩, ⟨hb0_ HB⟩⟩
    case round =>
     clear H'
     try clear c2
     try clear c2b0
     try clear p2
     try clear c3
     try clear c3b0
     try clear p3
     try clear q3
     try clear hx3
     try clear c4
     try clear c4b0
     try clear c5
     try clear c5b0
     try clear c6
     try clear c6b0
     try clear c6b1
     try clear p6
     try clear hx343_0
     try clear hx343_1
     try clear hx344_0
     try clear hx344_1
     try clear hx345_0
     try clear hx345_1
     try clear p343
     try clear p344
     try clear p345
     try clear q343
     try clear q344
     try clear q345
     obtain ⟨x3_2, x5_2, rfl, rfl, HA, HK2, HB⟩ := hrel
     cases gk with
     | zero => exact absurd HA.out (by simp [foolscapref32_asked.l1])
     | succ k2 =>
      have H := HA.out
      clear HA
      simp only [foolscapref32_asked.l1] at H
      by_cases c7 : x5_2 < (l0.length : Int)
      ·rw [if_pos c7] at H
       have c7b0 : decide (x5_2 < (l0.length : Int)) = true := decide_eq_true c7
       clear c7
       by_cases c8 : 0 ≤ x5_2
       ·rw [if_pos c8] at H
        have c8b0 : decide (0 ≤ x5_2) = true := decide_eq_true c8
        clear c8
        replace H := Option.bind_eq_some_iff.mp H
        obtain ⟨t347, A90, H⟩ := H
        replace H : (if t347 < 0 then (foolscapref32_asked.l1 k2 l0 2 (wrap64 (x5_2 + 1))) else (foolscapref32_asked.l1 k2 l0 x3_2 (wrap64 (x5_2 + 1)))) = some r := H
        have A9 := Aside0.mk A90
        clear A90
        by_cases c10 : t347 < 0
        ·rw [if_pos c10] at H
         have c10b0 : decide (t347 < 0) = true := decide_eq_true c10
         clear c10
         have H' := Aside0.mk H
         clear H
         have p346 : 0 ≤ (x5_2 : Int) := dt_
         have q346 : x5_2 < (l0.length : Int) := dt_
         obtain ⟨ad346, e346, hx346_0, hx346_1⟩ := at_T93 HR0.out x5_2 p346 q346
         cases e346
         replace hx346_0 := (HB.out.cell (World.block_lt_of_cell? w _ hx346_0)).trans hx346_0
         replace hx346_1 := (HB.out.cell (World.block_lt_of_cell? w _ hx346_1)).trans hx346_1
         replace p346 := eq_true p346
         replace q346 := eq_true q346
         go_wp2_with (first | ((with_reducible refine gate_callee (f := 25) rfl ?_); refine goesL_ (some 45) rfl rfl Tryd.func25 (by kernel_rfl) rfl #[.string ((rd_T93 l0 x5_2).f1)] rfl (by (try simp only [List.map_toArray, List.map_cons, List.map_nil]); first | done | rfl | (simp only [List.length_drop, List.length_take]; rfl)) ?_; (with_reducible refine (foolscapref01_Len.calls k2 ((rd_T93 l0 x5_2).f1) t347 _ A9.out).mono ?_); rintro e w11 ⟨rfl, hb⟩; refine ⟨_, rfl, ?_⟩; have n0_ := Aside0.mk (below_step (hb0_ HB) hb); clear HB; have HB := n0_; clear n0_; (try clear hb); (try clear hb2); (try clear hk); (try clear hi)))
         go_roundg k2
         case measure => have := HK1.out; have := HK2.out; omega
         case rel => exact ⟨(2), (wrap64 (x5_2 + 1)), (by first | rfl | (simp; done) | (simp [*]; done)), (by first | rfl | (simp; done) | (simp [*]; done)), H', ⟨by have := HK1.out; have := HK2.out; omega⟩, ⟨hb0_ HB⟩⟩
        ·rw [if_neg c10] at H
         have c10b0 : decide (t347 < 0) = false := decide_eq_false c10
         clear c10
         have H' := Aside0.mk H
         clear H
         have p346 : 0 ≤ (x5_2 : Int) := dt_
         have q346 : x5_2 < (l0.length : Int) := dt_
         obtain ⟨ad346, e346, hx346_0, hx346_1⟩ := at_T93 HR0.out x5_2 p346 q346
         cases e346
         replace hx346_0 := (HB.out.cell (World.block_lt_of_cell? w _ hx346_0)).trans hx346_0
         replace hx346_1 := (HB.out.cell (World.block_lt_of_cell? w _ hx346_1)).trans hx346_1
         replace p346 := eq_true p346
         replace q346 := eq_true q346
         go_wp2_with (first | ((with_reducible refine gate_callee (f := 25) rfl ?_); refine goesL_ (some 45) rfl rfl Tryd.func25 (by kernel_rfl) rfl #[.string ((rd_T93 l0 x5_2).f1)] rfl (by (try simp only [List.map_toArray, List.map_cons, List.map_nil]); first | done | rfl | (simp only [List.length_drop, List.length_take]; rfl)) ?_; (with_reducible refine (foolscapref01_Len.calls k2 ((rd_T93 l0 x5_2).f1) t347 _ A9.out).mono ?_); rintro e w12 ⟨rfl, hb⟩; refine ⟨_, rfl, ?_⟩; have n0_ := Aside0.mk (below_step (hb0_ HB) hb); clear HB; have HB := n0_; clear n0_; (try clear hb); (try clear hb2); (try clear hk); (try clear hi)))
         go_roundg k2
         case measure => have := HK1.out; have := HK2.out; omega
         case rel => exact ⟨(x3_2), (wrap64 (x5_2 + 1)), (by first | rfl | (simp; done) | (simp [*]; done)), (by first | rfl | (simp; done) | (simp [*]; done)), H', ⟨by have := HK1.out; have := HK2.out; omega⟩, ⟨hb0_ HB⟩⟩
       ·rw [if_neg c8] at H
        exact absurd H (by simp)
      ·rw [if_neg c7] at H
       have c7b0 : decide (x5_2 < (l0.length : Int)) = false := decide_eq_false c7
       clear c7
       obtain rfl := Option.some.inj H
       go_wp2
       go_ret
       exact ⟨by first | rfl | (simp [errW_none, errW_some] <;> rfl) | (simp [*, errW_none, errW_some] <;> rfl), hb0_ HB⟩

end Go.Proofs.YtabhfloclcmjnaaDoor.P
