/- Printed by a program of this session (wip/xprint) over the kit's print: functions of the seat and what they come to, with their proofs. Conditions: as typed. -/
import Derived.Test.YtabhfloclcmjnaaDoorPx0
import Derived.Test.YtabhfloclcmjnaaDoorPx15
namespace Go.Proofs.YtabhfloclcmjnaaDoor.P
open Go.RowKit Go.Proofs.YtabhfloclcmjnaaDoor.X Go.Proofs.YtabhfloclcmjnaaDoorW.PrintWords Go.Proofs.YtabhfloclcmjnaaDoorW.PrintLast Go.Proofs.YtabhfloclcmjnaaDoorW.PrintMore
attribute [local go_sem] max2_int min2_int max_two min_two max_three min_three max_four min_four   -- for this text's walks alone
set_option linter.unusedVariables false
set_option linter.unusedSimpArgs false

/-! ### foolscapref32_Cost: function 35 -/
def foolscapref32_Cost.l0 : Nat → List (S93) → Int → Int → Option (Int)
 | 0, _, _, _ => none
 | k + 1, x0, x3, x4 => if x4 < (x0.length : Int) then (if 0 ≤ x4 then (if ((rd_T93 x0 x4).f0) = 1 then ((foolscapref01_Len.f k ((rd_T93 x0 x4).f1)).bind fun t381 => (if t381 > 0 then ((foolscapref01_Len.f k ((rd_T93 x0 x4).f1)).bind fun t383 => (foolscapref32_Cost.l0 k x0 (wrap64 (x3 + t383)) (wrap64 (x4 + 1)))) else (foolscapref32_Cost.l0 k x0 x3 (wrap64 (x4 + 1))))) else (if ((rd_T93 x0 x4).f0) = 2 then ((foolscapref01_Len.f k ((rd_T93 x0 x4).f1)).bind fun t386 => (if t386 > 0 then ((foolscapref01_Len.f k ((rd_T93 x0 x4).f1)).bind fun t388 => (foolscapref32_Cost.l0 k x0 (wrap64 (x3 + t388)) (wrap64 (x4 + 1)))) else (foolscapref32_Cost.l0 k x0 x3 (wrap64 (x4 + 1))))) else (foolscapref32_Cost.l0 k x0 x3 (wrap64 (x4 + 1))))) else (none)) else (some x3)
def foolscapref32_Cost.f (k : Nat) (l0 : List (S93)) : Option (Int) := foolscapref32_Cost.l0 k l0 0 0
theorem foolscapref32_Cost.mono_l : ∀ k, (∀ y0 y1 y2, LeO (foolscapref32_Cost.l0 k y0 y1 y2) (foolscapref32_Cost.l0 (k + 1) y0 y1 y2))
 | 0 => fun _ _ _ r h => by simp [foolscapref32_Cost.l0] at h
 | k + 1 => by
  have ih0 := foolscapref32_Cost.mono_l k
  ·intro y0 y1 y2
   unfold foolscapref32_Cost.l0
   repeat' first
   | (with_reducible exact ih0 _ _ _)
   | (with_reducible exact foolscapref01_Len.mono _ _)
   | (with_reducible exact LeO.refl _)
   | (with_reducible exact LeO.none _)
   | (with_reducible refine LeO.ite ?_ ?_)
   | (with_reducible refine LeO.bind ?_ (fun _ => ?_))
   | exact ih0 _ _ _
   | exact foolscapref01_Len.mono _ _
   | exact LeO.none _
   | refine LeO.ite ?_ ?_
   | refine LeO.bind ?_ (fun _ => ?_)
theorem foolscapref32_Cost.mono : ∀ a0 k, LeO (foolscapref32_Cost.f k a0) (foolscapref32_Cost.f (k + 1) a0) := by
 intro a0 k
 have ih0 := foolscapref32_Cost.mono_l k
 unfold foolscapref32_Cost.f
 repeat' first
   | (with_reducible exact ih0 _ _ _)
   | (with_reducible exact foolscapref01_Len.mono _ _)
   | (with_reducible exact LeO.refl _)
   | (with_reducible exact LeO.none _)
   | (with_reducible refine LeO.ite ?_ ?_)
   | (with_reducible refine LeO.bind ?_ (fun _ => ?_))
   | exact ih0 _ _ _
   | exact foolscapref01_Len.mono _ _
   | exact LeO.none _
   | refine LeO.ite ?_ ?_
   | refine LeO.bind ?_ (fun _ => ?_)
set_option maxHeartbeats 8000000 in
set_option maxRecDepth 100000 in
theorem foolscapref32_Cost.calls (k : Nat) (A0 : Option Addr) (c0 : Nat) (l0 : List (S93)) (r : Int) (w : World) (hr0 : Kd.C k93 w A0 l0.length l0) (hc0 : l0.length ≤ c0) (h : foolscapref32_Cost.f k l0 = some r) :
  Calls Tryd.prog 35 #[.slice A0 l0.length c0] w fun e w' => e = .returned (.int .i64 r) ∧ Below w.heap.size w w' := by
 have HR0 := Aside0.mk hr0
 have HC0 := Aside0.mk hc0
 clear hr0 hc0
 have HB := Aside0.mk (Below.refl w.heap.size w)
 have H : (foolscapref32_Cost.l0 k l0 0 0) = some r := h
 clear h
 have H' := Aside0.mk H
 clear H
 go_enter Tryd.func35, Tryd.ntmps35
 go_wp2
 go_loopg [3, 4] k (fun kq v3 v4 w' => ∃ (x3_1 : Int) (x4_1 : Int), v3 = .int .i64 x3_1 ∧ v4 = .int .i64 x4_1 ∧ Aside0 (foolscapref32_Cost.l0 kq l0 x3_1 x4_1 = some r) ∧ Aside0 (kq ≤ k) ∧ Aside0 (Below w.heap.size w w'))
 case atStart => exact ⟨(0), (0), (by first | rfl | (simp; done) | (simp [*]; done)), (by first | rfl | (simp; done) | (simp [*]; done)), H', ⟨Nat.le_refl _⟩, ⟨hb0_ HB⟩⟩
 case round =>
  clear H'
  obtain ⟨x3_1, x4_1, rfl, rfl, HA, HK1, HB⟩ := hrel
  cases gk with
  | zero => exact absurd HA.out (by simp [foolscapref32_Cost.l0])
  | succ k1 =>
   have H := HA.out
   clear HA
   simp only [foolscapref32_Cost.l0] at H
   by_cases c2 : x4_1 < (l0.length : Int)
   ·rw [if_pos c2] at H
    have c2b0 : decide (x4_1 < (l0.length : Int)) = true := decide_eq_true c2
    clear c2
    by_cases c3 : 0 ≤ x4_1
    ·rw [if_pos c3] at H
     have c3b0 : decide (0 ≤ x4_1) = true := decide_eq_true c3
     clear c3
     by_cases c4 : ((rd_T93 l0 x4_1).f0) = 1
     ·rw [if_pos c4] at H
      have c4b0 : (((rd_T93 l0 x4_1).f0) == 1) = true := beq_iff_eq.mpr c4
      have c4b1 : (((rd_T93 l0 x4_1).f0) != 1) = false := bne_eq_false_iff_eq.mpr c4
      clear c4
      replace H := Option.bind_eq_some_iff.mp H
      obtain ⟨t381, A50, H⟩ := H
      replace H : (if t381 > 0 then ((foolscapref01_Len.f k1 ((rd_T93 l0 x4_1).f1)).bind fun t383 => (foolscapref32_Cost.l0 k1 l0 (wrap64 (x3_1 + t383)) (wrap64 (x4_1 + 1)))) else (foolscapref32_Cost.l0 k1 l0 x3_1 (wrap64 (x4_1 + 1)))) = some r := H
      have A5 := Aside0.mk A50
      clear A50
      by_cases c6 : t381 > 0
      ·rw [if_pos c6] at H
       have c6b0 : decide (0 < t381) = true := decide_eq_true c6
       clear c6
       replace H := Option.bind_eq_some_iff.mp H
       obtain ⟨t383, A70, H⟩ := H
       replace H : (foolscapref32_Cost.l0 k1 l0 (wrap64 (x3_1 + t383)) (wrap64 (x4_1 + 1))) = some r := H
       have A7 := Aside0.mk A70
       clear A70
       have H' := Aside0.mk H
       clear H
       have p379 : 0 ≤ (x4_1 : Int) := dt_
       have q379 : x4_1 < (l0.length : Int) := dt_
       obtain ⟨ad379, e379, hx379_0, hx379_1⟩ := at_T93 HR0.out x4_1 p379 q379
       cases e379
       replace hx379_0 := (HB.out.cell (World.block_lt_of_cell? w _ hx379_0)).trans hx379_0
       replace hx379_1 := (HB.out.cell (World.block_lt_of_cell? w _ hx379_1)).trans hx379_1
       replace p379 := eq_true p379
       replace q379 := eq_true q379
       have p380 : 0 ≤ (x4_1 : Int) := dt_
       have q380 : x4_1 < (l0.length : Int) := dt_
       obtain ⟨ad380, e380, hx380_0, hx380_1⟩ := at_T93 HR0.out x4_1 p380 q380
       obtain rfl : ad379 = ad380 := (by injection e380)
       replace hx380_0 := (HB.out.cell (World.block_lt_of_cell? w _ hx380_0)).trans hx380_0
       replace hx380_1 := (HB.out.cell (World.block_lt_of_cell? w _ hx380_1)).trans hx380_1
       replace p380 := eq_true p380
       replace q380 := eq_true q380
       go_wp2_with (first | (go_at_call 25; (with_reducible refine (foolscapref01_Len.calls k1 ((rd_T93 l0 x4_1).f1) t381 _ A5.out).mono ?_); rintro e w8 ⟨rfl, hb⟩; have n0_ := Aside0.mk (below_step (hb0_ HB) hb); clear HB; have HB := n0_; clear n0_; (try clear hb); (try clear hb2); (try clear hk); (try clear hi); have p382 : 0 ≤ (x4_1 : Int) := dt_; have q382 : x4_1 < (l0.length : Int) := dt_; obtain ⟨ad382, e382, hx382_0, hx382_1⟩ := at_T93 HR0.out x4_1 p382 q382; obtain rfl : ad379 = ad382 := (by injection e382); replace hx382_0 := (HB.out.cell (World.block_lt_of_cell? w _ hx382_0)).trans hx382_0; replace hx382_1 := (HB.out.cell (World.block_lt_of_cell? w _ hx382_1)).trans hx382_1; replace p382 := eq_true p382; replace q382 := eq_true q382) | ((with_reducible refine gate_callee (f := 25) rfl ?_); refine goesL_ (some 40) rfl rfl Tryd.func25 (by kernel_rfl) rfl #[.string ((rd_T93 l0 x4_1).f1)] rfl (by (try simp only [List.map_toArray, List.map_cons, List.map_nil]); first | done | rfl | (simp only [List.length_drop, List.length_take]; rfl)) ?_; (with_reducible refine (foolscapref01_Len.calls k1 ((rd_T93 l0 x4_1).f1) t383 _ A7.out).mono ?_); rintro e w9 ⟨rfl, hb⟩; refine ⟨_, rfl, ?_⟩; have n0_ := Aside0.mk (below_step (hb0_ HB) hb); clear HB; have HB := n0_; clear n0_; (try clear hb); (try clear hb2); (try clear hk); (try clear hi)))
       go_roundg k1
       case measure => have := HK1.out; omega
       case rel => exact ⟨(wrap64 (x3_1 + t383)), (wrap64 (x4_1 + 1)), (by first | rfl | (simp; done) | (simp [*]; done)), (by first | rfl | (simp; done) | (simp [*]; done)), H', ⟨by have := HK1.out; omega⟩, ⟨hb0_ HB⟩⟩
      ·rw [if_neg c6] at H
       have c6b0 : decide (0 < t381) = false := decide_eq_false c6
       clear c6
       have H' := Aside0.mk H
       clear H
       have p379 : 0 ≤ (x4_1 : Int) := dt_
       have q379 : x4_1 < (l0.length : Int) := dt_
       obtain ⟨ad379, e379, hx379_0, hx379_1⟩ := at_T93 HR0.out x4_1 p379 q379
       cases e379
       replace hx379_0 := (HB.out.cell (World.block_lt_of_cell? w _ hx379_0)).trans hx379_0
       replace hx379_1 := (HB.out.cell (World.block_lt_of_cell? w _ hx379_1)).trans hx379_1
       replace p379 := eq_true p379
       replace q379 := eq_true q379
       have p380 : 0 ≤ (x4_1 : Int) := dt_
       have q380 : x4_1 < (l0.length : Int) := dt_
       obtain ⟨ad380, e380, hx380_0, hx380_1⟩ := at_T93 HR0.out x4_1 p380 q380
       obtain rfl : ad379 = ad380 := (by injection e380)
       replace hx380_0 := (HB.out.cell (World.block_lt_of_cell? w _ hx380_0)).trans hx380_0
       replace hx380_1 := (HB.out.cell (World.block_lt_of_cell? w _ hx380_1)).trans hx380_1
       replace p380 := eq_true p380
       replace q380 := eq_true q380
       go_wp2_with (first | (go_at_call 25; (with_reducible refine (foolscapref01_Len.calls k1 ((rd_T93 l0 x4_1).f1) t381 _ A5.out).mono ?_); rintro e w10 ⟨rfl, hb⟩; have n0_ := Aside0.mk (below_step (hb0_ HB) hb); clear HB; have HB := n0_; clear n0_; (try clear hb); (try clear hb2); (try clear hk); (try clear hi)))
       go_roundg k1
       case measure => have := HK1.out; omega
       case rel => exact ⟨(x3_1), (wrap64 (x4_1 + 1)), (by first | rfl | (simp; done) | (simp [*]; done)), (by first | rfl | (simp; done) | (simp [*]; done)), H', ⟨by have := HK1.out; omega⟩, ⟨hb0_ HB⟩⟩
     ·rw [if_neg c4] at H
      have c4b0 : (((rd_T93 l0 x4_1).f0) == 1) = false := beq_eq_false_iff_ne.mpr c4
      have c4b1 : (((rd_T93 l0 x4_1).f0) != 1) = true := bne_iff_ne.mpr c4
      by_cases c11 : ((rd_T93 l0 x4_1).f0) = 2
      ·rw [if_pos c11] at H
       have c11b0 : (((rd_T93 l0 x4_1).f0) == 2) = true := beq_iff_eq.mpr c11
       have c11b1 : (((rd_T93 l0 x4_1).f0) != 2) = false := bne_eq_false_iff_eq.mpr c11
       clear c11
       replace H := Option.bind_eq_some_iff.mp H
       obtain ⟨t386, A120, H⟩ := H
       replace H : (if t386 > 0 then ((foolscapref01_Len.f k1 ((rd_T93 l0 x4_1).f1)).bind fun t388 => (foolscapref32_Cost.l0 k1 l0 (wrap64 (x3_1 + t388)) (wrap64 (x4_1 + 1)))) else (foolscapref32_Cost.l0 k1 l0 x3_1 (wrap64 (x4_1 + 1)))) = some r := H
       have A12 := Aside0.mk A120
       clear A120
       by_cases c13 : t386 > 0
       ·rw [if_pos c13] at H
        have c13b0 : decide (0 < t386) = true := decide_eq_true c13
        clear c13
        replace H := Option.bind_eq_some_iff.mp H
        obtain ⟨t388, A140, H⟩ := H
        replace H : (foolscapref32_Cost.l0 k1 l0 (wrap64 (x3_1 + t388)) (wrap64 (x4_1 + 1))) = some r := H
        have A14 := Aside0.mk A140
        clear A140
        have H' := Aside0.mk H
        clear H
        have p379 : 0 ≤ (x4_1 : Int) := dt_
        have q379 : x4_1 < (l0.length : Int) := dt_
        obtain ⟨ad379, e379, hx379_0, hx379_1⟩ := at_T93 HR0.out x4_1 p379 q379
        cases e379
        replace hx379_0 := (HB.out.cell (World.block_lt_of_cell? w _ hx379_0)).trans hx379_0
        replace hx379_1 := (HB.out.cell (World.block_lt_of_cell? w _ hx379_1)).trans hx379_1
        replace p379 := eq_true p379
        replace q379 := eq_true q379
        have p384 : 0 ≤ (x4_1 : Int) := dt_
        have q384 : x4_1 < (l0.length : Int) := dt_
        obtain ⟨ad384, e384, hx384_0, hx384_1⟩ := at_T93 HR0.out x4_1 p384 q384
        obtain rfl : ad379 = ad384 := (by injection e384)
        replace hx384_0 := (HB.out.cell (World.block_lt_of_cell? w _ hx384_0)).trans hx384_0
        replace hx384_1 := (HB.out.cell (World.block_lt_of_cell? w _ hx384_1)).trans hx384_1
        replace p384 := eq_true p384
        replace q384 := eq_true q384
        have p385 : 0 ≤ (x4_1 : Int) := dt_
        have q385 : x4_1 < (l0.length : Int) := dt_
        obtain ⟨ad385, e385, hx385_0, hx385_1⟩ := at_T93 HR0.out x4_1 p385 q385
        obtain rfl : ad379 = ad385 := (by injection e385)
        replace hx385_0 := (HB.out.cell (World.block_lt_of_cell? w _ hx385_0)).trans hx385_0
        replace hx385_1 := (HB.out.cell (World.block_lt_of_cell? w _ hx385_1)).trans hx385_1
        replace p385 := eq_true p385
        replace q385 := eq_true q385
        go_wp2_with (first | (go_at_call 25; (with_reducible refine (foolscapref01_Len.calls k1 ((rd_T93 l0 x4_1).f1) t386 _ A12.out).mono ?_); rintro e w15 ⟨rfl, hb⟩; have n0_ := Aside0.mk (below_step (hb0_ HB) hb); clear HB; have HB := n0_; clear n0_; (try clear hb); (try clear hb2); (try clear hk); (try clear hi); have p387 : 0 ≤ (x4_1 : Int) := dt_; have q387 : x4_1 < (l0.length : Int) := dt_; obtain ⟨ad387, e387, hx387_0, hx387_1⟩ := at_T93 HR0.out x4_1 p387 q387; obtain rfl : ad379 = ad387 := (by injection e387); replace hx387_0 := (HB.out.cell (World.block_lt_of_cell? w _ hx387_0)).trans hx387_0; replace hx387_1 := (HB.out.cell (World.block_lt_of_cell? w _ hx387_1)).trans hx387_1; replace p387 := eq_true p387; replace q387 := eq_true q387) | ((with_reducible refine gate_callee (f := 25) rfl ?_); refine goesL_ (some 40) rfl rfl Tryd.func25 (by kernel_rfl) rfl #[.string ((rd_T93 l0 x4_1).f1)] rfl (by (try simp only [List.map_toArray, List.map_cons, List.map_nil]); first | done | rfl | (simp only [List.length_drop, List.length_take]; rfl)) ?_; (with_reducible refine (foolscapref01_Len.calls k1 ((rd_T93 l0 x4_1).f1) t388 _ A14.out).mono ?_); rintro e w16 ⟨rfl, hb⟩; refine ⟨_, rfl, ?_⟩; have n0_ := Aside0.mk (below_step (hb0_ HB) hb); clear HB; have HB := n0_; clear n0_; (try clear hb); (try clear hb2); (try clear hk); (try clear hi)))
        go_roundg k1
        case measure => have := HK1.out; omega
        case rel => exact ⟨(wrap64 (x3_1 + t388)), (wrap64 (x4_1 + 1)), (by first | rfl | (simp; done) | (simp [*]; done)), (by first | rfl | (simp; done) | (simp [*]; done)), H', ⟨by have := HK1.out; omega⟩, ⟨hb0_ HB⟩⟩
       ·rw [if_neg c13] at H
        have c13b0 : decide (0 < t386) = false := decide_eq_false c13
        clear c13
        have H' := Aside0.mk H
        clear H
        have p379 : 0 ≤ (x4_1 : Int) := dt_
        have q379 : x4_1 < (l0.length : Int) := dt_
        obtain ⟨ad379, e379, hx379_0, hx379_1⟩ := at_T93 HR0.out x4_1 p379 q379
        cases e379
        replace hx379_0 := (HB.out.cell (World.block_lt_of_cell? w _ hx379_0)).trans hx379_0
        replace hx379_1 := (HB.out.cell (World.block_lt_of_cell? w _ hx379_1)).trans hx379_1
        replace p379 := eq_true p379
        replace q379 := eq_true q379
        have p384 : 0 ≤ (x4_1 : Int) := dt_
        have q384 : x4_1 < (l0.length : Int) := dt_
        obtain ⟨ad384, e384, hx384_0, hx384_1⟩ := at_T93 HR0.out x4_1 p384 q384
        obtain rfl : ad379 = ad384 := (by injection e384)
        replace hx384_0 := (HB.out.cell (World.block_lt_of_cell? w _ hx384_0)).trans hx384_0
        replace hx384_1 := (HB.out.cell (World.block_lt_of_cell? w _ hx384_1)).trans hx384_1
        replace p384 := eq_true p384
        replace q384 := eq_true q384
        have p385 : 0 ≤ (x4_1 : Int) := dt_
        have q385 : x4_1 < (l0.length : Int) := dt_
        obtain ⟨ad385, e385, hx385_0, hx385_1⟩ := at_T93 HR0.out x4_1 p385 q385
        obtain rfl : ad379 = ad385 := (by injection e385)
        replace hx385_0 := (HB.out.cell (World.block_lt_of_cell? w _ hx385_0)).trans hx385_0
        replace hx385_1 := (HB.out.cell (World.block_lt_of_cell? w _ hx385_1)).trans hx385_1
        replace p385 := eq_true p385
        replace q385 := eq_true q385
        go_wp2_with (first | (go_at_call 25; (with_reducible refine (foolscapref01_Len.calls k1 ((rd_T93 l0 x4_1).f1) t386 _ A12.out).mono ?_); rintro e w17 ⟨rfl, hb⟩; have n0_ := Aside0.mk (below_step (hb0_ HB) hb); clear HB; have HB := n0_; clear n0_; (try clear hb); (try clear hb2); (try clear hk); (try clear hi)))
        go_roundg k1
        case measure => have := HK1.out; omega
        case rel => exact ⟨(x3_1), (wrap64 (x4_1 + 1)), (by first | rfl | (simp; done) | (simp [*]; done)), (by first | rfl | (simp; done) | (simp [*]; done)), H', ⟨by have := HK1.out; omega⟩, ⟨hb0_ HB⟩⟩
      ·rw [if_neg c11] at H
       have c11b0 : (((rd_T93 l0 x4_1).f0) == 2) = false := beq_eq_false_iff_ne.mpr c11
       have c11b1 : (((rd_T93 l0 x4_1).f0) != 2) = true := bne_iff_ne.mpr c11
       have H' := Aside0.mk H
       clear H
       have p379 : 0 ≤ (x4_1 : Int) := dt_
       have q379 : x4_1 < (l0.length : Int) := dt_
       obtain ⟨ad379, e379, hx379_0, hx379_1⟩ := at_T93 HR0.out x4_1 p379 q379
       cases e379
       replace hx379_0 := (HB.out.cell (World.block_lt_of_cell? w _ hx379_0)).trans hx379_0
       replace hx379_1 := (HB.out.cell (World.block_lt_of_cell? w _ hx379_1)).trans hx379_1
       replace p379 := eq_true p379
       replace q379 := eq_true q379
       have p384 : 0 ≤ (x4_1 : Int) := dt_
       have q384 : x4_1 < (l0.length : Int) := dt_
       obtain ⟨ad384, e384, hx384_0, hx384_1⟩ := at_T93 HR0.out x4_1 p384 q384
       obtain rfl : ad379 = ad384 := (by injection e384)
       replace hx384_0 := (HB.out.cell (World.block_lt_of_cell? w _ hx384_0)).trans hx384_0
       replace hx384_1 := (HB.out.cell (World.block_lt_of_cell? w _ hx384_1)).trans hx384_1
       replace p384 := eq_true p384
       replace q384 := eq_true q384
       go_wp2
       go_roundg k1
       case measure => have := HK1.out; omega
       case rel => exact ⟨(x3_1), (wrap64 (x4_1 + 1)), (by first | rfl | (simp; done) | (simp [*]; done)), (by first | rfl | (simp; done) | (simp [*]; done)), H', ⟨by have := HK1.out; omega⟩, ⟨hb0_ HB⟩⟩
    ·rw [if_neg c3] at H
     exact absurd H (by simp)
   ·rw [if_neg c2] at H
    have c2b0 : decide (x4_1 < (l0.length : Int)) = false := decide_eq_false c2
    clear c2
    obtain rfl := Option.some.inj H
    go_wp2
    go_ret
    exact ⟨by first | rfl | (simp [errW_none, errW_some] <;> rfl) | (simp [*, errW_none, errW_some] <;> rfl), hb0_ HB⟩

end Go.Proofs.YtabhfloclcmjnaaDoor.P
