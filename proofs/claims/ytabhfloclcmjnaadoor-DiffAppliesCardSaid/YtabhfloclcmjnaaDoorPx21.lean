/- Printed by a program of this session (wip/xprint) over the kit's print: functions of the seat and what they come to, with their proofs. Conditions: as typed. -/
import Derived.Test.YtabhfloclcmjnaaDoorPx0
import Derived.Test.YtabhfloclcmjnaaDoorPx15
import Derived.Test.YtabhfloclcmjnaaDoorPx19
namespace Go.Proofs.YtabhfloclcmjnaaDoor.P
open Go.RowKit Go.Proofs.YtabhfloclcmjnaaDoor.X Go.Proofs.YtabhfloclcmjnaaDoorW.PrintWords Go.Proofs.YtabhfloclcmjnaaDoorW.PrintLast Go.Proofs.YtabhfloclcmjnaaDoorW.PrintMore
attribute [local go_sem] max2_int min2_int max_two min_two max_three min_three max_four min_four   -- for this text's walks alone
set_option linter.unusedVariables false
set_option linter.unusedSimpArgs false

/-! ### foolscapref32_Changes: function 34 -/
mutual
def foolscapref32_Changes.l0 : Nat → List (S93) → List (S45) → Int → Int → Option ((List (S45)) × Int)
 | 0, _, _, _, _ => none
 | k + 1, x0, x5, x6, x7 => if x7 < (x0.length : Int) then (if 0 ≤ x7 then ((foolscapref01_Len.f k ((rd_T93 x0 x7).f1)).bind fun t358 => (if ((rd_T93 x0 x7).f0) = 0 then (foolscapref32_Changes.l0 k x0 x5 (wrap64 (x6 + t358)) (wrap64 (x7 + 1))) else (if x7 = 0 then (foolscapref32_Changes.j1 k x0 x5 x6 x7 t358 true) else (if 0 ≤ (wrap64 (x7 - 1)) then (if (wrap64 (x7 - 1)) < (x0.length : Int) then (foolscapref32_Changes.j1 k x0 x5 x6 x7 t358 (((rd_T93 x0 (wrap64 (x7 - 1))).f0) == 0)) else (none)) else (none))))) else (none)) else (some (x5, 0))
def foolscapref32_Changes.j1 : Nat → List (S93) → List (S45) → Int → Int → Int → Bool → Option ((List (S45)) × Int)
 | 0, _, _, _, _, _, _ => none
 | k + 1, x0, x5, x6, x7, x8, x45 => if x45 = true then ((some (([(⟨x6, 0, (⟨#[]⟩ : ByteArray)⟩ : S45)] : List (S45)) : List (S45))).bind fun y361 => (if y361.length + x5.length < 4398046511104 then ((some (y361 ++ x5 : List (S45))).bind fun y364 => (if 0 ≤ x7 then (if x7 < (x0.length : Int) then (if ((rd_T93 x0 x7).f0) = 2 then (if 0 < (y364.length : Int) then (foolscapref32_Changes.l0 k x0 (y364.set (0 : Int).toNat (⟨(rd_T45 y364 0).f0, wrap64 (((rd_T45 y364 0).f1) + x8), (rd_T45 y364 0).f2⟩ : S45)) (wrap64 (x6 + x8)) (wrap64 (x7 + 1))) else (none)) else (if 0 < (y364.length : Int) then (if ((rd_T45 y364 0).f2).size + ((rd_T93 x0 x7).f1).size ≤ 9223372036854775807 then (foolscapref32_Changes.l0 k x0 (y364.set (0 : Int).toNat (⟨(rd_T45 y364 0).f0, (rd_T45 y364 0).f1, ((rd_T45 y364 0).f2) ++ ((rd_T93 x0 x7).f1)⟩ : S45)) x6 (wrap64 (x7 + 1))) else (none)) else (none))) else (none)) else (none))) else (none))) else (if 0 ≤ x7 then (if x7 < (x0.length : Int) then (if ((rd_T93 x0 x7).f0) = 2 then (if 0 < (x5.length : Int) then (foolscapref32_Changes.l0 k x0 (x5.set (0 : Int).toNat (⟨(rd_T45 x5 0).f0, wrap64 (((rd_T45 x5 0).f1) + x8), (rd_T45 x5 0).f2⟩ : S45)) (wrap64 (x6 + x8)) (wrap64 (x7 + 1))) else (none)) else (if 0 < (x5.length : Int) then (if ((rd_T45 x5 0).f2).size + ((rd_T93 x0 x7).f1).size ≤ 9223372036854775807 then (foolscapref32_Changes.l0 k x0 (x5.set (0 : Int).toNat (⟨(rd_T45 x5 0).f0, (rd_T45 x5 0).f1, ((rd_T45 x5 0).f2) ++ ((rd_T93 x0 x7).f1)⟩ : S45)) x6 (wrap64 (x7 + 1))) else (none)) else (none))) else (none)) else (none))
end
def foolscapref32_Changes.f (k : Nat) (l0 : List (S93)) : Option ((List (S45)) × Int) := (foolscapref32_asked.f k l0).bind fun t356 => (if t356 = 0 then (foolscapref32_Changes.l0 k l0 ([] : List (S45)) 0 0) else (some (([] : List (S45)), t356)))
theorem foolscapref32_Changes.mono_l : ∀ k, (∀ y0 y1 y2 y3, LeO (foolscapref32_Changes.l0 k y0 y1 y2 y3) (foolscapref32_Changes.l0 (k + 1) y0 y1 y2 y3)) ∧ (∀ y0 y1 y2 y3 y4 y5, LeO (foolscapref32_Changes.j1 k y0 y1 y2 y3 y4 y5) (foolscapref32_Changes.j1 (k + 1) y0 y1 y2 y3 y4 y5))
 | 0 => ⟨fun _ _ _ _ r h => by simp [foolscapref32_Changes.l0] at h, fun _ _ _ _ _ _ r h => by simp [foolscapref32_Changes.j1] at h⟩
 | k + 1 => by
  obtain ⟨ih0, ih1⟩ := foolscapref32_Changes.mono_l k
  refine ⟨?_, ?_⟩
  ·intro y0 y1 y2 y3
   unfold foolscapref32_Changes.l0
   repeat' first
   | (with_reducible exact ih0 _ _ _ _)
   | (with_reducible exact ih1 _ _ _ _ _ _)
   | (with_reducible exact foolscapref01_Len.mono _ _)
   | (with_reducible exact foolscapref32_asked.mono _ _)
   | (with_reducible exact LeO.refl _)
   | (with_reducible exact LeO.none _)
   | (with_reducible refine LeO.ite ?_ ?_)
   | (with_reducible refine LeO.bind ?_ (fun _ => ?_))
   | exact ih0 _ _ _ _
   | exact ih1 _ _ _ _ _ _
   | exact foolscapref01_Len.mono _ _
   | exact foolscapref32_asked.mono _ _
   | exact LeO.none _
   | refine LeO.ite ?_ ?_
   | refine LeO.bind ?_ (fun _ => ?_)
  ·intro y0 y1 y2 y3 y4 y5
   unfold foolscapref32_Changes.j1
   repeat' first
   | (with_reducible exact ih0 _ _ _ _)
   | (with_reducible exact ih1 _ _ _ _ _ _)
   | (with_reducible exact foolscapref01_Len.mono _ _)
   | (with_reducible exact foolscapref32_asked.mono _ _)
   | (with_reducible exact LeO.refl _)
   | (with_reducible exact LeO.none _)
   | (with_reducible refine LeO.ite ?_ ?_)
   | (with_reducible refine LeO.bind ?_ (fun _ => ?_))
   | exact ih0 _ _ _ _
   | exact ih1 _ _ _ _ _ _
   | exact foolscapref01_Len.mono _ _
   | exact foolscapref32_asked.mono _ _
   | exact LeO.none _
   | refine LeO.ite ?_ ?_
   | refine LeO.bind ?_ (fun _ => ?_)
theorem foolscapref32_Changes.mono : ∀ a0 k, LeO (foolscapref32_Changes.f k a0) (foolscapref32_Changes.f (k + 1) a0) := by
 intro a0 k
 obtain ⟨ih0, ih1⟩ := foolscapref32_Changes.mono_l k
 unfold foolscapref32_Changes.f
 repeat' first
   | (with_reducible exact ih0 _ _ _ _)
   | (with_reducible exact ih1 _ _ _ _ _ _)
   | (with_reducible exact foolscapref01_Len.mono _ _)
   | (with_reducible exact foolscapref32_asked.mono _ _)
   | (with_reducible exact LeO.refl _)
   | (with_reducible exact LeO.none _)
   | (with_reducible refine LeO.ite ?_ ?_)
   | (with_reducible refine LeO.bind ?_ (fun _ => ?_))
   | exact ih0 _ _ _ _
   | exact ih1 _ _ _ _ _ _
   | exact foolscapref01_Len.mono _ _
   | exact foolscapref32_asked.mono _ _
   | exact LeO.none _
   | refine LeO.ite ?_ ?_
   | refine LeO.bind ?_ (fun _ => ?_)
def foolscapref32_Changes.T17 : Bool × List (List Nat × List Nat) := (true, [([], []), ([], []), ([1], [1]), ([2], [2]), ([3], [3]), ([], []), ([], []), ([5, 6], [5, 6]), ([7], [7]), ([8], [8]), ([4, 9], [4, 9]), ([0, 0, 1, 2, 3, 4, 5, 6, 7, 8, 9, 10], [0]), ([11, 0, 1, 2, 3, 4, 5, 6, 7, 8, 9, 10], [11]), ([12, 10, 0, 1, 2, 3, 4, 5, 6, 7, 8, 9, 10], [10, 12])])
def foolscapref32_Changes.B17 : List Nat := [0, 0, 2, 6, 14, 0, 0, 96, 224, 480, 1022, 2047, 4095, 8191]
theorem foolscapref32_Changes.tab17 : rtab .any (opsOf Tryd.f34 17) = foolscapref32_Changes.T17 := by kernel_rfl
theorem foolscapref32_Changes.bits17 : waitsOk foolscapref32_Changes.T17.2 foolscapref32_Changes.B17 = true := by kernel_rfl
set_option maxHeartbeats 8000000 in
set_option maxRecDepth 100000 in
theorem foolscapref32_Changes.calls (k : Nat) (A0 : Option Addr) (c0 : Nat) (l0 : List (S93)) (r1 : List (S45)) (r2 : Int) (w : World) (hr0 : Kd.C k93 w A0 l0.length l0) (hc0 : l0.length ≤ c0) (h : foolscapref32_Changes.f k l0 = some (r1, r2)) :
  Calls Tryd.prog 34 #[.slice A0 l0.length c0] w fun e w' => ∃ v0_ : Value, e = .returned (.tuple #[v0_, .int .i64 r2]) ∧ Kd.R k45 45 w' w.heap.size (fun _ => True) v0_ r1 ∧ Below w.heap.size w w' := by
 have hu45 := Tryd.underlying45
 have HR0 := Aside0.mk hr0
 have HC0 := Aside0.mk hc0
 clear hr0 hc0
 have HB := Aside0.mk (Below.refl w.heap.size w)
 have H : ((foolscapref32_asked.f k l0).bind fun t356 => (if t356 = 0 then (foolscapref32_Changes.l0 k l0 ([] : List (S45)) 0 0) else (some (([] : List (S45)), t356)))) = some (r1, r2) := h
 clear h
 replace H := Option.bind_eq_some_iff.mp H
 obtain ⟨t356, A20, H⟩ := H
 replace H : (if t356 = 0 then (foolscapref32_Changes.l0 k l0 ([] : List (S45)) 0 0) else (some (([] : List (S45)), t356))) = some (r1, r2) := H
 have A2 := Aside0.mk A20
 clear A20
 by_cases c3 : t356 = 0
 ·rw [if_pos c3] at H
  have c3b0 : (t356 == 0) = true := beq_iff_eq.mpr c3
  have c3b1 : (t356 != 0) = false := bne_eq_false_iff_eq.mpr c3
  clear c3
  have H' := Aside0.mk H
  clear H
  go_enter Tryd.func34, Tryd.ntmps34
  go_wp2_with (first | ((with_reducible refine gate_callee (f := 52) rfl ?_); refine goesL_ (some 10) rfl rfl Tryd.func52 (by kernel_rfl) rfl #[.slice A0 l0.length c0] rfl (by (try simp only [List.map_toArray, List.map_cons, List.map_nil]); first | done | rfl | (simp only [List.length_drop, List.length_take]; rfl)) ?_; (with_reducible refine (foolscapref32_asked.calls k _ _ l0 t356 _ ?side1 ?side2 A2.out).mono ?_); (case side1 => repeat (first | exact HR0.out | (with_reducible refine Kd.C_alloc ?_ _) | (with_reducible refine Kd.C_drewN ?_ _) | (with_reducible refine Kd.C_drew ?_))); (case side2 => exact HC0.out); rintro e w4 ⟨rfl, hb⟩; refine ⟨_, rfl, ?_⟩; have n0_ := Aside0.mk (below_step (hb0_ HB) hb); clear HB; have HB := n0_; clear n0_; (try clear hb); (try clear hb2); (try clear hk); (try clear hi)))
  go_loopg [5, 6, 7] k (fun kq v5 v6 v7 w' => ∃ (x5_1 : List (S45)) (x6_1 : Int) (x7_1 : Int), v6 = .int .i64 x6_1 ∧ v7 = .int .i64 x7_1 ∧ Aside0 (foolscapref32_Changes.l0 kq l0 x5_1 x6_1 x7_1 = some (r1, r2)) ∧ Aside0 (kq ≤ k) ∧ Aside0 (Kd.R k45 45 w' w.heap.size (fun _ => True) v5 x5_1) ∧ Aside0 (Below w.heap.size w w'))
  case atStart => exact ⟨(([] : List (S45))), (0), (0), (by first | rfl | (simp; done) | (simp [*]; done)), (by first | rfl | (simp; done) | (simp [*]; done)), H', ⟨Nat.le_refl _⟩, ⟨by first | exact Kd.R_nil _ _ _ _ _ | exact Kd.N_nil _ _ _ _ _ | exact Kd.V_nil _ _ _ _ _ | exact Kd.Q_nil _ _ _ _ _ | exact Kd.S_nil _ _ _ _ _⟩, ⟨hb0_ HB⟩⟩
  case round =>
   clear H'
   try clear p2
   try clear c3
   try clear c3b0
   try clear c3b1
   obtain ⟨x5_1, x6_1, x7_1, rfl, rfl, HA, HK1, HO_5, HB⟩ := hrel
   cases gk with
   | zero => exact absurd HA.out (by simp [foolscapref32_Changes.l0])
   | succ k1 =>
    have H := HA.out
    clear HA
    simp only [foolscapref32_Changes.l0] at H
    by_cases c5 : x7_1 < (l0.length : Int)
    ·rw [if_pos c5] at H
     have c5b0 : decide (x7_1 < (l0.length : Int)) = true := decide_eq_true c5
     clear c5
     by_cases c6 : 0 ≤ x7_1
     ·rw [if_pos c6] at H
      have c6b0 : decide (0 ≤ x7_1) = true := decide_eq_true c6
      clear c6
      replace H := Option.bind_eq_some_iff.mp H
      obtain ⟨t358, A70, H⟩ := H
      replace H : (if ((rd_T93 l0 x7_1).f0) = 0 then (foolscapref32_Changes.l0 k1 l0 x5_1 (wrap64 (x6_1 + t358)) (wrap64 (x7_1 + 1))) else (if x7_1 = 0 then (foolscapref32_Changes.j1 k1 l0 x5_1 x6_1 x7_1 t358 true) else (if 0 ≤ (wrap64 (x7_1 - 1)) then (if (wrap64 (x7_1 - 1)) < (l0.length : Int) then (foolscapref32_Changes.j1 k1 l0 x5_1 x6_1 x7_1 t358 (((rd_T93 l0 (wrap64 (x7_1 - 1))).f0) == 0)) else (none)) else (none)))) = some (r1, r2) := H
      have A7 := Aside0.mk A70
      clear A70
      by_cases c8 : ((rd_T93 l0 x7_1).f0) = 0
      ·rw [if_pos c8] at H
       have c8b0 : (((rd_T93 l0 x7_1).f0) == 0) = true := beq_iff_eq.mpr c8
       have c8b1 : (((rd_T93 l0 x7_1).f0) != 0) = false := bne_eq_false_iff_eq.mpr c8
       clear c8
       have H' := Aside0.mk H
       clear H
       have p357 : 0 ≤ (x7_1 : Int) := dt_
       have q357 : x7_1 < (l0.length : Int) := dt_
       obtain ⟨ad357, e357, hx357_0, hx357_1⟩ := at_T93 HR0.out x7_1 p357 q357
       cases e357
       replace hx357_0 := (HB.out.cell (World.block_lt_of_cell? w _ hx357_0)).trans hx357_0
       replace hx357_1 := (HB.out.cell (World.block_lt_of_cell? w _ hx357_1)).trans hx357_1
       replace p357 := eq_true p357
       replace q357 := eq_true q357
       go_wp2_with (first | ((with_reducible refine gate_callee (f := 25) rfl ?_); refine goesL_ (some 25) rfl rfl Tryd.func25 (by kernel_rfl) rfl #[.string ((rd_T93 l0 x7_1).f1)] rfl (by (try simp only [List.map_toArray, List.map_cons, List.map_nil]); first | done | rfl | (simp only [List.length_drop, List.length_take]; rfl)) ?_; (with_reducible refine (foolscapref01_Len.calls k1 ((rd_T93 l0 x7_1).f1) t358 _ A7.out).mono ?_); rintro e w9 ⟨rfl, hb⟩; refine ⟨_, rfl, ?_⟩; have n0_ := Aside0.mk (Kd.R_below (ro_ HO_5) hb); have n1_ := Aside0.mk (below_step (hb0_ HB) hb); clear HO_5; clear HB; have HO_5 := n0_; have HB := n1_; clear n0_ n1_; (try clear hb); (try clear hb2); (try clear hk); (try clear hi); have p359 : 0 ≤ (x7_1 : Int) := dt_; have q359 : x7_1 < (l0.length : Int) := dt_; obtain ⟨ad359, e359, hx359_0, hx359_1⟩ := at_T93 HR0.out x7_1 p359 q359; obtain rfl : ad357 = ad359 := (by injection e359); replace hx359_0 := (HB.out.cell (World.block_lt_of_cell? w _ hx359_0)).trans hx359_0; replace hx359_1 := (HB.out.cell (World.block_lt_of_cell? w _ hx359_1)).trans hx359_1; replace p359 := eq_true p359; replace q359 := eq_true q359))
       go_roundg k1
       case measure => have := HK1.out; omega
       case rel => exact ⟨(x5_1), (wrap64 (x6_1 + t358)), (wrap64 (x7_1 + 1)), (by first | rfl | (simp; done) | (simp [*]; done)), (by first | rfl | (simp; done) | (simp [*]; done)), H', ⟨by have := HK1.out; omega⟩, ⟨ro_ HO_5⟩, ⟨hb0_ HB⟩⟩
      ·rw [if_neg c8] at H
       have c8b0 : (((rd_T93 l0 x7_1).f0) == 0) = false := beq_eq_false_iff_ne.mpr c8
       have c8b1 : (((rd_T93 l0 x7_1).f0) != 0) = true := bne_iff_ne.mpr c8
       have HC10 := Aside0.mk H
       clear H
       have p357 : 0 ≤ (x7_1 : Int) := dt_
       have q357 : x7_1 < (l0.length : Int) := dt_
       obtain ⟨ad357, e357, hx357_0, hx357_1⟩ := at_T93 HR0.out x7_1 p357 q357
       cases e357
       replace hx357_0 := (HB.out.cell (World.block_lt_of_cell? w _ hx357_0)).trans hx357_0
       replace hx357_1 := (HB.out.cell (World.block_lt_of_cell? w _ hx357_1)).trans hx357_1
       replace p357 := eq_true p357
       replace q357 := eq_true q357
       go_upto_region 12 with (first | ((with_reducible refine gate_callee (f := 25) rfl ?_); refine goesL_ (some 25) rfl rfl Tryd.func25 (by kernel_rfl) rfl #[.string ((rd_T93 l0 x7_1).f1)] rfl (by (try simp only [List.map_toArray, List.map_cons, List.map_nil]); first | done | rfl | (simp only [List.length_drop, List.length_take]; rfl)) ?_; (with_reducible refine (foolscapref01_Len.calls k1 ((rd_T93 l0 x7_1).f1) t358 _ A7.out).mono ?_); rintro e w11 ⟨rfl, hb⟩; refine ⟨_, rfl, ?_⟩; have n0_ := Aside0.mk (Kd.R_below (ro_ HO_5) hb); have n1_ := Aside0.mk (below_step (hb0_ HB) hb); clear HO_5; clear HB; have HO_5 := n0_; have HB := n1_; clear n0_ n1_; (try clear hb); (try clear hb2); (try clear hk); (try clear hi); have p359 : 0 ≤ (x7_1 : Int) := dt_; have q359 : x7_1 < (l0.length : Int) := dt_; obtain ⟨ad359, e359, hx359_0, hx359_1⟩ := at_T93 HR0.out x7_1 p359 q359; obtain rfl : ad357 = ad359 := (by injection e359); replace hx359_0 := (HB.out.cell (World.block_lt_of_cell? w _ hx359_0)).trans hx359_0; replace hx359_1 := (HB.out.cell (World.block_lt_of_cell? w _ hx359_1)).trans hx359_1; replace p359 := eq_true p359; replace q359 := eq_true q359))
       (try simp only [Act.put, List.setIfInBounds_toArray, List.set_cons_zero, List.set_cons_succ])
       go_cut [45] (fun v45 wc => ∃ (kq : Nat) (x45_9 : Bool), v45 = .bool x45_9 ∧ Aside0 (foolscapref32_Changes.j1 kq l0 x5_1 x6_1 x7_1 t358 x45_9 = some (r1, r2)) ∧ Aside0 (kq ≤ k1) ∧ Aside0 (Kd.R k45 45 wc w.heap.size (fun _ => True) u5 x5_1) ∧ Aside0 (Below w.heap.size w wc))
       case first =>
        have H := HC10.out
        clear HC10
        by_cases c12 : x7_1 = 0
        ·rw [if_pos c12] at H
         have c12b0 : (x7_1 == 0) = true := beq_iff_eq.mpr c12
         have c12b1 : (x7_1 != 0) = false := bne_eq_false_iff_eq.mpr c12
         clear c12
         (first | rw [c12b0] | (simp only [i64_w, i32_w]; rw [c12b0]) | skip)
         have H' := Aside0.mk H
         clear H
         go_wp2
         go_meet
         case rel => exact ⟨_, (true), (by first | rfl | (simp; done) | (simp [*]; done)), H', ⟨by have := HK1.out; first | omega | exact Nat.le_refl _⟩, ⟨ro_ HO_5⟩, ⟨hb0_ HB⟩⟩
        ·rw [if_neg c12] at H
         have c12b0 : (x7_1 == 0) = false := beq_eq_false_iff_ne.mpr c12
         have c12b1 : (x7_1 != 0) = true := bne_iff_ne.mpr c12
         (first | rw [c12b0] | (simp only [i64_w, i32_w]; rw [c12b0]) | skip)
         obtain ⟨ji13, hji13⟩ : ∃ j_ : Int, (wrap64 (x7_1 - 1)) = j_ := ⟨_, rfl⟩
         replace H : (if 0 ≤ (ji13) then (if (ji13) < (l0.length : Int) then (foolscapref32_Changes.j1 k1 l0 x5_1 x6_1 x7_1 t358 (((rd_T93 l0 (ji13)).f0) == 0)) else (none)) else (none)) = some (r1, r2) := by first | (rw [hji13] at H; exact H) | (simp only [hji13] at H ⊢; exact H)
         have hji13w : (IntKind.i64.wrap (x7_1 - 1)) = ji13 := (i64_w _).trans hji13
         by_cases c14 : 0 ≤ (ji13)
         ·rw [if_pos c14] at H
          have c14b0 : decide (0 ≤ (ji13)) = true := decide_eq_true c14
          clear c14
          by_cases c15 : (ji13) < (l0.length : Int)
          ·rw [if_pos c15] at H
           have c15b0 : decide ((ji13) < (l0.length : Int)) = true := decide_eq_true c15
           clear c15
           have H' := Aside0.mk H
           clear H
           have p360 : 0 ≤ ((ji13) : Int) := dt_
           have q360 : (ji13) < (l0.length : Int) := dt_
           obtain ⟨ad360, e360, hx360_0, hx360_1⟩ := at_T93 HR0.out (ji13) p360 q360
           obtain rfl : ad357 = ad360 := (by injection e360)
           replace hx360_0 := (HB.out.cell (World.block_lt_of_cell? w _ hx360_0)).trans hx360_0
           replace hx360_1 := (HB.out.cell (World.block_lt_of_cell? w _ hx360_1)).trans hx360_1
           replace p360 := eq_true p360
           replace q360 := eq_true q360
           go_wp2
           go_meet
           case rel => exact ⟨_, ((((rd_T93 l0 (ji13)).f0) == 0)), (by first | rfl | (simp; done) | (simp only [← hji13] <;> (first | rfl | simp)) | (simp [*]; done)), H', ⟨by have := HK1.out; first | omega | exact Nat.le_refl _⟩, ⟨ro_ HO_5⟩, ⟨hb0_ HB⟩⟩
          ·rw [if_neg c15] at H
           exact absurd H (by simp)
         ·rw [if_neg c14] at H
          exact absurd H (by simp)
       case rest =>
        clear HC10
        try clear c1
        try clear c2
        try clear p2
        try clear c3
        try clear c3b0
        try clear c3b1
        try clear p3
        try clear q3
        try clear hx3
        try clear c5
        try clear c5b0
        try clear c6
        try clear c6b0
        try clear p6
        try clear c8
        try clear c8b0
        try clear c8b1
        try clear c12
        try clear c12b0
        try clear c12b1
        try clear c14
        try clear c14b0
        try clear c15
        try clear c15b0
        try clear hx357_0
        try clear hx357_1
        try clear hx359_0
        try clear hx359_1
        try clear hx360_0
        try clear hx360_1
        try clear p2
        try clear p357
        try clear p359
        try clear p360
        try clear q357
        try clear q359
        try clear q360
        obtain ⟨kq, x45_9, rfl, HA, HJ9, HO_5, HB⟩ := hcut
        cases kq with
        | zero => exact absurd HA.out (by simp [foolscapref32_Changes.j1])
        | succ kj9 =>
         have H := HA.out
         clear HA
         simp only [foolscapref32_Changes.j1] at H
         by_cases c16 : x45_9 = true
         ·subst c16
          have H1 : ((some (([(⟨x6_1, 0, (⟨#[]⟩ : ByteArray)⟩ : S45)] : List (S45)) : List (S45))).bind fun y361 => (if y361.length + x5_1.length < 4398046511104 then ((some (y361 ++ x5_1 : List (S45))).bind fun y364 => (if 0 ≤ x7_1 then (if x7_1 < (l0.length : Int) then (if ((rd_T93 l0 x7_1).f0) = 2 then (if 0 < (y364.length : Int) then (foolscapref32_Changes.l0 kj9 l0 (y364.set (0 : Int).toNat (⟨(rd_T45 y364 0).f0, wrap64 (((rd_T45 y364 0).f1) + t358), (rd_T45 y364 0).f2⟩ : S45)) (wrap64 (x6_1 + t358)) (wrap64 (x7_1 + 1))) else (none)) else (if 0 < (y364.length : Int) then (if ((rd_T45 y364 0).f2).size + ((rd_T93 l0 x7_1).f1).size ≤ 9223372036854775807 then (foolscapref32_Changes.l0 kj9 l0 (y364.set (0 : Int).toNat (⟨(rd_T45 y364 0).f0, (rd_T45 y364 0).f1, ((rd_T45 y364 0).f2) ++ ((rd_T93 l0 x7_1).f1)⟩ : S45)) x6_1 (wrap64 (x7_1 + 1))) else (none)) else (none))) else (none)) else (none))) else (none))) = some (r1, r2) := by rw [if_pos rfl] at H; exact H
          clear H
          have H := H1
          clear H1
          obtain ⟨y361, hy361⟩ : ∃ y_ : List (S45), y_ = (([(⟨x6_1, 0, (⟨#[]⟩ : ByteArray)⟩ : S45)] : List (S45))) := ⟨_, rfl⟩
          replace H : (if y361.length + x5_1.length < 4398046511104 then ((some (y361 ++ x5_1 : List (S45))).bind fun y364 => (if 0 ≤ x7_1 then (if x7_1 < (l0.length : Int) then (if ((rd_T93 l0 x7_1).f0) = 2 then (if 0 < (y364.length : Int) then (foolscapref32_Changes.l0 kj9 l0 (y364.set (0 : Int).toNat (⟨(rd_T45 y364 0).f0, wrap64 (((rd_T45 y364 0).f1) + t358), (rd_T45 y364 0).f2⟩ : S45)) (wrap64 (x6_1 + t358)) (wrap64 (x7_1 + 1))) else (none)) else (if 0 < (y364.length : Int) then (if ((rd_T45 y364 0).f2).size + ((rd_T93 l0 x7_1).f1).size ≤ 9223372036854775807 then (foolscapref32_Changes.l0 kj9 l0 (y364.set (0 : Int).toNat (⟨(rd_T45 y364 0).f0, (rd_T45 y364 0).f1, ((rd_T45 y364 0).f2) ++ ((rd_T93 l0 x7_1).f1)⟩ : S45)) x6_1 (wrap64 (x7_1 + 1))) else (none)) else (none))) else (none)) else (none))) else (none)) = some (r1, r2) := by first | (rw [hy361]; with_reducible exact H) | (have H2_ := (Option.bind_some _ _).symm.trans H; rw [hy361]; with_reducible exact H2_) | (have H2_ := (Option.bind_some _ _).symm.trans H; with_reducible exact H2_) | with_reducible exact H | (rw [hy361]; exact H) | exact H
          have Ny361 := Aside0.mk hy361
          clear hy361
          by_cases c17 : y361.length + x5_1.length < 4398046511104
          ·rw [if_pos c17] at H
           have LMc17 := Aside0.mk c17
           clear c17
           obtain ⟨y364, hy364⟩ : ∃ y_ : List (S45), y_ = (y361 ++ x5_1) := ⟨_, rfl⟩
           replace H : (if 0 ≤ x7_1 then (if x7_1 < (l0.length : Int) then (if ((rd_T93 l0 x7_1).f0) = 2 then (if 0 < (y364.length : Int) then (foolscapref32_Changes.l0 kj9 l0 (y364.set (0 : Int).toNat (⟨(rd_T45 y364 0).f0, wrap64 (((rd_T45 y364 0).f1) + t358), (rd_T45 y364 0).f2⟩ : S45)) (wrap64 (x6_1 + t358)) (wrap64 (x7_1 + 1))) else (none)) else (if 0 < (y364.length : Int) then (if ((rd_T45 y364 0).f2).size + ((rd_T93 l0 x7_1).f1).size ≤ 9223372036854775807 then (foolscapref32_Changes.l0 kj9 l0 (y364.set (0 : Int).toNat (⟨(rd_T45 y364 0).f0, (rd_T45 y364 0).f1, ((rd_T45 y364 0).f2) ++ ((rd_T93 l0 x7_1).f1)⟩ : S45)) x6_1 (wrap64 (x7_1 + 1))) else (none)) else (none))) else (none)) else (none)) = some (r1, r2) := by first | (rw [hy364]; with_reducible exact H) | (have H2_ := (Option.bind_some _ _).symm.trans H; rw [hy364]; with_reducible exact H2_) | (have H2_ := (Option.bind_some _ _).symm.trans H; with_reducible exact H2_) | with_reducible exact H | (rw [hy364]; exact H) | exact H
           have Ny364 := Aside0.mk hy364
           clear hy364
           by_cases c18 : 0 ≤ x7_1
           ·rw [if_pos c18] at H
            have c18b0 : decide (0 ≤ x7_1) = true := decide_eq_true c18
            clear c18
            by_cases c19 : x7_1 < (l0.length : Int)
            ·rw [if_pos c19] at H
             have c19b0 : decide (x7_1 < (l0.length : Int)) = true := decide_eq_true c19
             clear c19
             by_cases c20 : ((rd_T93 l0 x7_1).f0) = 2
             ·rw [if_pos c20] at H
              have c20b0 : (((rd_T93 l0 x7_1).f0) == 2) = true := beq_iff_eq.mpr c20
              have c20b1 : (((rd_T93 l0 x7_1).f0) != 2) = false := bne_eq_false_iff_eq.mpr c20
              clear c20
              by_cases c21 : 0 < (y364.length : Int)
              ·rw [if_pos c21] at H
               have c21b0 : decide (0 < (y364.length : Int)) = true := decide_eq_true c21
               have c21b1 : decide (0 < y364.length) = true := decide_eq_true (by omega)
               clear c21
               obtain ⟨y369, hy369⟩ : ∃ y_ : List (S45), y_ = (y364.set (0 : Int).toNat (⟨(rd_T45 y364 0).f0, wrap64 (((rd_T45 y364 0).f1) + t358), (rd_T45 y364 0).f2⟩ : S45)) := ⟨_, rfl⟩
               replace H : (foolscapref32_Changes.l0 kj9 l0 y369 (wrap64 (x6_1 + t358)) (wrap64 (x7_1 + 1))) = some (r1, r2) := by first | (rw [hy369]; with_reducible exact H) | (have H2_ := (Option.bind_some _ _).symm.trans H; rw [hy369]; with_reducible exact H2_) | (have H2_ := (Option.bind_some _ _).symm.trans H; with_reducible exact H2_) | with_reducible exact H | (rw [hy369]; exact H) | exact H
               have Ny369 := Aside0.mk hy369
               clear hy369
               have H' := Aside0.mk H
               clear H
               go_wp2_with (first | ((with_reducible refine gate_dst (N := 48) rfl ?_); refine Kd.R_lit k45 _ 45 ?hg (N := 48) ?hd (xs := ([(⟨x6_1, 0, (⟨#[]⟩ : ByteArray)⟩ : S45)] : List (S45))) (inner := [.int .i64 x6_1, .int .i64 0, .string (⟨#[]⟩ : ByteArray)]) (ok := fun _ => True) (okp := fun _ => True) ?hr ?hp (fun _ hk => hk) trivial (Below.refl _ _) (Nat.le_refl _) (by simp) ?_; (case hd => rfl); (case hg => rfl); (case hr => first | (go_simp; done) | (go_simp; rfl)); (case hp => exact (Reps.c3 (show Kd.M k45 _ _ _ (⟨x6_1, 0, (⟨#[]⟩ : ByteArray)⟩ : S45) [.int .i64 x6_1, .int .i64 0, .string (⟨#[]⟩ : ByteArray)] from (k45_mkM _ _ _ (⟨x6_1, 0, (⟨#[]⟩ : ByteArray)⟩ : S45) )) (Reps.none _ _))); intro v362 w23 ho24 hb hg_ hnew_; clear hg_ hnew_; (first | rw [← Ny361.out] at ho24 | (simp only [Int.reduceToNat] at ho24; rw [← Ny361.out] at ho24)); have n0_ := Aside0.mk (Kd.R_elder' (ro_ HO_5) (Kd.R_base ho24) hb); have n1_ := Aside0.mk (Kd.R_lower (Kd.R_new' ho24 (Kd.R_lt (ro_ HO_5))) (below_size (hb0_ HB))); have n2_ := Aside0.mk (below_step (hb0_ HB) hb); clear HO_5; clear HB; have HO_5 := n0_; have HO363 := n1_; have HB := n2_; clear n0_ n1_ n2_; clear hb ho24; obtain ⟨Ao26, co26, eo26⟩ := Kd.R_slice HO_5.out; subst eo26) | ((with_reducible refine gate_builtin (b := .append) (xs := #[.tmp 48, .tmp 49]) rfl ?_); at_builtin; refine Kd.R_append_rows k45 (w0 := w) w.heap.size rfl (.tmp 48) (.tmp 49) 42 45 (.agg #[(.int .i64 0), (.int .i64 0), (.string ⟨#[]⟩)]) 32 rfl Tryd.underlying42 info45 rfl (by decide) (by omega) v362 y361 x5_1 _ _ _ (fun k_ => some k_ ≠ (.slice Ao26 x5_1.length co26 : Value).ownBlock) (fun _ => False) rfl rfl ?aO ?aR (fun _ _ h => h) (fun _ h => h.elim) ?aF ?aB ?aS ?aL ?_; (case aR => repeat (first | exact (Kd.R_reads' HO_5.out).2.2 | (with_reducible refine Kd.C_alloc ?_ _) | (with_reducible refine Kd.C_drewN ?_ _) | (with_reducible refine Kd.C_drew ?_))); (case aB => exact (hb0_ HB)); (case aF => exact (fun k_ hk => Kd.fresh' (Kd.R_lt (ro_ HO_5)) k_ hk)); (case aO => exact (by (with_reducible repeat (first | apply Kd.R_alloc | apply Kd.R_drewN | apply Kd.R_drew)); exact Kd.R_mono HO363.out (fun _ hk => hk.2))); (case aS => exact (below_size (hb0_ HB))); (case aL => have := LMc17.out; omega); intro v365 w25 ho hb hg hat; rw [← Ny364.out] at ho; have n0_ := Aside0.mk (Kd.R_after (ok := (fun _ => True)) (ro_ HO_5) hg hat); have n1_ := Aside0.mk (hb); have n2_ := Aside0.mk (ho); clear HO_5; clear HB; clear HO363; have HO_5 := n0_; have HB := n1_; have HO366 := n2_; clear n0_ n1_ n2_; clear ho hb hg hat; have p367 : 0 ≤ (x7_1 : Int) := dt_; have q367 : x7_1 < (l0.length : Int) := dt_; obtain ⟨ad367, e367, hx367_0, hx367_1⟩ := at_T93 HR0.out x7_1 p367 q367; obtain rfl : ad357 = ad367 := (by injection e367); replace hx367_0 := (HB.out.cell (World.block_lt_of_cell? w _ hx367_0)).trans hx367_0; replace hx367_1 := (HB.out.cell (World.block_lt_of_cell? w _ hx367_1)).trans hx367_1; replace p367 := eq_true p367; replace q367 := eq_true q367; obtain ⟨Ao27, co27, eo27⟩ := Kd.R_slice HO366.out; subst eo27; have p368 : 0 ≤ (0 : Int) := (by omega); have q368 : 0 < (y364.length : Int) := dt_; obtain ⟨ad368, e368, hx368_0, hx368_1, hx368_2⟩ := at_T45 (Kd.R_reads' HO366.out).2.2 0 p368 q368; cases e368; have qi368 : (0 < y364.length) = True := eq_true (by omega); (try rw [show ((0 : Int)).toNat = 0 from rfl] at hx368_0); (try rw [show 0 * 3 = 0 from rfl] at hx368_0); (try rw [Addr.add_zero'] at hx368_0); (try rw [show ((0 : Int)).toNat = 0 from rfl] at hx368_1); (try rw [show 0 * 3 = 0 from rfl] at hx368_1); (try rw [Addr.add_zero'] at hx368_1); (try rw [show ((0 : Int)).toNat = 0 from rfl] at hx368_2); (try rw [show 0 * 3 = 0 from rfl] at hx368_2); (try rw [Addr.add_zero'] at hx368_2); replace p368 := eq_true p368; replace q368 := eq_true q368; have p22 : 0 ≤ (0 : Int) := (by omega); have q22 : (0 : Int) < ((y364.length : Int) : Int) := dt_; have qi22 : (0 < y364.length) = True := eq_true (by omega); obtain ⟨go22, co22, eo22, gb22, gl22, cl22, HG22⟩ := Kd.R_form HO366.out (by omega); (first | cases eo22 | (injection eo22 with ea_ en_ ec_; (first | subst ea_ | (injection ea_ with ea_; subst ea_)); subst ec_; clear en_)); have GB22 := Aside0.mk gb22; have GG22 := Aside0.mk HG22; clear gb22 gl22 HG22; (first | simp only [add_plain] at hx368_0 | skip); (first | simp only [add_plain] at hx368_1 | skip); (first | simp only [add_plain] at hx368_2 | skip); obtain ⟨ce22, hcl22, hM22, hcc22, hfr22⟩ := Kd.R_elem HO366.out z45 (0 : Int) p22 q22; obtain rfl := k45_openM hM22; have hx22_0 : w25.cell? ⟨go22, (0 : Int).toNat * 3, none⟩ = some (.int .i64 ((rd_T45 y364 0).f0)) := hcc22 0 _ rfl; have hx22_1 : w25.cell? ⟨go22, (0 : Int).toNat * 3 + 1, none⟩ = some (.int .i64 ((rd_T45 y364 0).f1)) := hcc22 1 _ rfl; have hx22_2 : w25.cell? ⟨go22, (0 : Int).toNat * 3 + 2, none⟩ = some (.string ((rd_T45 y364 0).f2)) := hcc22 2 _ rfl; have hf22_0 : w25.frozen? ⟨go22, (0 : Int).toNat * 3, none⟩ = false := hfr22 0; have hf22_1 : w25.frozen? ⟨go22, (0 : Int).toNat * 3 + 1, none⟩ = false := hfr22 1; have hf22_2 : w25.frozen? ⟨go22, (0 : Int).toNat * 3 + 2, none⟩ = false := hfr22 2; clear hcl22 hcc22 hfr22; (try clear hM22); (try rw [show ((0 : Int)).toNat = 0 from rfl] at hx22_0); (try simp only [Nat.reduceMul, Nat.zero_mul, Nat.zero_add, Nat.reduceAdd] at hx22_0); (try rw [show ((0 : Int)).toNat = 0 from rfl] at hf22_0); (try simp only [Nat.reduceMul, Nat.zero_mul, Nat.zero_add, Nat.reduceAdd] at hf22_0); (try rw [show ((0 : Int)).toNat = 0 from rfl] at hx22_1); (try simp only [Nat.reduceMul, Nat.zero_mul, Nat.zero_add, Nat.reduceAdd] at hx22_1); (try rw [show ((0 : Int)).toNat = 0 from rfl] at hf22_1); (try simp only [Nat.reduceMul, Nat.zero_mul, Nat.zero_add, Nat.reduceAdd] at hf22_1); (try rw [show ((0 : Int)).toNat = 0 from rfl] at hx22_2); (try simp only [Nat.reduceMul, Nat.zero_mul, Nat.zero_add, Nat.reduceAdd] at hx22_2); (try rw [show ((0 : Int)).toNat = 0 from rfl] at hf22_2); (try simp only [Nat.reduceMul, Nat.zero_mul, Nat.zero_add, Nat.reduceAdd] at hf22_2); replace p22 := eq_true p22; replace q22 := eq_true q22; have HX28 := Aside0.mk (show Kd.R k45 45 w25 w.heap.size (fun k_ => some k_ ≠ (.slice Ao26 x5_1.length co26 : Value).ownBlock) (.slice (some ⟨go22, 0, none⟩) y364.length co27) y364 from (ro_ HO366)); obtain ⟨ce28, hcl28, hM28, hcc28, hfr28⟩ := Kd.R_elem HX28.out z45 (0 : Int) (by omega) (by have h_ : (0 : Int) < ((y364.length : Int) : Int) := dt_; first | exact h_ | (have e_ := (Kd.R_reads' HO366.out).1; omega) | simpa using h_); obtain rfl := k45_openM hM28; have HP28 := Kd.R_seg HX28.out (0 : Int) (by omega) (by have h_ : (0 : Int) < ((y364.length : Int) : Int) := dt_; first | exact h_ | (have e_ := (Kd.R_reads' HO366.out).1; omega) | simpa using h_) (seg := [.int .i64 (wrap64 (((rd_T45 y364 0).f1) + t358))]) (j := 1) hcl28 hcc28 (show 2 ≤ 3 from by decide) (x' := (⟨(rd_T45 y364 0).f0, wrap64 (((rd_T45 y364 0).f1) + t358), (rd_T45 y364 0).f2⟩ : S45)) (k45_mkM _ _ _ (⟨(rd_T45 y364 0).f0, wrap64 (((rd_T45 y364 0).f1) + t358), (rd_T45 y364 0).f2⟩ : S45) ) (fun _ hk => hk); have hx28_1 := hcc28 1 _ rfl; (try simp only [show (k45).sz = 3 from rfl, Nat.mul_one, Nat.add_zero] at hx28_1); (try rw [show ((0 : Int)).toNat = 0 from rfl] at hx28_1); (try simp only [Nat.reduceMul, Nat.zero_mul, Nat.zero_add, Nat.reduceAdd] at hx28_1); have hf28_1 := hfr28 1; (try simp only [show (k45).sz = 3 from rfl, Nat.mul_one, Nat.add_zero] at hf28_1); (try rw [show ((0 : Int)).toNat = 0 from rfl] at hf28_1); (try simp only [Nat.reduceMul, Nat.zero_mul, Nat.zero_add, Nat.reduceAdd] at hf28_1); clear hcl28 hcc28 hfr28; (try clear hM28)) | ((with_reducible refine gate_store (t := 3) (p := 65) rfl ?_); refine store_event (t := 3) (p := 65) (v := ?vo_w29) (w1 := (w25.setCell ⟨go22, 1, none⟩ (.int .i64 (wrap64 (((rd_T45 y364 0).f1) + t358))))) ?hg ?ho ?hn ?hr ?_; (case ho => rfl); (case hg => rfl); (case hn => rfl); (case hr => first | (go_simp; done) | (go_simp; rfl)); intro w29 hw; have hg : w25.grownBy w29 (some go22) := (by rw [hw]; exact HP28.2); have hp_ : Kd.R k45 45 w29 w.heap.size (fun k_ => some k_ ≠ (.slice Ao26 x5_1.length co26 : Value).ownBlock) (.slice (some ⟨go22, 0, none⟩) y364.length co27) y369 := (by rw [hw, Ny369.out]; exact HP28.1); clear HP28; have n0_ := Aside0.mk (Kd.R_after (v := (.slice (some ⟨go22, 0, none⟩) y364.length co27)) (v1 := (.slice (some ⟨go22, 0, none⟩) y364.length co27)) (ok := (fun _ => True)) (ro_ HO_5) hg (.inl rfl)); have n1_ := Aside0.mk (hp_); have n2_ := Aside0.mk ((by rw [hw]; exact below_set (HB.out) GB22.out : Below w.heap.size w w29)); clear HO_5; clear HO366; clear HB; have HO_5 := n0_; have HO366 := n1_; have HB := n2_; clear n0_ n1_ n2_; clear hg hw hp_))
               go_roundg kj9
               case measure => have := HK1.out; have := HJ9.out; omega
               case rel => exact ⟨(y369), (wrap64 (x6_1 + t358)), (wrap64 (x7_1 + 1)), (by first | rfl | (simp; done) | (simp [*]; done)), (by first | rfl | (simp; done) | (simp [*]; done)), H', ⟨by have := HK1.out; have := HJ9.out; omega⟩, ⟨by (with_reducible repeat (first | apply Kd.R_alloc | apply Kd.R_drewN | apply Kd.R_drew)); exact Kd.R_mono HO366.out (fun _ hk => trivial)⟩, ⟨hb0_ HB⟩⟩
              ·rw [if_neg c21] at H
               exact absurd H (by simp)
             ·rw [if_neg c20] at H
              have c20b0 : (((rd_T93 l0 x7_1).f0) == 2) = false := beq_eq_false_iff_ne.mpr c20
              have c20b1 : (((rd_T93 l0 x7_1).f0) != 2) = true := bne_iff_ne.mpr c20
              by_cases c30 : 0 < (y364.length : Int)
              ·rw [if_pos c30] at H
               have c30b0 : decide (0 < (y364.length : Int)) = true := decide_eq_true c30
               have c30b1 : decide (0 < y364.length) = true := decide_eq_true (by omega)
               clear c30
               by_cases c31 : ((rd_T45 y364 0).f2).size + ((rd_T93 l0 x7_1).f1).size ≤ 9223372036854775807
               ·rw [if_pos c31] at H
                have c31b0 := eq_true c31
                have c31b1 : decide (((rd_T45 y364 0).f2).size + ((rd_T93 l0 x7_1).f1).size ≤ 9223372036854775807) = true := decide_eq_true c31
                try have c31b2 : (9223372036854775807 < ((rd_T45 y364 0).f2).size + ((rd_T93 l0 x7_1).f1).size) = False := eq_false (Nat.not_lt.2 c31)
                obtain ⟨y372, hy372⟩ : ∃ y_ : List (S45), y_ = (y364.set (0 : Int).toNat (⟨(rd_T45 y364 0).f0, (rd_T45 y364 0).f1, ((rd_T45 y364 0).f2) ++ ((rd_T93 l0 x7_1).f1)⟩ : S45)) := ⟨_, rfl⟩
                replace H : (foolscapref32_Changes.l0 kj9 l0 y372 x6_1 (wrap64 (x7_1 + 1))) = some (r1, r2) := by first | (rw [hy372]; with_reducible exact H) | (have H2_ := (Option.bind_some _ _).symm.trans H; rw [hy372]; with_reducible exact H2_) | (have H2_ := (Option.bind_some _ _).symm.trans H; with_reducible exact H2_) | with_reducible exact H | (rw [hy372]; exact H) | exact H
                have Ny372 := Aside0.mk hy372
                clear hy372
                have H' := Aside0.mk H
                clear H
                try go_wp2_with (first | ((with_reducible refine gate_dst (N := 48) rfl ?_); refine Kd.R_lit k45 _ 45 ?hg (N := 48) ?hd (xs := ([(⟨x6_1, 0, (⟨#[]⟩ : ByteArray)⟩ : S45)] : List (S45))) (inner := [.int .i64 x6_1, .int .i64 0, .string (⟨#[]⟩ : ByteArray)]) (ok := fun _ => True) (okp := fun _ => True) ?hr ?hp (fun _ hk => hk) trivial (Below.refl _ _) (Nat.le_refl _) (by simp) ?_; (case hd => rfl); (case hg => rfl); (case hr => first | (go_simp; done) | (go_simp; rfl)); (case hp => exact (Reps.c3 (show Kd.M k45 _ _ _ (⟨x6_1, 0, (⟨#[]⟩ : ByteArray)⟩ : S45) [.int .i64 x6_1, .int .i64 0, .string (⟨#[]⟩ : ByteArray)] from (k45_mkM _ _ _ (⟨x6_1, 0, (⟨#[]⟩ : ByteArray)⟩ : S45) )) (Reps.none _ _))); intro v362 w33 ho34 hb hg_ hnew_; clear hg_ hnew_; (first | rw [← Ny361.out] at ho34 | (simp only [Int.reduceToNat] at ho34; rw [← Ny361.out] at ho34)); have n0_ := Aside0.mk (Kd.R_elder' (ro_ HO_5) (Kd.R_base ho34) hb); have n1_ := Aside0.mk (Kd.R_lower (Kd.R_new' ho34 (Kd.R_lt (ro_ HO_5))) (below_size (hb0_ HB))); have n2_ := Aside0.mk (below_step (hb0_ HB) hb); clear HO_5; clear HB; have HO_5 := n0_; have HO363 := n1_; have HB := n2_; clear n0_ n1_ n2_; clear hb ho34; obtain ⟨Ao36, co36, eo36⟩ := Kd.R_slice HO_5.out; subst eo36) | ((with_reducible refine gate_builtin (b := .append) (xs := #[.tmp 48, .tmp 49]) rfl ?_); at_builtin; refine Kd.R_append_rows k45 (w0 := w) w.heap.size rfl (.tmp 48) (.tmp 49) 42 45 (.agg #[(.int .i64 0), (.int .i64 0), (.string ⟨#[]⟩)]) 32 rfl Tryd.underlying42 info45 rfl (by decide) (by omega) v362 y361 x5_1 _ _ _ (fun k_ => some k_ ≠ (.slice Ao36 x5_1.length co36 : Value).ownBlock) (fun _ => False) rfl rfl ?aO ?aR (fun _ _ h => h) (fun _ h => h.elim) ?aF ?aB ?aS ?aL ?_; (case aR => repeat (first | exact (Kd.R_reads' HO_5.out).2.2 | (with_reducible refine Kd.C_alloc ?_ _) | (with_reducible refine Kd.C_drewN ?_ _) | (with_reducible refine Kd.C_drew ?_))); (case aB => exact (hb0_ HB)); (case aF => exact (fun k_ hk => Kd.fresh' (Kd.R_lt (ro_ HO_5)) k_ hk)); (case aO => exact (by (with_reducible repeat (first | apply Kd.R_alloc | apply Kd.R_drewN | apply Kd.R_drew)); exact Kd.R_mono HO363.out (fun _ hk => hk.2))); (case aS => exact (below_size (hb0_ HB))); (case aL => have := LMc17.out; omega); intro v365 w35 ho hb hg hat; rw [← Ny364.out] at ho; have n0_ := Aside0.mk (Kd.R_after (ok := (fun _ => True)) (ro_ HO_5) hg hat); have n1_ := Aside0.mk (hb); have n2_ := Aside0.mk (ho); clear HO_5; clear HB; clear HO363; have HO_5 := n0_; have HB := n1_; have HO366 := n2_; clear n0_ n1_ n2_; clear ho hb hg hat; have p367 : 0 ≤ (x7_1 : Int) := dt_; have q367 : x7_1 < (l0.length : Int) := dt_; obtain ⟨ad367, e367, hx367_0, hx367_1⟩ := at_T93 HR0.out x7_1 p367 q367; obtain rfl : ad357 = ad367 := (by injection e367); replace hx367_0 := (HB.out.cell (World.block_lt_of_cell? w _ hx367_0)).trans hx367_0; replace hx367_1 := (HB.out.cell (World.block_lt_of_cell? w _ hx367_1)).trans hx367_1; replace p367 := eq_true p367; replace q367 := eq_true q367))
                have n0_ := Aside0.mk (Kd.R_drew HO_5.out)
                have n1_ := Aside0.mk (Kd.R_drew HO366.out)
                have n2_ := Aside0.mk (below_drew1 HB.out)
                clear HO_5
                clear HO366
                clear HB
                have HO_5 := n0_
                have HO366 := n1_
                have HB := n2_
                clear n0_ n1_ n2_
                obtain ⟨Ao38, co38, eo38⟩ := Kd.R_slice HO366.out
                (first | subst eo38 | (injection eo38 with f1_ f2_ f3_; have f4_ := f1_.symm; have f5_ := f3_.symm; clear f1_ f2_ f3_; subst f4_; subst f5_))
                have p370 : 0 ≤ (0 : Int) := (by omega)
                have q370 : 0 < (y364.length : Int) := dt_
                obtain ⟨ad370, e370, hx370_0, hx370_1, hx370_2⟩ := at_T45 (Kd.R_reads' HO366.out).2.2 0 p370 q370
                cases e370
                have qi370 : (0 < y364.length) = True := eq_true (by omega)
                (try rw [show ((0 : Int)).toNat = 0 from rfl] at hx370_0)
                (try rw [show 0 * 3 = 0 from rfl] at hx370_0)
                (try rw [Addr.add_zero'] at hx370_0)
                (try rw [show ((0 : Int)).toNat = 0 from rfl] at hx370_1)
                (try rw [show 0 * 3 = 0 from rfl] at hx370_1)
                (try rw [Addr.add_zero'] at hx370_1)
                (try rw [show ((0 : Int)).toNat = 0 from rfl] at hx370_2)
                (try rw [show 0 * 3 = 0 from rfl] at hx370_2)
                (try rw [Addr.add_zero'] at hx370_2)
                replace p370 := eq_true p370
                replace q370 := eq_true q370
                have p371 : 0 ≤ (x7_1 : Int) := dt_
                have q371 : x7_1 < (l0.length : Int) := dt_
                obtain ⟨ad371, e371, hx371_0, hx371_1⟩ := at_T93 HR0.out x7_1 p371 q371
                have hw371_1 := hx371_1
                have hw371_0 := hx371_0
                obtain rfl : ad357 = ad371 := (by injection e371)
                replace hx371_0 := (HB.out.cell (World.block_lt_of_cell? w _ hx371_0)).trans hx371_0
                replace hx371_1 := (HB.out.cell (World.block_lt_of_cell? w _ hx371_1)).trans hx371_1
                replace p371 := eq_true p371
                replace q371 := eq_true q371
                have p32 : 0 ≤ (0 : Int) := (by omega)
                have q32 : (0 : Int) < ((y364.length : Int) : Int) := dt_
                have qi32 : (0 < y364.length) = True := eq_true (by omega)
                obtain ⟨go32, co32, eo32, gb32, gl32, cl32, HG32⟩ := Kd.R_form HO366.out (by omega)
                (first | cases eo32 | (injection eo32 with ea_ en_ ec_; (first | subst ea_ | (injection ea_ with ea_; subst ea_)); subst ec_; clear en_))
                have GB32 := Aside0.mk gb32
                have GG32 := Aside0.mk HG32
                clear gb32 gl32 HG32
                (first | simp only [add_plain] at hx370_0 | skip)
                (first | simp only [add_plain] at hx370_1 | skip)
                (first | simp only [add_plain] at hx370_2 | skip)
                obtain ⟨ce32, hcl32, hM32, hcc32, hfr32⟩ := Kd.R_elem HO366.out z45 (0 : Int) p32 q32
                obtain rfl := k45_openM hM32
                have hx32_0 : World.cell? _ ⟨go32, (0 : Int).toNat * 3, none⟩ = some (.int .i64 ((rd_T45 y364 0).f0)) := hcc32 0 _ rfl
                have hx32_1 : World.cell? _ ⟨go32, (0 : Int).toNat * 3 + 1, none⟩ = some (.int .i64 ((rd_T45 y364 0).f1)) := hcc32 1 _ rfl
                have hx32_2 : World.cell? _ ⟨go32, (0 : Int).toNat * 3 + 2, none⟩ = some (.string ((rd_T45 y364 0).f2)) := hcc32 2 _ rfl
                have hf32_0 : World.frozen? _ ⟨go32, (0 : Int).toNat * 3, none⟩ = false := hfr32 0
                have hf32_1 : World.frozen? _ ⟨go32, (0 : Int).toNat * 3 + 1, none⟩ = false := hfr32 1
                have hf32_2 : World.frozen? _ ⟨go32, (0 : Int).toNat * 3 + 2, none⟩ = false := hfr32 2
                clear hcl32 hcc32 hfr32; (try clear hM32)
                (try rw [show ((0 : Int)).toNat = 0 from rfl] at hx32_0)
                (try simp only [Nat.reduceMul, Nat.zero_mul, Nat.zero_add, Nat.reduceAdd] at hx32_0)
                (try rw [show ((0 : Int)).toNat = 0 from rfl] at hf32_0)
                (try simp only [Nat.reduceMul, Nat.zero_mul, Nat.zero_add, Nat.reduceAdd] at hf32_0)
                (try rw [show ((0 : Int)).toNat = 0 from rfl] at hx32_1)
                (try simp only [Nat.reduceMul, Nat.zero_mul, Nat.zero_add, Nat.reduceAdd] at hx32_1)
                (try rw [show ((0 : Int)).toNat = 0 from rfl] at hf32_1)
                (try simp only [Nat.reduceMul, Nat.zero_mul, Nat.zero_add, Nat.reduceAdd] at hf32_1)
                (try rw [show ((0 : Int)).toNat = 0 from rfl] at hx32_2)
                (try simp only [Nat.reduceMul, Nat.zero_mul, Nat.zero_add, Nat.reduceAdd] at hx32_2)
                (try rw [show ((0 : Int)).toNat = 0 from rfl] at hf32_2)
                (try simp only [Nat.reduceMul, Nat.zero_mul, Nat.zero_add, Nat.reduceAdd] at hf32_2)
                replace p32 := eq_true p32
                replace q32 := eq_true q32
                obtain ⟨ce39, hcl39, hM39, hcc39, hfr39⟩ := Kd.R_elem HO366.out z45 (0 : Int) (by omega) (by have h_ : (0 : Int) < ((y364.length : Int) : Int) := dt_; first | exact h_ | (have e_ := (Kd.R_reads' HO366.out).1; omega) | simpa using h_)
                obtain rfl := k45_openM hM39
                have HP39 := (Kd.R_seg HO366.out (0 : Int) (by omega) (by have h_ : (0 : Int) < ((y364.length : Int) : Int) := dt_; first | exact h_ | (have e_ := (Kd.R_reads' HO366.out).1; omega) | simpa using h_) (seg := [.string (((rd_T45 y364 0).f2) ++ ((rd_T93 l0 x7_1).f1))]) (j := 2) hcl39 hcc39 (show 3 ≤ 3 from by decide) (x' := (⟨(rd_T45 y364 0).f0, (rd_T45 y364 0).f1, ((rd_T45 y364 0).f2) ++ ((rd_T93 l0 x7_1).f1)⟩ : S45)) (k45_mkM _ _ _ (⟨(rd_T45 y364 0).f0, (rd_T45 y364 0).f1, ((rd_T45 y364 0).f2) ++ ((rd_T93 l0 x7_1).f1)⟩ : S45) ) (fun _ hk => hk)).1
                rw [← Ny372.out] at HP39
                have HQ39 := Aside0.mk HP39
                clear hcl39 hcc39 hfr39 HP39; (try clear hM39)
                refine start_ (n := 14) (S := fun w' => w'.cell? ⟨go32, 0, none⟩ = some (.int .i64 ((rd_T45 y364 0).f0)) ∧ w'.cell? ⟨go32, 1, none⟩ = some (.int .i64 ((rd_T45 y364 0).f1)) ∧ w'.cell? ⟨go32, 2, none⟩ = some (.string ((rd_T45 y364 0).f2)) ∧ w'.cell? (ad357.add ((x7_1).toNat * 2)) = some (.int .i64 ((rd_T93 l0 x7_1).f0)) ∧ w'.cell? ⟨(ad357.add ((x7_1).toNat * 2)).block, (ad357.add ((x7_1).toNat * 2)).off + 1, none⟩ = some (.string ((rd_T93 l0 x7_1).f1))) (ds := [13]) #[false, false, false, false, false, false, false, false, false, false, false, false, false, false] (by kernel_rfl) rfl rfl ⟨hx370_0, hx370_1, hx370_2, ((HB.out.cell (World.block_lt_of_cell? w _ hw371_0)).trans hw371_0), ((HB.out.cell (World.block_lt_of_cell? w _ hw371_1)).trans hw371_1)⟩ (fun hHeld => ?_); refine with_tabW foolscapref32_Changes.tab17 foolscapref32_Changes.bits17 (fun HT_ HW_ => ?_)
                generalize w35.drew = w37 at HO_5 HO366 HB GG32 HQ39 hf32_0 hf32_1 hf32_2 hx32_0 hx32_1 hx32_2 hx370_0 hx370_1 hx370_2 hx371_0 hx371_1 hHeld ⊢
                refine pure_ (i := 0) (N := some 69) (v := ?_) (a' := ?_) #[true, false, false, false, false, false, false, false, false, false, false, false, false, false] rfl rfl (any_of HT_.out (by kernel_rfl)) (fun _ _ _ h => h) (Or.inl ⟨by rfl, ?_⟩) ?_ ?_
                rotate_left
                ·intro w'
                 go_simp
                 with_reducible rfl
                rotate_left
                ·simp only [Act.put, List.setIfInBounds_toArray, List.set_cons_zero, List.set_cons_succ, i64_w, i32_w]
                 rfl
                refine pure_ (i := 1) (N := some 70) (v := ?_) (a' := ?_) #[true, true, false, false, false, false, false, false, false, false, false, false, false, false] rfl rfl (any_of HT_.out (by kernel_rfl)) (fun _ _ _ h => h) (Or.inl ⟨by rfl, ?_⟩) ?_ ?_
                rotate_left
                ·intro w'
                 go_simp
                 with_reducible rfl
                rotate_left
                ·simp only [Act.put, List.setIfInBounds_toArray, List.set_cons_zero, List.set_cons_succ, i64_w, i32_w]
                 rfl
                refine pure_ (i := 2) (N := some 71) (v := ?_) (a' := ?_) #[true, true, true, false, false, false, false, false, false, false, false, false, false, false] rfl rfl (any_of HT_.out (by kernel_rfl)) (fun _ _ _ h => h) (Or.inl ⟨by rfl, ?_⟩) ?_ ?_
                rotate_left
                ·intro w'
                 go_simp
                 with_reducible rfl
                rotate_left
                ·simp only [Act.put, List.setIfInBounds_toArray, List.set_cons_zero, List.set_cons_succ, i64_w, i32_w]
                 rfl
                refine pure_ (i := 3) (N := some 72) (v := ?_) (a' := ?_) #[true, true, true, true, false, false, false, false, false, false, false, false, false, false] rfl rfl (any_of HT_.out (by kernel_rfl)) (fun _ _ _ h => h) (Or.inl ⟨by rfl, ?_⟩) ?_ ?_
                rotate_left
                ·intro w'
                 go_simp
                 with_reducible rfl
                rotate_left
                ·simp only [Act.put, List.setIfInBounds_toArray, List.set_cons_zero, List.set_cons_succ, i64_w, i32_w]
                 rfl
                refine pure_ (i := 5) (N := some 74) (v := ?_) (a' := ?_) #[true, true, true, true, false, true, false, false, false, false, false, false, false, false] rfl rfl (any_of HT_.out (by kernel_rfl)) (fun _ _ _ h => h) (Or.inl ⟨by rfl, ?_⟩) ?_ ?_
                rotate_left
                ·intro w'
                 go_simp
                 with_reducible rfl
                rotate_left
                ·simp only [Act.put, List.setIfInBounds_toArray, List.set_cons_zero, List.set_cons_succ, i64_w, i32_w]
                 rfl
                refine pure_ (i := 6) (N := some 75) (v := ?_) (a' := ?_) #[true, true, true, true, false, true, true, false, false, false, false, false, false, false] rfl rfl (any_of HT_.out (by kernel_rfl)) (fun _ _ _ h => h) (Or.inl ⟨by rfl, ?_⟩) ?_ ?_
                rotate_left
                ·intro w'
                 go_simp
                 with_reducible rfl
                rotate_left
                ·simp only [Act.put, List.setIfInBounds_toArray, List.set_cons_zero, List.set_cons_succ, i64_w, i32_w]
                 rfl
                refine pure_ (i := 7) (N := some 76) (v := ?_) (a' := ?_) #[true, true, true, true, false, true, true, true, false, false, false, false, false, false] rfl rfl (any_of HT_.out (by kernel_rfl)) (fun _ _ _ h => h) (Or.inl ⟨by rfl, ?_⟩) ?_ ?_
                rotate_left
                ·intro w'
                 go_simp
                 with_reducible rfl
                rotate_left
                ·simp only [Act.put, List.setIfInBounds_toArray, List.set_cons_zero, List.set_cons_succ, i64_w, i32_w]
                 rfl
                refine pure_ (i := 8) (N := some 77) (v := ?_) (a' := ?_) #[true, true, true, true, false, true, true, true, true, false, false, false, false, false] rfl rfl (any_of HT_.out (by kernel_rfl)) (fun _ _ _ h => h) (Or.inl ⟨by rfl, ?_⟩) ?_ ?_
                rotate_left
                ·intro w'
                 go_simp
                 with_reducible rfl
                rotate_left
                ·simp only [Act.put, List.setIfInBounds_toArray, List.set_cons_zero, List.set_cons_succ, i64_w, i32_w]
                 rfl
                refine take_ (i := 4) (N := some 73) (v := ?_) (a' := ?_) #[true, true, true, true, true, true, true, true, true, false, false, false, false, false] rfl rfl (take_ofW HT_.out HW_.out (by kernel_rfl)) (fun _ _ _ h => h) (Or.inl ⟨by rfl, ?_⟩) hHeld ?_ ?_
                rotate_left
                ·rintro w' ⟨s0, s1, s2, s3, s4⟩
                 go_simp
                 with_reducible rfl
                rotate_left
                ·simp only [Act.put, List.setIfInBounds_toArray, List.set_cons_zero, List.set_cons_succ, i64_w, i32_w]
                 rfl
                refine take_ (i := 9) (N := some 78) (v := ?_) (a' := ?_) #[true, true, true, true, true, true, true, true, true, true, false, false, false, false] rfl rfl (take_ofW HT_.out HW_.out (by kernel_rfl)) (fun _ _ _ h => h) (Or.inl ⟨by rfl, ?_⟩) hHeld ?_ ?_
                rotate_left
                ·rintro w' ⟨s0, s1, s2, s3, s4⟩
                 go_simp
                 with_reducible rfl
                rotate_left
                ·simp only [Act.put, List.setIfInBounds_toArray, List.set_cons_zero, List.set_cons_succ, i64_w, i32_w]
                 rfl
                refine pure_ (i := 10) (N := some 79) (v := ?_) (a' := ?_) #[true, true, true, true, true, true, true, true, true, true, true, false, false, false] rfl rfl (any_of HT_.out (by kernel_rfl)) (fun _ _ _ h => h) (Or.inl ⟨by rfl, ?_⟩) ?_ ?_
                rotate_left
                ·intro w'
                 go_simp
                 with_reducible rfl
                rotate_left
                ·simp only [Act.put, List.setIfInBounds_toArray, List.set_cons_zero, List.set_cons_succ, i64_w, i32_w]
                 rfl
                refine pure_ (i := 11) (N := some 80) (v := ?_) (a' := ?_) #[true, true, true, true, true, true, true, true, true, true, true, true, false, false] rfl rfl (any_of HT_.out (by kernel_rfl)) (fun _ _ _ h => h) (Or.inl ⟨by rfl, ?_⟩) ?_ ?_
                rotate_left
                ·intro w'
                 go_simp
                 with_reducible rfl
                rotate_left
                ·simp only [Act.put, List.setIfInBounds_toArray, List.set_cons_zero, List.set_cons_succ, i64_w, i32_w]
                 rfl
                refine pure_ (i := 12) (N := some 81) (v := ?_) (a' := ?_) #[true, true, true, true, true, true, true, true, true, true, true, true, true, false] rfl rfl (any_of HT_.out (by kernel_rfl)) (fun _ _ _ h => h) (Or.inl ⟨by rfl, ?_⟩) ?_ ?_
                rotate_left
                ·intro w'
                 go_simp
                 with_reducible rfl
                rotate_left
                ·simp only [Act.put, List.setIfInBounds_toArray, List.set_cons_zero, List.set_cons_succ, i64_w, i32_w]
                 rfl
                refine last_ (i := 13) (N := none) #[true, true, true, true, true, true, true, true, true, true, true, true, true, true] rfl rfl (one_of HT_.out (by kernel_rfl)) (by decide) (fun K hK => ?_)
                refine skip_ (w1 := ?_) (by rfl) rfl ?_ ?_
                rotate_left
                ·go_simp
                 rfl
                refine hK.out _ _ ?_
                clear hK K
                refine done_ (done_of HT_.out (by kernel_rfl)) ?_
                try go_wp2
                go_roundg kj9
                case measure => have := HK1.out; have := HJ9.out; omega
                case rel => exact ⟨(y372), (x6_1), (wrap64 (x7_1 + 1)), (by first | rfl | (simp; done) | (simp [*]; done)), (by first | rfl | (simp; done) | (simp [*]; done)), H', ⟨by have := HK1.out; have := HJ9.out; omega⟩, ⟨by (with_reducible repeat (first | apply Kd.R_alloc | apply Kd.R_drewN | apply Kd.R_drew)); exact Kd.R_mono HQ39.out (fun _ hk => trivial)⟩, ⟨by repeat (first | (with_reducible first | exact HB.out | apply below_alloc | apply pw_below_drewN | apply below_drew1 | refine below_set ?_ GB32.out) | exact HB.out)⟩⟩
               ·rw [if_neg c31] at H
                exact absurd H (by simp)
              ·rw [if_neg c30] at H
               exact absurd H (by simp)
            ·rw [if_neg c19] at H
             exact absurd H (by simp)
           ·rw [if_neg c18] at H
            exact absurd H (by simp)
          ·rw [if_neg c17] at H
           exact absurd H (by simp)
         ·replace c16 := Bool.eq_false_iff.mpr c16
          subst c16
          have H1 : (if 0 ≤ x7_1 then (if x7_1 < (l0.length : Int) then (if ((rd_T93 l0 x7_1).f0) = 2 then (if 0 < (x5_1.length : Int) then (foolscapref32_Changes.l0 kj9 l0 (x5_1.set (0 : Int).toNat (⟨(rd_T45 x5_1 0).f0, wrap64 (((rd_T45 x5_1 0).f1) + t358), (rd_T45 x5_1 0).f2⟩ : S45)) (wrap64 (x6_1 + t358)) (wrap64 (x7_1 + 1))) else (none)) else (if 0 < (x5_1.length : Int) then (if ((rd_T45 x5_1 0).f2).size + ((rd_T93 l0 x7_1).f1).size ≤ 9223372036854775807 then (foolscapref32_Changes.l0 kj9 l0 (x5_1.set (0 : Int).toNat (⟨(rd_T45 x5_1 0).f0, (rd_T45 x5_1 0).f1, ((rd_T45 x5_1 0).f2) ++ ((rd_T93 l0 x7_1).f1)⟩ : S45)) x6_1 (wrap64 (x7_1 + 1))) else (none)) else (none))) else (none)) else (none)) = some (r1, r2) := by rw [if_neg (show ¬ (false = true) by decide)] at H; exact H
          clear H
          have H := H1
          clear H1
          by_cases c40 : 0 ≤ x7_1
          ·rw [if_pos c40] at H
           have c40b0 : decide (0 ≤ x7_1) = true := decide_eq_true c40
           clear c40
           by_cases c41 : x7_1 < (l0.length : Int)
           ·rw [if_pos c41] at H
            have c41b0 : decide (x7_1 < (l0.length : Int)) = true := decide_eq_true c41
            clear c41
            by_cases c42 : ((rd_T93 l0 x7_1).f0) = 2
            ·rw [if_pos c42] at H
             have c42b0 : (((rd_T93 l0 x7_1).f0) == 2) = true := beq_iff_eq.mpr c42
             have c42b1 : (((rd_T93 l0 x7_1).f0) != 2) = false := bne_eq_false_iff_eq.mpr c42
             clear c42
             by_cases c43 : 0 < (x5_1.length : Int)
             ·rw [if_pos c43] at H
              have c43b0 : decide (0 < (x5_1.length : Int)) = true := decide_eq_true c43
              have c43b1 : decide (0 < x5_1.length) = true := decide_eq_true (by omega)
              clear c43
              obtain ⟨y375, hy375⟩ : ∃ y_ : List (S45), y_ = (x5_1.set (0 : Int).toNat (⟨(rd_T45 x5_1 0).f0, wrap64 (((rd_T45 x5_1 0).f1) + t358), (rd_T45 x5_1 0).f2⟩ : S45)) := ⟨_, rfl⟩
              replace H : (foolscapref32_Changes.l0 kj9 l0 y375 (wrap64 (x6_1 + t358)) (wrap64 (x7_1 + 1))) = some (r1, r2) := by first | (rw [hy375]; with_reducible exact H) | (have H2_ := (Option.bind_some _ _).symm.trans H; rw [hy375]; with_reducible exact H2_) | (have H2_ := (Option.bind_some _ _).symm.trans H; with_reducible exact H2_) | with_reducible exact H | (rw [hy375]; exact H) | exact H
              have Ny375 := Aside0.mk hy375
              clear hy375
              have H' := Aside0.mk H
              clear H
              have p373 : 0 ≤ (x7_1 : Int) := dt_
              have q373 : x7_1 < (l0.length : Int) := dt_
              obtain ⟨ad373, e373, hx373_0, hx373_1⟩ := at_T93 HR0.out x7_1 p373 q373
              obtain rfl : ad357 = ad373 := (by injection e373)
              replace hx373_0 := (HB.out.cell (World.block_lt_of_cell? w _ hx373_0)).trans hx373_0
              replace hx373_1 := (HB.out.cell (World.block_lt_of_cell? w _ hx373_1)).trans hx373_1
              replace p373 := eq_true p373
              replace q373 := eq_true q373
              obtain ⟨Ao45, co45, eo45⟩ := Kd.R_slice HO_5.out
              subst eo45
              have p374 : 0 ≤ (0 : Int) := (by omega)
              have q374 : 0 < (x5_1.length : Int) := dt_
              obtain ⟨ad374, e374, hx374_0, hx374_1, hx374_2⟩ := at_T45 (Kd.R_reads' HO_5.out).2.2 0 p374 q374
              cases e374
              have qi374 : (0 < x5_1.length) = True := eq_true (by omega)
              (try rw [show ((0 : Int)).toNat = 0 from rfl] at hx374_0)
              (try rw [show 0 * 3 = 0 from rfl] at hx374_0)
              (try rw [Addr.add_zero'] at hx374_0)
              (try rw [show ((0 : Int)).toNat = 0 from rfl] at hx374_1)
              (try rw [show 0 * 3 = 0 from rfl] at hx374_1)
              (try rw [Addr.add_zero'] at hx374_1)
              (try rw [show ((0 : Int)).toNat = 0 from rfl] at hx374_2)
              (try rw [show 0 * 3 = 0 from rfl] at hx374_2)
              (try rw [Addr.add_zero'] at hx374_2)
              replace p374 := eq_true p374
              replace q374 := eq_true q374
              have p44 : 0 ≤ (0 : Int) := (by omega)
              have q44 : (0 : Int) < ((x5_1.length : Int) : Int) := dt_
              have qi44 : (0 < x5_1.length) = True := eq_true (by omega)
              obtain ⟨go44, co44, eo44, gb44, gl44, cl44, HG44⟩ := Kd.R_form HO_5.out (by omega)
              (first | cases eo44 | (injection eo44 with ea_ en_ ec_; (first | subst ea_ | (injection ea_ with ea_; subst ea_)); subst ec_; clear en_))
              have GB44 := Aside0.mk gb44
              have GG44 := Aside0.mk HG44
              clear gb44 gl44 HG44
              (first | simp only [add_plain] at hx374_0 | skip)
              (first | simp only [add_plain] at hx374_1 | skip)
              (first | simp only [add_plain] at hx374_2 | skip)
              obtain ⟨ce44, hcl44, hM44, hcc44, hfr44⟩ := Kd.R_elem HO_5.out z45 (0 : Int) p44 q44
              obtain rfl := k45_openM hM44
              have hx44_0 : wc.cell? ⟨go44, (0 : Int).toNat * 3, none⟩ = some (.int .i64 ((rd_T45 x5_1 0).f0)) := hcc44 0 _ rfl
              have hx44_1 : wc.cell? ⟨go44, (0 : Int).toNat * 3 + 1, none⟩ = some (.int .i64 ((rd_T45 x5_1 0).f1)) := hcc44 1 _ rfl
              have hx44_2 : wc.cell? ⟨go44, (0 : Int).toNat * 3 + 2, none⟩ = some (.string ((rd_T45 x5_1 0).f2)) := hcc44 2 _ rfl
              have hf44_0 : wc.frozen? ⟨go44, (0 : Int).toNat * 3, none⟩ = false := hfr44 0
              have hf44_1 : wc.frozen? ⟨go44, (0 : Int).toNat * 3 + 1, none⟩ = false := hfr44 1
              have hf44_2 : wc.frozen? ⟨go44, (0 : Int).toNat * 3 + 2, none⟩ = false := hfr44 2
              clear hcl44 hcc44 hfr44; (try clear hM44)
              (try rw [show ((0 : Int)).toNat = 0 from rfl] at hx44_0)
              (try simp only [Nat.reduceMul, Nat.zero_mul, Nat.zero_add, Nat.reduceAdd] at hx44_0)
              (try rw [show ((0 : Int)).toNat = 0 from rfl] at hf44_0)
              (try simp only [Nat.reduceMul, Nat.zero_mul, Nat.zero_add, Nat.reduceAdd] at hf44_0)
              (try rw [show ((0 : Int)).toNat = 0 from rfl] at hx44_1)
              (try simp only [Nat.reduceMul, Nat.zero_mul, Nat.zero_add, Nat.reduceAdd] at hx44_1)
              (try rw [show ((0 : Int)).toNat = 0 from rfl] at hf44_1)
              (try simp only [Nat.reduceMul, Nat.zero_mul, Nat.zero_add, Nat.reduceAdd] at hf44_1)
              (try rw [show ((0 : Int)).toNat = 0 from rfl] at hx44_2)
              (try simp only [Nat.reduceMul, Nat.zero_mul, Nat.zero_add, Nat.reduceAdd] at hx44_2)
              (try rw [show ((0 : Int)).toNat = 0 from rfl] at hf44_2)
              (try simp only [Nat.reduceMul, Nat.zero_mul, Nat.zero_add, Nat.reduceAdd] at hf44_2)
              replace p44 := eq_true p44
              replace q44 := eq_true q44
              have HX46 := Aside0.mk (show Kd.R k45 45 wc w.heap.size (fun _ => True) (.slice (some ⟨go44, 0, none⟩) x5_1.length co45) x5_1 from (ro_ HO_5))
              obtain ⟨ce46, hcl46, hM46, hcc46, hfr46⟩ := Kd.R_elem HX46.out z45 (0 : Int) (by omega) (by have h_ : (0 : Int) < ((x5_1.length : Int) : Int) := dt_; first | exact h_ | (have e_ := (Kd.R_reads' HO_5.out).1; omega) | simpa using h_)
              obtain rfl := k45_openM hM46
              have HP46 := Kd.R_seg HX46.out (0 : Int) (by omega) (by have h_ : (0 : Int) < ((x5_1.length : Int) : Int) := dt_; first | exact h_ | (have e_ := (Kd.R_reads' HO_5.out).1; omega) | simpa using h_) (seg := [.int .i64 (wrap64 (((rd_T45 x5_1 0).f1) + t358))]) (j := 1) hcl46 hcc46 (show 2 ≤ 3 from by decide) (x' := (⟨(rd_T45 x5_1 0).f0, wrap64 (((rd_T45 x5_1 0).f1) + t358), (rd_T45 x5_1 0).f2⟩ : S45)) (k45_mkM _ _ _ (⟨(rd_T45 x5_1 0).f0, wrap64 (((rd_T45 x5_1 0).f1) + t358), (rd_T45 x5_1 0).f2⟩ : S45) ) (fun _ hk => hk)
              have hx46_1 := hcc46 1 _ rfl
              (try simp only [show (k45).sz = 3 from rfl, Nat.mul_one, Nat.add_zero] at hx46_1)
              (try rw [show ((0 : Int)).toNat = 0 from rfl] at hx46_1)
              (try simp only [Nat.reduceMul, Nat.zero_mul, Nat.zero_add, Nat.reduceAdd] at hx46_1)
              have hf46_1 := hfr46 1
              (try simp only [show (k45).sz = 3 from rfl, Nat.mul_one, Nat.add_zero] at hf46_1)
              (try rw [show ((0 : Int)).toNat = 0 from rfl] at hf46_1)
              (try simp only [Nat.reduceMul, Nat.zero_mul, Nat.zero_add, Nat.reduceAdd] at hf46_1)
              clear hcl46 hcc46 hfr46; (try clear hM46)
              go_wp2_with (first | ((with_reducible refine gate_store (t := 3) (p := 65) rfl ?_); refine store_event (t := 3) (p := 65) (v := ?vo_w47) (w1 := (wc.setCell ⟨go44, 1, none⟩ (.int .i64 (wrap64 (((rd_T45 x5_1 0).f1) + t358))))) ?hg ?ho ?hn ?hr ?_; (case ho => rfl); (case hg => rfl); (case hn => rfl); (case hr => first | (go_simp; done) | (go_simp; rfl)); intro w47 hw; have hg : wc.grownBy w47 (some go44) := (by rw [hw]; exact HP46.2); have hp_ : Kd.R k45 45 w47 w.heap.size (fun _ => True) (.slice (some ⟨go44, 0, none⟩) x5_1.length co45) y375 := (by rw [hw, Ny375.out]; exact HP46.1); clear HP46; have n0_ := Aside0.mk (hp_); have n1_ := Aside0.mk ((by rw [hw]; exact below_set (HB.out) GB44.out : Below w.heap.size w w47)); clear HO_5; clear HB; have HO_5 := n0_; have HB := n1_; clear n0_ n1_; clear hg hw hp_))
              go_roundg kj9
              case measure => have := HK1.out; have := HJ9.out; omega
              case rel => exact ⟨(y375), (wrap64 (x6_1 + t358)), (wrap64 (x7_1 + 1)), (by first | rfl | (simp; done) | (simp [*]; done)), (by first | rfl | (simp; done) | (simp [*]; done)), H', ⟨by have := HK1.out; have := HJ9.out; omega⟩, ⟨ro_ HO_5⟩, ⟨hb0_ HB⟩⟩
             ·rw [if_neg c43] at H
              exact absurd H (by simp)
            ·rw [if_neg c42] at H
             have c42b0 : (((rd_T93 l0 x7_1).f0) == 2) = false := beq_eq_false_iff_ne.mpr c42
             have c42b1 : (((rd_T93 l0 x7_1).f0) != 2) = true := bne_iff_ne.mpr c42
             by_cases c48 : 0 < (x5_1.length : Int)
             ·rw [if_pos c48] at H
              have c48b0 : decide (0 < (x5_1.length : Int)) = true := decide_eq_true c48
              have c48b1 : decide (0 < x5_1.length) = true := decide_eq_true (by omega)
              clear c48
              by_cases c49 : ((rd_T45 x5_1 0).f2).size + ((rd_T93 l0 x7_1).f1).size ≤ 9223372036854775807
              ·rw [if_pos c49] at H
               have c49b0 := eq_true c49
               have c49b1 : decide (((rd_T45 x5_1 0).f2).size + ((rd_T93 l0 x7_1).f1).size ≤ 9223372036854775807) = true := decide_eq_true c49
               try have c49b2 : (9223372036854775807 < ((rd_T45 x5_1 0).f2).size + ((rd_T93 l0 x7_1).f1).size) = False := eq_false (Nat.not_lt.2 c49)
               obtain ⟨y378, hy378⟩ : ∃ y_ : List (S45), y_ = (x5_1.set (0 : Int).toNat (⟨(rd_T45 x5_1 0).f0, (rd_T45 x5_1 0).f1, ((rd_T45 x5_1 0).f2) ++ ((rd_T93 l0 x7_1).f1)⟩ : S45)) := ⟨_, rfl⟩
               replace H : (foolscapref32_Changes.l0 kj9 l0 y378 x6_1 (wrap64 (x7_1 + 1))) = some (r1, r2) := by first | (rw [hy378]; with_reducible exact H) | (have H2_ := (Option.bind_some _ _).symm.trans H; rw [hy378]; with_reducible exact H2_) | (have H2_ := (Option.bind_some _ _).symm.trans H; with_reducible exact H2_) | with_reducible exact H | (rw [hy378]; exact H) | exact H
               have Ny378 := Aside0.mk hy378
               clear hy378
               have H' := Aside0.mk H
               clear H
               have p373 : 0 ≤ (x7_1 : Int) := dt_
               have q373 : x7_1 < (l0.length : Int) := dt_
               obtain ⟨ad373, e373, hx373_0, hx373_1⟩ := at_T93 HR0.out x7_1 p373 q373
               obtain rfl : ad357 = ad373 := (by injection e373)
               replace hx373_0 := (HB.out.cell (World.block_lt_of_cell? w _ hx373_0)).trans hx373_0
               replace hx373_1 := (HB.out.cell (World.block_lt_of_cell? w _ hx373_1)).trans hx373_1
               replace p373 := eq_true p373
               replace q373 := eq_true q373
               try go_wp2
               have n0_ := Aside0.mk (Kd.R_drew HO_5.out)
               have n1_ := Aside0.mk (below_drew1 HB.out)
               clear HO_5
               clear HB
               have HO_5 := n0_
               have HB := n1_
               clear n0_ n1_
               obtain ⟨Ao52, co52, eo52⟩ := Kd.R_slice HO_5.out
               (first | subst eo52 | (injection eo52 with f1_ f2_ f3_; have f4_ := f1_.symm; have f5_ := f3_.symm; clear f1_ f2_ f3_; subst f4_; subst f5_))
               have p376 : 0 ≤ (0 : Int) := (by omega)
               have q376 : 0 < (x5_1.length : Int) := dt_
               obtain ⟨ad376, e376, hx376_0, hx376_1, hx376_2⟩ := at_T45 (Kd.R_reads' HO_5.out).2.2 0 p376 q376
               cases e376
               have qi376 : (0 < x5_1.length) = True := eq_true (by omega)
               (try rw [show ((0 : Int)).toNat = 0 from rfl] at hx376_0)
               (try rw [show 0 * 3 = 0 from rfl] at hx376_0)
               (try rw [Addr.add_zero'] at hx376_0)
               (try rw [show ((0 : Int)).toNat = 0 from rfl] at hx376_1)
               (try rw [show 0 * 3 = 0 from rfl] at hx376_1)
               (try rw [Addr.add_zero'] at hx376_1)
               (try rw [show ((0 : Int)).toNat = 0 from rfl] at hx376_2)
               (try rw [show 0 * 3 = 0 from rfl] at hx376_2)
               (try rw [Addr.add_zero'] at hx376_2)
               replace p376 := eq_true p376
               replace q376 := eq_true q376
               have p377 : 0 ≤ (x7_1 : Int) := dt_
               have q377 : x7_1 < (l0.length : Int) := dt_
               obtain ⟨ad377, e377, hx377_0, hx377_1⟩ := at_T93 HR0.out x7_1 p377 q377
               have hw377_1 := hx377_1
               have hw377_0 := hx377_0
               obtain rfl : ad357 = ad377 := (by injection e377)
               replace hx377_0 := (HB.out.cell (World.block_lt_of_cell? w _ hx377_0)).trans hx377_0
               replace hx377_1 := (HB.out.cell (World.block_lt_of_cell? w _ hx377_1)).trans hx377_1
               replace p377 := eq_true p377
               replace q377 := eq_true q377
               have p50 : 0 ≤ (0 : Int) := (by omega)
               have q50 : (0 : Int) < ((x5_1.length : Int) : Int) := dt_
               have qi50 : (0 < x5_1.length) = True := eq_true (by omega)
               obtain ⟨go50, co50, eo50, gb50, gl50, cl50, HG50⟩ := Kd.R_form HO_5.out (by omega)
               (first | cases eo50 | (injection eo50 with ea_ en_ ec_; (first | subst ea_ | (injection ea_ with ea_; subst ea_)); subst ec_; clear en_))
               have GB50 := Aside0.mk gb50
               have GG50 := Aside0.mk HG50
               clear gb50 gl50 HG50
               (first | simp only [add_plain] at hx376_0 | skip)
               (first | simp only [add_plain] at hx376_1 | skip)
               (first | simp only [add_plain] at hx376_2 | skip)
               obtain ⟨ce50, hcl50, hM50, hcc50, hfr50⟩ := Kd.R_elem HO_5.out z45 (0 : Int) p50 q50
               obtain rfl := k45_openM hM50
               have hx50_0 : World.cell? _ ⟨go50, (0 : Int).toNat * 3, none⟩ = some (.int .i64 ((rd_T45 x5_1 0).f0)) := hcc50 0 _ rfl
               have hx50_1 : World.cell? _ ⟨go50, (0 : Int).toNat * 3 + 1, none⟩ = some (.int .i64 ((rd_T45 x5_1 0).f1)) := hcc50 1 _ rfl
               have hx50_2 : World.cell? _ ⟨go50, (0 : Int).toNat * 3 + 2, none⟩ = some (.string ((rd_T45 x5_1 0).f2)) := hcc50 2 _ rfl
               have hf50_0 : World.frozen? _ ⟨go50, (0 : Int).toNat * 3, none⟩ = false := hfr50 0
               have hf50_1 : World.frozen? _ ⟨go50, (0 : Int).toNat * 3 + 1, none⟩ = false := hfr50 1
               have hf50_2 : World.frozen? _ ⟨go50, (0 : Int).toNat * 3 + 2, none⟩ = false := hfr50 2
               clear hcl50 hcc50 hfr50; (try clear hM50)
               (try rw [show ((0 : Int)).toNat = 0 from rfl] at hx50_0)
               (try simp only [Nat.reduceMul, Nat.zero_mul, Nat.zero_add, Nat.reduceAdd] at hx50_0)
               (try rw [show ((0 : Int)).toNat = 0 from rfl] at hf50_0)
               (try simp only [Nat.reduceMul, Nat.zero_mul, Nat.zero_add, Nat.reduceAdd] at hf50_0)
               (try rw [show ((0 : Int)).toNat = 0 from rfl] at hx50_1)
               (try simp only [Nat.reduceMul, Nat.zero_mul, Nat.zero_add, Nat.reduceAdd] at hx50_1)
               (try rw [show ((0 : Int)).toNat = 0 from rfl] at hf50_1)
               (try simp only [Nat.reduceMul, Nat.zero_mul, Nat.zero_add, Nat.reduceAdd] at hf50_1)
               (try rw [show ((0 : Int)).toNat = 0 from rfl] at hx50_2)
               (try simp only [Nat.reduceMul, Nat.zero_mul, Nat.zero_add, Nat.reduceAdd] at hx50_2)
               (try rw [show ((0 : Int)).toNat = 0 from rfl] at hf50_2)
               (try simp only [Nat.reduceMul, Nat.zero_mul, Nat.zero_add, Nat.reduceAdd] at hf50_2)
               replace p50 := eq_true p50
               replace q50 := eq_true q50
               obtain ⟨ce53, hcl53, hM53, hcc53, hfr53⟩ := Kd.R_elem HO_5.out z45 (0 : Int) (by omega) (by have h_ : (0 : Int) < ((x5_1.length : Int) : Int) := dt_; first | exact h_ | (have e_ := (Kd.R_reads' HO_5.out).1; omega) | simpa using h_)
               obtain rfl := k45_openM hM53
               have HP53 := (Kd.R_seg HO_5.out (0 : Int) (by omega) (by have h_ : (0 : Int) < ((x5_1.length : Int) : Int) := dt_; first | exact h_ | (have e_ := (Kd.R_reads' HO_5.out).1; omega) | simpa using h_) (seg := [.string (((rd_T45 x5_1 0).f2) ++ ((rd_T93 l0 x7_1).f1))]) (j := 2) hcl53 hcc53 (show 3 ≤ 3 from by decide) (x' := (⟨(rd_T45 x5_1 0).f0, (rd_T45 x5_1 0).f1, ((rd_T45 x5_1 0).f2) ++ ((rd_T93 l0 x7_1).f1)⟩ : S45)) (k45_mkM _ _ _ (⟨(rd_T45 x5_1 0).f0, (rd_T45 x5_1 0).f1, ((rd_T45 x5_1 0).f2) ++ ((rd_T93 l0 x7_1).f1)⟩ : S45) ) (fun _ hk => hk)).1
               rw [← Ny378.out] at HP53
               have HQ53 := Aside0.mk HP53
               clear hcl53 hcc53 hfr53 HP53; (try clear hM53)
               refine start_ (n := 14) (S := fun w' => w'.cell? ⟨go50, 0, none⟩ = some (.int .i64 ((rd_T45 x5_1 0).f0)) ∧ w'.cell? ⟨go50, 1, none⟩ = some (.int .i64 ((rd_T45 x5_1 0).f1)) ∧ w'.cell? ⟨go50, 2, none⟩ = some (.string ((rd_T45 x5_1 0).f2)) ∧ w'.cell? (ad357.add ((x7_1).toNat * 2)) = some (.int .i64 ((rd_T93 l0 x7_1).f0)) ∧ w'.cell? ⟨(ad357.add ((x7_1).toNat * 2)).block, (ad357.add ((x7_1).toNat * 2)).off + 1, none⟩ = some (.string ((rd_T93 l0 x7_1).f1))) (ds := [13]) #[false, false, false, false, false, false, false, false, false, false, false, false, false, false] (by kernel_rfl) rfl rfl ⟨hx376_0, hx376_1, hx376_2, ((HB.out.cell (World.block_lt_of_cell? w _ hw377_0)).trans hw377_0), ((HB.out.cell (World.block_lt_of_cell? w _ hw377_1)).trans hw377_1)⟩ (fun hHeld => ?_); refine with_tabW foolscapref32_Changes.tab17 foolscapref32_Changes.bits17 (fun HT_ HW_ => ?_)
               generalize wc.drew = w51 at HO_5 HB GG50 HQ53 hf50_0 hf50_1 hf50_2 hx376_0 hx376_1 hx376_2 hx377_0 hx377_1 hx50_0 hx50_1 hx50_2 hHeld ⊢
               refine pure_ (i := 0) (N := some 69) (v := ?_) (a' := ?_) #[true, false, false, false, false, false, false, false, false, false, false, false, false, false] rfl rfl (any_of HT_.out (by kernel_rfl)) (fun _ _ _ h => h) (Or.inl ⟨by rfl, ?_⟩) ?_ ?_
               rotate_left
               ·intro w'
                go_simp
                with_reducible rfl
               rotate_left
               ·simp only [Act.put, List.setIfInBounds_toArray, List.set_cons_zero, List.set_cons_succ, i64_w, i32_w]
                rfl
               refine pure_ (i := 1) (N := some 70) (v := ?_) (a' := ?_) #[true, true, false, false, false, false, false, false, false, false, false, false, false, false] rfl rfl (any_of HT_.out (by kernel_rfl)) (fun _ _ _ h => h) (Or.inl ⟨by rfl, ?_⟩) ?_ ?_
               rotate_left
               ·intro w'
                go_simp
                with_reducible rfl
               rotate_left
               ·simp only [Act.put, List.setIfInBounds_toArray, List.set_cons_zero, List.set_cons_succ, i64_w, i32_w]
                rfl
               refine pure_ (i := 2) (N := some 71) (v := ?_) (a' := ?_) #[true, true, true, false, false, false, false, false, false, false, false, false, false, false] rfl rfl (any_of HT_.out (by kernel_rfl)) (fun _ _ _ h => h) (Or.inl ⟨by rfl, ?_⟩) ?_ ?_
               rotate_left
               ·intro w'
                go_simp
                with_reducible rfl
               rotate_left
               ·simp only [Act.put, List.setIfInBounds_toArray, List.set_cons_zero, List.set_cons_succ, i64_w, i32_w]
                rfl
               refine pure_ (i := 3) (N := some 72) (v := ?_) (a' := ?_) #[true, true, true, true, false, false, false, false, false, false, false, false, false, false] rfl rfl (any_of HT_.out (by kernel_rfl)) (fun _ _ _ h => h) (Or.inl ⟨by rfl, ?_⟩) ?_ ?_
               rotate_left
               ·intro w'
                go_simp
                with_reducible rfl
               rotate_left
               ·simp only [Act.put, List.setIfInBounds_toArray, List.set_cons_zero, List.set_cons_succ, i64_w, i32_w]
                rfl
               refine pure_ (i := 5) (N := some 74) (v := ?_) (a' := ?_) #[true, true, true, true, false, true, false, false, false, false, false, false, false, false] rfl rfl (any_of HT_.out (by kernel_rfl)) (fun _ _ _ h => h) (Or.inl ⟨by rfl, ?_⟩) ?_ ?_
               rotate_left
               ·intro w'
                go_simp
                with_reducible rfl
               rotate_left
               ·simp only [Act.put, List.setIfInBounds_toArray, List.set_cons_zero, List.set_cons_succ, i64_w, i32_w]
                rfl
               refine pure_ (i := 6) (N := some 75) (v := ?_) (a' := ?_) #[true, true, true, true, false, true, true, false, false, false, false, false, false, false] rfl rfl (any_of HT_.out (by kernel_rfl)) (fun _ _ _ h => h) (Or.inl ⟨by rfl, ?_⟩) ?_ ?_
               rotate_left
               ·intro w'
                go_simp
                with_reducible rfl
               rotate_left
               ·simp only [Act.put, List.setIfInBounds_toArray, List.set_cons_zero, List.set_cons_succ, i64_w, i32_w]
                rfl
               refine pure_ (i := 7) (N := some 76) (v := ?_) (a' := ?_) #[true, true, true, true, false, true, true, true, false, false, false, false, false, false] rfl rfl (any_of HT_.out (by kernel_rfl)) (fun _ _ _ h => h) (Or.inl ⟨by rfl, ?_⟩) ?_ ?_
               rotate_left
               ·intro w'
                go_simp
                with_reducible rfl
               rotate_left
               ·simp only [Act.put, List.setIfInBounds_toArray, List.set_cons_zero, List.set_cons_succ, i64_w, i32_w]
                rfl
               refine pure_ (i := 8) (N := some 77) (v := ?_) (a' := ?_) #[true, true, true, true, false, true, true, true, true, false, false, false, false, false] rfl rfl (any_of HT_.out (by kernel_rfl)) (fun _ _ _ h => h) (Or.inl ⟨by rfl, ?_⟩) ?_ ?_
               rotate_left
               ·intro w'
                go_simp
                with_reducible rfl
               rotate_left
               ·simp only [Act.put, List.setIfInBounds_toArray, List.set_cons_zero, List.set_cons_succ, i64_w, i32_w]
                rfl
               refine take_ (i := 4) (N := some 73) (v := ?_) (a' := ?_) #[true, true, true, true, true, true, true, true, true, false, false, false, false, false] rfl rfl (take_ofW HT_.out HW_.out (by kernel_rfl)) (fun _ _ _ h => h) (Or.inl ⟨by rfl, ?_⟩) hHeld ?_ ?_
               rotate_left
               ·rintro w' ⟨s0, s1, s2, s3, s4⟩
                go_simp
                with_reducible rfl
               rotate_left
               ·simp only [Act.put, List.setIfInBounds_toArray, List.set_cons_zero, List.set_cons_succ, i64_w, i32_w]
                rfl
               refine take_ (i := 9) (N := some 78) (v := ?_) (a' := ?_) #[true, true, true, true, true, true, true, true, true, true, false, false, false, false] rfl rfl (take_ofW HT_.out HW_.out (by kernel_rfl)) (fun _ _ _ h => h) (Or.inl ⟨by rfl, ?_⟩) hHeld ?_ ?_
               rotate_left
               ·rintro w' ⟨s0, s1, s2, s3, s4⟩
                go_simp
                with_reducible rfl
               rotate_left
               ·simp only [Act.put, List.setIfInBounds_toArray, List.set_cons_zero, List.set_cons_succ, i64_w, i32_w]
                rfl
               refine pure_ (i := 10) (N := some 79) (v := ?_) (a' := ?_) #[true, true, true, true, true, true, true, true, true, true, true, false, false, false] rfl rfl (any_of HT_.out (by kernel_rfl)) (fun _ _ _ h => h) (Or.inl ⟨by rfl, ?_⟩) ?_ ?_
               rotate_left
               ·intro w'
                go_simp
                with_reducible rfl
               rotate_left
               ·simp only [Act.put, List.setIfInBounds_toArray, List.set_cons_zero, List.set_cons_succ, i64_w, i32_w]
                rfl
               refine pure_ (i := 11) (N := some 80) (v := ?_) (a' := ?_) #[true, true, true, true, true, true, true, true, true, true, true, true, false, false] rfl rfl (any_of HT_.out (by kernel_rfl)) (fun _ _ _ h => h) (Or.inl ⟨by rfl, ?_⟩) ?_ ?_
               rotate_left
               ·intro w'
                go_simp
                with_reducible rfl
               rotate_left
               ·simp only [Act.put, List.setIfInBounds_toArray, List.set_cons_zero, List.set_cons_succ, i64_w, i32_w]
                rfl
               refine pure_ (i := 12) (N := some 81) (v := ?_) (a' := ?_) #[true, true, true, true, true, true, true, true, true, true, true, true, true, false] rfl rfl (any_of HT_.out (by kernel_rfl)) (fun _ _ _ h => h) (Or.inl ⟨by rfl, ?_⟩) ?_ ?_
               rotate_left
               ·intro w'
                go_simp
                with_reducible rfl
               rotate_left
               ·simp only [Act.put, List.setIfInBounds_toArray, List.set_cons_zero, List.set_cons_succ, i64_w, i32_w]
                rfl
               refine last_ (i := 13) (N := none) #[true, true, true, true, true, true, true, true, true, true, true, true, true, true] rfl rfl (one_of HT_.out (by kernel_rfl)) (by decide) (fun K hK => ?_)
               refine skip_ (w1 := ?_) (by rfl) rfl ?_ ?_
               rotate_left
               ·go_simp
                rfl
               refine hK.out _ _ ?_
               clear hK K
               refine done_ (done_of HT_.out (by kernel_rfl)) ?_
               try go_wp2
               go_roundg kj9
               case measure => have := HK1.out; have := HJ9.out; omega
               case rel => exact ⟨(y378), (x6_1), (wrap64 (x7_1 + 1)), (by first | rfl | (simp; done) | (simp [*]; done)), (by first | rfl | (simp; done) | (simp [*]; done)), H', ⟨by have := HK1.out; have := HJ9.out; omega⟩, ⟨by (with_reducible repeat (first | apply Kd.R_alloc | apply Kd.R_drewN | apply Kd.R_drew)); exact HQ53.out⟩, ⟨by repeat (first | (with_reducible first | exact HB.out | apply below_alloc | apply pw_below_drewN | apply below_drew1 | refine below_set ?_ GB50.out) | exact HB.out)⟩⟩
              ·rw [if_neg c49] at H
               exact absurd H (by simp)
             ·rw [if_neg c48] at H
              exact absurd H (by simp)
           ·rw [if_neg c41] at H
            exact absurd H (by simp)
          ·rw [if_neg c40] at H
           exact absurd H (by simp)
     ·rw [if_neg c6] at H
      exact absurd H (by simp)
    ·rw [if_neg c5] at H
     have c5b0 : decide (x7_1 < (l0.length : Int)) = false := decide_eq_false c5
     clear c5
     simp only [Option.some.injEq, Prod.mk.injEq] at H
     obtain ⟨rfl, rfl⟩ := H
     go_wp2
     go_ret2
     exact ⟨_, by first | rfl | (simp [errW_none, errW_some] <;> rfl) | (simp [*, errW_none, errW_some] <;> rfl), by (with_reducible repeat (first | apply Kd.R_alloc | apply Kd.R_drewN | apply Kd.R_drew)); exact HO_5.out, hb0_ HB⟩
 ·rw [if_neg c3] at H
  have c3b0 : (t356 == 0) = false := beq_eq_false_iff_ne.mpr c3
  have c3b1 : (t356 != 0) = true := bne_iff_ne.mpr c3
  simp only [Option.some.injEq, Prod.mk.injEq] at H
  obtain ⟨rfl, rfl⟩ := H
  go_enter Tryd.func34, Tryd.ntmps34
  go_wp2_with (first | ((with_reducible refine gate_callee (f := 52) rfl ?_); refine goesL_ (some 10) rfl rfl Tryd.func52 (by kernel_rfl) rfl #[.slice A0 l0.length c0] rfl (by (try simp only [List.map_toArray, List.map_cons, List.map_nil]); first | done | rfl | (simp only [List.length_drop, List.length_take]; rfl)) ?_; (with_reducible refine (foolscapref32_asked.calls k _ _ l0 t356 _ ?side1 ?side2 A2.out).mono ?_); (case side1 => repeat (first | exact HR0.out | (with_reducible refine Kd.C_alloc ?_ _) | (with_reducible refine Kd.C_drewN ?_ _) | (with_reducible refine Kd.C_drew ?_))); (case side2 => exact HC0.out); rintro e w54 ⟨rfl, hb⟩; refine ⟨_, rfl, ?_⟩; have n0_ := Aside0.mk (below_step (hb0_ HB) hb); clear HB; have HB := n0_; clear n0_; (try clear hb); (try clear hb2); (try clear hk); (try clear hi)))
  go_ret2
  exact ⟨_, by first | rfl | (simp [errW_none, errW_some] <;> rfl) | (simp [*, errW_none, errW_some] <;> rfl), by first | exact Kd.R_nil _ _ _ _ _ | exact Kd.N_nil _ _ _ _ _ | exact Kd.V_nil _ _ _ _ _ | exact Kd.Q_nil _ _ _ _ _ | exact Kd.S_nil _ _ _ _ _, hb0_ HB⟩

end Go.Proofs.YtabhfloclcmjnaaDoor.P
