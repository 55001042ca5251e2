/- Printed by a program of this session (wip/xprint) over the kit's print: functions of the seat and what they come to, with their proofs. Conditions: as typed. -/
import Derived.Test.YtabhfloclcmjnaaDoorPx0
import Derived.Test.YtabhfloclcmjnaaDoorSplit
import Derived.Test.YtabhfloclcmjnaaDoorPx4
namespace Go.Proofs.YtabhfloclcmjnaaDoor.P
open Go.RowKit Go.Proofs.YtabhfloclcmjnaaDoor.X Go.Proofs.YtabhfloclcmjnaaDoorW.PrintWords Go.Proofs.YtabhfloclcmjnaaDoorW.PrintLast Go.Proofs.YtabhfloclcmjnaaDoorW.PrintMore
attribute [local go_sem] max2_int min2_int max_two min_two max_three min_three max_four min_four   -- for this text's walks alone
set_option linter.unusedVariables false
set_option linter.unusedSimpArgs false

attribute [local go_sem high] eqA40
/-! ### diff_Cost: function 21 -/
def diff_Cost.l0 : Nat → Int → List (S40) → Int → Int → Option (Int)
 | 0, _, _, _, _ => none
 | k + 1, x3, x6, x7, x8 => if x8 < x7 then (if 0 ≤ x8 then (if x8 < (x6.length : Int) then (if ((rd_T40 x6 x8).f0) = 1 then ((runes_Len.f ((rd_T40 x6 x8).f1)).bind fun t139 => (diff_Cost.l0 k (wrap64 (x3 + (mx 0 t139))) x6 x7 (wrap64 (x8 + 1)))) else (if ((rd_T40 x6 x8).f0) = 2 then ((runes_Len.f ((rd_T40 x6 x8).f1)).bind fun t140 => (diff_Cost.l0 k (wrap64 (x3 + (mx 0 t140))) x6 x7 (wrap64 (x8 + 1)))) else (diff_Cost.l0 k x3 x6 x7 (wrap64 (x8 + 1))))) else (none)) else (none)) else (some x3)
def diff_Cost.f (k : Nat) (l0 : List (S40)) : Option (Int) := diff_Cost.l0 k 0 l0 (l0.length : Int) 0
theorem diff_Cost.mono_l : ∀ k, (∀ y0 y1 y2 y3, LeO (diff_Cost.l0 k y0 y1 y2 y3) (diff_Cost.l0 (k + 1) y0 y1 y2 y3))
 | 0 => fun _ _ _ _ r h => by simp [diff_Cost.l0] at h
 | k + 1 => by
  have ih0 := diff_Cost.mono_l k
  ·intro y0 y1 y2 y3
   unfold diff_Cost.l0
   repeat' first
   | (with_reducible exact ih0 _ _ _ _)
   | (with_reducible exact LeO.refl _)
   | (with_reducible exact LeO.none _)
   | (with_reducible refine LeO.ite ?_ ?_)
   | (with_reducible refine LeO.bind ?_ (fun _ => ?_))
   | exact ih0 _ _ _ _
   | exact LeO.none _
   | refine LeO.ite ?_ ?_
   | refine LeO.bind ?_ (fun _ => ?_)
theorem diff_Cost.mono : ∀ a0 k, LeO (diff_Cost.f k a0) (diff_Cost.f (k + 1) a0) := by
 intro a0 k
 have ih0 := diff_Cost.mono_l k
 unfold diff_Cost.f
 repeat' first
   | (with_reducible exact ih0 _ _ _ _)
   | (with_reducible exact LeO.refl _)
   | (with_reducible exact LeO.none _)
   | (with_reducible refine LeO.ite ?_ ?_)
   | (with_reducible refine LeO.bind ?_ (fun _ => ?_))
   | exact ih0 _ _ _ _
   | exact LeO.none _
   | refine LeO.ite ?_ ?_
   | refine LeO.bind ?_ (fun _ => ?_)
set_option maxHeartbeats 8000000 in
set_option maxRecDepth 100000 in
theorem diff_Cost.calls (k : Nat) (A0 : Option Addr) (c0 : Nat) (l0 : List (S40)) (r : Int) (w : World) (hT : Aside0 (XAmb w)) (hr0 : Kd.C k40 w A0 l0.length l0) (hc0 : l0.length ≤ c0) (h : diff_Cost.f k l0 = some r) :
  Calls Tryd.prog 21 #[.slice A0 l0.length c0] w fun e w' => e = .returned (.int .i64 r) ∧ Below w.heap.size w w' := by
 have hu40 := Tryd.underlying40
 have HR0 := Aside0.mk hr0
 have HC0 := Aside0.mk hc0
 clear hr0 hc0
 have HB := Aside0.mk (Below.refl w.heap.size w)
 have H : (diff_Cost.l0 k 0 l0 (l0.length : Int) 0) = some r := h
 clear h
 have H' := Aside0.mk H
 clear H
 go_enter Tryd.func21, Tryd.ntmps21
 go_wp2
 go_loopg [3, 8] k (fun kq v3 v8 w' => ∃ (x3_1 : Int) (x8_1 : Int), v3 = .int .i64 x3_1 ∧ v8 = .int .i64 x8_1 ∧ Aside0 (diff_Cost.l0 kq x3_1 l0 (l0.length : Int) x8_1 = some r) ∧ Aside0 (kq ≤ k) ∧ Aside0 (Below w.heap.size w w'))
 case atStart => exact ⟨(0), (0), (by first | rfl | (simp; done) | (simp [*]; done)), (by first | rfl | (simp; done) | (simp [*]; done)), H', ⟨Nat.le_refl _⟩, ⟨hb0_ HB⟩⟩
 case round =>
  clear H'
  obtain ⟨x3_1, x8_1, rfl, rfl, HA, HK1, HB⟩ := hrel
  cases gk with
  | zero => exact absurd HA.out (by simp [diff_Cost.l0])
  | succ k1 =>
   have H := HA.out
   clear HA
   simp only [diff_Cost.l0] at H
   by_cases c2 : x8_1 < (l0.length : Int)
   ·rw [if_pos c2] at H
    have c2b0 : decide (x8_1 < (l0.length : Int)) = true := decide_eq_true c2
    clear c2
    by_cases c3 : 0 ≤ x8_1
    ·rw [if_pos c3] at H
     have c3b0 : decide (0 ≤ x8_1) = true := decide_eq_true c3
     clear c3
     by_cases c4 : x8_1 < (l0.length : Int)
     ·rw [if_pos c4] at H
      have c4b0 : decide (x8_1 < (l0.length : Int)) = true := decide_eq_true c4
      clear c4
      by_cases c5 : ((rd_T40 l0 x8_1).f0) = 1
      ·rw [if_pos c5] at H
       have c5b0 : (((rd_T40 l0 x8_1).f0) == 1) = true := beq_iff_eq.mpr c5
       have c5b1 : (((rd_T40 l0 x8_1).f0) != 1) = false := bne_eq_false_iff_eq.mpr c5
       clear c5
       replace H := Option.bind_eq_some_iff.mp H
       obtain ⟨t139, A60, H⟩ := H
       replace H : (diff_Cost.l0 k1 (wrap64 (x3_1 + (mx 0 t139))) l0 (l0.length : Int) (wrap64 (x8_1 + 1))) = some r := H
       have A6 := Aside0.mk A60
       clear A60
       obtain ⟨ji7, hji7⟩ : ∃ j_ : Int, (mx 0 t139) = j_ := ⟨_, rfl⟩
       replace H : (diff_Cost.l0 k1 (wrap64 (x3_1 + (ji7))) l0 (l0.length : Int) (wrap64 (x8_1 + 1))) = some r := by first | (rw [hji7] at H; exact H) | (simp only [hji7] at H ⊢; exact H)
       (try rw [hji7] at A6)
       (try (have hji7l : 0 ≤ ji7 := by (rw [← hji7]; unfold mx; (repeat' split) <;> omega)))
       (try (have hji7m : 0 ≤ ji7 := by omega))
       have hji7_ : (if 0 < t139 then t139 else 0) = ji7 := hji7
       have H' := Aside0.mk H
       clear H
       have p137 : 0 ≤ (x8_1 : Int) := dt_
       have q137 : x8_1 < (l0.length : Int) := dt_
       obtain ⟨ad137, e137, hx137_0, hx137_1⟩ := at_T40 HR0.out x8_1 p137 q137
       cases e137
       replace hx137_0 := (HB.out.cell (World.block_lt_of_cell? w _ hx137_0)).trans hx137_0
       replace hx137_1 := (HB.out.cell (World.block_lt_of_cell? w _ hx137_1)).trans hx137_1
       replace p137 := eq_true p137
       replace q137 := eq_true q137
       go_wp2_with (first | ((with_reducible refine gate_dst (N := 5) rfl ?_); refine box_event ?hg (N := 5) ?hd (cs := #[.int .i64 0, .string (⟨#[]⟩ : ByteArray)]) (t := 40) ?hr ?_; (case hd => rfl); (case hg => rfl); (case hr => first | (go_simp; done) | (go_simp; rfl)); intro gb138 hg w8 hbox hb; have n0_ := Aside0.mk (below_step (hb0_ HB) hb); have n1_ := Aside0.mk (hbox); have n2_ := Aside0.mk ((by rw [hg]; exact (below_size (hb0_ HB)) : w.heap.size ≤ gb138)); have n3_ := Aside0.mk ((by rw [hg]; exact (below_size (hb0_ HB)) : w.heap.size ≤ gb138)); clear HB; have HB := n0_; have BK138 := n1_; have GW138 := n2_; have GE138 := n3_; clear n0_ n1_ n2_ n3_; clear hb hbox hg; have hcz9_0 : w8.cell? ⟨gb138, 0, none⟩ = some (.int .i64 0) := (blk_cell BK138.out 0).trans rfl; have hcz9_1 : w8.cell? ⟨gb138, 1, none⟩ = some (.string (⟨#[]⟩ : ByteArray)) := (blk_cell BK138.out 1).trans rfl; have hfz9_0 := blk_frozen BK138.out 0; have hfz9_1 := blk_frozen BK138.out 1) | ((with_reducible refine gate_callee (f := 43) rfl ?_); refine goesL_ (some 23) rfl rfl Tryd.func43 (by kernel_rfl) rfl #[.string ((rd_T40 l0 x8_1).f1)] rfl (by (try simp only [List.map_toArray, List.map_cons, List.map_nil]); first | done | rfl | (simp only [List.length_drop, List.length_take]; rfl)) ?_; (with_reducible refine (runes_Len.calls ((rd_T40 l0 x8_1).f1) t139 _ ?side1 A6.out).mono ?_); (case side1 => exact XAmb_step hT (hb1_ HB GE138)); rintro e w10 ⟨rfl, hb⟩; refine ⟨_, rfl, ?_⟩; have n0_ := Aside0.mk (blk_below (g := gb138) (o := .cells #[.int .i64 ((rd_T40 l0 x8_1).f0), .string ((rd_T40 l0 x8_1).f1)] 40 (0, 0)) (by (with_reducible repeat (first | refine blk_drewN ?_ _ | refine blk_drew ?_ | refine blk_alloc ?_ _)); refine blk_put (cs := #[.int .i64 ((rd_T40 l0 x8_1).f0), .string (⟨#[]⟩ : ByteArray)]) ?_ 1 _ rfl; (with_reducible repeat (first | refine blk_drewN ?_ _ | refine blk_drew ?_ | refine blk_alloc ?_ _)); refine blk_put (cs := #[.int .i64 0, .string (⟨#[]⟩ : ByteArray)]) ?_ 0 _ rfl; (with_reducible repeat (first | refine blk_drewN ?_ _ | refine blk_drew ?_ | refine blk_alloc ?_ _)); exact BK138.out) hb); have n1_ := Aside0.mk (below_step (hb1_ HB GE138) hb); clear BK138; clear HB; have BK138 := n0_; have HB := n1_; clear n0_ n1_; (try clear hb); (try clear hb2); (try clear hk); (try clear hi)))
       go_roundg k1
       case measure => have := HK1.out; omega
       case rel => exact ⟨(wrap64 (x3_1 + (ji7))), (wrap64 (x8_1 + 1)), (by first | rfl | (simp; done) | (simp only [← hji7] <;> (first | rfl | simp)) | (simp [*]; done)), (by first | rfl | (simp; done) | (simp [*]; done)), H', ⟨by have := HK1.out; omega⟩, ⟨by repeat (first | (with_reducible first | exact HB.out | apply below_alloc | apply pw_below_drewN | apply below_drew1 | refine below_set ?_ GE138.out) | exact HB.out)⟩⟩
      ·rw [if_neg c5] at H
       have c5b0 : (((rd_T40 l0 x8_1).f0) == 1) = false := beq_eq_false_iff_ne.mpr c5
       have c5b1 : (((rd_T40 l0 x8_1).f0) != 1) = true := bne_iff_ne.mpr c5
       by_cases c11 : ((rd_T40 l0 x8_1).f0) = 2
       ·rw [if_pos c11] at H
        have c11b0 : (((rd_T40 l0 x8_1).f0) == 2) = true := beq_iff_eq.mpr c11
        have c11b1 : (((rd_T40 l0 x8_1).f0) != 2) = false := bne_eq_false_iff_eq.mpr c11
        clear c11
        replace H := Option.bind_eq_some_iff.mp H
        obtain ⟨t140, A120, H⟩ := H
        replace H : (diff_Cost.l0 k1 (wrap64 (x3_1 + (mx 0 t140))) l0 (l0.length : Int) (wrap64 (x8_1 + 1))) = some r := H
        have A12 := Aside0.mk A120
        clear A120
        obtain ⟨ji13, hji13⟩ : ∃ j_ : Int, (mx 0 t140) = j_ := ⟨_, rfl⟩
        replace H : (diff_Cost.l0 k1 (wrap64 (x3_1 + (ji13))) l0 (l0.length : Int) (wrap64 (x8_1 + 1))) = some r := by first | (rw [hji13] at H; exact H) | (simp only [hji13] at H ⊢; exact H)
        (try rw [hji13] at A12)
        (try (have hji13l : 0 ≤ ji13 := by (rw [← hji13]; unfold mx; (repeat' split) <;> omega)))
        (try (have hji13m : 0 ≤ ji13 := by omega))
        have hji13_ : (if 0 < t140 then t140 else 0) = ji13 := hji13
        have H' := Aside0.mk H
        clear H
        have p137 : 0 ≤ (x8_1 : Int) := dt_
        have q137 : x8_1 < (l0.length : Int) := dt_
        obtain ⟨ad137, e137, hx137_0, hx137_1⟩ := at_T40 HR0.out x8_1 p137 q137
        cases e137
        replace hx137_0 := (HB.out.cell (World.block_lt_of_cell? w _ hx137_0)).trans hx137_0
        replace hx137_1 := (HB.out.cell (World.block_lt_of_cell? w _ hx137_1)).trans hx137_1
        replace p137 := eq_true p137
        replace q137 := eq_true q137
        go_wp2_with (first | ((with_reducible refine gate_dst (N := 5) rfl ?_); refine box_event ?hg (N := 5) ?hd (cs := #[.int .i64 0, .string (⟨#[]⟩ : ByteArray)]) (t := 40) ?hr ?_; (case hd => rfl); (case hg => rfl); (case hr => first | (go_simp; done) | (go_simp; rfl)); intro gb138 hg w14 hbox hb; have n0_ := Aside0.mk (below_step (hb0_ HB) hb); have n1_ := Aside0.mk (hbox); have n2_ := Aside0.mk ((by rw [hg]; exact (below_size (hb0_ HB)) : w.heap.size ≤ gb138)); have n3_ := Aside0.mk ((by rw [hg]; exact (below_size (hb0_ HB)) : w.heap.size ≤ gb138)); clear HB; have HB := n0_; have BK138 := n1_; have GW138 := n2_; have GE138 := n3_; clear n0_ n1_ n2_ n3_; clear hb hbox hg; have hcz15_0 : w14.cell? ⟨gb138, 0, none⟩ = some (.int .i64 0) := (blk_cell BK138.out 0).trans rfl; have hcz15_1 : w14.cell? ⟨gb138, 1, none⟩ = some (.string (⟨#[]⟩ : ByteArray)) := (blk_cell BK138.out 1).trans rfl; have hfz15_0 := blk_frozen BK138.out 0; have hfz15_1 := blk_frozen BK138.out 1) | ((with_reducible refine gate_callee (f := 43) rfl ?_); refine goesL_ (some 23) rfl rfl Tryd.func43 (by kernel_rfl) rfl #[.string ((rd_T40 l0 x8_1).f1)] rfl (by (try simp only [List.map_toArray, List.map_cons, List.map_nil]); first | done | rfl | (simp only [List.length_drop, List.length_take]; rfl)) ?_; (with_reducible refine (runes_Len.calls ((rd_T40 l0 x8_1).f1) t140 _ ?side1 A12.out).mono ?_); (case side1 => exact XAmb_step hT (hb1_ HB GE138)); rintro e w16 ⟨rfl, hb⟩; refine ⟨_, rfl, ?_⟩; have n0_ := Aside0.mk (blk_below (g := gb138) (o := .cells #[.int .i64 ((rd_T40 l0 x8_1).f0), .string ((rd_T40 l0 x8_1).f1)] 40 (0, 0)) (by (with_reducible repeat (first | refine blk_drewN ?_ _ | refine blk_drew ?_ | refine blk_alloc ?_ _)); refine blk_put (cs := #[.int .i64 ((rd_T40 l0 x8_1).f0), .string (⟨#[]⟩ : ByteArray)]) ?_ 1 _ rfl; (with_reducible repeat (first | refine blk_drewN ?_ _ | refine blk_drew ?_ | refine blk_alloc ?_ _)); refine blk_put (cs := #[.int .i64 0, .string (⟨#[]⟩ : ByteArray)]) ?_ 0 _ rfl; (with_reducible repeat (first | refine blk_drewN ?_ _ | refine blk_drew ?_ | refine blk_alloc ?_ _)); exact BK138.out) hb); have n1_ := Aside0.mk (below_step (hb1_ HB GE138) hb); clear BK138; clear HB; have BK138 := n0_; have HB := n1_; clear n0_ n1_; (try clear hb); (try clear hb2); (try clear hk); (try clear hi)))
        go_roundg k1
        case measure => have := HK1.out; omega
        case rel => exact ⟨(wrap64 (x3_1 + (ji13))), (wrap64 (x8_1 + 1)), (by first | rfl | (simp; done) | (simp only [← hji13] <;> (first | rfl | simp)) | (simp [*]; done)), (by first | rfl | (simp; done) | (simp [*]; done)), H', ⟨by have := HK1.out; omega⟩, ⟨by repeat (first | (with_reducible first | exact HB.out | apply below_alloc | apply pw_below_drewN | apply below_drew1 | refine below_set ?_ GE138.out) | exact HB.out)⟩⟩
       ·rw [if_neg c11] at H
        have c11b0 : (((rd_T40 l0 x8_1).f0) == 2) = false := beq_eq_false_iff_ne.mpr c11
        have c11b1 : (((rd_T40 l0 x8_1).f0) != 2) = true := bne_iff_ne.mpr c11
        have H' := Aside0.mk H
        clear H
        have p137 : 0 ≤ (x8_1 : Int) := dt_
        have q137 : x8_1 < (l0.length : Int) := dt_
        obtain ⟨ad137, e137, hx137_0, hx137_1⟩ := at_T40 HR0.out x8_1 p137 q137
        cases e137
        replace hx137_0 := (HB.out.cell (World.block_lt_of_cell? w _ hx137_0)).trans hx137_0
        replace hx137_1 := (HB.out.cell (World.block_lt_of_cell? w _ hx137_1)).trans hx137_1
        replace p137 := eq_true p137
        replace q137 := eq_true q137
        go_wp2_with (first | ((with_reducible refine gate_dst (N := 5) rfl ?_); refine box_event ?hg (N := 5) ?hd (cs := #[.int .i64 0, .string (⟨#[]⟩ : ByteArray)]) (t := 40) ?hr ?_; (case hd => rfl); (case hg => rfl); (case hr => first | (go_simp; done) | (go_simp; rfl)); intro gb138 hg w17 hbox hb; have n0_ := Aside0.mk (below_step (hb0_ HB) hb); have n1_ := Aside0.mk (hbox); have n2_ := Aside0.mk ((by rw [hg]; exact (below_size (hb0_ HB)) : w.heap.size ≤ gb138)); have n3_ := Aside0.mk ((by rw [hg]; exact (below_size (hb0_ HB)) : w.heap.size ≤ gb138)); clear HB; have HB := n0_; have BK138 := n1_; have GW138 := n2_; have GE138 := n3_; clear n0_ n1_ n2_ n3_; clear hb hbox hg; have hcz18_0 : w17.cell? ⟨gb138, 0, none⟩ = some (.int .i64 0) := (blk_cell BK138.out 0).trans rfl; have hcz18_1 : w17.cell? ⟨gb138, 1, none⟩ = some (.string (⟨#[]⟩ : ByteArray)) := (blk_cell BK138.out 1).trans rfl; have hfz18_0 := blk_frozen BK138.out 0; have hfz18_1 := blk_frozen BK138.out 1))
        go_roundg k1
        case measure => have := HK1.out; omega
        case rel => exact ⟨(x3_1), (wrap64 (x8_1 + 1)), (by first | rfl | (simp; done) | (simp [*]; done)), (by first | rfl | (simp; done) | (simp [*]; done)), H', ⟨by have := HK1.out; omega⟩, ⟨by repeat (first | (with_reducible first | exact HB.out | apply below_alloc | apply pw_below_drewN | apply below_drew1 | refine below_set ?_ GE138.out) | exact HB.out)⟩⟩
     ·rw [if_neg c4] at H
      exact absurd H (by simp)
    ·rw [if_neg c3] at H
     exact absurd H (by simp)
   ·rw [if_neg c2] at H
    have c2b0 : decide (x8_1 < (l0.length : Int)) = false := decide_eq_false c2
    clear c2
    obtain rfl := Option.some.inj H
    go_wp2
    go_ret
    exact ⟨by first | rfl | (simp [errW_none, errW_some] <;> rfl) | (simp [*, errW_none, errW_some] <;> rfl), hb0_ HB⟩

/-! ### foolscaplaw32_alive: function 19 -/
def foolscaplaw32_alive.f (k : Nat)  : Option (Bool) := (diff_Diff.f k (⟨#[97, 98, 99]⟩ : ByteArray) (⟨#[97, 120, 99]⟩ : ByteArray)).bind fun bt141 => (if bt141.2 = 0 then (if (bt141.1.length : Int) = 4 then (if 1 < (bt141.1.length : Int) then (if (((rd_T40 bt141.1 1).f0) == 2 && ((((rd_T40 bt141.1 1).f1).toList) == ([98] : List UInt8))) = true then (if 2 < (bt141.1.length : Int) then (if (((rd_T40 bt141.1 2).f0) == 1 && ((((rd_T40 bt141.1 2).f1).toList) == ([120] : List UInt8))) = true then ((diff_Cost.f k bt141.1).bind fun t147 => (some (t147 == 2))) else (some false)) else (none)) else (some false)) else (none)) else (some false)) else (some false))
theorem foolscaplaw32_alive.mono : ∀ k, LeO (foolscaplaw32_alive.f k ) (foolscaplaw32_alive.f (k + 1) ) := by
 intro  k
 unfold foolscaplaw32_alive.f
 repeat' first
   | (with_reducible exact diff_Cost.mono _ _)
   | (with_reducible exact diff_Diff.mono _ _ _)
   | (with_reducible exact LeO.refl _)
   | (with_reducible exact LeO.none _)
   | (with_reducible refine LeO.ite ?_ ?_)
   | (with_reducible refine LeO.bind ?_ (fun _ => ?_))
   | exact diff_Cost.mono _ _
   | exact diff_Diff.mono _ _ _
   | exact LeO.none _
   | refine LeO.ite ?_ ?_
   | refine LeO.bind ?_ (fun _ => ?_)
set_option maxHeartbeats 8000000 in
set_option maxRecDepth 100000 in
theorem foolscaplaw32_alive.calls (k : Nat)  (r : Bool) (w : World) (hT : Aside0 (XAmb w)) (h : foolscaplaw32_alive.f k  = some r) :
  Calls Tryd.prog 19 #[] w fun e w' => e = .returned (.bool r) ∧ Below w.heap.size w w' := by
 have hu40 := Tryd.underlying40
 have HB := Aside0.mk (Below.refl w.heap.size w)
 have H : ((diff_Diff.f k (⟨#[97, 98, 99]⟩ : ByteArray) (⟨#[97, 120, 99]⟩ : ByteArray)).bind fun bt141 => (if bt141.2 = 0 then (if (bt141.1.length : Int) = 4 then (if 1 < (bt141.1.length : Int) then (if (((rd_T40 bt141.1 1).f0) == 2 && ((((rd_T40 bt141.1 1).f1).toList) == ([98] : List UInt8))) = true then (if 2 < (bt141.1.length : Int) then (if (((rd_T40 bt141.1 2).f0) == 1 && ((((rd_T40 bt141.1 2).f1).toList) == ([120] : List UInt8))) = true then ((diff_Cost.f k bt141.1).bind fun t147 => (some (t147 == 2))) else (some false)) else (none)) else (some false)) else (none)) else (some false)) else (some false))) = some r := h
 clear h
 replace H := Option.bind_eq_some_iff.mp H
 obtain ⟨⟨t141, t142⟩, A10, H⟩ := H
 replace H : (if t142 = 0 then (if (t141.length : Int) = 4 then (if 1 < (t141.length : Int) then (if (((rd_T40 t141 1).f0) == 2 && ((((rd_T40 t141 1).f1).toList) == ([98] : List UInt8))) = true then (if 2 < (t141.length : Int) then (if (((rd_T40 t141 2).f0) == 1 && ((((rd_T40 t141 2).f1).toList) == ([120] : List UInt8))) = true then ((diff_Cost.f k t141).bind fun t147 => (some (t147 == 2))) else (some false)) else (none)) else (some false)) else (none)) else (some false)) else (some false)) = some r := H
 have A1 := Aside0.mk A10
 clear A10
 by_cases c2 : t142 = 0
 ·rw [if_pos c2] at H
  have c2b0 : (t142 == 0) = true := beq_iff_eq.mpr c2
  have c2b1 : (t142 != 0) = false := bne_eq_false_iff_eq.mpr c2
  clear c2
  by_cases c3 : (t141.length : Int) = 4
  ·rw [if_pos c3] at H
   have c3b0 : ((t141.length : Int) == 4) = true := beq_iff_eq.mpr c3
   have c3b1 : ((t141.length : Int) != 4) = false := bne_eq_false_iff_eq.mpr c3
   clear c3
   by_cases c4 : 1 < (t141.length : Int)
   ·rw [if_pos c4] at H
    have c4b0 : decide (1 < (t141.length : Int)) = true := decide_eq_true c4
    have c4b1 : decide (1 < t141.length) = true := decide_eq_true (by omega)
    clear c4
    by_cases c5 : (((rd_T40 t141 1).f0) == 2 && ((((rd_T40 t141 1).f1).toList) == ([98] : List UInt8))) = true
    ·rw [if_pos c5] at H
     have c5b0 : (((rd_T40 t141 1).f0) == 2 && ((((rd_T40 t141 1).f1).toList) == ([98] : List UInt8))) = true := c5
     (try (have c5b1 : decide (((rd_T40 t141 1).f0) = 2 && ((((rd_T40 t141 1).f1).toList) == ([98] : List UInt8))) = true := by simpa using c5))
     (try (have c5b2 : (((rd_T40 t141 1).f0) == 2 && ((((rd_T40 t141 1).f1).toList) == ([98] : List UInt8))) = true := by simpa using c5))
     clear c5
     by_cases c6 : 2 < (t141.length : Int)
     ·rw [if_pos c6] at H
      have c6b0 : decide (2 < (t141.length : Int)) = true := decide_eq_true c6
      have c6b1 : decide (2 < t141.length) = true := decide_eq_true (by omega)
      clear c6
      by_cases c7 : (((rd_T40 t141 2).f0) == 1 && ((((rd_T40 t141 2).f1).toList) == ([120] : List UInt8))) = true
      ·rw [if_pos c7] at H
       have c7b0 : (((rd_T40 t141 2).f0) == 1 && ((((rd_T40 t141 2).f1).toList) == ([120] : List UInt8))) = true := c7
       (try (have c7b1 : decide (((rd_T40 t141 2).f0) = 1 && ((((rd_T40 t141 2).f1).toList) == ([120] : List UInt8))) = true := by simpa using c7))
       (try (have c7b2 : (((rd_T40 t141 2).f0) == 1 && ((((rd_T40 t141 2).f1).toList) == ([120] : List UInt8))) = true := by simpa using c7))
       clear c7
       replace H := Option.bind_eq_some_iff.mp H
       obtain ⟨t147, A80, H⟩ := H
       replace H : (some (t147 == 2)) = some r := H
       have A8 := Aside0.mk A80
       clear A80
       obtain rfl := Option.some.inj H
       go_enter Tryd.func19, Tryd.ntmps19
       go_wp2_with (first | ((with_reducible refine gate_callee (f := 20) rfl ?_); refine goesL_ (some 4) rfl rfl Tryd.func20 (by kernel_rfl) rfl #[.string (⟨#[97, 98, 99]⟩ : ByteArray), .string (⟨#[97, 120, 99]⟩ : ByteArray)] rfl (by (try simp only [List.map_toArray, List.map_cons, List.map_nil]); first | done | rfl | (simp only [List.length_drop, List.length_take]; rfl)) ?_; (with_reducible refine (diff_Diff.calls k (⟨#[97, 98, 99]⟩ : ByteArray) (⟨#[97, 120, 99]⟩ : ByteArray) t141 t142 _ ?side1 A1.out).mono ?_); (case side1 => exact XAmb_step hT (hb0_ HB)); rintro e w9 ⟨v143, rfl, ho0, hb⟩; refine ⟨_, rfl, ?_⟩; have n0_ := Aside0.mk (Kd.R_lower ho0 (below_size (hb0_ HB))); have n1_ := Aside0.mk (below_step (hb0_ HB) hb); clear HB; have HO144 := n0_; have HB := n1_; clear n0_ n1_; (try clear hb); (try clear hb2); (try clear hk); (try clear hi); (try clear ho0); obtain ⟨Ao10, co10, eo10⟩ := Kd.R_slice HO144.out; subst eo10; have p145 : 0 ≤ (1 : Int) := (by omega); have q145 : 1 < (t141.length : Int) := dt_; obtain ⟨ad145, e145, hx145_0, hx145_1⟩ := at_T40 (Kd.R_reads' HO144.out).2.2 1 p145 q145; cases e145; (try simp only [show (1 : Int).toNat = 1 from rfl, Nat.reduceMul, Nat.reduceEqDiff, Go.Addr.add, ↓reduceIte] at hx145_0); (try simp only [show (1 : Int).toNat = 1 from rfl, Nat.reduceMul, Nat.reduceEqDiff, Go.Addr.add, ↓reduceIte] at hx145_1); have qi145 : (1 < t141.length) = True := eq_true (by omega); (try rw [show ((1 : Int)).toNat = 1 from rfl] at hx145_0); (try rw [show 1 * 2 = 2 from rfl] at hx145_0); (try rw [show ((1 : Int)).toNat = 1 from rfl] at hx145_1); (try rw [show 1 * 2 = 2 from rfl] at hx145_1); replace p145 := eq_true p145; replace q145 := eq_true q145; have p146 : 0 ≤ (2 : Int) := (by omega); have q146 : 2 < (t141.length : Int) := dt_; obtain ⟨ad146, e146, hx146_0, hx146_1⟩ := at_T40 (Kd.R_reads' HO144.out).2.2 2 p146 q146; obtain rfl : ad145 = ad146 := (by injection e146); (try simp only [show (2 : Int).toNat = 2 from rfl, Nat.reduceMul, Nat.reduceEqDiff, Go.Addr.add, ↓reduceIte] at hx146_0); (try simp only [show (2 : Int).toNat = 2 from rfl, Nat.reduceMul, Nat.reduceEqDiff, Go.Addr.add, ↓reduceIte] at hx146_1); have qi146 : (2 < t141.length) = True := eq_true (by omega); (try rw [show ((2 : Int)).toNat = 2 from rfl] at hx146_0); (try rw [show 2 * 2 = 4 from rfl] at hx146_0); (try rw [show ((2 : Int)).toNat = 2 from rfl] at hx146_1); (try rw [show 2 * 2 = 4 from rfl] at hx146_1); replace p146 := eq_true p146; replace q146 := eq_true q146) | (go_at_call 21; (with_reducible refine (diff_Cost.calls k _ _ t141 t147 _ ?side3 ?side1 ?side2 A8.out).mono ?_); (case side1 => repeat (first | exact (Kd.R_reads' HO144.out).2.2 | (with_reducible refine Kd.C_alloc ?_ _) | (with_reducible refine Kd.C_drewN ?_ _) | (with_reducible refine Kd.C_drew ?_))); (case side2 => exact (Kd.R_reads' HO144.out).2.1); (case side3 => exact XAmb_step hT (hb0_ HB)); rintro e w11 ⟨rfl, hb⟩; have n0_ := Aside0.mk (Kd.R_below (ro_ HO144) hb); have n1_ := Aside0.mk (below_step (hb0_ HB) hb); clear HO144; clear HB; have HO144 := n0_; have HB := n1_; clear n0_ n1_; (try clear hb); (try clear hb2); (try clear hk); (try clear hi)))
       go_ret
       exact ⟨by first | rfl | (simp [errW_none, errW_some] <;> rfl) | (simp [*, errW_none, errW_some] <;> rfl), hb0_ HB⟩
      ·rw [if_neg c7] at H
       have c7b0 : (((rd_T40 t141 2).f0) == 1 && ((((rd_T40 t141 2).f1).toList) == ([120] : List UInt8))) = false := by simpa using c7
       (try (have c7b1 : decide (((rd_T40 t141 2).f0) = 1 && ((((rd_T40 t141 2).f1).toList) == ([120] : List UInt8))) = false := by simpa using c7))
       (try (have c7b2 : (((rd_T40 t141 2).f0) == 1 && ((((rd_T40 t141 2).f1).toList) == ([120] : List UInt8))) = false := by simpa using c7))
       (try (have c7b3 : ¬ (((rd_T40 t141 2).f0) = 1 && ((((rd_T40 t141 2).f1).toList) == ([120] : List UInt8))) := by simpa using c7))
       clear c7
       obtain rfl := Option.some.inj H
       go_enter Tryd.func19, Tryd.ntmps19
       go_wp2_with (first | ((with_reducible refine gate_callee (f := 20) rfl ?_); refine goesL_ (some 4) rfl rfl Tryd.func20 (by kernel_rfl) rfl #[.string (⟨#[97, 98, 99]⟩ : ByteArray), .string (⟨#[97, 120, 99]⟩ : ByteArray)] rfl (by (try simp only [List.map_toArray, List.map_cons, List.map_nil]); first | done | rfl | (simp only [List.length_drop, List.length_take]; rfl)) ?_; (with_reducible refine (diff_Diff.calls k (⟨#[97, 98, 99]⟩ : ByteArray) (⟨#[97, 120, 99]⟩ : ByteArray) t141 t142 _ ?side1 A1.out).mono ?_); (case side1 => exact XAmb_step hT (hb0_ HB)); rintro e w12 ⟨v143, rfl, ho0, hb⟩; refine ⟨_, rfl, ?_⟩; have n0_ := Aside0.mk (Kd.R_lower ho0 (below_size (hb0_ HB))); have n1_ := Aside0.mk (below_step (hb0_ HB) hb); clear HB; have HO144 := n0_; have HB := n1_; clear n0_ n1_; (try clear hb); (try clear hb2); (try clear hk); (try clear hi); (try clear ho0); obtain ⟨Ao13, co13, eo13⟩ := Kd.R_slice HO144.out; subst eo13; have p145 : 0 ≤ (1 : Int) := (by omega); have q145 : 1 < (t141.length : Int) := dt_; obtain ⟨ad145, e145, hx145_0, hx145_1⟩ := at_T40 (Kd.R_reads' HO144.out).2.2 1 p145 q145; cases e145; (try simp only [show (1 : Int).toNat = 1 from rfl, Nat.reduceMul, Nat.reduceEqDiff, Go.Addr.add, ↓reduceIte] at hx145_0); (try simp only [show (1 : Int).toNat = 1 from rfl, Nat.reduceMul, Nat.reduceEqDiff, Go.Addr.add, ↓reduceIte] at hx145_1); have qi145 : (1 < t141.length) = True := eq_true (by omega); (try rw [show ((1 : Int)).toNat = 1 from rfl] at hx145_0); (try rw [show 1 * 2 = 2 from rfl] at hx145_0); (try rw [show ((1 : Int)).toNat = 1 from rfl] at hx145_1); (try rw [show 1 * 2 = 2 from rfl] at hx145_1); replace p145 := eq_true p145; replace q145 := eq_true q145; have p146 : 0 ≤ (2 : Int) := (by omega); have q146 : 2 < (t141.length : Int) := dt_; obtain ⟨ad146, e146, hx146_0, hx146_1⟩ := at_T40 (Kd.R_reads' HO144.out).2.2 2 p146 q146; obtain rfl : ad145 = ad146 := (by injection e146); (try simp only [show (2 : Int).toNat = 2 from rfl, Nat.reduceMul, Nat.reduceEqDiff, Go.Addr.add, ↓reduceIte] at hx146_0); (try simp only [show (2 : Int).toNat = 2 from rfl, Nat.reduceMul, Nat.reduceEqDiff, Go.Addr.add, ↓reduceIte] at hx146_1); have qi146 : (2 < t141.length) = True := eq_true (by omega); (try rw [show ((2 : Int)).toNat = 2 from rfl] at hx146_0); (try rw [show 2 * 2 = 4 from rfl] at hx146_0); (try rw [show ((2 : Int)).toNat = 2 from rfl] at hx146_1); (try rw [show 2 * 2 = 4 from rfl] at hx146_1); replace p146 := eq_true p146; replace q146 := eq_true q146))
       go_ret
       exact ⟨by first | rfl | (simp [errW_none, errW_some] <;> rfl) | (simp [*, errW_none, errW_some] <;> rfl), hb0_ HB⟩
     ·rw [if_neg c6] at H
      exact absurd H (by simp)
    ·rw [if_neg c5] at H
     have c5b0 : (((rd_T40 t141 1).f0) == 2 && ((((rd_T40 t141 1).f1).toList) == ([98] : List UInt8))) = false := by simpa using c5
     (try (have c5b1 : decide (((rd_T40 t141 1).f0) = 2 && ((((rd_T40 t141 1).f1).toList) == ([98] : List UInt8))) = false := by simpa using c5))
     (try (have c5b2 : (((rd_T40 t141 1).f0) == 2 && ((((rd_T40 t141 1).f1).toList) == ([98] : List UInt8))) = false := by simpa using c5))
     (try (have c5b3 : ¬ (((rd_T40 t141 1).f0) = 2 && ((((rd_T40 t141 1).f1).toList) == ([98] : List UInt8))) := by simpa using c5))
     clear c5
     obtain rfl := Option.some.inj H
     go_enter Tryd.func19, Tryd.ntmps19
     go_wp2_with (first | ((with_reducible refine gate_callee (f := 20) rfl ?_); refine goesL_ (some 4) rfl rfl Tryd.func20 (by kernel_rfl) rfl #[.string (⟨#[97, 98, 99]⟩ : ByteArray), .string (⟨#[97, 120, 99]⟩ : ByteArray)] rfl (by (try simp only [List.map_toArray, List.map_cons, List.map_nil]); first | done | rfl | (simp only [List.length_drop, List.length_take]; rfl)) ?_; (with_reducible refine (diff_Diff.calls k (⟨#[97, 98, 99]⟩ : ByteArray) (⟨#[97, 120, 99]⟩ : ByteArray) t141 t142 _ ?side1 A1.out).mono ?_); (case side1 => exact XAmb_step hT (hb0_ HB)); rintro e w14 ⟨v143, rfl, ho0, hb⟩; refine ⟨_, rfl, ?_⟩; have n0_ := Aside0.mk (Kd.R_lower ho0 (below_size (hb0_ HB))); have n1_ := Aside0.mk (below_step (hb0_ HB) hb); clear HB; have HO144 := n0_; have HB := n1_; clear n0_ n1_; (try clear hb); (try clear hb2); (try clear hk); (try clear hi); (try clear ho0); obtain ⟨Ao15, co15, eo15⟩ := Kd.R_slice HO144.out; subst eo15; have p145 : 0 ≤ (1 : Int) := (by omega); have q145 : 1 < (t141.length : Int) := dt_; obtain ⟨ad145, e145, hx145_0, hx145_1⟩ := at_T40 (Kd.R_reads' HO144.out).2.2 1 p145 q145; cases e145; (try simp only [show (1 : Int).toNat = 1 from rfl, Nat.reduceMul, Nat.reduceEqDiff, Go.Addr.add, ↓reduceIte] at hx145_0); (try simp only [show (1 : Int).toNat = 1 from rfl, Nat.reduceMul, Nat.reduceEqDiff, Go.Addr.add, ↓reduceIte] at hx145_1); have qi145 : (1 < t141.length) = True := eq_true (by omega); (try rw [show ((1 : Int)).toNat = 1 from rfl] at hx145_0); (try rw [show 1 * 2 = 2 from rfl] at hx145_0); (try rw [show ((1 : Int)).toNat = 1 from rfl] at hx145_1); (try rw [show 1 * 2 = 2 from rfl] at hx145_1); replace p145 := eq_true p145; replace q145 := eq_true q145))
     go_ret
     exact ⟨by first | rfl | (simp [errW_none, errW_some] <;> rfl) | (simp [*, errW_none, errW_some] <;> rfl), hb0_ HB⟩
   ·rw [if_neg c4] at H
    exact absurd H (by simp)
  ·rw [if_neg c3] at H
   have c3b0 : ((t141.length : Int) == 4) = false := beq_eq_false_iff_ne.mpr c3
   have c3b1 : ((t141.length : Int) != 4) = true := bne_iff_ne.mpr c3
   obtain rfl := Option.some.inj H
   go_enter Tryd.func19, Tryd.ntmps19
   go_wp2_with (first | ((with_reducible refine gate_callee (f := 20) rfl ?_); refine goesL_ (some 4) rfl rfl Tryd.func20 (by kernel_rfl) rfl #[.string (⟨#[97, 98, 99]⟩ : ByteArray), .string (⟨#[97, 120, 99]⟩ : ByteArray)] rfl (by (try simp only [List.map_toArray, List.map_cons, List.map_nil]); first | done | rfl | (simp only [List.length_drop, List.length_take]; rfl)) ?_; (with_reducible refine (diff_Diff.calls k (⟨#[97, 98, 99]⟩ : ByteArray) (⟨#[97, 120, 99]⟩ : ByteArray) t141 t142 _ ?side1 A1.out).mono ?_); (case side1 => exact XAmb_step hT (hb0_ HB)); rintro e w16 ⟨v143, rfl, ho0, hb⟩; refine ⟨_, rfl, ?_⟩; have n0_ := Aside0.mk (Kd.R_lower ho0 (below_size (hb0_ HB))); have n1_ := Aside0.mk (below_step (hb0_ HB) hb); clear HB; have HO144 := n0_; have HB := n1_; clear n0_ n1_; (try clear hb); (try clear hb2); (try clear hk); (try clear hi); (try clear ho0); obtain ⟨Ao17, co17, eo17⟩ := Kd.R_slice HO144.out; subst eo17))
   go_ret
   exact ⟨by first | rfl | (simp [errW_none, errW_some] <;> rfl) | (simp [*, errW_none, errW_some] <;> rfl), hb0_ HB⟩
 ·rw [if_neg c2] at H
  have c2b0 : (t142 == 0) = false := beq_eq_false_iff_ne.mpr c2
  have c2b1 : (t142 != 0) = true := bne_iff_ne.mpr c2
  obtain rfl := Option.some.inj H
  go_enter Tryd.func19, Tryd.ntmps19
  go_wp2_with (first | ((with_reducible refine gate_callee (f := 20) rfl ?_); refine goesL_ (some 4) rfl rfl Tryd.func20 (by kernel_rfl) rfl #[.string (⟨#[97, 98, 99]⟩ : ByteArray), .string (⟨#[97, 120, 99]⟩ : ByteArray)] rfl (by (try simp only [List.map_toArray, List.map_cons, List.map_nil]); first | done | rfl | (simp only [List.length_drop, List.length_take]; rfl)) ?_; (with_reducible refine (diff_Diff.calls k (⟨#[97, 98, 99]⟩ : ByteArray) (⟨#[97, 120, 99]⟩ : ByteArray) t141 t142 _ ?side1 A1.out).mono ?_); (case side1 => exact XAmb_step hT (hb0_ HB)); rintro e w18 ⟨v143, rfl, ho0, hb⟩; refine ⟨_, rfl, ?_⟩; have n0_ := Aside0.mk (Kd.R_lower ho0 (below_size (hb0_ HB))); have n1_ := Aside0.mk (below_step (hb0_ HB) hb); clear HB; have HO144 := n0_; have HB := n1_; clear n0_ n1_; (try clear hb); (try clear hb2); (try clear hk); (try clear hi); (try clear ho0)))
  go_ret
  exact ⟨by first | rfl | (simp [errW_none, errW_some] <;> rfl) | (simp [*, errW_none, errW_some] <;> rfl), hb0_ HB⟩

end Go.Proofs.YtabhfloclcmjnaaDoor.P
