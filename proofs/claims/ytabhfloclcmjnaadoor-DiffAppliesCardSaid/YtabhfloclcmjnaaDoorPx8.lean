/- Printed by a program of this session (wip/xprint) over the kit's print: functions of the seat and what they come to, with their proofs. Conditions: as typed. -/
import Derived.Test.YtabhfloclcmjnaaDoorPx0
import Derived.Test.YtabhfloclcmjnaaDoorSplit
import Derived.Test.YtabhfloclcmjnaaDoorConcat
import Derived.Test.YtabhfloclcmjnaaDoorPx3
namespace Go.Proofs.YtabhfloclcmjnaaDoor.P
open Go.RowKit Go.Proofs.YtabhfloclcmjnaaDoor.X Go.Proofs.YtabhfloclcmjnaaDoorW.PrintWords Go.Proofs.YtabhfloclcmjnaaDoorW.PrintLast Go.Proofs.YtabhfloclcmjnaaDoorW.PrintMore
attribute [local go_sem] max2_int min2_int max_two min_two max_three min_three max_four min_four   -- for this text's walks alone
set_option linter.unusedVariables false
set_option linter.unusedSimpArgs false

/-! ### diff_Do: function 22 -/
mutual
def diff_Do.l0 : Nat → List (S46) → List Int → Int → List (S46) → Int → Int → Option (ByteArray × Int)
 | 0, _, _, _, _, _, _ => none
 | k + 1, x1, x6, x7, x19, x20, x21 => if x21 < x20 then (if 0 ≤ x21 then (if x21 < (x19.length : Int) then (if x7 = 0 then ((runes_May.f ((rd_T46 x19 x21).f2)).bind fun t178 => (if t178 = true then (diff_Do.l0 k x1 x6 x7 x19 x20 (wrap64 (x21 + 1))) else (diff_Do.l0 k x1 x6 2 x19 x20 (wrap64 (x21 + 1))))) else (diff_Do.l0 k x1 x6 x7 x19 x20 (wrap64 (x21 + 1)))) else (none)) else (none)) else (if x7 = 0 then (diff_Do.l1 k x6 x1 (x1.length : Int) 0) else (some ((⟨#[]⟩ : ByteArray), x7)))
def diff_Do.l1 : Nat → List Int → List (S46) → Int → Int → Option (ByteArray × Int)
 | 0, _, _, _, _ => none
 | k + 1, x6, x37, x38, x39 => if x39 < x38 then (if 0 ≤ x39 then (if x39 < (x37.length : Int) then (if ((rd_T46 x37 x39).f0) < 0 then (diff_Do.j2 k x6 x37 x38 x39 true ((rd_T46 x37 x39).f0) ((rd_T46 x37 x39).f1) ((rd_T46 x37 x39).f2)) else (if ((rd_T46 x37 x39).f0) > (x6.length : Int) then (diff_Do.j2 k x6 x37 x38 x39 true ((rd_T46 x37 x39).f0) ((rd_T46 x37 x39).f1) ((rd_T46 x37 x39).f2)) else (if ((rd_T46 x37 x39).f1) < 0 then (diff_Do.j2 k x6 x37 x38 x39 true ((rd_T46 x37 x39).f0) ((rd_T46 x37 x39).f1) ((rd_T46 x37 x39).f2)) else (diff_Do.j2 k x6 x37 x38 x39 (decide (((rd_T46 x37 x39).f1) > (wrap64 ((x6.length : Int) - ((rd_T46 x37 x39).f0))))) ((rd_T46 x37 x39).f0) ((rd_T46 x37 x39).f1) ((rd_T46 x37 x39).f2))))) else (none)) else (none)) else ((runes_Join.f x6).bind fun bt179 => (some (bt179.1, bt179.2)))
def diff_Do.j2 : Nat → List Int → List (S46) → Int → Int → Bool → Int → Int → ByteArray → Option (ByteArray × Int)
 | 0, _, _, _, _, _, _, _, _ => none
 | k + 1, x6, x37, x38, x39, x67, x183000, x183001, x183002 => if x67 = true then (some ((⟨#[]⟩ : ByteArray), 3)) else ((runes_Split.f x183002).bind fun bt183 => (if 0 ≤ x183000 then (if x183000 ≤ (x6.length : Int) then (if 0 ≤ (wrap64 (x183000 + x183001)) then (if (wrap64 (x183000 + x183001)) ≤ (x6.length : Int) then ((slices_Concat.f (([(x6.take (x183000 : Int).toNat), bt183.1, (x6.drop ((wrap64 (x183000 + x183001)) : Int).toNat)] : List (List Int)))).bind fun t200 => (diff_Do.l1 k t200 x37 x38 (wrap64 (x39 + 1)))) else (none)) else (none)) else (none)) else (none)))
end
def diff_Do.f (k : Nat) (a0 : ByteArray) (l1 : List (S46)) : Option (ByteArray × Int) := (runes_Split.f a0).bind fun bt172 => (diff_Do.l0 k l1 bt172.1 bt172.2 l1 (l1.length : Int) 0)
theorem diff_Do.mono_l : ∀ k, (∀ y0 y1 y2 y3 y4 y5, LeO (diff_Do.l0 k y0 y1 y2 y3 y4 y5) (diff_Do.l0 (k + 1) y0 y1 y2 y3 y4 y5)) ∧ (∀ y0 y1 y2 y3, LeO (diff_Do.l1 k y0 y1 y2 y3) (diff_Do.l1 (k + 1) y0 y1 y2 y3)) ∧ (∀ y0 y1 y2 y3 y4 y5 y6 y7, LeO (diff_Do.j2 k y0 y1 y2 y3 y4 y5 y6 y7) (diff_Do.j2 (k + 1) y0 y1 y2 y3 y4 y5 y6 y7))
 | 0 => ⟨fun _ _ _ _ _ _ r h => by simp [diff_Do.l0] at h, fun _ _ _ _ r h => by simp [diff_Do.l1] at h, fun _ _ _ _ _ _ _ _ r h => by simp [diff_Do.j2] at h⟩
 | k + 1 => by
  obtain ⟨ih0, ih1, ih2⟩ := diff_Do.mono_l k
  refine ⟨?_, ?_, ?_⟩
  ·intro y0 y1 y2 y3 y4 y5
   unfold diff_Do.l0
   repeat' first
   | (with_reducible exact ih0 _ _ _ _ _ _)
   | (with_reducible exact ih1 _ _ _ _)
   | (with_reducible exact ih2 _ _ _ _ _ _ _ _)
   | (with_reducible exact LeO.refl _)
   | (with_reducible exact LeO.none _)
   | (with_reducible refine LeO.ite ?_ ?_)
   | (with_reducible refine LeO.bind ?_ (fun _ => ?_))
   | exact ih0 _ _ _ _ _ _
   | exact ih1 _ _ _ _
   | exact ih2 _ _ _ _ _ _ _ _
   | exact LeO.none _
   | refine LeO.ite ?_ ?_
   | refine LeO.bind ?_ (fun _ => ?_)
  ·intro y0 y1 y2 y3
   unfold diff_Do.l1
   repeat' first
   | (with_reducible exact ih0 _ _ _ _ _ _)
   | (with_reducible exact ih1 _ _ _ _)
   | (with_reducible exact ih2 _ _ _ _ _ _ _ _)
   | (with_reducible exact LeO.refl _)
   | (with_reducible exact LeO.none _)
   | (with_reducible refine LeO.ite ?_ ?_)
   | (with_reducible refine LeO.bind ?_ (fun _ => ?_))
   | exact ih0 _ _ _ _ _ _
   | exact ih1 _ _ _ _
   | exact ih2 _ _ _ _ _ _ _ _
   | exact LeO.none _
   | refine LeO.ite ?_ ?_
   | refine LeO.bind ?_ (fun _ => ?_)
  ·intro y0 y1 y2 y3 y4 y5 y6 y7
   unfold diff_Do.j2
   repeat' first
   | (with_reducible exact ih0 _ _ _ _ _ _)
   | (with_reducible exact ih1 _ _ _ _)
   | (with_reducible exact ih2 _ _ _ _ _ _ _ _)
   | (with_reducible exact LeO.refl _)
   | (with_reducible exact LeO.none _)
   | (with_reducible refine LeO.ite ?_ ?_)
   | (with_reducible refine LeO.bind ?_ (fun _ => ?_))
   | exact ih0 _ _ _ _ _ _
   | exact ih1 _ _ _ _
   | exact ih2 _ _ _ _ _ _ _ _
   | exact LeO.none _
   | refine LeO.ite ?_ ?_
   | refine LeO.bind ?_ (fun _ => ?_)
theorem diff_Do.mono : ∀ a0 a1 k, LeO (diff_Do.f k a0 a1) (diff_Do.f (k + 1) a0 a1) := by
 intro a0 a1 k
 obtain ⟨ih0, ih1, ih2⟩ := diff_Do.mono_l k
 unfold diff_Do.f
 repeat' first
   | (with_reducible exact ih0 _ _ _ _ _ _)
   | (with_reducible exact ih1 _ _ _ _)
   | (with_reducible exact ih2 _ _ _ _ _ _ _ _)
   | (with_reducible exact LeO.refl _)
   | (with_reducible exact LeO.none _)
   | (with_reducible refine LeO.ite ?_ ?_)
   | (with_reducible refine LeO.bind ?_ (fun _ => ?_))
   | exact ih0 _ _ _ _ _ _
   | exact ih1 _ _ _ _
   | exact ih2 _ _ _ _ _ _ _ _
   | exact LeO.none _
   | refine LeO.ite ?_ ?_
   | refine LeO.bind ?_ (fun _ => ?_)
def diff_Do.T16 : Bool × List (List Nat × List Nat) := (true, [([], []), ([], []), ([1], [1]), ([0, 2], [0, 2]), ([], []), ([], []), ([], []), ([6], [6]), ([], []), ([8], [8]), ([7, 9], [7, 9]), ([5, 10], [5, 10]), ([3, 4, 11], [3, 4, 11]), ([12], [12]), ([13, 13, 0, 1, 2, 3, 4, 5, 6, 7, 8, 9, 10, 11, 12, 13], [0, 5, 13])])
def diff_Do.B16 : List Nat := [0, 0, 2, 7, 0, 0, 0, 64, 0, 256, 960, 2016, 4095, 8191, 16383]
theorem diff_Do.tab16 : rtab .any (opsOf Tryd.f22 16) = diff_Do.T16 := by kernel_rfl
theorem diff_Do.bits16 : waitsOk diff_Do.T16.2 diff_Do.B16 = true := by kernel_rfl
set_option maxHeartbeats 8000000 in
set_option maxRecDepth 100000 in
theorem diff_Do.calls (k : Nat) (a0 : ByteArray) (A1 : Option Addr) (c1 : Nat) (l1 : List (S46)) (r1 : ByteArray) (r2 : Int) (w : World) (hT : Aside0 (XAmb w)) (hr1 : Kd.C k46 w A1 l1.length l1) (hc1 : l1.length ≤ c1) (h : diff_Do.f k a0 l1 = some (r1, r2)) :
  Calls Tryd.prog 22 #[.string a0, .slice A1 l1.length c1] w fun e w' => e = .returned (.tuple #[.string r1, .int .i64 r2]) ∧ Below w.heap.size w w' := by
 have hu46 := Tryd.underlying46
 have HR1 := Aside0.mk hr1
 have HC1 := Aside0.mk hc1
 clear hr1 hc1
 have HB := Aside0.mk (Below.refl w.heap.size w)
 have H : ((runes_Split.f a0).bind fun bt172 => (diff_Do.l0 k l1 bt172.1 bt172.2 l1 (l1.length : Int) 0)) = some (r1, r2) := h
 clear h
 replace H := Option.bind_eq_some_iff.mp H
 obtain ⟨⟨t172, t173⟩, A30, H⟩ := H
 replace H : (diff_Do.l0 k l1 t172 t173 l1 (l1.length : Int) 0) = some (r1, r2) := H
 have A3 := Aside0.mk A30
 clear A30
 have H' := Aside0.mk H
 clear H
 go_enter Tryd.func22, Tryd.ntmps22
 go_wp2_with (first | ((with_reducible refine gate_callee (f := 39) rfl ?_); refine goesL_ (some 16) rfl rfl Tryd.func39 (by kernel_rfl) rfl #[.string a0] rfl (by (try simp only [List.map_toArray, List.map_cons, List.map_nil]); first | done | rfl | (simp only [List.length_drop, List.length_take]; rfl)) ?_; (with_reducible refine (runes_Split.calls a0 t172 t173 _ ?side1 A3.out).mono ?_); (case side1 => exact XAmb_step hT (hb0_ HB)); rintro e w4 ⟨v174, rfl, ho0, hb⟩; refine ⟨_, rfl, ?_⟩; have n0_ := Aside0.mk (Kd.R_lower ho0 (below_size (hb0_ HB))); have n1_ := Aside0.mk (below_step (hb0_ HB) hb); clear HB; have HO175 := n0_; have HB := n1_; clear n0_ n1_; (try clear hb); (try clear hb2); (try clear hk); (try clear hi); (try clear ho0)))
 go_loopg [7, 21] k (fun kq v7 v21 w' => ∃ (x7_1 : Int) (x21_1 : Int), v7 = .int .i64 x7_1 ∧ v21 = .int .i64 x21_1 ∧ Aside0 (diff_Do.l0 kq l1 t172 x7_1 l1 (l1.length : Int) x21_1 = some (r1, r2)) ∧ Aside0 (kq ≤ k) ∧ Aside0 (Kd.R (Kd.int .i32) 21 w' w.heap.size (fun _ => True) v174 t172) ∧ Aside0 (Below w.heap.size w w'))
 case atStart => exact ⟨(t173), (0), (by first | rfl | (simp; done) | (simp [*]; done)), (by first | rfl | (simp; done) | (simp [*]; done)), H', ⟨Nat.le_refl _⟩, ⟨ro_ HO175⟩, ⟨hb0_ HB⟩⟩
 case round =>
  clear H'
  try clear c1
  try clear c2
  try clear p2
  try clear c3
  obtain ⟨x7_1, x21_1, rfl, rfl, HA, HK1, HO_6, HB⟩ := hrel
  cases gk with
  | zero => exact absurd HA.out (by simp [diff_Do.l0])
  | succ k1 =>
   have H := HA.out
   clear HA
   simp only [diff_Do.l0] at H
   by_cases c5 : x21_1 < (l1.length : Int)
   ·rw [if_pos c5] at H
    have c5b0 : decide (x21_1 < (l1.length : Int)) = true := decide_eq_true c5
    clear c5
    by_cases c6 : 0 ≤ x21_1
    ·rw [if_pos c6] at H
     have c6b0 : decide (0 ≤ x21_1) = true := decide_eq_true c6
     clear c6
     by_cases c7 : x21_1 < (l1.length : Int)
     ·rw [if_pos c7] at H
      have c7b0 : decide (x21_1 < (l1.length : Int)) = true := decide_eq_true c7
      clear c7
      by_cases c8 : x7_1 = 0
      ·rw [if_pos c8] at H
       have c8b0 : (x7_1 == 0) = true := beq_iff_eq.mpr c8
       have c8b1 : (x7_1 != 0) = false := bne_eq_false_iff_eq.mpr c8
       clear c8
       replace H := Option.bind_eq_some_iff.mp H
       obtain ⟨t178, A90, H⟩ := H
       replace H : (if t178 = true then (diff_Do.l0 k1 l1 t172 x7_1 l1 (l1.length : Int) (wrap64 (x21_1 + 1))) else (diff_Do.l0 k1 l1 t172 2 l1 (l1.length : Int) (wrap64 (x21_1 + 1)))) = some (r1, r2) := H
       have A9 := Aside0.mk A90
       clear A90
       by_cases c10 : t178 = true
       ·subst c10
        have H1 : (diff_Do.l0 k1 l1 t172 x7_1 l1 (l1.length : Int) (wrap64 (x21_1 + 1))) = some (r1, r2) := by rw [if_pos rfl] at H; exact H
        clear H
        have H := H1
        clear H1
        have H' := Aside0.mk H
        clear H
        have p176 : 0 ≤ (x21_1 : Int) := dt_
        have q176 : x21_1 < (l1.length : Int) := dt_
        obtain ⟨ad176, e176, hx176_0, hx176_1, hx176_2⟩ := at_T46 HR1.out x21_1 p176 q176
        cases e176
        replace hx176_0 := (HB.out.cell (World.block_lt_of_cell? w _ hx176_0)).trans hx176_0
        replace hx176_1 := (HB.out.cell (World.block_lt_of_cell? w _ hx176_1)).trans hx176_1
        replace hx176_2 := (HB.out.cell (World.block_lt_of_cell? w _ hx176_2)).trans hx176_2
        replace p176 := eq_true p176
        replace q176 := eq_true q176
        go_wp2_with (first | ((with_reducible refine gate_dst (N := 9) rfl ?_); (try (refine gate_guard (by rfl) ?_; dsimp only)); refine box_event ?hg (N := 9) ?hd (cs := #[.int .i64 0, .int .i64 0, .string (⟨#[]⟩ : ByteArray)]) (t := 46) ?hr ?_; (case hd => rfl); (case hg => rfl); (case hr => first | (go_simp; done) | (go_simp; rfl)); intro gb177 hg w11 hbox hb; have n0_ := Aside0.mk (Kd.R_below (ro_ HO_6) hb); have n1_ := Aside0.mk (below_step (hb0_ HB) hb); have n2_ := Aside0.mk (hbox); have n3_ := Aside0.mk ((by rw [hg]; exact (below_size (hb0_ HB)) : w.heap.size ≤ gb177)); have n4_ := Aside0.mk ((by rw [hg]; exact (below_size (hb0_ HB)) : w.heap.size ≤ gb177)); clear HO_6; clear HB; have HO_6 := n0_; have HB := n1_; have BK177 := n2_; have GW177 := n3_; have GE177 := n4_; clear n0_ n1_ n2_ n3_ n4_; clear hb hbox hg; have hcz12_0 : w11.cell? ⟨gb177, 0, none⟩ = some (.int .i64 0) := (blk_cell BK177.out 0).trans rfl; have hcz12_1 : w11.cell? ⟨gb177, 1, none⟩ = some (.int .i64 0) := (blk_cell BK177.out 1).trans rfl; have hcz12_2 : w11.cell? ⟨gb177, 2, none⟩ = some (.string (⟨#[]⟩ : ByteArray)) := (blk_cell BK177.out 2).trans rfl; have hfz12_0 := blk_frozen BK177.out 0; have hfz12_1 := blk_frozen BK177.out 1; have hfz12_2 := blk_frozen BK177.out 2) | (go_at_call 44; (with_reducible refine (runes_May.calls ((rd_T46 l1 x21_1).f2) true _ ?side1 A9.out).mono ?_); (case side1 => exact XAmb_step hT (hb1_ HB GE177)); rintro e w13 ⟨rfl, hb⟩; have n0_ := Aside0.mk (Kd.R_below (by (with_reducible repeat (first | apply Kd.R_alloc | apply Kd.R_drewN | apply Kd.R_drew)); exact (Kd.R_mono (Kd.R_far (p := ⟨gb177, 2, none⟩) (Kd.R_far (p := ⟨gb177, 1, none⟩) (Kd.R_far (p := ⟨gb177, 0, none⟩) (Kd.R_types HO_6.out BK177.out (by decide)) (fun _ hk => hk.2) (.int .i64 ((rd_T46 l1 x21_1).f0))) (fun _ hk => hk.2) (.int .i64 ((rd_T46 l1 x21_1).f1))) (fun _ hk => hk.2) (.string ((rd_T46 l1 x21_1).f2))) (fun _ h_ => h_.1))) hb); have n1_ := Aside0.mk (blk_below (g := gb177) (o := .cells #[.int .i64 ((rd_T46 l1 x21_1).f0), .int .i64 ((rd_T46 l1 x21_1).f1), .string ((rd_T46 l1 x21_1).f2)] 46 (0, 0)) (by (with_reducible repeat (first | refine blk_drewN ?_ _ | refine blk_drew ?_ | refine blk_alloc ?_ _)); refine blk_put (cs := #[.int .i64 ((rd_T46 l1 x21_1).f0), .int .i64 ((rd_T46 l1 x21_1).f1), .string (⟨#[]⟩ : ByteArray)]) ?_ 2 _ rfl; (with_reducible repeat (first | refine blk_drewN ?_ _ | refine blk_drew ?_ | refine blk_alloc ?_ _)); refine blk_put (cs := #[.int .i64 ((rd_T46 l1 x21_1).f0), .int .i64 0, .string (⟨#[]⟩ : ByteArray)]) ?_ 1 _ rfl; (with_reducible repeat (first | refine blk_drewN ?_ _ | refine blk_drew ?_ | refine blk_alloc ?_ _)); refine blk_put (cs := #[.int .i64 0, .int .i64 0, .string (⟨#[]⟩ : ByteArray)]) ?_ 0 _ rfl; (with_reducible repeat (first | refine blk_drewN ?_ _ | refine blk_drew ?_ | refine blk_alloc ?_ _)); exact BK177.out) hb); have n2_ := Aside0.mk (below_step (hb1_ HB GE177) hb); clear HO_6; clear BK177; clear HB; have HO_6 := n0_; have BK177 := n1_; have HB := n2_; clear n0_ n1_ n2_; (try clear hb); (try clear hb2); (try clear hk); (try clear hi)))
        go_roundg k1
        case measure => have := HK1.out; omega
        case rel => exact ⟨(x7_1), (wrap64 (x21_1 + 1)), (by first | rfl | (simp; done) | (simp [*]; done)), (by first | rfl | (simp; done) | (simp [*]; done)), H', ⟨by have := HK1.out; omega⟩, ⟨ro_ HO_6⟩, ⟨by repeat (first | (with_reducible first | exact HB.out | apply below_alloc | apply pw_below_drewN | apply below_drew1 | refine below_set ?_ GE177.out) | exact HB.out)⟩⟩
       ·replace c10 := Bool.eq_false_iff.mpr c10
        subst c10
        have H1 : (diff_Do.l0 k1 l1 t172 2 l1 (l1.length : Int) (wrap64 (x21_1 + 1))) = some (r1, r2) := by rw [if_neg (show ¬ (false = true) by decide)] at H; exact H
        clear H
        have H := H1
        clear H1
        have H' := Aside0.mk H
        clear H
        have p176 : 0 ≤ (x21_1 : Int) := dt_
        have q176 : x21_1 < (l1.length : Int) := dt_
        obtain ⟨ad176, e176, hx176_0, hx176_1, hx176_2⟩ := at_T46 HR1.out x21_1 p176 q176
        cases e176
        replace hx176_0 := (HB.out.cell (World.block_lt_of_cell? w _ hx176_0)).trans hx176_0
        replace hx176_1 := (HB.out.cell (World.block_lt_of_cell? w _ hx176_1)).trans hx176_1
        replace hx176_2 := (HB.out.cell (World.block_lt_of_cell? w _ hx176_2)).trans hx176_2
        replace p176 := eq_true p176
        replace q176 := eq_true q176
        go_wp2_with (first | ((with_reducible refine gate_dst (N := 9) rfl ?_); (try (refine gate_guard (by rfl) ?_; dsimp only)); refine box_event ?hg (N := 9) ?hd (cs := #[.int .i64 0, .int .i64 0, .string (⟨#[]⟩ : ByteArray)]) (t := 46) ?hr ?_; (case hd => rfl); (case hg => rfl); (case hr => first | (go_simp; done) | (go_simp; rfl)); intro gb177 hg w14 hbox hb; have n0_ := Aside0.mk (Kd.R_below (ro_ HO_6) hb); have n1_ := Aside0.mk (below_step (hb0_ HB) hb); have n2_ := Aside0.mk (hbox); have n3_ := Aside0.mk ((by rw [hg]; exact (below_size (hb0_ HB)) : w.heap.size ≤ gb177)); have n4_ := Aside0.mk ((by rw [hg]; exact (below_size (hb0_ HB)) : w.heap.size ≤ gb177)); clear HO_6; clear HB; have HO_6 := n0_; have HB := n1_; have BK177 := n2_; have GW177 := n3_; have GE177 := n4_; clear n0_ n1_ n2_ n3_ n4_; clear hb hbox hg; have hcz15_0 : w14.cell? ⟨gb177, 0, none⟩ = some (.int .i64 0) := (blk_cell BK177.out 0).trans rfl; have hcz15_1 : w14.cell? ⟨gb177, 1, none⟩ = some (.int .i64 0) := (blk_cell BK177.out 1).trans rfl; have hcz15_2 : w14.cell? ⟨gb177, 2, none⟩ = some (.string (⟨#[]⟩ : ByteArray)) := (blk_cell BK177.out 2).trans rfl; have hfz15_0 := blk_frozen BK177.out 0; have hfz15_1 := blk_frozen BK177.out 1; have hfz15_2 := blk_frozen BK177.out 2) | (go_at_call 44; (with_reducible refine (runes_May.calls ((rd_T46 l1 x21_1).f2) false _ ?side1 A9.out).mono ?_); (case side1 => exact XAmb_step hT (hb1_ HB GE177)); rintro e w16 ⟨rfl, hb⟩; have n0_ := Aside0.mk (Kd.R_below (by (with_reducible repeat (first | apply Kd.R_alloc | apply Kd.R_drewN | apply Kd.R_drew)); exact (Kd.R_mono (Kd.R_far (p := ⟨gb177, 2, none⟩) (Kd.R_far (p := ⟨gb177, 1, none⟩) (Kd.R_far (p := ⟨gb177, 0, none⟩) (Kd.R_types HO_6.out BK177.out (by decide)) (fun _ hk => hk.2) (.int .i64 ((rd_T46 l1 x21_1).f0))) (fun _ hk => hk.2) (.int .i64 ((rd_T46 l1 x21_1).f1))) (fun _ hk => hk.2) (.string ((rd_T46 l1 x21_1).f2))) (fun _ h_ => h_.1))) hb); have n1_ := Aside0.mk (blk_below (g := gb177) (o := .cells #[.int .i64 ((rd_T46 l1 x21_1).f0), .int .i64 ((rd_T46 l1 x21_1).f1), .string ((rd_T46 l1 x21_1).f2)] 46 (0, 0)) (by (with_reducible repeat (first | refine blk_drewN ?_ _ | refine blk_drew ?_ | refine blk_alloc ?_ _)); refine blk_put (cs := #[.int .i64 ((rd_T46 l1 x21_1).f0), .int .i64 ((rd_T46 l1 x21_1).f1), .string (⟨#[]⟩ : ByteArray)]) ?_ 2 _ rfl; (with_reducible repeat (first | refine blk_drewN ?_ _ | refine blk_drew ?_ | refine blk_alloc ?_ _)); refine blk_put (cs := #[.int .i64 ((rd_T46 l1 x21_1).f0), .int .i64 0, .string (⟨#[]⟩ : ByteArray)]) ?_ 1 _ rfl; (with_reducible repeat (first | refine blk_drewN ?_ _ | refine blk_drew ?_ | refine blk_alloc ?_ _)); refine blk_put (cs := #[.int .i64 0, .int .i64 0, .string (⟨#[]⟩ : ByteArray)]) ?_ 0 _ rfl; (with_reducible repeat (first | refine blk_drewN ?_ _ | refine blk_drew ?_ | refine blk_alloc ?_ _)); exact BK177.out) hb); have n2_ := Aside0.mk (below_step (hb1_ HB GE177) hb); clear HO_6; clear BK177; clear HB; have HO_6 := n0_; have BK177 := n1_; have HB := n2_; clear n0_ n1_ n2_; (try clear hb); (try clear hb2); (try clear hk); (try clear hi)))
        go_roundg k1
        case measure => have := HK1.out; omega
        case rel => exact ⟨(2), (wrap64 (x21_1 + 1)), (by first | rfl | (simp; done) | (simp [*]; done)), (by first | rfl | (simp; done) | (simp [*]; done)), H', ⟨by have := HK1.out; omega⟩, ⟨ro_ HO_6⟩, ⟨by repeat (first | (with_reducible first | exact HB.out | apply below_alloc | apply pw_below_drewN | apply below_drew1 | refine below_set ?_ GE177.out) | exact HB.out)⟩⟩
      ·rw [if_neg c8] at H
       have c8b0 : (x7_1 == 0) = false := beq_eq_false_iff_ne.mpr c8
       have c8b1 : (x7_1 != 0) = true := bne_iff_ne.mpr c8
       have H' := Aside0.mk H
       clear H
       have p176 : 0 ≤ (x21_1 : Int) := dt_
       have q176 : x21_1 < (l1.length : Int) := dt_
       obtain ⟨ad176, e176, hx176_0, hx176_1, hx176_2⟩ := at_T46 HR1.out x21_1 p176 q176
       cases e176
       replace hx176_0 := (HB.out.cell (World.block_lt_of_cell? w _ hx176_0)).trans hx176_0
       replace hx176_1 := (HB.out.cell (World.block_lt_of_cell? w _ hx176_1)).trans hx176_1
       replace hx176_2 := (HB.out.cell (World.block_lt_of_cell? w _ hx176_2)).trans hx176_2
       replace p176 := eq_true p176
       replace q176 := eq_true q176
       go_wp2_with (first | ((with_reducible refine gate_dst (N := 9) rfl ?_); (try (refine gate_guard (by rfl) ?_; dsimp only)); refine box_event ?hg (N := 9) ?hd (cs := #[.int .i64 0, .int .i64 0, .string (⟨#[]⟩ : ByteArray)]) (t := 46) ?hr ?_; (case hd => rfl); (case hg => rfl); (case hr => first | (go_simp; done) | (go_simp; rfl)); intro gb177 hg w17 hbox hb; have n0_ := Aside0.mk (Kd.R_below (ro_ HO_6) hb); have n1_ := Aside0.mk (below_step (hb0_ HB) hb); have n2_ := Aside0.mk (hbox); have n3_ := Aside0.mk ((by rw [hg]; exact (below_size (hb0_ HB)) : w.heap.size ≤ gb177)); have n4_ := Aside0.mk ((by rw [hg]; exact (below_size (hb0_ HB)) : w.heap.size ≤ gb177)); clear HO_6; clear HB; have HO_6 := n0_; have HB := n1_; have BK177 := n2_; have GW177 := n3_; have GE177 := n4_; clear n0_ n1_ n2_ n3_ n4_; clear hb hbox hg; have hcz18_0 : w17.cell? ⟨gb177, 0, none⟩ = some (.int .i64 0) := (blk_cell BK177.out 0).trans rfl; have hcz18_1 : w17.cell? ⟨gb177, 1, none⟩ = some (.int .i64 0) := (blk_cell BK177.out 1).trans rfl; have hcz18_2 : w17.cell? ⟨gb177, 2, none⟩ = some (.string (⟨#[]⟩ : ByteArray)) := (blk_cell BK177.out 2).trans rfl; have hfz18_0 := blk_frozen BK177.out 0; have hfz18_1 := blk_frozen BK177.out 1; have hfz18_2 := blk_frozen BK177.out 2))
       go_roundg k1
       case measure => have := HK1.out; omega
       case rel => exact ⟨(x7_1), (wrap64 (x21_1 + 1)), (by first | rfl | (simp; done) | (simp [*]; done)), (by first | rfl | (simp; done) | (simp [*]; done)), H', ⟨by have := HK1.out; omega⟩, ⟨by (with_reducible repeat (first | apply Kd.R_alloc | apply Kd.R_drewN | apply Kd.R_drew)); exact Kd.R_mono (Kd.R_far (p := ⟨gb177, 2, none⟩) (Kd.R_far (p := ⟨gb177, 1, none⟩) (Kd.R_far (p := ⟨gb177, 0, none⟩) (Kd.R_types HO_6.out BK177.out (by decide)) (fun _ hk => hk.2) (.int .i64 ((rd_T46 l1 x21_1).f0))) (fun _ hk => hk.2) (.int .i64 ((rd_T46 l1 x21_1).f1))) (fun _ hk => hk.2) (.string ((rd_T46 l1 x21_1).f2))) (fun _ hk => trivial)⟩, ⟨by repeat (first | (with_reducible first | exact HB.out | apply below_alloc | apply pw_below_drewN | apply below_drew1 | refine below_set ?_ GE177.out) | exact HB.out)⟩⟩
     ·rw [if_neg c7] at H
      exact absurd H (by simp)
    ·rw [if_neg c6] at H
     exact absurd H (by simp)
   ·rw [if_neg c5] at H
    have c5b0 : decide (x21_1 < (l1.length : Int)) = false := decide_eq_false c5
    clear c5
    by_cases c19 : x7_1 = 0
    ·rw [if_pos c19] at H
     have c19b0 : (x7_1 == 0) = true := beq_iff_eq.mpr c19
     have c19b1 : (x7_1 != 0) = false := bne_eq_false_iff_eq.mpr c19
     clear c19
     have H' := Aside0.mk H
     clear H
     go_wp2
     go_loopg [6, 39] k1 (fun kq v6 v39 w' => ∃ (x6_2 : List Int) (x39_2 : Int), v39 = .int .i64 x39_2 ∧ Aside0 (diff_Do.l1 kq x6_2 l1 (l1.length : Int) x39_2 = some (r1, r2)) ∧ Aside0 (kq ≤ k1) ∧ Aside0 (Kd.R (Kd.int .i32) 21 w' w.heap.size (fun _ => True) v6 x6_2) ∧ Aside0 (Below w.heap.size w w'))
     case atStart => exact ⟨(t172), (0), (by first | rfl | (simp; done) | (simp [*]; done)), H', ⟨Nat.le_refl _⟩, ⟨ro_ HO_6⟩, ⟨hb0_ HB⟩⟩
     case round =>
      clear H'
      try clear c1
      try clear p1
      try clear q1
      try clear hx1
      try clear c2
      try clear p2
      try clear c3
      try clear c5
      try clear c5b0
      try clear c6
      try clear c6b0
      try clear p6
      try clear c7
      try clear c7b0
      try clear c8
      try clear c8b0
      try clear c8b1
      try clear c10
      try clear p17
      try clear q17
      try clear hx17
      try clear c19
      try clear c19b0
      try clear c19b1
      try clear hcz12_0
      try clear hcz12_1
      try clear hcz12_2
      try clear hcz15_0
      try clear hcz15_1
      try clear hcz15_2
      try clear hcz18_0
      try clear hcz18_1
      try clear hcz18_2
      try clear hfz12_0
      try clear hfz12_1
      try clear hfz12_2
      try clear hfz15_0
      try clear hfz15_1
      try clear hfz15_2
      try clear hfz18_0
      try clear hfz18_1
      try clear hfz18_2
      try clear hx176_0
      try clear hx176_1
      try clear hx176_2
      try clear p176
      try clear p2
      try clear q176
      obtain ⟨x6_2, x39_2, rfl, HA, HK2, HO_6, HB⟩ := hrel
      cases gk with
      | zero => exact absurd HA.out (by simp [diff_Do.l1])
      | succ k2 =>
       have H := HA.out
       clear HA
       simp only [diff_Do.l1] at H
       by_cases c20 : x39_2 < (l1.length : Int)
       ·rw [if_pos c20] at H
        have c20b0 : decide (x39_2 < (l1.length : Int)) = true := decide_eq_true c20
        clear c20
        by_cases c21 : 0 ≤ x39_2
        ·rw [if_pos c21] at H
         have c21b0 : decide (0 ≤ x39_2) = true := decide_eq_true c21
         clear c21
         by_cases c22 : x39_2 < (l1.length : Int)
         ·rw [if_pos c22] at H
          have c22b0 : decide (x39_2 < (l1.length : Int)) = true := decide_eq_true c22
          clear c22
          have HC23 := Aside0.mk H
          clear H
          have p181 : 0 ≤ (x39_2 : Int) := dt_
          have q181 : x39_2 < (l1.length : Int) := dt_
          obtain ⟨ad181, e181, hx181_0, hx181_1, hx181_2⟩ := at_T46 HR1.out x39_2 p181 q181
          cases e181
          replace hx181_0 := (HB.out.cell (World.block_lt_of_cell? w _ hx181_0)).trans hx181_0
          replace hx181_1 := (HB.out.cell (World.block_lt_of_cell? w _ hx181_1)).trans hx181_1
          replace hx181_2 := (HB.out.cell (World.block_lt_of_cell? w _ hx181_2)).trans hx181_2
          replace p181 := eq_true p181
          replace q181 := eq_true q181
          go_upto_region 13 with (first | ((with_reducible refine gate_dst (N := 11) rfl ?_); (try (refine gate_guard (by rfl) ?_; dsimp only)); refine box_event ?hg (N := 11) ?hd (cs := #[.int .i64 0, .int .i64 0, .string (⟨#[]⟩ : ByteArray)]) (t := 46) ?hr ?_; (case hd => rfl); (case hg => rfl); (case hr => first | (go_simp; done) | (go_simp; rfl)); intro gb182 hg w24 hbox hb; have n0_ := Aside0.mk (Kd.R_below (ro_ HO_6) hb); have n1_ := Aside0.mk (below_step (hb0_ HB) hb); have n2_ := Aside0.mk (hbox); have n3_ := Aside0.mk ((by rw [hg]; exact (below_size (hb0_ HB)) : w.heap.size ≤ gb182)); have n4_ := Aside0.mk ((by rw [hg]; exact (below_size (hb0_ HB)) : w.heap.size ≤ gb182)); clear HO_6; clear HB; have HO_6 := n0_; have HB := n1_; have BK182 := n2_; have GW182 := n3_; have GE182 := n4_; clear n0_ n1_ n2_ n3_ n4_; clear hb hbox hg; have hcz25_0 : w24.cell? ⟨gb182, 0, none⟩ = some (.int .i64 0) := (blk_cell BK182.out 0).trans rfl; have hcz25_1 : w24.cell? ⟨gb182, 1, none⟩ = some (.int .i64 0) := (blk_cell BK182.out 1).trans rfl; have hcz25_2 : w24.cell? ⟨gb182, 2, none⟩ = some (.string (⟨#[]⟩ : ByteArray)) := (blk_cell BK182.out 2).trans rfl; have hfz25_0 := blk_frozen BK182.out 0; have hfz25_1 := blk_frozen BK182.out 1; have hfz25_2 := blk_frozen BK182.out 2))
          (try simp only [Act.put, List.setIfInBounds_toArray, List.set_cons_zero, List.set_cons_succ])
          go_cut [67] (fun v67 wc => ∃ (kq : Nat) (x67_22 : Bool), v67 = .bool x67_22 ∧ Aside0 (diff_Do.j2 kq x6_2 l1 (l1.length : Int) x39_2 x67_22 ((rd_T46 l1 x39_2).f0) ((rd_T46 l1 x39_2).f1) ((rd_T46 l1 x39_2).f2) = some (r1, r2)) ∧ Aside0 (kq ≤ k2) ∧ Aside0 (Kd.R (Kd.int .i32) 21 wc w.heap.size (fun _ => True) u6 x6_2) ∧ Aside0 (wc.heap[gb182]? = some (.cells #[.int .i64 ((rd_T46 l1 x39_2).f0), .int .i64 ((rd_T46 l1 x39_2).f1), .string ((rd_T46 l1 x39_2).f2)] 46 (0, 0))) ∧ Aside0 (Below w.heap.size w wc))
          case first =>
           have H := HC23.out
           clear HC23
           by_cases c26 : ((rd_T46 l1 x39_2).f0) < 0
           ·rw [if_pos c26] at H
            have c26b0 : decide (((rd_T46 l1 x39_2).f0) < 0) = true := decide_eq_true c26
            clear c26
            (first | rw [c26b0] | (simp only [i64_w, i32_w]; rw [c26b0]) | skip)
            have H' := Aside0.mk H
            clear H
            have hcz27_0 : w24.cell? ⟨gb182, 0, none⟩ = some (.int .i64 0) := (blk_cell BK182.out 0).trans rfl
            have hcz27_1 : w24.cell? ⟨gb182, 1, none⟩ = some (.int .i64 0) := (blk_cell BK182.out 1).trans rfl
            have hcz27_2 : w24.cell? ⟨gb182, 2, none⟩ = some (.string (⟨#[]⟩ : ByteArray)) := (blk_cell BK182.out 2).trans rfl
            have hfz27_0 := blk_frozen BK182.out 0
            have hfz27_1 := blk_frozen BK182.out 1
            have hfz27_2 := blk_frozen BK182.out 2
            go_wp2
            go_meet
            case rel => exact ⟨_, (true), (by first | rfl | (simp; done) | (simp [*]; done)), H', ⟨by have := HK1.out; have := HK2.out; first | omega | exact Nat.le_refl _⟩, ⟨by (with_reducible repeat (first | apply Kd.R_alloc | apply Kd.R_drewN | apply Kd.R_drew)); exact Kd.R_mono (Kd.R_far (p := ⟨gb182, 2, none⟩) (Kd.R_far (p := ⟨gb182, 1, none⟩) (Kd.R_far (p := ⟨gb182, 0, none⟩) (Kd.R_types HO_6.out BK182.out (by decide)) (fun _ hk => hk.2) (.int .i64 ((rd_T46 l1 x39_2).f0))) (fun _ hk => hk.2) (.int .i64 ((rd_T46 l1 x39_2).f1))) (fun _ hk => hk.2) (.string ((rd_T46 l1 x39_2).f2))) (fun _ hk => trivial)⟩, ⟨by (with_reducible repeat (first | refine blk_drewN ?_ _ | refine blk_drew ?_ | refine blk_alloc ?_ _)); refine blk_put (cs := #[.int .i64 ((rd_T46 l1 x39_2).f0), .int .i64 ((rd_T46 l1 x39_2).f1), .string (⟨#[]⟩ : ByteArray)]) ?_ 2 _ rfl; (with_reducible repeat (first | refine blk_drewN ?_ _ | refine blk_drew ?_ | refine blk_alloc ?_ _)); refine blk_put (cs := #[.int .i64 ((rd_T46 l1 x39_2).f0), .int .i64 0, .string (⟨#[]⟩ : ByteArray)]) ?_ 1 _ rfl; (with_reducible repeat (first | refine blk_drewN ?_ _ | refine blk_drew ?_ | refine blk_alloc ?_ _)); refine blk_put (cs := #[.int .i64 0, .int .i64 0, .string (⟨#[]⟩ : ByteArray)]) ?_ 0 _ rfl; (with_reducible repeat (first | refine blk_drewN ?_ _ | refine blk_drew ?_ | refine blk_alloc ?_ _)); exact BK182.out⟩, ⟨by repeat (first | (with_reducible first | exact HB.out | apply below_alloc | apply pw_below_drewN | apply below_drew1 | refine below_set ?_ GE182.out) | exact HB.out)⟩⟩
           ·rw [if_neg c26] at H
            have c26b0 : decide (((rd_T46 l1 x39_2).f0) < 0) = false := decide_eq_false c26
            clear c26
            (first | rw [c26b0] | (simp only [i64_w, i32_w]; rw [c26b0]) | skip)
            by_cases c28 : ((rd_T46 l1 x39_2).f0) > (x6_2.length : Int)
            ·rw [if_pos c28] at H
             have c28b0 : decide ((x6_2.length : Int) < ((rd_T46 l1 x39_2).f0)) = true := decide_eq_true c28
             clear c28
             have H' := Aside0.mk H
             clear H
             have hcz29_0 : w24.cell? ⟨gb182, 0, none⟩ = some (.int .i64 0) := (blk_cell BK182.out 0).trans rfl
             have hcz29_1 : w24.cell? ⟨gb182, 1, none⟩ = some (.int .i64 0) := (blk_cell BK182.out 1).trans rfl
             have hcz29_2 : w24.cell? ⟨gb182, 2, none⟩ = some (.string (⟨#[]⟩ : ByteArray)) := (blk_cell BK182.out 2).trans rfl
             have hfz29_0 := blk_frozen BK182.out 0
             have hfz29_1 := blk_frozen BK182.out 1
             have hfz29_2 := blk_frozen BK182.out 2
             obtain ⟨Ao30, co30, eo30⟩ := Kd.R_slice HO_6.out
             subst eo30
             go_wp2
             go_meet
             case rel => exact ⟨_, (true), (by first | rfl | (simp; done) | (simp [*]; done)), H', ⟨by have := HK1.out; have := HK2.out; first | omega | exact Nat.le_refl _⟩, ⟨by (with_reducible repeat (first | apply Kd.R_alloc | apply Kd.R_drewN | apply Kd.R_drew)); exact Kd.R_mono (Kd.R_far (p := ⟨gb182, 2, none⟩) (Kd.R_far (p := ⟨gb182, 1, none⟩) (Kd.R_far (p := ⟨gb182, 0, none⟩) (Kd.R_types HO_6.out BK182.out (by decide)) (fun _ hk => hk.2) (.int .i64 ((rd_T46 l1 x39_2).f0))) (fun _ hk => hk.2) (.int .i64 ((rd_T46 l1 x39_2).f1))) (fun _ hk => hk.2) (.string ((rd_T46 l1 x39_2).f2))) (fun _ hk => trivial)⟩, ⟨by (with_reducible repeat (first | refine blk_drewN ?_ _ | refine blk_drew ?_ | refine blk_alloc ?_ _)); refine blk_put (cs := #[.int .i64 ((rd_T46 l1 x39_2).f0), .int .i64 ((rd_T46 l1 x39_2).f1), .string (⟨#[]⟩ : ByteArray)]) ?_ 2 _ rfl; (with_reducible repeat (first | refine blk_drewN ?_ _ | refine blk_drew ?_ | refine blk_alloc ?_ _)); refine blk_put (cs := #[.int .i64 ((rd_T46 l1 x39_2).f0), .int .i64 0, .string (⟨#[]⟩ : ByteArray)]) ?_ 1 _ rfl; (with_reducible repeat (first | refine blk_drewN ?_ _ | refine blk_drew ?_ | refine blk_alloc ?_ _)); refine blk_put (cs := #[.int .i64 0, .int .i64 0, .string (⟨#[]⟩ : ByteArray)]) ?_ 0 _ rfl; (with_reducible repeat (first | refine blk_drewN ?_ _ | refine blk_drew ?_ | refine blk_alloc ?_ _)); exact BK182.out⟩, ⟨by repeat (first | (with_reducible first | exact HB.out | apply below_alloc | apply pw_below_drewN | apply below_drew1 | refine below_set ?_ GE182.out) | exact HB.out)⟩⟩
            ·rw [if_neg c28] at H
             have c28b0 : decide ((x6_2.length : Int) < ((rd_T46 l1 x39_2).f0)) = false := decide_eq_false c28
             clear c28
             by_cases c31 : ((rd_T46 l1 x39_2).f1) < 0
             ·rw [if_pos c31] at H
              have c31b0 : decide (((rd_T46 l1 x39_2).f1) < 0) = true := decide_eq_true c31
              clear c31
              have H' := Aside0.mk H
              clear H
              have hcz32_0 : w24.cell? ⟨gb182, 0, none⟩ = some (.int .i64 0) := (blk_cell BK182.out 0).trans rfl
              have hcz32_1 : w24.cell? ⟨gb182, 1, none⟩ = some (.int .i64 0) := (blk_cell BK182.out 1).trans rfl
              have hcz32_2 : w24.cell? ⟨gb182, 2, none⟩ = some (.string (⟨#[]⟩ : ByteArray)) := (blk_cell BK182.out 2).trans rfl
              have hfz32_0 := blk_frozen BK182.out 0
              have hfz32_1 := blk_frozen BK182.out 1
              have hfz32_2 := blk_frozen BK182.out 2
              obtain ⟨Ao33, co33, eo33⟩ := Kd.R_slice HO_6.out
              subst eo33
              go_wp2
              go_meet
              case rel => exact ⟨_, (true), (by first | rfl | (simp; done) | (simp [*]; done)), H', ⟨by have := HK1.out; have := HK2.out; first | omega | exact Nat.le_refl _⟩, ⟨by (with_reducible repeat (first | apply Kd.R_alloc | apply Kd.R_drewN | apply Kd.R_drew)); exact Kd.R_mono (Kd.R_far (p := ⟨gb182, 2, none⟩) (Kd.R_far (p := ⟨gb182, 1, none⟩) (Kd.R_far (p := ⟨gb182, 0, none⟩) (Kd.R_types HO_6.out BK182.out (by decide)) (fun _ hk => hk.2) (.int .i64 ((rd_T46 l1 x39_2).f0))) (fun _ hk => hk.2) (.int .i64 ((rd_T46 l1 x39_2).f1))) (fun _ hk => hk.2) (.string ((rd_T46 l1 x39_2).f2))) (fun _ hk => trivial)⟩, ⟨by (with_reducible repeat (first | refine blk_drewN ?_ _ | refine blk_drew ?_ | refine blk_alloc ?_ _)); refine blk_put (cs := #[.int .i64 ((rd_T46 l1 x39_2).f0), .int .i64 ((rd_T46 l1 x39_2).f1), .string (⟨#[]⟩ : ByteArray)]) ?_ 2 _ rfl; (with_reducible repeat (first | refine blk_drewN ?_ _ | refine blk_drew ?_ | refine blk_alloc ?_ _)); refine blk_put (cs := #[.int .i64 ((rd_T46 l1 x39_2).f0), .int .i64 0, .string (⟨#[]⟩ : ByteArray)]) ?_ 1 _ rfl; (with_reducible repeat (first | refine blk_drewN ?_ _ | refine blk_drew ?_ | refine blk_alloc ?_ _)); refine blk_put (cs := #[.int .i64 0, .int .i64 0, .string (⟨#[]⟩ : ByteArray)]) ?_ 0 _ rfl; (with_reducible repeat (first | refine blk_drewN ?_ _ | refine blk_drew ?_ | refine blk_alloc ?_ _)); exact BK182.out⟩, ⟨by repeat (first | (with_reducible first | exact HB.out | apply below_alloc | apply pw_below_drewN | apply below_drew1 | refine below_set ?_ GE182.out) | exact HB.out)⟩⟩
             ·rw [if_neg c31] at H
              have c31b0 : decide (((rd_T46 l1 x39_2).f1) < 0) = false := decide_eq_false c31
              clear c31
              have H' := Aside0.mk H
              clear H
              have hcz34_0 : w24.cell? ⟨gb182, 0, none⟩ = some (.int .i64 0) := (blk_cell BK182.out 0).trans rfl
              have hcz34_1 : w24.cell? ⟨gb182, 1, none⟩ = some (.int .i64 0) := (blk_cell BK182.out 1).trans rfl
              have hcz34_2 : w24.cell? ⟨gb182, 2, none⟩ = some (.string (⟨#[]⟩ : ByteArray)) := (blk_cell BK182.out 2).trans rfl
              have hfz34_0 := blk_frozen BK182.out 0
              have hfz34_1 := blk_frozen BK182.out 1
              have hfz34_2 := blk_frozen BK182.out 2
              obtain ⟨Ao35, co35, eo35⟩ := Kd.R_slice HO_6.out
              subst eo35
              go_wp2
              go_meet
              case rel => exact ⟨_, (decide (((rd_T46 l1 x39_2).f1) > (wrap64 ((x6_2.length : Int) - ((rd_T46 l1 x39_2).f0))))), (by first | rfl | (simp; done) | (simp [*]; done)), H', ⟨by have := HK1.out; have := HK2.out; first | omega | exact Nat.le_refl _⟩, ⟨by (with_reducible repeat (first | apply Kd.R_alloc | apply Kd.R_drewN | apply Kd.R_drew)); exact Kd.R_mono (Kd.R_far (p := ⟨gb182, 2, none⟩) (Kd.R_far (p := ⟨gb182, 1, none⟩) (Kd.R_far (p := ⟨gb182, 0, none⟩) (Kd.R_types HO_6.out BK182.out (by decide)) (fun _ hk => hk.2) (.int .i64 ((rd_T46 l1 x39_2).f0))) (fun _ hk => hk.2) (.int .i64 ((rd_T46 l1 x39_2).f1))) (fun _ hk => hk.2) (.string ((rd_T46 l1 x39_2).f2))) (fun _ hk => trivial)⟩, ⟨by (with_reducible repeat (first | refine blk_drewN ?_ _ | refine blk_drew ?_ | refine blk_alloc ?_ _)); refine blk_put (cs := #[.int .i64 ((rd_T46 l1 x39_2).f0), .int .i64 ((rd_T46 l1 x39_2).f1), .string (⟨#[]⟩ : ByteArray)]) ?_ 2 _ rfl; (with_reducible repeat (first | refine blk_drewN ?_ _ | refine blk_drew ?_ | refine blk_alloc ?_ _)); refine blk_put (cs := #[.int .i64 ((rd_T46 l1 x39_2).f0), .int .i64 0, .string (⟨#[]⟩ : ByteArray)]) ?_ 1 _ rfl; (with_reducible repeat (first | refine blk_drewN ?_ _ | refine blk_drew ?_ | refine blk_alloc ?_ _)); refine blk_put (cs := #[.int .i64 0, .int .i64 0, .string (⟨#[]⟩ : ByteArray)]) ?_ 0 _ rfl; (with_reducible repeat (first | refine blk_drewN ?_ _ | refine blk_drew ?_ | refine blk_alloc ?_ _)); exact BK182.out⟩, ⟨by repeat (first | (with_reducible first | exact HB.out | apply below_alloc | apply pw_below_drewN | apply below_drew1 | refine below_set ?_ GE182.out) | exact HB.out)⟩⟩
          case rest =>
           clear HC23
           try clear c1
           try clear p1
           try clear q1
           try clear hx1
           try clear c2
           try clear p2
           try clear c3
           try clear c5
           try clear c5b0
           try clear c6
           try clear c6b0
           try clear p6
           try clear c7
           try clear c7b0
           try clear c8
           try clear c8b0
           try clear c8b1
           try clear c10
           try clear p17
           try clear q17
           try clear hx17
           try clear p18
           try clear q18
           try clear hx18
           try clear c19
           try clear c19b0
           try clear c19b1
           try clear c20
           try clear c20b0
           try clear c21
           try clear c21b0
           try clear c22
           try clear c22b0
           try clear c26
           try clear c26b0
           try clear c28
           try clear c28b0
           try clear c31
           try clear c31b0
           try clear hcz12_0
           try clear hcz12_1
           try clear hcz12_2
           try clear hcz15_0
           try clear hcz15_1
           try clear hcz15_2
           try clear hcz18_0
           try clear hcz18_1
           try clear hcz18_2
           try clear hcz25_0
           try clear hcz25_1
           try clear hcz25_2
           try clear hcz27_0
           try clear hcz27_1
           try clear hcz27_2
           try clear hcz29_0
           try clear hcz29_1
           try clear hcz29_2
           try clear hcz32_0
           try clear hcz32_1
           try clear hcz32_2
           try clear hcz34_0
           try clear hcz34_1
           try clear hcz34_2
           try clear hfz12_0
           try clear hfz12_1
           try clear hfz12_2
           try clear hfz15_0
           try clear hfz15_1
           try clear hfz15_2
           try clear hfz18_0
           try clear hfz18_1
           try clear hfz18_2
           try clear hfz25_0
           try clear hfz25_1
           try clear hfz25_2
           try clear hfz27_0
           try clear hfz27_1
           try clear hfz27_2
           try clear hfz29_0
           try clear hfz29_1
           try clear hfz29_2
           try clear hfz32_0
           try clear hfz32_1
           try clear hfz32_2
           try clear hfz34_0
           try clear hfz34_1
           try clear hfz34_2
           try clear hx176_0
           try clear hx176_1
           try clear hx176_2
           try clear hx181_0
           try clear hx181_1
           try clear hx181_2
           try clear p1
           try clear p17
           try clear p176
           try clear p181
           try clear p2
           try clear p6
           try clear q1
           try clear q17
           try clear q176
           try clear q181
           obtain ⟨kq, x67_22, rfl, HA, HJ22, HO_6, BK182, HB⟩ := hcut
           cases kq with
           | zero => exact absurd HA.out (by simp [diff_Do.j2])
           | succ kj22 =>
            have H := HA.out
            clear HA
            simp only [diff_Do.j2] at H
            by_cases c36 : x67_22 = true
            ·subst c36
             have H1 : (some ((⟨#[]⟩ : ByteArray), 3)) = some (r1, r2) := by rw [if_pos rfl] at H; exact H
             clear H
             have H := H1
             clear H1
             simp only [Option.some.injEq, Prod.mk.injEq] at H
             obtain ⟨rfl, rfl⟩ := H
             go_wp2
             go_ret2
             exact ⟨by first | rfl | (simp [errW_none, errW_some] <;> rfl) | (simp [*, errW_none, errW_some] <;> rfl), by repeat (first | (with_reducible first | exact HB.out | apply below_alloc | apply pw_below_drewN | apply below_drew1 | refine below_set ?_ GE182.out) | exact HB.out)⟩
            ·replace c36 := Bool.eq_false_iff.mpr c36
             subst c36
             have H1 : ((runes_Split.f ((rd_T46 l1 x39_2).f2)).bind fun bt183 => (if 0 ≤ ((rd_T46 l1 x39_2).f0) then (if ((rd_T46 l1 x39_2).f0) ≤ (x6_2.length : Int) then (if 0 ≤ (wrap64 (((rd_T46 l1 x39_2).f0) + ((rd_T46 l1 x39_2).f1))) then (if (wrap64 (((rd_T46 l1 x39_2).f0) + ((rd_T46 l1 x39_2).f1))) ≤ (x6_2.length : Int) then ((slices_Concat.f (([(x6_2.take (((rd_T46 l1 x39_2).f0) : Int).toNat), bt183.1, (x6_2.drop ((wrap64 (((rd_T46 l1 x39_2).f0) + ((rd_T46 l1 x39_2).f1))) : Int).toNat)] : List (List Int)))).bind fun t200 => (diff_Do.l1 kj22 t200 l1 (l1.length : Int) (wrap64 (x39_2 + 1)))) else (none)) else (none)) else (none)) else (none))) = some (r1, r2) := by rw [if_neg (show ¬ (false = true) by decide)] at H; exact H
             clear H
             have H := H1
             clear H1
             replace H := Option.bind_eq_some_iff.mp H
             obtain ⟨⟨t183, t184⟩, A370, H⟩ := H
             replace H : (if 0 ≤ ((rd_T46 l1 x39_2).f0) then (if ((rd_T46 l1 x39_2).f0) ≤ (x6_2.length : Int) then (if 0 ≤ (wrap64 (((rd_T46 l1 x39_2).f0) + ((rd_T46 l1 x39_2).f1))) then (if (wrap64 (((rd_T46 l1 x39_2).f0) + ((rd_T46 l1 x39_2).f1))) ≤ (x6_2.length : Int) then ((slices_Concat.f (([(x6_2.take (((rd_T46 l1 x39_2).f0) : Int).toNat), t183, (x6_2.drop ((wrap64 (((rd_T46 l1 x39_2).f0) + ((rd_T46 l1 x39_2).f1))) : Int).toNat)] : List (List Int)))).bind fun t200 => (diff_Do.l1 kj22 t200 l1 (l1.length : Int) (wrap64 (x39_2 + 1)))) else (none)) else (none)) else (none)) else (none)) = some (r1, r2) := H
             have A37 := Aside0.mk A370
             clear A370
             by_cases c38 : 0 ≤ ((rd_T46 l1 x39_2).f0)
             ·rw [if_pos c38] at H
              have c38b0 := eq_true c38
              have c38b1 : decide (0 ≤ ((rd_T46 l1 x39_2).f0)) = true := decide_eq_true c38
              clear c38
              by_cases c39 : ((rd_T46 l1 x39_2).f0) ≤ (x6_2.length : Int)
              ·rw [if_pos c39] at H
               have c39b0 := eq_true c39
               have c39b1 : decide (((rd_T46 l1 x39_2).f0) ≤ (x6_2.length : Int)) = true := decide_eq_true c39
               clear c39
               obtain ⟨y187, hy187⟩ : ∃ y_ : List Int, y_ = (x6_2.take (((rd_T46 l1 x39_2).f0) : Int).toNat) := ⟨_, rfl⟩
               replace H : (if 0 ≤ (wrap64 (((rd_T46 l1 x39_2).f0) + ((rd_T46 l1 x39_2).f1))) then (if (wrap64 (((rd_T46 l1 x39_2).f0) + ((rd_T46 l1 x39_2).f1))) ≤ (x6_2.length : Int) then ((slices_Concat.f (([y187, t183, (x6_2.drop ((wrap64 (((rd_T46 l1 x39_2).f0) + ((rd_T46 l1 x39_2).f1))) : Int).toNat)] : List (List Int)))).bind fun t200 => (diff_Do.l1 kj22 t200 l1 (l1.length : Int) (wrap64 (x39_2 + 1)))) else (none)) else (none)) = some (r1, r2) := by first | (rw [hy187]; with_reducible exact H) | (have H2_ := (Option.bind_some _ _).symm.trans H; rw [hy187]; with_reducible exact H2_) | (have H2_ := (Option.bind_some _ _).symm.trans H; with_reducible exact H2_) | with_reducible exact H | (rw [hy187]; exact H) | exact H
               have Ny187 := Aside0.mk hy187
               clear hy187
               obtain ⟨ji40, hji40⟩ : ∃ j_ : Int, (wrap64 (((rd_T46 l1 x39_2).f0) + ((rd_T46 l1 x39_2).f1))) = j_ := ⟨_, rfl⟩
               replace H : (if 0 ≤ (ji40) then (if (ji40) ≤ (x6_2.length : Int) then ((slices_Concat.f (([y187, t183, (x6_2.drop ((ji40) : Int).toNat)] : List (List Int)))).bind fun t200 => (diff_Do.l1 kj22 t200 l1 (l1.length : Int) (wrap64 (x39_2 + 1)))) else (none)) else (none)) = some (r1, r2) := by first | (rw [hji40] at H; exact H) | (simp only [hji40] at H ⊢; exact H)
               (try rw [hji40] at A37)
               have hji40w : (IntKind.i64.wrap (((rd_T46 l1 x39_2).f0) + ((rd_T46 l1 x39_2).f1))) = ji40 := (i64_w _).trans hji40
               by_cases c41 : 0 ≤ (ji40)
               ·rw [if_pos c41] at H
                have c41b0 := eq_true c41
                have c41b1 : decide (0 ≤ (ji40)) = true := decide_eq_true c41
                clear c41
                by_cases c42 : (ji40) ≤ (x6_2.length : Int)
                ·rw [if_pos c42] at H
                 have c42b0 := eq_true c42
                 have c42b1 : decide ((ji40) ≤ (x6_2.length : Int)) = true := decide_eq_true c42
                 clear c42
                 obtain ⟨y192, hy192⟩ : ∃ y_ : List Int, y_ = (x6_2.drop ((ji40) : Int).toNat) := ⟨_, rfl⟩
                 replace H : ((slices_Concat.f (([y187, t183, y192] : List (List Int)))).bind fun t200 => (diff_Do.l1 kj22 t200 l1 (l1.length : Int) (wrap64 (x39_2 + 1)))) = some (r1, r2) := by first | (rw [hy192]; with_reducible exact H) | (have H2_ := (Option.bind_some _ _).symm.trans H; rw [hy192]; with_reducible exact H2_) | (have H2_ := (Option.bind_some _ _).symm.trans H; with_reducible exact H2_) | with_reducible exact H | (rw [hy192]; exact H) | exact H
                 have Ny192 := Aside0.mk hy192
                 clear hy192
                 obtain ⟨y197, hy197⟩ : ∃ y_ : List (List Int), y_ = (([y187, t183, y192] : List (List Int))) := ⟨_, rfl⟩
                 replace H : ((slices_Concat.f y197).bind fun t200 => (diff_Do.l1 kj22 t200 l1 (l1.length : Int) (wrap64 (x39_2 + 1)))) = some (r1, r2) := by first | (rw [hy197]; with_reducible exact H) | (have H2_ := (Option.bind_some _ _).symm.trans H; rw [hy197]; with_reducible exact H2_) | (have H2_ := (Option.bind_some _ _).symm.trans H; with_reducible exact H2_) | with_reducible exact H | (rw [hy197]; exact H) | exact H
                 have Ny197 := Aside0.mk hy197
                 clear hy197
                 replace H := Option.bind_eq_some_iff.mp H
                 obtain ⟨t200, A430, H⟩ := H
                 replace H : (diff_Do.l1 kj22 t200 l1 (l1.length : Int) (wrap64 (x39_2 + 1))) = some (r1, r2) := H
                 have A43 := Aside0.mk A430
                 clear A430
                 have H' := Aside0.mk H
                 clear H
                 have hcz44_0 : wc.cell? ⟨gb182, 0, none⟩ = some (.int .i64 ((rd_T46 l1 x39_2).f0)) := (blk_cell BK182.out 0).trans rfl
                 have hcz44_1 : wc.cell? ⟨gb182, 1, none⟩ = some (.int .i64 ((rd_T46 l1 x39_2).f1)) := (blk_cell BK182.out 1).trans rfl
                 have hcz44_2 : wc.cell? ⟨gb182, 2, none⟩ = some (.string ((rd_T46 l1 x39_2).f2)) := (blk_cell BK182.out 2).trans rfl
                 have hfz44_0 := blk_frozen BK182.out 0
                 have hfz44_1 := blk_frozen BK182.out 1
                 have hfz44_2 := blk_frozen BK182.out 2
                 try go_wp2_with (first | ((with_reducible refine gate_callee (f := 39) rfl ?_); refine goesL_ (some 71) rfl rfl Tryd.func39 (by kernel_rfl) rfl #[.string ((rd_T46 l1 x39_2).f2)] rfl (by (try simp only [List.map_toArray, List.map_cons, List.map_nil]); first | done | rfl | (simp only [List.length_drop, List.length_take]; rfl)) ?_; (with_reducible refine (runes_Split.calls ((rd_T46 l1 x39_2).f2) t183 t184 _ ?side1 A37.out).mono ?_); (case side1 => exact XAmb_step hT (hb1_ HB GE182)); rintro e w45 ⟨v185, rfl, ho0, hb⟩; refine ⟨_, rfl, ?_⟩; have n0_ := Aside0.mk (Kd.R_elder' (ro_ HO_6) (Kd.R_base ho0) hb); have n1_ := Aside0.mk (Kd.R_lower (Kd.R_new' ho0 (Kd.R_lt (ro_ HO_6))) (below_size (hb1_ HB GE182))); have n2_ := Aside0.mk (blk_below (g := gb182) (o := .cells #[.int .i64 ((rd_T46 l1 x39_2).f0), .int .i64 ((rd_T46 l1 x39_2).f1), .string ((rd_T46 l1 x39_2).f2)] 46 (0, 0)) (bk_ BK182) hb); have n3_ := Aside0.mk (below_step (hb1_ HB GE182) hb); clear HO_6; clear BK182; clear HB; have HO_6 := n0_; have HO186 := n1_; have BK182 := n2_; have HB := n3_; clear n0_ n1_ n2_ n3_; (try clear hb); (try clear hb2); (try clear hk); (try clear hi); (try clear ho0)))
                 have n0_ := Aside0.mk (Kd.R_drew HO_6.out)
                 have n1_ := Aside0.mk (Kd.R_drew HO186.out)
                 have n2_ := Aside0.mk (blk_drew BK182.out)
                 have n3_ := Aside0.mk (below_drew1 HB.out)
                 clear HO_6
                 clear HO186
                 clear BK182
                 clear HB
                 have HO_6 := n0_
                 have HO186 := n1_
                 have BK182 := n2_
                 have HB := n3_
                 clear n0_ n1_ n2_ n3_
                 obtain ⟨Ao48, co48, eo48⟩ := Kd.R_slice HO_6.out
                 (first | subst eo48 | (injection eo48 with f1_ f2_ f3_; have f4_ := f1_.symm; have f5_ := f3_.symm; clear f1_ f2_ f3_; subst f4_; subst f5_))
                 have q47 : (((rd_T46 l1 x39_2).f0) : Int) ≤ ((x6_2.length : Int) : Int) := dt_
                 obtain ⟨i047, hi047, _, hsz47, _⟩ := info_parts info21
                 have hroom47 : x6_2.length ≤ co48 := (Kd.R_reads' HO_6.out).2.1
                 have hC47 : Kd.F (Kd.int .i32) _ _ Ao48 x6_2.length x6_2 := (Kd.V_at (base := w.heap.size) (Kd.R_V (Kd.R_types (HO_6.out) BK182.out (by decide)))).2.2
                 have hcut47 := cut_to (P := Tryd.prog) 28 21 .i64 Tryd.underlying28 hi047 Ao48 x6_2.length co48 ((rd_T46 l1 x39_2).f0) (dt_) q47 hroom47
                 have hr47 := Kd.F_take (m := (((rd_T46 l1 x39_2).f0) : Int).toNat) hC47 (by omega)
                 have hy47 : y187.length = (((rd_T46 l1 x39_2).f0) : Int).toNat := (by rw [Ny187.out, List.length_take]; omega)
                 rw [← Ny187.out] at hr47
                 rw [← hy47] at hcut47
                 have HO191 := Aside0.mk (show Kd.V (Kd.int .i32) 21 _ w.heap.size _ (.slice Ao48 y187.length co48) y187 from Kd.V_mk (by omega) hr47)
                 have HC191 := Aside0.mk (show y187.length ≤ co48 from by omega)
                 clear hr47 hC47 hroom47 hi047 hsz47
                 have KY47 := Aside0.mk hy47
                 clear hy47
                 replace q47 := eq_true q47
                 have q49 : ((ji40) : Int) ≤ ((x6_2.length : Int) : Int) := dt_
                 obtain ⟨i049, hi049, _, hsz49, _⟩ := info_parts info21
                 have hroom49 : x6_2.length ≤ co48 := (Kd.R_reads' HO_6.out).2.1
                 have hC49 : Kd.F (Kd.int .i32) _ _ Ao48 x6_2.length x6_2 := (Kd.V_at (base := w.heap.size) (Kd.R_V (Kd.R_types (HO_6.out) BK182.out (by decide)))).2.2
                 have q049 : (0 : Int) ≤ ((ji40) : Int) := dt_
                 have hcut49 := cut_from (P := Tryd.prog) 28 21 .i64 Tryd.underlying28 hi049 1 hsz49 Ao48 x6_2.length co48 (ji40) q049 q49
                 have hr49 := Kd.F_cut (m := ((ji40) : Int).toNat) (c := co48) hC49 (by omega) hroom49
                 obtain ⟨A49, hA49⟩ : ∃ A1, A1 = (if co48 = ((ji40) : Int).toNat then Ao48 else (Ao48 : Option Addr).map (·.add (((ji40) : Int).toNat * 1))) := ⟨_, rfl⟩
                 obtain ⟨c49, hc49⟩ : ∃ c1, c1 = co48 - ((ji40) : Int).toNat := ⟨_, rfl⟩
                 have hy49 : y192.length = x6_2.length - ((ji40) : Int).toNat := (by rw [Ny192.out, List.length_drop] <;> omega)
                 rw [show (x6_2).drop ((ji40) : Int).toNat = y192 from Ny192.out.symm] at hr49
                 replace hr49 : Kd.F (Kd.int .i32) _ _ A49 y192.length y192 := (by rw [hA49]; exact hr49)
                 rw [← hy49, ← hA49, ← hc49] at hcut49
                 have HO196 := Aside0.mk (show Kd.V (Kd.int .i32) 21 _ w.heap.size _ (.slice A49 y192.length c49) y192 from Kd.V_mk (by rw [hy49, hc49]; exact Nat.sub_le_sub_right hroom49 _) hr49)
                 have HC196 := Aside0.mk (show y192.length ≤ c49 from by rw [hy49, hc49]; exact Nat.sub_le_sub_right hroom49 _)
                 clear hr49 hC49 hroom49 hi049 hsz49 hc49
                 have KY49 := Aside0.mk hy49
                 have KA49 := Aside0.mk hA49
                 clear hy49 hA49
                 replace q49 := eq_true q49
                 obtain ⟨Ao50, co50, eo50⟩ := Kd.R_slice HO186.out
                 (first | subst eo50 | (injection eo50 with f1_ f2_ f3_; have f4_ := f1_.symm; have f5_ := f3_.symm; clear f1_ f2_ f3_; subst f4_; subst f5_))
                 refine start_ (n := 15) (S := fun w' => w'.cell? ⟨gb182, 0, none⟩ = some (.int .i64 ((rd_T46 l1 x39_2).f0)) ∧ w'.cell? ⟨gb182, 1, none⟩ = some (.int .i64 ((rd_T46 l1 x39_2).f1)) ∧ w'.cell? ⟨gb182, 2, none⟩ = some (.string ((rd_T46 l1 x39_2).f2))) (ds := []) #[false, false, false, false, false, false, false, false, false, false, false, false, false, false, false] (by kernel_rfl) rfl rfl ⟨(blk_cell BK182.out 0).trans rfl, (blk_cell BK182.out 1).trans rfl, (blk_cell BK182.out 2).trans rfl⟩ (fun hHeld => ?_); refine with_tabW diff_Do.tab16 diff_Do.bits16 (fun HT_ HW_ => ?_)
                 generalize w45.drew = w46 at HO_6 HO186 BK182 HB HO191 HO196 hHeld ⊢
                 refine pure_ (i := 0) (N := some 74) (v := ?_) (a' := ?_) #[true, false, false, false, false, false, false, false, false, false, false, false, false, false, false] rfl rfl (any_of HT_.out (by kernel_rfl)) (fun _ _ _ h => h) (Or.inl ⟨by rfl, ?_⟩) ?_ ?_
                 rotate_left
                 ·intro w'
                  go_simp
                  with_reducible rfl
                 rotate_left
                 ·simp only [Act.put, List.setIfInBounds_toArray, List.set_cons_zero, List.set_cons_succ, i64_w, i32_w]
                  rfl
                 refine pure_ (i := 1) (N := some 75) (v := ?_) (a' := ?_) #[true, true, false, false, false, false, false, false, false, false, false, false, false, false, false] rfl rfl (any_of HT_.out (by kernel_rfl)) (fun _ _ _ h => h) (Or.inl ⟨by rfl, ?_⟩) ?_ ?_
                 rotate_left
                 ·intro w'
                  go_simp
                  with_reducible rfl
                 rotate_left
                 ·simp only [Act.put, List.setIfInBounds_toArray, List.set_cons_zero, List.set_cons_succ, i64_w, i32_w]
                  rfl
                 refine pure_ (i := 4) (N := some 78) (v := ?_) (a' := ?_) #[true, true, false, false, true, false, false, false, false, false, false, false, false, false, false] rfl rfl (any_of HT_.out (by kernel_rfl)) (fun _ _ _ h => h) (Or.inl ⟨by rfl, ?_⟩) ?_ ?_
                 rotate_left
                 ·intro w'
                  go_simp
                  with_reducible rfl
                 rotate_left
                 ·simp only [Act.put, List.setIfInBounds_toArray, List.set_cons_zero, List.set_cons_succ, i64_w, i32_w]
                  rfl
                 refine pure_ (i := 5) (N := some 79) (v := ?_) (a' := ?_) #[true, true, false, false, true, true, false, false, false, false, false, false, false, false, false] rfl rfl (any_of HT_.out (by kernel_rfl)) (fun _ _ _ h => h) (Or.inl ⟨by rfl, ?_⟩) ?_ ?_
                 rotate_left
                 ·intro w'
                  go_simp
                  with_reducible rfl
                 rotate_left
                 ·simp only [Act.put, List.setIfInBounds_toArray, List.set_cons_zero, List.set_cons_succ, i64_w, i32_w]
                  rfl
                 refine pure_ (i := 6) (N := some 80) (v := ?_) (a' := ?_) #[true, true, false, false, true, true, true, false, false, false, false, false, false, false, false] rfl rfl (any_of HT_.out (by kernel_rfl)) (fun _ _ _ h => h) (Or.inl ⟨by rfl, ?_⟩) ?_ ?_
                 rotate_left
                 ·intro w'
                  go_simp
                  with_reducible rfl
                 rotate_left
                 ·simp only [Act.put, List.setIfInBounds_toArray, List.set_cons_zero, List.set_cons_succ, i64_w, i32_w]
                  rfl
                 refine pure_ (i := 8) (N := some 82) (v := ?_) (a' := ?_) #[true, true, false, false, true, true, true, false, true, false, false, false, false, false, false] rfl rfl (any_of HT_.out (by kernel_rfl)) (fun _ _ _ h => h) (Or.inl ⟨by rfl, ?_⟩) ?_ ?_
                 rotate_left
                 ·intro w'
                  go_simp
                  with_reducible rfl
                 rotate_left
                 ·simp only [Act.put, List.setIfInBounds_toArray, List.set_cons_zero, List.set_cons_succ, i64_w, i32_w]
                  rfl
                 refine take_ (i := 2) (N := some 76) (v := ?_) (a' := ?_) #[true, true, true, false, true, true, true, false, true, false, false, false, false, false, false] rfl rfl (take_ofW HT_.out HW_.out (by kernel_rfl)) (fun _ _ _ h => h) (Or.inl ⟨by rfl, ?_⟩) hHeld ?_ ?_
                 rotate_left
                 ·rintro w' ⟨s0, s1, s2⟩
                  go_simp
                  with_reducible rfl
                 rotate_left
                 ·simp only [Act.put, List.setIfInBounds_toArray, List.set_cons_zero, List.set_cons_succ, i64_w, i32_w]
                  rfl
                 refine pure_ (i := 3) (N := some 77) (v := ?_) (a' := ?_) #[true, true, true, true, true, true, true, false, true, false, false, false, false, false, false] rfl rfl (any_of HT_.out (by kernel_rfl)) (fun _ _ _ h => h) (Or.inl ⟨by rfl, ?_⟩) ?_ ?_
                 rotate_left
                 ·intro w'
                  go_simp
                  with_reducible rfl
                 rotate_left
                 ·simp only [Act.put, List.setIfInBounds_toArray, List.set_cons_zero, List.set_cons_succ, i64_w, i32_w]
                  rfl
                 refine take_ (i := 7) (N := some 81) (v := ?_) (a' := ?_) #[true, true, true, true, true, true, true, true, true, false, false, false, false, false, false] rfl rfl (take_ofW HT_.out HW_.out (by kernel_rfl)) (fun _ _ _ h => h) (Or.inl ⟨by rfl, ?_⟩) hHeld ?_ ?_
                 rotate_left
                 ·rintro w' ⟨s0, s1, s2⟩
                  go_simp
                  with_reducible rfl
                 rotate_left
                 ·simp only [Act.put, List.setIfInBounds_toArray, List.set_cons_zero, List.set_cons_succ, i64_w, i32_w]
                  rfl
                 refine take_ (i := 9) (N := some 83) (v := ?_) (a' := ?_) #[true, true, true, true, true, true, true, true, true, true, false, false, false, false, false] rfl rfl (take_ofW HT_.out HW_.out (by kernel_rfl)) (fun _ _ _ h => h) (Or.inl ⟨by rfl, ?_⟩) hHeld ?_ ?_
                 rotate_left
                 ·rintro w' ⟨s0, s1, s2⟩
                  go_simp
                  with_reducible rfl
                 rotate_left
                 ·simp only [Act.put, List.setIfInBounds_toArray, List.set_cons_zero, List.set_cons_succ, i64_w, i32_w]
                  rfl
                 refine pure_ (i := 10) (N := some 84) (v := ?_) (a' := ?_) #[true, true, true, true, true, true, true, true, true, true, true, false, false, false, false] rfl rfl (any_of HT_.out (by kernel_rfl)) (fun _ _ _ h => h) (Or.inl ⟨by rfl, ?_⟩) ?_ ?_
                 rotate_left
                 ·intro w'
                  go_simp
                  with_reducible rfl
                 rotate_left
                 ·simp only [Act.put, List.setIfInBounds_toArray, List.set_cons_zero, List.set_cons_succ, i64_w, i32_w]
                  rfl
                 refine pure_ (i := 11) (N := some 85) (v := ?_) (a' := ?_) #[true, true, true, true, true, true, true, true, true, true, true, true, false, false, false] rfl rfl (any_of HT_.out (by kernel_rfl)) (fun _ _ _ h => h) (Or.inl ⟨by rfl, ?_⟩) ?_ ?_
                 rotate_left
                 ·intro w'
                  go_simp
                  with_reducible rfl
                 rotate_left
                 ·simp only [Act.put, List.setIfInBounds_toArray, List.set_cons_zero, List.set_cons_succ, i64_w, i32_w]
                  rfl
                 refine one_ (i := 12) (N := some 86) #[true, true, true, true, true, true, true, true, true, true, true, true, true, false, false] rfl rfl (one_of HT_.out (by kernel_rfl)) (by decide) (fun K hK => ?_)
                 refine Kd.N_lit_step (Kd.slice 21 (Kd.int .i32)) _ 28 ?hg (N' := 86) ?hd (xs := ([y187, t183, y192] : List (List Int))) (inner := [.slice Ao48 y187.length co48, .slice Ao50 t183.length co50, .slice A49 y192.length c49]) (ok := (fun k_ => k_ ≠ gb182)) (okp := (fun k_ => k_ ≠ gb182)) ?hr ?hp (fun _ hk => hk) ((show ∀ k_, w46.heap.size ≤ k_ → (fun k_ => k_ ≠ gb182) k_ from fun k_ hk => Kd.freshB (g := gb182) (o := .cells #[.int .i64 ((rd_T46 l1 x39_2).f0), .int .i64 ((rd_T46 l1 x39_2).f1), .string ((rd_T46 l1 x39_2).f2)] 46 (0, 0)) (bk_ BK182) k_ hk) _ (Nat.le_refl _)) (Below.refl _ _) (Nat.le_refl _) (by simp) ?_; (case hd => rfl); (case hg => rfl); (case hr => first | (go_simp; done) | (go_simp; rfl)); (case hp => exact (Reps.one (show Kd.FK (Kd.slice 21 (Kd.int .i32)) _ _ y187 [.slice Ao48 y187.length co48] from (Kd.FK_slice_mk (Kd.V_reads' (Kd.V_mono (ok' := (fun k_ => k_ ≠ gb182)) (HO191.out) (fun k_ hk => hk.2))).2.1 (Kd.V_F (Kd.V_mono (ok' := (fun k_ => k_ ≠ gb182)) (HO191.out) (fun k_ hk => hk.2))))) (Reps.one (show Kd.FK (Kd.slice 21 (Kd.int .i32)) _ _ t183 [.slice Ao50 t183.length co50] from (Kd.FK_slice_mk (Kd.R_reads' (Kd.R_mono (ok' := (fun k_ => k_ ≠ gb182)) (Kd.R_types (HO186.out) BK182.out (by decide)) (fun k_ hk => hk.2))).2.1 (Kd.R_F (Kd.R_mono (ok' := (fun k_ => k_ ≠ gb182)) (Kd.R_types (HO186.out) BK182.out (by decide)) (fun k_ hk => hk.2))))) (Reps.one (show Kd.FK (Kd.slice 21 (Kd.int .i32)) _ _ y192 [.slice A49 y192.length c49] from (Kd.FK_slice_mk (Kd.V_reads' (Kd.V_mono (ok' := (fun k_ => k_ ≠ gb182)) (HO196.out) (fun k_ hk => hk.2))).2.1 (Kd.V_F (Kd.V_mono (ok' := (fun k_ => k_ ≠ gb182)) (HO196.out) (fun k_ hk => hk.2))))) (Reps.none _ _)))))
                 intro v198 w51 ho52 hb hg_ hnew_
                 clear hg_ hnew_
                 (first | rw [← Ny197.out] at ho52 | (simp only [Int.reduceToNat] at ho52; rw [← Ny197.out] at ho52))
                 have n0_ := Aside0.mk (Kd.R_below (ro_ HO_6) hb)
                 have n1_ := Aside0.mk (Kd.V_elder' (by (with_reducible repeat (first | apply Kd.V_alloc | apply Kd.V_drewN | apply Kd.V_drew)); exact HO191.out) (Kd.N_base ho52) hb)
                 have n2_ := Aside0.mk (Kd.V_elder' (by (with_reducible repeat (first | apply Kd.V_alloc | apply Kd.V_drewN | apply Kd.V_drew)); exact HO196.out) (Kd.N_base ho52) hb)
                 have n3_ := Aside0.mk (Kd.N_lower ho52 (below_size (hb1_ HB GE182)))
                 have n4_ := Aside0.mk (blk_below (g := gb182) (o := .cells #[.int .i64 ((rd_T46 l1 x39_2).f0), .int .i64 ((rd_T46 l1 x39_2).f1), .string ((rd_T46 l1 x39_2).f2)] 46 (0, 0)) (bk_ BK182) hb)
                 have n5_ := Aside0.mk (below_step (hb1_ HB GE182) hb)
                 clear HO_6
                 clear HO191
                 clear HO196
                 clear BK182
                 clear HB
                 clear HO186
                 have HO_6 := n0_
                 have HO191 := n1_
                 have HO196 := n2_
                 have HO199 := n3_
                 have BK182 := n4_
                 have HB := n5_
                 clear n0_ n1_ n2_ n3_ n4_ n5_
                 clear hb ho52
                 obtain ⟨Ao53, co53, eo53⟩ := Kd.N_slice HO199.out
                 (first | subst eo53 | (injection eo53 with f1_ f2_ f3_; have f4_ := f1_.symm; have f5_ := f3_.symm; clear f1_ f2_ f3_; subst f4_; subst f5_))
                 refine hK.out _ _ ⟨(blk_cell BK182.out 0).trans rfl, (blk_cell BK182.out 1).trans rfl, (blk_cell BK182.out 2).trans rfl⟩ (fun hHeld => ?_)
                 clear hK K
                 refine norm_ (a' := ?_) ?_ ?_
                 rotate_left
                 ·show Act.put _ (some 86) _ = _
                  simp only [Act.put, List.setIfInBounds_toArray, List.set_cons_zero, List.set_cons_succ, i64_w, i32_w]
                  rfl
                 refine one_ (i := 13) (N := some 87) #[true, true, true, true, true, true, true, true, true, true, true, true, true, true, false] rfl rfl (one_of HT_.out (by kernel_rfl)) (by decide) (fun K hK => ?_)
                 refine goes_ Tryd.func45 (by kernel_rfl) rfl #[.slice Ao53 y197.length co53] (by rfl) rfl rfl (by (try simp only [List.map_toArray, List.map_cons, List.map_nil]); first | done | rfl | (simp only [List.length_drop, List.length_take]; rfl)) ?_
                 with_reducible refine (slices_Concat.calls _ _ y197 t200 _ ?side1 ?side2 A43.out).mono ?_
                 (case side1 => repeat (first | exact (Kd.N_reads' HO199.out).2.2 | (with_reducible refine Kd.C_alloc ?_ _) | (with_reducible refine Kd.C_drewN ?_ _) | (with_reducible refine Kd.C_drew ?_)))
                 (case side2 => exact (Kd.N_reads' HO199.out).2.1)
                 rintro e w54 ⟨v201, rfl, ho0, hb⟩
                 refine ⟨_, rfl, ?_⟩
                 have n0_ := Aside0.mk (Kd.R_elder' (ro_ HO_6) (Kd.R_base ho0) hb)
                 have n1_ := Aside0.mk (Kd.V_elder' (by (with_reducible repeat (first | apply Kd.V_alloc | apply Kd.V_drewN | apply Kd.V_drew)); exact HO191.out) (Kd.R_base ho0) hb)
                 have n2_ := Aside0.mk (Kd.V_elder' (by (with_reducible repeat (first | apply Kd.V_alloc | apply Kd.V_drewN | apply Kd.V_drew)); exact HO196.out) (Kd.R_base ho0) hb)
                 have n3_ := Aside0.mk (Kd.N_elder' (by (with_reducible repeat (first | apply Kd.N_alloc | apply Kd.N_drewN | apply Kd.N_drew)); exact HO199.out) (Kd.R_base ho0) hb)
                 have n4_ := Aside0.mk (Kd.R_lower (Kd.R_new' ho0 (Kd.R_lt (ro_ HO_6))) (below_size (hb1_ HB GE182)))
                 have n5_ := Aside0.mk (blk_below (g := gb182) (o := .cells #[.int .i64 ((rd_T46 l1 x39_2).f0), .int .i64 ((rd_T46 l1 x39_2).f1), .string ((rd_T46 l1 x39_2).f2)] 46 (0, 0)) (bk_ BK182) hb)
                 have n6_ := Aside0.mk (below_step (hb1_ HB GE182) hb)
                 clear HO_6
                 clear HO191
                 clear HO196
                 clear HO199
                 clear BK182
                 clear HB
                 have HO_6 := n0_
                 have HO191 := n1_
                 have HO196 := n2_
                 have HO199 := n3_
                 have HO202 := n4_
                 have BK182 := n5_
                 have HB := n6_
                 clear n0_ n1_ n2_ n3_ n4_ n5_ n6_
                 (try clear hb)
                 (try clear hb2)
                 (try clear hk)
                 (try clear hi)
                 (try clear ho0)
                 refine hK.out _ _ ⟨(blk_cell BK182.out 0).trans rfl, (blk_cell BK182.out 1).trans rfl, (blk_cell BK182.out 2).trans rfl⟩ (fun hHeld => ?_)
                 clear hK K
                 refine norm_ (a' := ?_) ?_ ?_
                 rotate_left
                 ·show Act.put _ (some 87) _ = _
                  simp only [Act.put, List.setIfInBounds_toArray, List.set_cons_zero, List.set_cons_succ, i64_w, i32_w]
                  rfl
                 refine pure_ (i := 14) (N := some 6) (v := ?_) (a' := ?_) #[true, true, true, true, true, true, true, true, true, true, true, true, true, true, true] rfl rfl (any_of HT_.out (by kernel_rfl)) (fun _ _ _ h => h) (Or.inl ⟨by rfl, ?_⟩) ?_ ?_
                 rotate_left
                 ·intro w'
                  go_simp
                  with_reducible rfl
                 rotate_left
                 ·simp only [Act.put, List.setIfInBounds_toArray, List.set_cons_zero, List.set_cons_succ, i64_w, i32_w]
                  rfl
                 refine done_ (done_of HT_.out (by kernel_rfl)) ?_
                 try go_wp2
                 go_roundg kj22
                 case measure => have := HK1.out; have := HK2.out; have := HJ22.out; omega
                 case rel => exact ⟨(t200), (wrap64 (x39_2 + 1)), (by first | rfl | (simp; done) | (simp [*]; done)), H', ⟨by have := HK1.out; have := HK2.out; have := HJ22.out; omega⟩, ⟨by (with_reducible repeat (first | apply Kd.R_alloc | apply Kd.R_drewN | apply Kd.R_drew)); exact Kd.R_mono HO202.out (fun _ hk => trivial)⟩, ⟨by repeat (first | (with_reducible first | exact HB.out | apply below_alloc | apply pw_below_drewN | apply below_drew1 | refine below_set ?_ GE182.out) | exact HB.out)⟩⟩
                ·rw [if_neg c42] at H
                 exact absurd H (by simp)
               ·rw [if_neg c41] at H
                exact absurd H (by simp)
              ·rw [if_neg c39] at H
               exact absurd H (by simp)
             ·rw [if_neg c38] at H
              exact absurd H (by simp)
         ·rw [if_neg c22] at H
          exact absurd H (by simp)
        ·rw [if_neg c21] at H
         exact absurd H (by simp)
       ·rw [if_neg c20] at H
        have c20b0 : decide (x39_2 < (l1.length : Int)) = false := decide_eq_false c20
        clear c20
        replace H := Option.bind_eq_some_iff.mp H
        obtain ⟨⟨t179, t180⟩, A550, H⟩ := H
        replace H : (some (t179, t180)) = some (r1, r2) := H
        have A55 := Aside0.mk A550
        clear A550
        simp only [Option.some.injEq, Prod.mk.injEq] at H
        obtain ⟨rfl, rfl⟩ := H
        obtain ⟨Ao56, co56, eo56⟩ := Kd.R_slice HO_6.out
        subst eo56
        go_wp2_with (first | ((with_reducible refine gate_callee (f := 46) rfl ?_); refine goesL_ (some 90) rfl rfl Tryd.func46 (by kernel_rfl) rfl #[.slice Ao56 x6_2.length co56] rfl (by (try simp only [List.map_toArray, List.map_cons, List.map_nil]); first | done | rfl | (simp only [List.length_drop, List.length_take]; rfl)) ?_; (with_reducible refine (runes_Join.calls _ _ x6_2 t179 t180 _ ?side1 ?side2 A55.out).mono ?_); (case side1 => repeat (first | exact (Kd.R_reads' HO_6.out).2.2 | (with_reducible refine Kd.C_alloc ?_ _) | (with_reducible refine Kd.C_drewN ?_ _) | (with_reducible refine Kd.C_drew ?_))); (case side2 => exact (Kd.R_reads' HO_6.out).2.1); rintro e w57 ⟨rfl, hb⟩; refine ⟨_, rfl, ?_⟩; have n0_ := Aside0.mk (Kd.R_below (ro_ HO_6) hb); have n1_ := Aside0.mk (below_step (hb0_ HB) hb); clear HO_6; clear HB; have HO_6 := n0_; have HB := n1_; clear n0_ n1_; (try clear hb); (try clear hb2); (try clear hk); (try clear hi)))
        go_ret2
        exact ⟨by first | rfl | (simp [errW_none, errW_some] <;> rfl) | (simp [*, errW_none, errW_some] <;> rfl), hb0_ HB⟩
    ·rw [if_neg c19] at H
     have c19b0 : (x7_1 == 0) = false := beq_eq_false_iff_ne.mpr c19
     have c19b1 : (x7_1 != 0) = true := bne_iff_ne.mpr c19
     simp only [Option.some.injEq, Prod.mk.injEq] at H
     obtain ⟨rfl, rfl⟩ := H
     go_wp2
     go_ret2
     exact ⟨by first | rfl | (simp [errW_none, errW_some] <;> rfl) | (simp [*, errW_none, errW_some] <;> rfl), hb0_ HB⟩

end Go.Proofs.YtabhfloclcmjnaaDoor.P
