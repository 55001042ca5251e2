/- Printed by a program of this session (wip/xprint) over the kit's print: functions of the seat and what they come to, with their proofs. Conditions: as typed. -/
import Derived.Test.YtmkmpjkgpnahnaaDoorPx0
import Derived.Test.YtmkmpjkgpnahnaaDoorPx18
namespace Go.Proofs.YtmkmpjkgpnahnaaDoor.P
open Go.RowKit Go.Proofs.YtmkmpjkgpnahnaaDoor.X Go.Proofs.YtmkmpjkgpnahnaaDoorW.PrintWords Go.Proofs.YtmkmpjkgpnahnaaDoorW.PrintLast Go.Proofs.YtmkmpjkgpnahnaaDoorW.PrintMore
attribute [local go_sem] max2_int min2_int max_two min_two max_three min_three max_four min_four   -- for this text's walks alone
set_option linter.unusedVariables false
set_option linter.unusedSimpArgs false

/-! ### plain_Do_delIns: function 25 -/
def plain_Do_delIns.f (a0_0 : Int) (a0_1 : Int) (a0_2 : Int) (a0_3 : Int) (a0_4 : ByteArray) (a1_0 : Int) (a1_1 : Int) (a1_2 : Int) (a1_3 : Int) (a1_4 : ByteArray) : Option ((List (S33)) × Int × Int × Int) := if a1_2 ≤ a0_2 then ((plain_Do_size.f a1_0 a1_1 a1_2 a1_3 a1_4).bind fun t472 => ((plain_Do_at.f a0_0 a0_1 a0_2 a0_3 a0_4 (wrap64 (a0_2 + t472))).bind fun bt473 => (some ((([(⟨bt473.1, bt473.2.1, bt473.2.2.1, bt473.2.2.2.1, bt473.2.2.2.2⟩ : S33)] : List (S33))), 0, 0, 0)))) else (if a1_2 ≥ (wrap64 (a0_2 + a0_3)) then (some ((([(⟨a0_0, a0_1, a0_2, a0_3, a0_4⟩ : S33)] : List (S33))), 0, 0, 0)) else ((plain_Do_size.f a1_0 a1_1 a1_2 a1_3 a1_4).bind fun t484 => ((plain_Do_at.f a0_0 a0_1 a0_2 a0_3 a0_4 (wrap64 (a1_2 + t484))).bind fun bt485 => (some ((([(⟨bt485.1, bt485.2.1, bt485.2.2.1, wrap64 (a0_3 - (wrap64 (a1_2 - a0_2))), bt485.2.2.2.2⟩ : S33), (⟨a0_0, a0_1, a0_2, wrap64 (a1_2 - a0_2), a0_4⟩ : S33)] : List (S33))), 0, 0, 0)))))
def plain_Do_delIns.T2 : Bool × List (List Nat × List Nat) := (true, [([], []), ([], []), ([1], [1]), ([], []), ([3], [3]), ([2, 4], [2, 4]), ([0, 5, 4], [0, 5]), ([6], [6]), ([], []), ([7, 6, 0, 1, 2, 3, 4, 5, 6, 7], [7]), ([8, 9, 0, 1, 2, 3, 4, 5, 6, 7, 8, 9], [8])])
def plain_Do_delIns.B2 : List Nat := [0, 0, 2, 0, 8, 30, 63, 127, 0, 255, 1023]
theorem plain_Do_delIns.tab2 : rtab .any (opsOf Tryd.f25 2) = plain_Do_delIns.T2 := by kernel_rfl
theorem plain_Do_delIns.bits2 : waitsOk plain_Do_delIns.T2.2 plain_Do_delIns.B2 = true := by kernel_rfl
def plain_Do_delIns.T5 : Bool × List (List Nat × List Nat) := (true, [([], []), ([], []), ([], []), ([2], [2]), ([], []), ([4], [4]), ([3, 5], [3, 5]), ([1, 6, 5], [1, 6]), ([], []), ([], []), ([8, 0, 7, 0, 8, 9], [0, 8]), ([9, 7, 10, 0, 1, 2, 3, 4, 5, 6, 7, 8, 9, 10], [7, 9])])
def plain_Do_delIns.B5 : List Nat := [0, 0, 0, 4, 0, 16, 60, 126, 0, 0, 1023, 2047]
theorem plain_Do_delIns.tab5 : rtab .any (opsOf Tryd.f25 5) = plain_Do_delIns.T5 := by kernel_rfl
theorem plain_Do_delIns.bits5 : waitsOk plain_Do_delIns.T5.2 plain_Do_delIns.B5 = true := by kernel_rfl
set_option maxHeartbeats 8000000 in
set_option maxRecDepth 100000 in
theorem plain_Do_delIns.calls (a0_0 : Int) (a0_1 : Int) (a0_2 : Int) (a0_3 : Int) (a0_4 : ByteArray) (a1_0 : Int) (a1_1 : Int) (a1_2 : Int) (a1_3 : Int) (a1_4 : ByteArray) (r1 : List (S33)) (r2 : Int) (r3 : Int) (r4 : Int) (w : World) (hT : Aside0 (XAmb w)) (h : plain_Do_delIns.f a0_0 a0_1 a0_2 a0_3 a0_4 a1_0 a1_1 a1_2 a1_3 a1_4 = some (r1, r2, r3, r4)) :
  Calls Tryd.prog 25 #[.agg #[.int .i64 a0_0, .int .i64 a0_1, .int .i64 a0_2, .int .i64 a0_3, .string a0_4], .agg #[.int .i64 a1_0, .int .i64 a1_1, .int .i64 a1_2, .int .i64 a1_3, .string a1_4]] w fun e w' => ∃ v0_ : Value, e = .returned (.tuple #[v0_, .agg #[.int .i64 r2, .int .i64 r3, .int .i64 r4]]) ∧ Kd.R k33 33 w' w.heap.size (fun _ => True) v0_ r1 ∧ Below w.heap.size w w' := by
 have hu33 := Tryd.underlying33
 have hu29 := Tryd.underlying29
 have HB := Aside0.mk (Below.refl w.heap.size w)
 have H : (if a1_2 ≤ a0_2 then ((plain_Do_size.f a1_0 a1_1 a1_2 a1_3 a1_4).bind fun t472 => ((plain_Do_at.f a0_0 a0_1 a0_2 a0_3 a0_4 (wrap64 (a0_2 + t472))).bind fun bt473 => (some ((([(⟨bt473.1, bt473.2.1, bt473.2.2.1, bt473.2.2.2.1, bt473.2.2.2.2⟩ : S33)] : List (S33))), 0, 0, 0)))) else (if a1_2 ≥ (wrap64 (a0_2 + a0_3)) then (some ((([(⟨a0_0, a0_1, a0_2, a0_3, a0_4⟩ : S33)] : List (S33))), 0, 0, 0)) else ((plain_Do_size.f a1_0 a1_1 a1_2 a1_3 a1_4).bind fun t484 => ((plain_Do_at.f a0_0 a0_1 a0_2 a0_3 a0_4 (wrap64 (a1_2 + t484))).bind fun bt485 => (some ((([(⟨bt485.1, bt485.2.1, bt485.2.2.1, wrap64 (a0_3 - (wrap64 (a1_2 - a0_2))), bt485.2.2.2.2⟩ : S33), (⟨a0_0, a0_1, a0_2, wrap64 (a1_2 - a0_2), a0_4⟩ : S33)] : List (S33))), 0, 0, 0)))))) = some (r1, r2, r3, r4) := h
 clear h
 by_cases c3 : a1_2 ≤ a0_2
 ·rw [if_pos c3] at H
  have c3b0 : decide (a1_2 ≤ a0_2) = true := decide_eq_true c3
  clear c3
  replace H := Option.bind_eq_some_iff.mp H
  obtain ⟨t472, A40, H⟩ := H
  replace H : ((plain_Do_at.f a0_0 a0_1 a0_2 a0_3 a0_4 (wrap64 (a0_2 + t472))).bind fun bt473 => (some ((([(⟨bt473.1, bt473.2.1, bt473.2.2.1, bt473.2.2.2.1, bt473.2.2.2.2⟩ : S33)] : List (S33))), 0, 0, 0))) = some (r1, r2, r3, r4) := H
  have A4 := Aside0.mk A40
  clear A40
  replace H := Option.bind_eq_some_iff.mp H
  obtain ⟨⟨t473, t474, t475, t476, t477⟩, A50, H⟩ := H
  replace H : (some ((([(⟨t473, t474, t475, t476, t477⟩ : S33)] : List (S33))), 0, 0, 0)) = some (r1, r2, r3, r4) := H
  have A5 := Aside0.mk A50
  clear A50
  obtain ⟨y478, hy478⟩ : ∃ y_ : List (S33), y_ = (([(⟨t473, t474, t475, t476, t477⟩ : S33)] : List (S33))) := ⟨_, rfl⟩
  replace H : (some (y478, 0, 0, 0)) = some (r1, r2, r3, r4) := by first | (rw [hy478]; with_reducible exact H) | (have H2_ := (Option.bind_some _ _).symm.trans H; rw [hy478]; with_reducible exact H2_) | (have H2_ := (Option.bind_some _ _).symm.trans H; with_reducible exact H2_) | with_reducible exact H | (rw [hy478]; exact H) | exact H
  have Ny478 := Aside0.mk hy478
  clear hy478
  simp only [Option.some.injEq, Prod.mk.injEq] at H
  obtain ⟨rfl, rfl, rfl, rfl⟩ := H
  go_enter Tryd.func25, Tryd.ntmps25
  try go_wp2_with (first | ((with_reducible refine gate_dst (N := 2) rfl ?_); refine box_event ?hg (N := 2) ?hd (cs := #[.int .i64 a0_0, .int .i64 a0_1, .int .i64 a0_2, .int .i64 a0_3, .string a0_4]) (t := 33) ?hr ?_; (case hd => rfl); (case hg => rfl); (case hr => first | (go_simp; done) | (go_simp; rfl)); intro gb469 hg w6 hbox hb; have n0_ := Aside0.mk (below_step (hb0_ HB) hb); have n1_ := Aside0.mk (hbox); have n2_ := Aside0.mk ((by rw [hg]; exact (below_size (hb0_ HB)) : w.heap.size ≤ gb469)); have n3_ := Aside0.mk ((by rw [hg]; exact (below_size (hb0_ HB)) : w.heap.size ≤ gb469)); clear HB; have HB := n0_; have BK469 := n1_; have GW469 := n2_; have GE469 := n3_; clear n0_ n1_ n2_ n3_; clear hb hbox hg) | ((with_reducible refine gate_dst (N := 3) rfl ?_); refine box_event ?hg (N := 3) ?hd (cs := #[.int .i64 a1_0, .int .i64 a1_1, .int .i64 a1_2, .int .i64 a1_3, .string a1_4]) (t := 33) ?hr ?_; (case hd => rfl); (case hg => rfl); (case hr => first | (go_simp; done) | (go_simp; rfl)); intro gb470 hg w7 hbox hb; have n0_ := Aside0.mk (blk_below (g := gb469) (o := .cells #[.int .i64 a0_0, .int .i64 a0_1, .int .i64 a0_2, .int .i64 a0_3, .string a0_4] 33 (0, 0)) (bk_ BK469) hb); have n1_ := Aside0.mk (below_step (hb1_ HB GE469) hb); have n2_ := Aside0.mk (hbox); have n3_ := Aside0.mk ((by rw [hg]; exact (below_size (hb1_ HB GE469)) : w.heap.size ≤ gb470)); have n4_ := Aside0.mk ((by rw [hg]; exact (below_size (hb1_ HB GE469)) : w.heap.size ≤ gb470)); have n5_ := Aside0.mk ((by rw [hg]; exact Nat.ne_of_lt (blk_lt (g := gb469) (o := .cells #[.int .i64 a0_0, .int .i64 a0_1, .int .i64 a0_2, .int .i64 a0_3, .string a0_4] 33 (0, 0)) (bk_ BK469)) : gb469 ≠ gb470)); have n6_ := Aside0.mk ((by rw [hg]; exact Nat.ne_of_gt (blk_lt (g := gb469) (o := .cells #[.int .i64 a0_0, .int .i64 a0_1, .int .i64 a0_2, .int .i64 a0_3, .string a0_4] 33 (0, 0)) (bk_ BK469)) : gb470 ≠ gb469)); clear BK469; clear HB; have BK469 := n0_; have HB := n1_; have BK470 := n2_; have GW470 := n3_; have GE470 := n4_; have NB469_470 := n5_; have NB470_469 := n6_; clear n0_ n1_ n2_ n3_ n4_ n5_ n6_; clear hb hbox hg) | ((with_reducible refine gate_dst (N := 5) rfl ?_); refine box_event ?hg (N := 5) ?hd (cs := #[.int .i64 0, .int .i64 0, .int .i64 0]) (t := 29) ?hr ?_; (case hd => rfl); (case hg => rfl); (case hr => first | (go_simp; done) | (go_simp; rfl)); intro gb471 hg w8 hbox hb; have n0_ := Aside0.mk (blk_below (g := gb469) (o := .cells #[.int .i64 a0_0, .int .i64 a0_1, .int .i64 a0_2, .int .i64 a0_3, .string a0_4] 33 (0, 0)) (bk_ BK469) hb); have n1_ := Aside0.mk (blk_below (g := gb470) (o := .cells #[.int .i64 a1_0, .int .i64 a1_1, .int .i64 a1_2, .int .i64 a1_3, .string a1_4] 33 (0, 0)) (bk_ BK470) hb); have n2_ := Aside0.mk (below_step (hb2_ HB GE469 GE470) hb); have n3_ := Aside0.mk (hbox); have n4_ := Aside0.mk ((by rw [hg]; exact (below_size (hb2_ HB GE469 GE470)) : w.heap.size ≤ gb471)); have n5_ := Aside0.mk ((by rw [hg]; exact (below_size (hb2_ HB GE469 GE470)) : w.heap.size ≤ gb471)); have n6_ := Aside0.mk ((by rw [hg]; exact Nat.ne_of_lt (blk_lt (g := gb469) (o := .cells #[.int .i64 a0_0, .int .i64 a0_1, .int .i64 a0_2, .int .i64 a0_3, .string a0_4] 33 (0, 0)) (bk_ BK469)) : gb469 ≠ gb471)); have n7_ := Aside0.mk ((by rw [hg]; exact Nat.ne_of_gt (blk_lt (g := gb469) (o := .cells #[.int .i64 a0_0, .int .i64 a0_1, .int .i64 a0_2, .int .i64 a0_3, .string a0_4] 33 (0, 0)) (bk_ BK469)) : gb471 ≠ gb469)); have n8_ := Aside0.mk ((by rw [hg]; exact Nat.ne_of_lt (blk_lt (g := gb470) (o := .cells #[.int .i64 a1_0, .int .i64 a1_1, .int .i64 a1_2, .int .i64 a1_3, .string a1_4] 33 (0, 0)) (bk_ BK470)) : gb470 ≠ gb471)); have n9_ := Aside0.mk ((by rw [hg]; exact Nat.ne_of_gt (blk_lt (g := gb470) (o := .cells #[.int .i64 a1_0, .int .i64 a1_1, .int .i64 a1_2, .int .i64 a1_3, .string a1_4] 33 (0, 0)) (bk_ BK470)) : gb471 ≠ gb470)); clear BK469; clear BK470; clear HB; have BK469 := n0_; have BK470 := n1_; have HB := n2_; have BK471 := n3_; have GW471 := n4_; have GE471 := n5_; have NB469_471 := n6_; have NB471_469 := n7_; have NB470_471 := n8_; have NB471_470 := n9_; clear n0_ n1_ n2_ n3_ n4_ n5_ n6_ n7_ n8_ n9_; clear hb hbox hg; have hnb9 := NB470_469.out; have hnc9 := NB469_470.out; have hnb10 := NB470_471.out; have hnc10 := NB471_470.out; have hcz11_0 : w8.cell? ⟨gb470, 0, none⟩ = some (.int .i64 a1_0) := (blk_cell BK470.out 0).trans rfl; have hcz11_1 : w8.cell? ⟨gb470, 1, none⟩ = some (.int .i64 a1_1) := (blk_cell BK470.out 1).trans rfl; have hcz11_2 : w8.cell? ⟨gb470, 2, none⟩ = some (.int .i64 a1_2) := (blk_cell BK470.out 2).trans rfl; have hcz11_3 : w8.cell? ⟨gb470, 3, none⟩ = some (.int .i64 a1_3) := (blk_cell BK470.out 3).trans rfl; have hcz11_4 : w8.cell? ⟨gb470, 4, none⟩ = some (.string a1_4) := (blk_cell BK470.out 4).trans rfl; have hfz11_0 := blk_frozen BK470.out 0; have hfz11_1 := blk_frozen BK470.out 1; have hfz11_2 := blk_frozen BK470.out 2; have hfz11_3 := blk_frozen BK470.out 3; have hfz11_4 := blk_frozen BK470.out 4; have hnb12 := NB469_471.out; have hnc12 := NB471_469.out; have hcz13_0 : w8.cell? ⟨gb469, 0, none⟩ = some (.int .i64 a0_0) := (blk_cell BK469.out 0).trans rfl; have hcz13_1 : w8.cell? ⟨gb469, 1, none⟩ = some (.int .i64 a0_1) := (blk_cell BK469.out 1).trans rfl; have hcz13_2 : w8.cell? ⟨gb469, 2, none⟩ = some (.int .i64 a0_2) := (blk_cell BK469.out 2).trans rfl; have hcz13_3 : w8.cell? ⟨gb469, 3, none⟩ = some (.int .i64 a0_3) := (blk_cell BK469.out 3).trans rfl; have hcz13_4 : w8.cell? ⟨gb469, 4, none⟩ = some (.string a0_4) := (blk_cell BK469.out 4).trans rfl; have hfz13_0 := blk_frozen BK469.out 0; have hfz13_1 := blk_frozen BK469.out 1; have hfz13_2 := blk_frozen BK469.out 2; have hfz13_3 := blk_frozen BK469.out 3; have hfz13_4 := blk_frozen BK469.out 4))
  have n0_ := Aside0.mk (blk_drew BK469.out)
  have n1_ := Aside0.mk (blk_drew BK470.out)
  have n2_ := Aside0.mk (blk_drew BK471.out)
  have n3_ := Aside0.mk (below_drew1 HB.out)
  clear BK469
  clear BK470
  clear BK471
  clear HB
  have BK469 := n0_
  have BK470 := n1_
  have BK471 := n2_
  have HB := n3_
  clear n0_ n1_ n2_ n3_
  refine start_ (n := 11) (S := fun w' => w'.cell? ⟨gb469, 0, none⟩ = some (.int .i64 a0_0) ∧ w'.cell? ⟨gb469, 1, none⟩ = some (.int .i64 a0_1) ∧ w'.cell? ⟨gb469, 2, none⟩ = some (.int .i64 a0_2) ∧ w'.cell? ⟨gb469, 3, none⟩ = some (.int .i64 a0_3) ∧ w'.cell? ⟨gb469, 4, none⟩ = some (.string a0_4) ∧ w'.cell? ⟨gb470, 0, none⟩ = some (.int .i64 a1_0) ∧ w'.cell? ⟨gb470, 1, none⟩ = some (.int .i64 a1_1) ∧ w'.cell? ⟨gb470, 2, none⟩ = some (.int .i64 a1_2) ∧ w'.cell? ⟨gb470, 3, none⟩ = some (.int .i64 a1_3) ∧ w'.cell? ⟨gb470, 4, none⟩ = some (.string a1_4)) (ds := []) #[false, false, false, false, false, false, false, false, false, false, false] (by kernel_rfl) rfl rfl ⟨(blk_cell BK469.out 0).trans rfl, (blk_cell BK469.out 1).trans rfl, (blk_cell BK469.out 2).trans rfl, (blk_cell BK469.out 3).trans rfl, (blk_cell BK469.out 4).trans rfl, (blk_cell BK470.out 0).trans rfl, (blk_cell BK470.out 1).trans rfl, (blk_cell BK470.out 2).trans rfl, (blk_cell BK470.out 3).trans rfl, (blk_cell BK470.out 4).trans rfl⟩ (fun hHeld => ?_); refine with_tabW plain_Do_delIns.tab2 plain_Do_delIns.bits2 (fun HT_ HW_ => ?_)
  generalize w8.drew = w14 at BK469 BK470 BK471 HB hHeld ⊢
  refine pure_ (i := 1) (N := some 15) (v := ?_) (a' := ?_) #[false, true, false, false, false, false, false, false, false, false, false] rfl rfl (any_of HT_.out (by kernel_rfl)) (fun _ _ _ h => h) (Or.inl ⟨by rfl, ?_⟩) ?_ ?_
  rotate_left
  ·intro w'
   go_simp
   with_reducible rfl
  rotate_left
  ·simp only [Act.put, List.setIfInBounds_toArray, List.set_cons_zero, List.set_cons_succ, i64_w, i32_w]
   rfl
  refine pure_ (i := 8) (N := some 22) (v := ?_) (a' := ?_) #[false, true, false, false, false, false, false, false, true, false, false] rfl rfl (any_of HT_.out (by kernel_rfl)) (fun _ _ _ h => h) (Or.inl ⟨by rfl, ?_⟩) ?_ ?_
  rotate_left
  ·intro w'
   go_simp
   with_reducible rfl
  rotate_left
  ·simp only [Act.put, List.setIfInBounds_toArray, List.set_cons_zero, List.set_cons_succ, i64_w, i32_w]
   rfl
  refine take_ (i := 0) (N := some 14) (v := ?_) (a' := ?_) #[true, true, false, false, false, false, false, false, true, false, false] rfl rfl (take_ofW HT_.out HW_.out (by kernel_rfl)) (fun _ _ _ h => h) (Or.inl ⟨by rfl, ?_⟩) hHeld ?_ ?_
  rotate_left
  ·rintro w' ⟨s0, s1, s2, s3, s4, s5, s6, s7, s8, s9⟩
   go_simp
   with_reducible rfl
  rotate_left
  ·simp only [Act.put, List.setIfInBounds_toArray, List.set_cons_zero, List.set_cons_succ, i64_w, i32_w]
   rfl
  refine take_ (i := 2) (N := some 16) (v := ?_) (a' := ?_) #[true, true, true, false, false, false, false, false, true, false, false] rfl rfl (take_ofW HT_.out HW_.out (by kernel_rfl)) (fun _ _ _ h => h) (Or.inl ⟨by rfl, ?_⟩) hHeld ?_ ?_
  rotate_left
  ·rintro w' ⟨s0, s1, s2, s3, s4, s5, s6, s7, s8, s9⟩
   go_simp
   with_reducible rfl
  rotate_left
  ·simp only [Act.put, List.setIfInBounds_toArray, List.set_cons_zero, List.set_cons_succ, i64_w, i32_w]
   rfl
  refine take_ (i := 3) (N := some 17) (v := ?_) (a' := ?_) #[true, true, true, true, false, false, false, false, true, false, false] rfl rfl (take_ofW HT_.out HW_.out (by kernel_rfl)) (fun _ _ _ h => h) (Or.inl ⟨by rfl, ?_⟩) hHeld ?_ ?_
  rotate_left
  ·rintro w' ⟨s0, s1, s2, s3, s4, s5, s6, s7, s8, s9⟩
   go_simp
   with_reducible rfl
  rotate_left
  ·simp only [Act.put, List.setIfInBounds_toArray, List.set_cons_zero, List.set_cons_succ, i64_w, i32_w]
   rfl
  refine one_ (i := 4) (N := some 18) #[true, true, true, true, true, false, false, false, true, false, false] rfl rfl (one_of HT_.out (by kernel_rfl)) (by decide) (fun K hK => ?_)
  refine goes_ Tryd.func37 (by kernel_rfl) rfl #[.agg #[.int .i64 a1_0, .int .i64 a1_1, .int .i64 a1_2, .int .i64 a1_3, .string a1_4]] (by rfl) rfl rfl (by (try simp only [List.map_toArray, List.map_cons, List.map_nil]); first | done | rfl | (simp only [List.length_drop, List.length_take]; rfl)) ?_
  with_reducible refine (plain_Do_size.calls a1_0 a1_1 a1_2 a1_3 a1_4 t472 _ ?side1 A4.out).mono ?_
  (case side1 => exact XAmb_step hT (hb3_ HB GE469 GE470 GE471))
  rintro e w15 ⟨rfl, hb⟩
  refine ⟨_, rfl, ?_⟩
  have n0_ := Aside0.mk (blk_below (g := gb469) (o := .cells #[.int .i64 a0_0, .int .i64 a0_1, .int .i64 a0_2, .int .i64 a0_3, .string a0_4] 33 (0, 0)) (bk_ BK469) hb)
  have n1_ := Aside0.mk (blk_below (g := gb470) (o := .cells #[.int .i64 a1_0, .int .i64 a1_1, .int .i64 a1_2, .int .i64 a1_3, .string a1_4] 33 (0, 0)) (bk_ BK470) hb)
  have n2_ := Aside0.mk (blk_below (g := gb471) (o := .cells #[.int .i64 0, .int .i64 0, .int .i64 0] 29 (0, 0)) (bk_ BK471) hb)
  have n3_ := Aside0.mk (below_step (hb3_ HB GE469 GE470 GE471) hb)
  clear BK469
  clear BK470
  clear BK471
  clear HB
  have BK469 := n0_
  have BK470 := n1_
  have BK471 := n2_
  have HB := n3_
  clear n0_ n1_ n2_ n3_
  (try clear hb)
  (try clear hb2)
  (try clear hk)
  (try clear hi)
  refine hK.out _ _ ⟨(blk_cell BK469.out 0).trans rfl, (blk_cell BK469.out 1).trans rfl, (blk_cell BK469.out 2).trans rfl, (blk_cell BK469.out 3).trans rfl, (blk_cell BK469.out 4).trans rfl, (blk_cell BK470.out 0).trans rfl, (blk_cell BK470.out 1).trans rfl, (blk_cell BK470.out 2).trans rfl, (blk_cell BK470.out 3).trans rfl, (blk_cell BK470.out 4).trans rfl⟩ (fun hHeld => ?_)
  clear hK K
  refine norm_ (a' := ?_) ?_ ?_
  rotate_left
  ·show Act.put _ (some 18) _ = _
   simp only [Act.put, List.setIfInBounds_toArray, List.set_cons_zero, List.set_cons_succ, i64_w, i32_w]
   rfl
  refine pure_ (i := 5) (N := some 19) (v := ?_) (a' := ?_) #[true, true, true, true, true, true, false, false, true, false, false] rfl rfl (any_of HT_.out (by kernel_rfl)) (fun _ _ _ h => h) (Or.inl ⟨by rfl, ?_⟩) ?_ ?_
  rotate_left
  ·intro w'
   go_simp
   with_reducible rfl
  rotate_left
  ·simp only [Act.put, List.setIfInBounds_toArray, List.set_cons_zero, List.set_cons_succ, i64_w, i32_w]
   rfl
  refine one_ (i := 6) (N := some 20) #[true, true, true, true, true, true, true, false, true, false, false] rfl rfl (one_of HT_.out (by kernel_rfl)) (by decide) (fun K hK => ?_)
  refine goes_ Tryd.func36 (by kernel_rfl) rfl #[.agg #[.int .i64 a0_0, .int .i64 a0_1, .int .i64 a0_2, .int .i64 a0_3, .string a0_4], .int .i64 (wrap64 (a0_2 + t472))] (by rfl) rfl rfl (by (try simp only [List.map_toArray, List.map_cons, List.map_nil]); first | done | rfl | (simp only [List.length_drop, List.length_take]; rfl)) ?_
  with_reducible refine (plain_Do_at.calls a0_0 a0_1 a0_2 a0_3 a0_4 (wrap64 (a0_2 + t472)) t473 t474 t475 t476 t477 _ A5.out).mono ?_
  rintro e w16 ⟨rfl, hb⟩
  refine ⟨_, rfl, ?_⟩
  have n0_ := Aside0.mk (blk_below (g := gb469) (o := .cells #[.int .i64 a0_0, .int .i64 a0_1, .int .i64 a0_2, .int .i64 a0_3, .string a0_4] 33 (0, 0)) (bk_ BK469) hb)
  have n1_ := Aside0.mk (blk_below (g := gb470) (o := .cells #[.int .i64 a1_0, .int .i64 a1_1, .int .i64 a1_2, .int .i64 a1_3, .string a1_4] 33 (0, 0)) (bk_ BK470) hb)
  have n2_ := Aside0.mk (blk_below (g := gb471) (o := .cells #[.int .i64 0, .int .i64 0, .int .i64 0] 29 (0, 0)) (bk_ BK471) hb)
  have n3_ := Aside0.mk (below_step (hb3_ HB GE469 GE470 GE471) hb)
  clear BK469
  clear BK470
  clear BK471
  clear HB
  have BK469 := n0_
  have BK470 := n1_
  have BK471 := n2_
  have HB := n3_
  clear n0_ n1_ n2_ n3_
  (try clear hb)
  (try clear hb2)
  (try clear hk)
  (try clear hi)
  refine hK.out _ _ ⟨(blk_cell BK469.out 0).trans rfl, (blk_cell BK469.out 1).trans rfl, (blk_cell BK469.out 2).trans rfl, (blk_cell BK469.out 3).trans rfl, (blk_cell BK469.out 4).trans rfl, (blk_cell BK470.out 0).trans rfl, (blk_cell BK470.out 1).trans rfl, (blk_cell BK470.out 2).trans rfl, (blk_cell BK470.out 3).trans rfl, (blk_cell BK470.out 4).trans rfl⟩ (fun hHeld => ?_)
  clear hK K
  refine norm_ (a' := ?_) ?_ ?_
  rotate_left
  ·show Act.put _ (some 20) _ = _
   simp only [Act.put, List.setIfInBounds_toArray, List.set_cons_zero, List.set_cons_succ, i64_w, i32_w]
   rfl
  refine one_ (i := 7) (N := some 21) #[true, true, true, true, true, true, true, true, true, false, false] rfl rfl (one_of HT_.out (by kernel_rfl)) (by decide) (fun K hK => ?_)
  refine Kd.R_lit_step k33 _ 33 ?hg (N := 21) ?hd (xs := ([(⟨t473, t474, t475, t476, t477⟩ : S33)] : List (S33))) (inner := [.int .i64 t473, .int .i64 t474, .int .i64 t475, .int .i64 t476, .string t477]) (ok := fun _ => True) (okp := fun _ => True) ?hr ?hp (fun _ hk => hk) trivial (Below.refl _ _) (Nat.le_refl _) (by simp) ?_; (case hd => rfl); (case hg => rfl); (case hr => first | (go_simp; done) | (go_simp; rfl)); (case hp => exact (Reps.c5 (show Kd.M k33 _ _ _ (⟨t473, t474, t475, t476, t477⟩ : S33) [.int .i64 t473, .int .i64 t474, .int .i64 t475, .int .i64 t476, .string t477] from (k33_mkM _ _ _ (⟨t473, t474, t475, t476, t477⟩ : S33) )) (Reps.none _ _)))
  intro v479 w17 ho18 hb hg_ hnew_
  clear hg_ hnew_
  (first | rw [← Ny478.out] at ho18 | (simp only [Int.reduceToNat] at ho18; rw [← Ny478.out] at ho18))
  have n0_ := Aside0.mk (Kd.R_lower (Kd.R_newB (Kd.R_newB ho18 (g := gb469) (o := .cells #[.int .i64 a0_0, .int .i64 a0_1, .int .i64 a0_2, .int .i64 a0_3, .string a0_4] 33 (0, 0)) (bk_ BK469)) (g := gb470) (o := .cells #[.int .i64 a1_0, .int .i64 a1_1, .int .i64 a1_2, .int .i64 a1_3, .string a1_4] 33 (0, 0)) (bk_ BK470)) (below_size (hb3_ HB GE469 GE470 GE471)))
  have n1_ := Aside0.mk (blk_below (g := gb469) (o := .cells #[.int .i64 a0_0, .int .i64 a0_1, .int .i64 a0_2, .int .i64 a0_3, .string a0_4] 33 (0, 0)) (bk_ BK469) hb)
  have n2_ := Aside0.mk (blk_below (g := gb470) (o := .cells #[.int .i64 a1_0, .int .i64 a1_1, .int .i64 a1_2, .int .i64 a1_3, .string a1_4] 33 (0, 0)) (bk_ BK470) hb)
  have n3_ := Aside0.mk (blk_below (g := gb471) (o := .cells #[.int .i64 0, .int .i64 0, .int .i64 0] 29 (0, 0)) (bk_ BK471) hb)
  have n4_ := Aside0.mk (below_step (hb3_ HB GE469 GE470 GE471) hb)
  clear BK469
  clear BK470
  clear BK471
  clear HB
  have HO480 := n0_
  have BK469 := n1_
  have BK470 := n2_
  have BK471 := n3_
  have HB := n4_
  clear n0_ n1_ n2_ n3_ n4_
  clear hb ho18
  refine hK.out _ _ ⟨(blk_cell BK469.out 0).trans rfl, (blk_cell BK469.out 1).trans rfl, (blk_cell BK469.out 2).trans rfl, (blk_cell BK469.out 3).trans rfl, (blk_cell BK469.out 4).trans rfl, (blk_cell BK470.out 0).trans rfl, (blk_cell BK470.out 1).trans rfl, (blk_cell BK470.out 2).trans rfl, (blk_cell BK470.out 3).trans rfl, (blk_cell BK470.out 4).trans rfl⟩ (fun hHeld => ?_)
  clear hK K
  refine norm_ (a' := ?_) ?_ ?_
  rotate_left
  ·show Act.put _ (some 21) _ = _
   simp only [Act.put, List.setIfInBounds_toArray, List.set_cons_zero, List.set_cons_succ, i64_w, i32_w]
   rfl
  refine pure_ (i := 9) (N := some 4) (v := ?_) (a' := ?_) #[true, true, true, true, true, true, true, true, true, true, false] rfl rfl (any_of HT_.out (by kernel_rfl)) (fun _ _ _ h => h) (Or.inl ⟨by rfl, ?_⟩) ?_ ?_
  rotate_left
  ·intro w'
   go_simp
   with_reducible rfl
  rotate_left
  ·simp only [Act.put, List.setIfInBounds_toArray, List.set_cons_zero, List.set_cons_succ, i64_w, i32_w]
   rfl
  refine one_ (i := 10) (N := none) #[true, true, true, true, true, true, true, true, true, true, true] rfl rfl (one_of HT_.out (by kernel_rfl)) (by decide) (fun K hK => ?_)
  have hs19 : w17.cell? ⟨gb471, 0, none⟩ = some (.int .i64 0) := (blk_cell BK471.out 0).trans rfl
  have hfs19 := blk_frozen BK471.out 0
  have hns19_0 := NB469_471.out
  have hns19_1 := NB470_471.out
  have hms19_0 := NB471_469.out
  have hms19_1 := NB471_470.out
  have hs20 : w17.cell? ⟨gb471, 1, none⟩ = some (.int .i64 0) := (blk_cell BK471.out 1).trans rfl
  have hfs20 := blk_frozen BK471.out 1
  have hns20_0 := NB469_471.out
  have hns20_1 := NB470_471.out
  have hms20_0 := NB471_469.out
  have hms20_1 := NB471_470.out
  have hs21 : w17.cell? ⟨gb471, 2, none⟩ = some (.int .i64 0) := (blk_cell BK471.out 2).trans rfl
  have hfs21 := blk_frozen BK471.out 2
  have hns21_0 := NB469_471.out
  have hns21_1 := NB470_471.out
  have hms21_0 := NB471_469.out
  have hms21_1 := NB471_470.out
  refine skip_ (w1 := ?_) (by rfl) rfl ?_ ?_
  rotate_left
  ·go_simp
   rfl
  refine hK.out _ _ ⟨((cell_far (p := ⟨gb471, _, none⟩) NB469_471.out _).trans (((cell_far (p := ⟨gb471, _, none⟩) NB469_471.out _).trans (((cell_far (p := ⟨gb471, _, none⟩) NB469_471.out _).trans (hHeld.1)))))), ((cell_far (p := ⟨gb471, _, none⟩) NB469_471.out _).trans (((cell_far (p := ⟨gb471, _, none⟩) NB469_471.out _).trans (((cell_far (p := ⟨gb471, _, none⟩) NB469_471.out _).trans (hHeld.2.1)))))), ((cell_far (p := ⟨gb471, _, none⟩) NB469_471.out _).trans (((cell_far (p := ⟨gb471, _, none⟩) NB469_471.out _).trans (((cell_far (p := ⟨gb471, _, none⟩) NB469_471.out _).trans (hHeld.2.2.1)))))), ((cell_far (p := ⟨gb471, _, none⟩) NB469_471.out _).trans (((cell_far (p := ⟨gb471, _, none⟩) NB469_471.out _).trans (((cell_far (p := ⟨gb471, _, none⟩) NB469_471.out _).trans (hHeld.2.2.2.1)))))), ((cell_far (p := ⟨gb471, _, none⟩) NB469_471.out _).trans (((cell_far (p := ⟨gb471, _, none⟩) NB469_471.out _).trans (((cell_far (p := ⟨gb471, _, none⟩) NB469_471.out _).trans (hHeld.2.2.2.2.1)))))), ((cell_far (p := ⟨gb471, _, none⟩) NB470_471.out _).trans (((cell_far (p := ⟨gb471, _, none⟩) NB470_471.out _).trans (((cell_far (p := ⟨gb471, _, none⟩) NB470_471.out _).trans (hHeld.2.2.2.2.2.1)))))), ((cell_far (p := ⟨gb471, _, none⟩) NB470_471.out _).trans (((cell_far (p := ⟨gb471, _, none⟩) NB470_471.out _).trans (((cell_far (p := ⟨gb471, _, none⟩) NB470_471.out _).trans (hHeld.2.2.2.2.2.2.1)))))), ((cell_far (p := ⟨gb471, _, none⟩) NB470_471.out _).trans (((cell_far (p := ⟨gb471, _, none⟩) NB470_471.out _).trans (((cell_far (p := ⟨gb471, _, none⟩) NB470_471.out _).trans (hHeld.2.2.2.2.2.2.2.1)))))), ((cell_far (p := ⟨gb471, _, none⟩) NB470_471.out _).trans (((cell_far (p := ⟨gb471, _, none⟩) NB470_471.out _).trans (((cell_far (p := ⟨gb471, _, none⟩) NB470_471.out _).trans (hHeld.2.2.2.2.2.2.2.2.1)))))), ((cell_far (p := ⟨gb471, _, none⟩) NB470_471.out _).trans (((cell_far (p := ⟨gb471, _, none⟩) NB470_471.out _).trans (((cell_far (p := ⟨gb471, _, none⟩) NB470_471.out _).trans (hHeld.2.2.2.2.2.2.2.2.2))))))⟩ (fun hHeld => ?_)
  clear hK K
  refine done_ (done_of HT_.out (by kernel_rfl)) ?_
  try go_wp2
  refine bodyPost_ret (results_tc rfl _ _ gb471 29 #[.int .i64 0, .int .i64 0, .int .i64 0] (0, 0) _ rfl (by (with_reducible repeat (first | refine blk_drewN ?_ _ | refine blk_drew ?_ | refine blk_alloc ?_ _)); refine blk_put (cs := #[.int .i64 0, .int .i64 0, .int .i64 0]) ?_ 2 _ rfl; (with_reducible repeat (first | refine blk_drewN ?_ _ | refine blk_drew ?_ | refine blk_alloc ?_ _)); refine blk_put (cs := #[.int .i64 0, .int .i64 0, .int .i64 0]) ?_ 1 _ rfl; (with_reducible repeat (first | refine blk_drewN ?_ _ | refine blk_drew ?_ | refine blk_alloc ?_ _)); refine blk_put (cs := #[.int .i64 0, .int .i64 0, .int .i64 0]) ?_ 0 _ rfl; (with_reducible repeat (first | refine blk_drewN ?_ _ | refine blk_drew ?_ | refine blk_alloc ?_ _)); exact BK471.out) Tryd.underlying29 rfl (by kernel_rfl)) rfl ?_
  exact ⟨_, by first | rfl | (simp [errW_none, errW_some] <;> rfl) | (simp [*, errW_none, errW_some] <;> rfl), by (with_reducible repeat (first | apply Kd.R_alloc | apply Kd.R_drewN | apply Kd.R_drew)); exact Kd.R_mono (Kd.R_far (p := ⟨gb471, 2, none⟩) (Kd.R_far (p := ⟨gb471, 1, none⟩) (Kd.R_far (p := ⟨gb471, 0, none⟩) (Kd.R_types HO480.out BK471.out (by decide)) (fun _ hk => hk.2) (.int .i64 0)) (fun _ hk => hk.2) (.int .i64 0)) (fun _ hk => hk.2) (.int .i64 0)) (fun _ hk => trivial), by repeat (first | (with_reducible first | exact HB.out | apply below_alloc | apply pw_below_drewN | apply below_drew1 | refine below_set ?_ GE469.out | refine below_set ?_ GE470.out | refine below_set ?_ GE471.out) | exact HB.out)⟩
 ·rw [if_neg c3] at H
  have c3b0 : decide (a1_2 ≤ a0_2) = false := decide_eq_false c3
  clear c3
  by_cases c22 : a1_2 ≥ (wrap64 (a0_2 + a0_3))
  ·rw [if_pos c22] at H
   have c22b0 : decide ((wrap64 (a0_2 + a0_3)) ≤ a1_2) = true := decide_eq_true c22
   clear c22
   obtain ⟨y481, hy481⟩ : ∃ y_ : List (S33), y_ = (([(⟨a0_0, a0_1, a0_2, a0_3, a0_4⟩ : S33)] : List (S33))) := ⟨_, rfl⟩
   replace H : (some (y481, 0, 0, 0)) = some (r1, r2, r3, r4) := by first | (rw [hy481]; with_reducible exact H) | (have H2_ := (Option.bind_some _ _).symm.trans H; rw [hy481]; with_reducible exact H2_) | (have H2_ := (Option.bind_some _ _).symm.trans H; with_reducible exact H2_) | with_reducible exact H | (rw [hy481]; exact H) | exact H
   have Ny481 := Aside0.mk hy481
   clear hy481
   simp only [Option.some.injEq, Prod.mk.injEq] at H
   obtain ⟨rfl, rfl, rfl, rfl⟩ := H
   go_enter Tryd.func25, Tryd.ntmps25
   go_wp2_with (first | ((with_reducible refine gate_dst (N := 2) rfl ?_); refine box_event ?hg (N := 2) ?hd (cs := #[.int .i64 a0_0, .int .i64 a0_1, .int .i64 a0_2, .int .i64 a0_3, .string a0_4]) (t := 33) ?hr ?_; (case hd => rfl); (case hg => rfl); (case hr => first | (go_simp; done) | (go_simp; rfl)); intro gb469 hg w23 hbox hb; have n0_ := Aside0.mk (below_step (hb0_ HB) hb); have n1_ := Aside0.mk (hbox); have n2_ := Aside0.mk ((by rw [hg]; exact (below_size (hb0_ HB)) : w.heap.size ≤ gb469)); have n3_ := Aside0.mk ((by rw [hg]; exact (below_size (hb0_ HB)) : w.heap.size ≤ gb469)); clear HB; have HB := n0_; have BK469 := n1_; have GW469 := n2_; have GE469 := n3_; clear n0_ n1_ n2_ n3_; clear hb hbox hg) | ((with_reducible refine gate_dst (N := 3) rfl ?_); refine box_event ?hg (N := 3) ?hd (cs := #[.int .i64 a1_0, .int .i64 a1_1, .int .i64 a1_2, .int .i64 a1_3, .string a1_4]) (t := 33) ?hr ?_; (case hd => rfl); (case hg => rfl); (case hr => first | (go_simp; done) | (go_simp; rfl)); intro gb470 hg w24 hbox hb; have n0_ := Aside0.mk (blk_below (g := gb469) (o := .cells #[.int .i64 a0_0, .int .i64 a0_1, .int .i64 a0_2, .int .i64 a0_3, .string a0_4] 33 (0, 0)) (bk_ BK469) hb); have n1_ := Aside0.mk (below_step (hb1_ HB GE469) hb); have n2_ := Aside0.mk (hbox); have n3_ := Aside0.mk ((by rw [hg]; exact (below_size (hb1_ HB GE469)) : w.heap.size ≤ gb470)); have n4_ := Aside0.mk ((by rw [hg]; exact (below_size (hb1_ HB GE469)) : w.heap.size ≤ gb470)); have n5_ := Aside0.mk ((by rw [hg]; exact Nat.ne_of_lt (blk_lt (g := gb469) (o := .cells #[.int .i64 a0_0, .int .i64 a0_1, .int .i64 a0_2, .int .i64 a0_3, .string a0_4] 33 (0, 0)) (bk_ BK469)) : gb469 ≠ gb470)); have n6_ := Aside0.mk ((by rw [hg]; exact Nat.ne_of_gt (blk_lt (g := gb469) (o := .cells #[.int .i64 a0_0, .int .i64 a0_1, .int .i64 a0_2, .int .i64 a0_3, .string a0_4] 33 (0, 0)) (bk_ BK469)) : gb470 ≠ gb469)); clear BK469; clear HB; have BK469 := n0_; have HB := n1_; have BK470 := n2_; have GW470 := n3_; have GE470 := n4_; have NB469_470 := n5_; have NB470_469 := n6_; clear n0_ n1_ n2_ n3_ n4_ n5_ n6_; clear hb hbox hg) | ((with_reducible refine gate_dst (N := 5) rfl ?_); refine box_event ?hg (N := 5) ?hd (cs := #[.int .i64 0, .int .i64 0, .int .i64 0]) (t := 29) ?hr ?_; (case hd => rfl); (case hg => rfl); (case hr => first | (go_simp; done) | (go_simp; rfl)); intro gb471 hg w25 hbox hb; have n0_ := Aside0.mk (blk_below (g := gb469) (o := .cells #[.int .i64 a0_0, .int .i64 a0_1, .int .i64 a0_2, .int .i64 a0_3, .string a0_4] 33 (0, 0)) (bk_ BK469) hb); have n1_ := Aside0.mk (blk_below (g := gb470) (o := .cells #[.int .i64 a1_0, .int .i64 a1_1, .int .i64 a1_2, .int .i64 a1_3, .string a1_4] 33 (0, 0)) (bk_ BK470) hb); have n2_ := Aside0.mk (below_step (hb2_ HB GE469 GE470) hb); have n3_ := Aside0.mk (hbox); have n4_ := Aside0.mk ((by rw [hg]; exact (below_size (hb2_ HB GE469 GE470)) : w.heap.size ≤ gb471)); have n5_ := Aside0.mk ((by rw [hg]; exact (below_size (hb2_ HB GE469 GE470)) : w.heap.size ≤ gb471)); have n6_ := Aside0.mk ((by rw [hg]; exact Nat.ne_of_lt (blk_lt (g := gb469) (o := .cells #[.int .i64 a0_0, .int .i64 a0_1, .int .i64 a0_2, .int .i64 a0_3, .string a0_4] 33 (0, 0)) (bk_ BK469)) : gb469 ≠ gb471)); have n7_ := Aside0.mk ((by rw [hg]; exact Nat.ne_of_gt (blk_lt (g := gb469) (o := .cells #[.int .i64 a0_0, .int .i64 a0_1, .int .i64 a0_2, .int .i64 a0_3, .string a0_4] 33 (0, 0)) (bk_ BK469)) : gb471 ≠ gb469)); have n8_ := Aside0.mk ((by rw [hg]; exact Nat.ne_of_lt (blk_lt (g := gb470) (o := .cells #[.int .i64 a1_0, .int .i64 a1_1, .int .i64 a1_2, .int .i64 a1_3, .string a1_4] 33 (0, 0)) (bk_ BK470)) : gb470 ≠ gb471)); have n9_ := Aside0.mk ((by rw [hg]; exact Nat.ne_of_gt (blk_lt (g := gb470) (o := .cells #[.int .i64 a1_0, .int .i64 a1_1, .int .i64 a1_2, .int .i64 a1_3, .string a1_4] 33 (0, 0)) (bk_ BK470)) : gb471 ≠ gb470)); clear BK469; clear BK470; clear HB; have BK469 := n0_; have BK470 := n1_; have HB := n2_; have BK471 := n3_; have GW471 := n4_; have GE471 := n5_; have NB469_471 := n6_; have NB471_469 := n7_; have NB470_471 := n8_; have NB471_470 := n9_; clear n0_ n1_ n2_ n3_ n4_ n5_ n6_ n7_ n8_ n9_; clear hb hbox hg; have hnb26 := NB470_469.out; have hnc26 := NB469_470.out; have hnb27 := NB470_471.out; have hnc27 := NB471_470.out; have hcz28_0 : w25.cell? ⟨gb470, 0, none⟩ = some (.int .i64 a1_0) := (blk_cell BK470.out 0).trans rfl; have hcz28_1 : w25.cell? ⟨gb470, 1, none⟩ = some (.int .i64 a1_1) := (blk_cell BK470.out 1).trans rfl; have hcz28_2 : w25.cell? ⟨gb470, 2, none⟩ = some (.int .i64 a1_2) := (blk_cell BK470.out 2).trans rfl; have hcz28_3 : w25.cell? ⟨gb470, 3, none⟩ = some (.int .i64 a1_3) := (blk_cell BK470.out 3).trans rfl; have hcz28_4 : w25.cell? ⟨gb470, 4, none⟩ = some (.string a1_4) := (blk_cell BK470.out 4).trans rfl; have hfz28_0 := blk_frozen BK470.out 0; have hfz28_1 := blk_frozen BK470.out 1; have hfz28_2 := blk_frozen BK470.out 2; have hfz28_3 := blk_frozen BK470.out 3; have hfz28_4 := blk_frozen BK470.out 4; have hnb29 := NB469_471.out; have hnc29 := NB471_469.out; have hcz30_0 : w25.cell? ⟨gb469, 0, none⟩ = some (.int .i64 a0_0) := (blk_cell BK469.out 0).trans rfl; have hcz30_1 : w25.cell? ⟨gb469, 1, none⟩ = some (.int .i64 a0_1) := (blk_cell BK469.out 1).trans rfl; have hcz30_2 : w25.cell? ⟨gb469, 2, none⟩ = some (.int .i64 a0_2) := (blk_cell BK469.out 2).trans rfl; have hcz30_3 : w25.cell? ⟨gb469, 3, none⟩ = some (.int .i64 a0_3) := (blk_cell BK469.out 3).trans rfl; have hcz30_4 : w25.cell? ⟨gb469, 4, none⟩ = some (.string a0_4) := (blk_cell BK469.out 4).trans rfl; have hfz30_0 := blk_frozen BK469.out 0; have hfz30_1 := blk_frozen BK469.out 1; have hfz30_2 := blk_frozen BK469.out 2; have hfz30_3 := blk_frozen BK469.out 3; have hfz30_4 := blk_frozen BK469.out 4) | ((with_reducible refine gate_dst (N := 33) rfl ?_); refine Kd.R_lit k33 _ 33 ?hg (N := 33) ?hd (xs := ([(⟨a0_0, a0_1, a0_2, a0_3, a0_4⟩ : S33)] : List (S33))) (inner := [.int .i64 a0_0, .int .i64 a0_1, .int .i64 a0_2, .int .i64 a0_3, .string a0_4]) (ok := fun _ => True) (okp := fun _ => True) ?hr ?hp (fun _ hk => hk) trivial (Below.refl _ _) (Nat.le_refl _) (by simp) ?_; (case hd => rfl); (case hg => rfl); (case hr => first | (go_simp; done) | (go_simp; rfl)); (case hp => exact (Reps.c5 (show Kd.M k33 _ _ _ (⟨a0_0, a0_1, a0_2, a0_3, a0_4⟩ : S33) [.int .i64 a0_0, .int .i64 a0_1, .int .i64 a0_2, .int .i64 a0_3, .string a0_4] from (k33_mkM _ _ _ (⟨a0_0, a0_1, a0_2, a0_3, a0_4⟩ : S33) )) (Reps.none _ _))); intro v482 w31 ho32 hb hg_ hnew_; clear hg_ hnew_; (first | rw [← Ny481.out] at ho32 | (simp only [Int.reduceToNat] at ho32; rw [← Ny481.out] at ho32)); have n0_ := Aside0.mk (Kd.R_lower (Kd.R_newB (Kd.R_newB ho32 (g := gb469) (o := .cells #[.int .i64 a0_0, .int .i64 a0_1, .int .i64 a0_2, .int .i64 a0_3, .string a0_4] 33 (0, 0)) (bk_ BK469)) (g := gb470) (o := .cells #[.int .i64 a1_0, .int .i64 a1_1, .int .i64 a1_2, .int .i64 a1_3, .string a1_4] 33 (0, 0)) (bk_ BK470)) (below_size (hb3_ HB GE469 GE470 GE471))); have n1_ := Aside0.mk (blk_below (g := gb469) (o := .cells #[.int .i64 a0_0, .int .i64 a0_1, .int .i64 a0_2, .int .i64 a0_3, .string a0_4] 33 (0, 0)) (bk_ BK469) hb); have n2_ := Aside0.mk (blk_below (g := gb470) (o := .cells #[.int .i64 a1_0, .int .i64 a1_1, .int .i64 a1_2, .int .i64 a1_3, .string a1_4] 33 (0, 0)) (bk_ BK470) hb); have n3_ := Aside0.mk (blk_below (g := gb471) (o := .cells #[.int .i64 0, .int .i64 0, .int .i64 0] 29 (0, 0)) (bk_ BK471) hb); have n4_ := Aside0.mk (below_step (hb3_ HB GE469 GE470 GE471) hb); clear BK469; clear BK470; clear BK471; clear HB; have HO483 := n0_; have BK469 := n1_; have BK470 := n2_; have BK471 := n3_; have HB := n4_; clear n0_ n1_ n2_ n3_ n4_; clear hb ho32; have hcz33_0 : w31.cell? ⟨gb471, 0, none⟩ = some (.int .i64 0) := (blk_cell BK471.out 0).trans rfl; have hcz33_1 : w31.cell? ⟨gb471, 1, none⟩ = some (.int .i64 0) := (blk_cell BK471.out 1).trans rfl; have hcz33_2 : w31.cell? ⟨gb471, 2, none⟩ = some (.int .i64 0) := (blk_cell BK471.out 2).trans rfl; have hfz33_0 := blk_frozen BK471.out 0; have hfz33_1 := blk_frozen BK471.out 1; have hfz33_2 := blk_frozen BK471.out 2) | ((with_reducible refine gate_store (t := 29) (p := 5) rfl ?_); refine store_event (t := 29) (p := 5) (v := ?vo_w34) (w1 := (((w31.setCell ⟨gb471, 0, none⟩ (.int .i64 0)).setCell ⟨gb471, 1, none⟩ (.int .i64 0)).setCell ⟨gb471, 2, none⟩ (.int .i64 0))) ?hg ?ho ?hn ?hr ?_; (case ho => rfl); (case hg => rfl); (case hn => rfl); (case hr => first | (go_simp; done) | (go_simp; rfl)); intro w34 hw; have n0_ : Aside0 (Kd.R k33 33 w34 w.heap.size (fun k_ => k_ ≠ gb469 ∧ k_ ≠ gb470) v482 y481) := ⟨(by rw [hw]; exact (by (with_reducible repeat (first | apply Kd.R_alloc | apply Kd.R_drewN | apply Kd.R_drew)); exact Kd.R_mono (Kd.R_far (p := ⟨gb471, 2, none⟩) (Kd.R_far (p := ⟨gb471, 1, none⟩) (Kd.R_far (p := ⟨gb471, 0, none⟩) (Kd.R_types HO483.out BK471.out (by decide)) (fun _ hk => hk.2) (.int .i64 0)) (fun _ hk => hk.2) (.int .i64 0)) (fun _ hk => hk.2) (.int .i64 0)) (fun _ hk => ⟨hk.1.1.2, hk.1.2⟩)))⟩; have n1_ : Aside0 (w34.heap[gb469]? = some (.cells #[.int .i64 a0_0, .int .i64 a0_1, .int .i64 a0_2, .int .i64 a0_3, .string a0_4] 33 (0, 0))) := ⟨(by rw [hw]; exact (by (with_reducible repeat (first | refine blk_drewN ?_ _ | refine blk_drew ?_ | refine blk_alloc ?_ _)); refine blk_far ?_ NB469_471.out _; (with_reducible repeat (first | refine blk_drewN ?_ _ | refine blk_drew ?_ | refine blk_alloc ?_ _)); refine blk_far ?_ NB469_471.out _; (with_reducible repeat (first | refine blk_drewN ?_ _ | refine blk_drew ?_ | refine blk_alloc ?_ _)); refine blk_far ?_ NB469_471.out _; (with_reducible repeat (first | refine blk_drewN ?_ _ | refine blk_drew ?_ | refine blk_alloc ?_ _)); exact BK469.out))⟩; have n2_ : Aside0 (w34.heap[gb470]? = some (.cells #[.int .i64 a1_0, .int .i64 a1_1, .int .i64 a1_2, .int .i64 a1_3, .string a1_4] 33 (0, 0))) := ⟨(by rw [hw]; exact (by (with_reducible repeat (first | refine blk_drewN ?_ _ | refine blk_drew ?_ | refine blk_alloc ?_ _)); refine blk_far ?_ NB470_471.out _; (with_reducible repeat (first | refine blk_drewN ?_ _ | refine blk_drew ?_ | refine blk_alloc ?_ _)); refine blk_far ?_ NB470_471.out _; (with_reducible repeat (first | refine blk_drewN ?_ _ | refine blk_drew ?_ | refine blk_alloc ?_ _)); refine blk_far ?_ NB470_471.out _; (with_reducible repeat (first | refine blk_drewN ?_ _ | refine blk_drew ?_ | refine blk_alloc ?_ _)); exact BK470.out))⟩; have n3_ : Aside0 (w34.heap[gb471]? = some (.cells #[.int .i64 0, .int .i64 0, .int .i64 0] 29 (0, 0))) := ⟨(by rw [hw]; exact (by (with_reducible repeat (first | refine blk_drewN ?_ _ | refine blk_drew ?_ | refine blk_alloc ?_ _)); refine blk_put (cs := #[.int .i64 0, .int .i64 0, .int .i64 0]) ?_ 2 _ rfl; (with_reducible repeat (first | refine blk_drewN ?_ _ | refine blk_drew ?_ | refine blk_alloc ?_ _)); refine blk_put (cs := #[.int .i64 0, .int .i64 0, .int .i64 0]) ?_ 1 _ rfl; (with_reducible repeat (first | refine blk_drewN ?_ _ | refine blk_drew ?_ | refine blk_alloc ?_ _)); refine blk_put (cs := #[.int .i64 0, .int .i64 0, .int .i64 0]) ?_ 0 _ rfl; (with_reducible repeat (first | refine blk_drewN ?_ _ | refine blk_drew ?_ | refine blk_alloc ?_ _)); exact BK471.out))⟩; have n4_ : Aside0 (Below w.heap.size w w34) := ⟨(by rw [hw]; exact (hb3_ HB GE469 GE470 GE471))⟩; clear hw; clear HO483; clear BK469; clear BK470; clear BK471; clear HB; have HO483 := n0_; have BK469 := n1_; have BK470 := n2_; have BK471 := n3_; have HB := n4_; clear n0_ n1_ n2_ n3_ n4_))
   refine bodyPost_ret (results_tc rfl _ _ gb471 29 #[.int .i64 0, .int .i64 0, .int .i64 0] (0, 0) _ rfl (bk_ BK471) Tryd.underlying29 rfl (by kernel_rfl)) rfl ?_
   exact ⟨_, by first | rfl | (simp [errW_none, errW_some] <;> rfl) | (simp [*, errW_none, errW_some] <;> rfl), by (with_reducible repeat (first | apply Kd.R_alloc | apply Kd.R_drewN | apply Kd.R_drew)); exact Kd.R_mono HO483.out (fun _ hk => trivial), by repeat (first | (with_reducible first | exact HB.out | apply below_alloc | apply pw_below_drewN | apply below_drew1 | refine below_set ?_ GE469.out | refine below_set ?_ GE470.out | refine below_set ?_ GE471.out) | exact HB.out)⟩
  ·rw [if_neg c22] at H
   have c22b0 : decide ((wrap64 (a0_2 + a0_3)) ≤ a1_2) = false := decide_eq_false c22
   clear c22
   replace H := Option.bind_eq_some_iff.mp H
   obtain ⟨t484, A350, H⟩ := H
   replace H : ((plain_Do_at.f a0_0 a0_1 a0_2 a0_3 a0_4 (wrap64 (a1_2 + t484))).bind fun bt485 => (some ((([(⟨bt485.1, bt485.2.1, bt485.2.2.1, wrap64 (a0_3 - (wrap64 (a1_2 - a0_2))), bt485.2.2.2.2⟩ : S33), (⟨a0_0, a0_1, a0_2, wrap64 (a1_2 - a0_2), a0_4⟩ : S33)] : List (S33))), 0, 0, 0))) = some (r1, r2, r3, r4) := H
   have A35 := Aside0.mk A350
   clear A350
   replace H := Option.bind_eq_some_iff.mp H
   obtain ⟨⟨t485, t486, t487, t488, t489⟩, A360, H⟩ := H
   replace H : (some ((([(⟨t485, t486, t487, wrap64 (a0_3 - (wrap64 (a1_2 - a0_2))), t489⟩ : S33), (⟨a0_0, a0_1, a0_2, wrap64 (a1_2 - a0_2), a0_4⟩ : S33)] : List (S33))), 0, 0, 0)) = some (r1, r2, r3, r4) := H
   have A36 := Aside0.mk A360
   clear A360
   obtain ⟨y492, hy492⟩ : ∃ y_ : List (S33), y_ = (([(⟨t485, t486, t487, wrap64 (a0_3 - (wrap64 (a1_2 - a0_2))), t489⟩ : S33), (⟨a0_0, a0_1, a0_2, wrap64 (a1_2 - a0_2), a0_4⟩ : S33)] : List (S33))) := ⟨_, rfl⟩
   replace H : (some (y492, 0, 0, 0)) = some (r1, r2, r3, r4) := by first | (rw [hy492]; with_reducible exact H) | (have H2_ := (Option.bind_some _ _).symm.trans H; rw [hy492]; with_reducible exact H2_) | (have H2_ := (Option.bind_some _ _).symm.trans H; with_reducible exact H2_) | with_reducible exact H | (rw [hy492]; exact H) | exact H
   have Ny492 := Aside0.mk hy492
   clear hy492
   simp only [Option.some.injEq, Prod.mk.injEq] at H
   obtain ⟨rfl, rfl, rfl, rfl⟩ := H
   go_enter Tryd.func25, Tryd.ntmps25
   try go_wp2_with (first | ((with_reducible refine gate_dst (N := 2) rfl ?_); refine box_event ?hg (N := 2) ?hd (cs := #[.int .i64 a0_0, .int .i64 a0_1, .int .i64 a0_2, .int .i64 a0_3, .string a0_4]) (t := 33) ?hr ?_; (case hd => rfl); (case hg => rfl); (case hr => first | (go_simp; done) | (go_simp; rfl)); intro gb469 hg w37 hbox hb; have n0_ := Aside0.mk (below_step (hb0_ HB) hb); have n1_ := Aside0.mk (hbox); have n2_ := Aside0.mk ((by rw [hg]; exact (below_size (hb0_ HB)) : w.heap.size ≤ gb469)); have n3_ := Aside0.mk ((by rw [hg]; exact (below_size (hb0_ HB)) : w.heap.size ≤ gb469)); clear HB; have HB := n0_; have BK469 := n1_; have GW469 := n2_; have GE469 := n3_; clear n0_ n1_ n2_ n3_; clear hb hbox hg) | ((with_reducible refine gate_dst (N := 3) rfl ?_); refine box_event ?hg (N := 3) ?hd (cs := #[.int .i64 a1_0, .int .i64 a1_1, .int .i64 a1_2, .int .i64 a1_3, .string a1_4]) (t := 33) ?hr ?_; (case hd => rfl); (case hg => rfl); (case hr => first | (go_simp; done) | (go_simp; rfl)); intro gb470 hg w38 hbox hb; have n0_ := Aside0.mk (blk_below (g := gb469) (o := .cells #[.int .i64 a0_0, .int .i64 a0_1, .int .i64 a0_2, .int .i64 a0_3, .string a0_4] 33 (0, 0)) (bk_ BK469) hb); have n1_ := Aside0.mk (below_step (hb1_ HB GE469) hb); have n2_ := Aside0.mk (hbox); have n3_ := Aside0.mk ((by rw [hg]; exact (below_size (hb1_ HB GE469)) : w.heap.size ≤ gb470)); have n4_ := Aside0.mk ((by rw [hg]; exact (below_size (hb1_ HB GE469)) : w.heap.size ≤ gb470)); have n5_ := Aside0.mk ((by rw [hg]; exact Nat.ne_of_lt (blk_lt (g := gb469) (o := .cells #[.int .i64 a0_0, .int .i64 a0_1, .int .i64 a0_2, .int .i64 a0_3, .string a0_4] 33 (0, 0)) (bk_ BK469)) : gb469 ≠ gb470)); have n6_ := Aside0.mk ((by rw [hg]; exact Nat.ne_of_gt (blk_lt (g := gb469) (o := .cells #[.int .i64 a0_0, .int .i64 a0_1, .int .i64 a0_2, .int .i64 a0_3, .string a0_4] 33 (0, 0)) (bk_ BK469)) : gb470 ≠ gb469)); clear BK469; clear HB; have BK469 := n0_; have HB := n1_; have BK470 := n2_; have GW470 := n3_; have GE470 := n4_; have NB469_470 := n5_; have NB470_469 := n6_; clear n0_ n1_ n2_ n3_ n4_ n5_ n6_; clear hb hbox hg) | ((with_reducible refine gate_dst (N := 5) rfl ?_); refine box_event ?hg (N := 5) ?hd (cs := #[.int .i64 0, .int .i64 0, .int .i64 0]) (t := 29) ?hr ?_; (case hd => rfl); (case hg => rfl); (case hr => first | (go_simp; done) | (go_simp; rfl)); intro gb471 hg w39 hbox hb; have n0_ := Aside0.mk (blk_below (g := gb469) (o := .cells #[.int .i64 a0_0, .int .i64 a0_1, .int .i64 a0_2, .int .i64 a0_3, .string a0_4] 33 (0, 0)) (bk_ BK469) hb); have n1_ := Aside0.mk (blk_below (g := gb470) (o := .cells #[.int .i64 a1_0, .int .i64 a1_1, .int .i64 a1_2, .int .i64 a1_3, .string a1_4] 33 (0, 0)) (bk_ BK470) hb); have n2_ := Aside0.mk (below_step (hb2_ HB GE469 GE470) hb); have n3_ := Aside0.mk (hbox); have n4_ := Aside0.mk ((by rw [hg]; exact (below_size (hb2_ HB GE469 GE470)) : w.heap.size ≤ gb471)); have n5_ := Aside0.mk ((by rw [hg]; exact (below_size (hb2_ HB GE469 GE470)) : w.heap.size ≤ gb471)); have n6_ := Aside0.mk ((by rw [hg]; exact Nat.ne_of_lt (blk_lt (g := gb469) (o := .cells #[.int .i64 a0_0, .int .i64 a0_1, .int .i64 a0_2, .int .i64 a0_3, .string a0_4] 33 (0, 0)) (bk_ BK469)) : gb469 ≠ gb471)); have n7_ := Aside0.mk ((by rw [hg]; exact Nat.ne_of_gt (blk_lt (g := gb469) (o := .cells #[.int .i64 a0_0, .int .i64 a0_1, .int .i64 a0_2, .int .i64 a0_3, .string a0_4] 33 (0, 0)) (bk_ BK469)) : gb471 ≠ gb469)); have n8_ := Aside0.mk ((by rw [hg]; exact Nat.ne_of_lt (blk_lt (g := gb470) (o := .cells #[.int .i64 a1_0, .int .i64 a1_1, .int .i64 a1_2, .int .i64 a1_3, .string a1_4] 33 (0, 0)) (bk_ BK470)) : gb470 ≠ gb471)); have n9_ := Aside0.mk ((by rw [hg]; exact Nat.ne_of_gt (blk_lt (g := gb470) (o := .cells #[.int .i64 a1_0, .int .i64 a1_1, .int .i64 a1_2, .int .i64 a1_3, .string a1_4] 33 (0, 0)) (bk_ BK470)) : gb471 ≠ gb470)); clear BK469; clear BK470; clear HB; have BK469 := n0_; have BK470 := n1_; have HB := n2_; have BK471 := n3_; have GW471 := n4_; have GE471 := n5_; have NB469_471 := n6_; have NB471_469 := n7_; have NB470_471 := n8_; have NB471_470 := n9_; clear n0_ n1_ n2_ n3_ n4_ n5_ n6_ n7_ n8_ n9_; clear hb hbox hg; have hnb40 := NB470_469.out; have hnc40 := NB469_470.out; have hnb41 := NB470_471.out; have hnc41 := NB471_470.out; have hcz42_0 : w39.cell? ⟨gb470, 0, none⟩ = some (.int .i64 a1_0) := (blk_cell BK470.out 0).trans rfl; have hcz42_1 : w39.cell? ⟨gb470, 1, none⟩ = some (.int .i64 a1_1) := (blk_cell BK470.out 1).trans rfl; have hcz42_2 : w39.cell? ⟨gb470, 2, none⟩ = some (.int .i64 a1_2) := (blk_cell BK470.out 2).trans rfl; have hcz42_3 : w39.cell? ⟨gb470, 3, none⟩ = some (.int .i64 a1_3) := (blk_cell BK470.out 3).trans rfl; have hcz42_4 : w39.cell? ⟨gb470, 4, none⟩ = some (.string a1_4) := (blk_cell BK470.out 4).trans rfl; have hfz42_0 := blk_frozen BK470.out 0; have hfz42_1 := blk_frozen BK470.out 1; have hfz42_2 := blk_frozen BK470.out 2; have hfz42_3 := blk_frozen BK470.out 3; have hfz42_4 := blk_frozen BK470.out 4; have hnb43 := NB469_471.out; have hnc43 := NB471_469.out; have hcz44_0 : w39.cell? ⟨gb469, 0, none⟩ = some (.int .i64 a0_0) := (blk_cell BK469.out 0).trans rfl; have hcz44_1 : w39.cell? ⟨gb469, 1, none⟩ = some (.int .i64 a0_1) := (blk_cell BK469.out 1).trans rfl; have hcz44_2 : w39.cell? ⟨gb469, 2, none⟩ = some (.int .i64 a0_2) := (blk_cell BK469.out 2).trans rfl; have hcz44_3 : w39.cell? ⟨gb469, 3, none⟩ = some (.int .i64 a0_3) := (blk_cell BK469.out 3).trans rfl; have hcz44_4 : w39.cell? ⟨gb469, 4, none⟩ = some (.string a0_4) := (blk_cell BK469.out 4).trans rfl; have hfz44_0 := blk_frozen BK469.out 0; have hfz44_1 := blk_frozen BK469.out 1; have hfz44_2 := blk_frozen BK469.out 2; have hfz44_3 := blk_frozen BK469.out 3; have hfz44_4 := blk_frozen BK469.out 4))
   have n0_ := Aside0.mk (blk_drew BK469.out)
   have n1_ := Aside0.mk (blk_drew BK470.out)
   have n2_ := Aside0.mk (blk_drew BK471.out)
   have n3_ := Aside0.mk (below_drew1 HB.out)
   clear BK469
   clear BK470
   clear BK471
   clear HB
   have BK469 := n0_
   have BK470 := n1_
   have BK471 := n2_
   have HB := n3_
   clear n0_ n1_ n2_ n3_
   refine start_ (n := 12) (S := fun w' => w'.cell? ⟨gb469, 0, none⟩ = some (.int .i64 a0_0) ∧ w'.cell? ⟨gb469, 1, none⟩ = some (.int .i64 a0_1) ∧ w'.cell? ⟨gb469, 2, none⟩ = some (.int .i64 a0_2) ∧ w'.cell? ⟨gb469, 3, none⟩ = some (.int .i64 a0_3) ∧ w'.cell? ⟨gb469, 4, none⟩ = some (.string a0_4) ∧ w'.cell? ⟨gb470, 0, none⟩ = some (.int .i64 a1_0) ∧ w'.cell? ⟨gb470, 1, none⟩ = some (.int .i64 a1_1) ∧ w'.cell? ⟨gb470, 2, none⟩ = some (.int .i64 a1_2) ∧ w'.cell? ⟨gb470, 3, none⟩ = some (.int .i64 a1_3) ∧ w'.cell? ⟨gb470, 4, none⟩ = some (.string a1_4)) (ds := []) #[false, false, false, false, false, false, false, false, false, false, false, false] (by kernel_rfl) rfl rfl ⟨(blk_cell BK469.out 0).trans rfl, (blk_cell BK469.out 1).trans rfl, (blk_cell BK469.out 2).trans rfl, (blk_cell BK469.out 3).trans rfl, (blk_cell BK469.out 4).trans rfl, (blk_cell BK470.out 0).trans rfl, (blk_cell BK470.out 1).trans rfl, (blk_cell BK470.out 2).trans rfl, (blk_cell BK470.out 3).trans rfl, (blk_cell BK470.out 4).trans rfl⟩ (fun hHeld => ?_); refine with_tabW plain_Do_delIns.tab5 plain_Do_delIns.bits5 (fun HT_ HW_ => ?_)
   generalize w39.drew = w45 at BK469 BK470 BK471 HB hHeld ⊢
   refine pure_ (i := 2) (N := some 37) (v := ?_) (a' := ?_) #[false, false, true, false, false, false, false, false, false, false, false, false] rfl rfl (any_of HT_.out (by kernel_rfl)) (fun _ _ _ h => h) (Or.inl ⟨by rfl, ?_⟩) ?_ ?_
   rotate_left
   ·intro w'
    go_simp
    with_reducible rfl
   rotate_left
   ·simp only [Act.put, List.setIfInBounds_toArray, List.set_cons_zero, List.set_cons_succ, i64_w, i32_w]
    rfl
   refine take_ (i := 0) (N := some 35) (v := ?_) (a' := ?_) #[true, false, true, false, false, false, false, false, false, false, false, false] rfl rfl (take_ofW HT_.out HW_.out (by kernel_rfl)) (fun _ _ _ h => h) (Or.inl ⟨by rfl, ?_⟩) hHeld ?_ ?_
   rotate_left
   ·rintro w' ⟨s0, s1, s2, s3, s4, s5, s6, s7, s8, s9⟩
    go_simp
    with_reducible rfl
   rotate_left
   ·simp only [Act.put, List.setIfInBounds_toArray, List.set_cons_zero, List.set_cons_succ, i64_w, i32_w]
    rfl
   refine take_ (i := 1) (N := some 36) (v := ?_) (a' := ?_) #[true, true, true, false, false, false, false, false, false, false, false, false] rfl rfl (take_ofW HT_.out HW_.out (by kernel_rfl)) (fun _ _ _ h => h) (Or.inl ⟨by rfl, ?_⟩) hHeld ?_ ?_
   rotate_left
   ·rintro w' ⟨s0, s1, s2, s3, s4, s5, s6, s7, s8, s9⟩
    go_simp
    with_reducible rfl
   rotate_left
   ·simp only [Act.put, List.setIfInBounds_toArray, List.set_cons_zero, List.set_cons_succ, i64_w, i32_w]
    rfl
   refine take_ (i := 3) (N := some 38) (v := ?_) (a' := ?_) #[true, true, true, true, false, false, false, false, false, false, false, false] rfl rfl (take_ofW HT_.out HW_.out (by kernel_rfl)) (fun _ _ _ h => h) (Or.inl ⟨by rfl, ?_⟩) hHeld ?_ ?_
   rotate_left
   ·rintro w' ⟨s0, s1, s2, s3, s4, s5, s6, s7, s8, s9⟩
    go_simp
    with_reducible rfl
   rotate_left
   ·simp only [Act.put, List.setIfInBounds_toArray, List.set_cons_zero, List.set_cons_succ, i64_w, i32_w]
    rfl
   refine take_ (i := 4) (N := some 39) (v := ?_) (a' := ?_) #[true, true, true, true, true, false, false, false, false, false, false, false] rfl rfl (take_ofW HT_.out HW_.out (by kernel_rfl)) (fun _ _ _ h => h) (Or.inl ⟨by rfl, ?_⟩) hHeld ?_ ?_
   rotate_left
   ·rintro w' ⟨s0, s1, s2, s3, s4, s5, s6, s7, s8, s9⟩
    go_simp
    with_reducible rfl
   rotate_left
   ·simp only [Act.put, List.setIfInBounds_toArray, List.set_cons_zero, List.set_cons_succ, i64_w, i32_w]
    rfl
   refine join_ (σ := Nat × Nat) 2 #[true, true, true, true, true, true, true, true, true, true, false, false] (fun s_ => [(40, .int .i64 t484), (42, .agg #[.int .i64 t485, .int .i64 t486, .int .i64 t487, .int .i64 t488, .string t489]), (6, .pointer (some ⟨s_.1, 0, none⟩)), (7, .pointer (some ⟨s_.2, 0, none⟩)), (41, .int .i64 (wrap64 (a1_2 + t484)))]) (fun s_ w' => (w'.cell? ⟨gb469, 0, none⟩ = some (.int .i64 a0_0) ∧ w'.cell? ⟨gb469, 1, none⟩ = some (.int .i64 a0_1) ∧ w'.cell? ⟨gb469, 2, none⟩ = some (.int .i64 a0_2) ∧ w'.cell? ⟨gb469, 3, none⟩ = some (.int .i64 a0_3) ∧ w'.cell? ⟨gb469, 4, none⟩ = some (.string a0_4) ∧ w'.cell? ⟨gb470, 0, none⟩ = some (.int .i64 a1_0) ∧ w'.cell? ⟨gb470, 1, none⟩ = some (.int .i64 a1_1) ∧ w'.cell? ⟨gb470, 2, none⟩ = some (.int .i64 a1_2) ∧ w'.cell? ⟨gb470, 3, none⟩ = some (.int .i64 a1_3) ∧ w'.cell? ⟨gb470, 4, none⟩ = some (.string a1_4)) ∧ (w'.heap[gb469]? = some (.cells #[.int .i64 a0_0, .int .i64 a0_1, .int .i64 a0_2, .int .i64 a0_3, .string a0_4] 33 (0, 0))) ∧ (w'.heap[gb470]? = some (.cells #[.int .i64 a1_0, .int .i64 a1_1, .int .i64 a1_2, .int .i64 a1_3, .string a1_4] 33 (0, 0))) ∧ (w'.heap[gb471]? = some (.cells #[.int .i64 0, .int .i64 0, .int .i64 0] 29 (0, 0))) ∧ (w'.heap[s_.1]? = some (.cells #[.int .i64 0, .int .i64 0, .int .i64 0, .int .i64 0, .string (⟨#[]⟩ : ByteArray)] 33 (0, 0))) ∧ (w'.heap[s_.2]? = some (.cells #[.int .i64 0, .int .i64 0, .int .i64 0, .int .i64 0, .string (⟨#[]⟩ : ByteArray)] 33 (0, 0))) ∧ (w.heap.size ≤ s_.1) ∧ (w.heap.size ≤ s_.1) ∧ (gb469 ≠ s_.1) ∧ (s_.1 ≠ gb469) ∧ (gb470 ≠ s_.1) ∧ (s_.1 ≠ gb470) ∧ (gb471 ≠ s_.1) ∧ (s_.1 ≠ gb471) ∧ (s_.2 ≠ s_.1) ∧ (s_.1 ≠ s_.2) ∧ (w.heap.size ≤ s_.2) ∧ (w.heap.size ≤ s_.2) ∧ (gb469 ≠ s_.2) ∧ (s_.2 ≠ gb469) ∧ (gb470 ≠ s_.2) ∧ (s_.2 ≠ gb470) ∧ (gb471 ≠ s_.2) ∧ (s_.2 ≠ gb471) ∧ (Below w.heap.size w w')) ?_ ?_
   rotate_left
   ·intro hJ5_7_8_9
    refine join_ (σ := Nat) 3 #[true, true, true, true, true, true, true, true, true, false, false, false] (fun s_ => [(40, .int .i64 t484), (42, .agg #[.int .i64 t485, .int .i64 t486, .int .i64 t487, .int .i64 t488, .string t489]), (6, .pointer (some ⟨s_, 0, none⟩)), (41, .int .i64 (wrap64 (a1_2 + t484)))]) (fun s_ w' => (w'.cell? ⟨gb469, 0, none⟩ = some (.int .i64 a0_0) ∧ w'.cell? ⟨gb469, 1, none⟩ = some (.int .i64 a0_1) ∧ w'.cell? ⟨gb469, 2, none⟩ = some (.int .i64 a0_2) ∧ w'.cell? ⟨gb469, 3, none⟩ = some (.int .i64 a0_3) ∧ w'.cell? ⟨gb469, 4, none⟩ = some (.string a0_4) ∧ w'.cell? ⟨gb470, 0, none⟩ = some (.int .i64 a1_0) ∧ w'.cell? ⟨gb470, 1, none⟩ = some (.int .i64 a1_1) ∧ w'.cell? ⟨gb470, 2, none⟩ = some (.int .i64 a1_2) ∧ w'.cell? ⟨gb470, 3, none⟩ = some (.int .i64 a1_3) ∧ w'.cell? ⟨gb470, 4, none⟩ = some (.string a1_4)) ∧ (w'.heap[gb469]? = some (.cells #[.int .i64 a0_0, .int .i64 a0_1, .int .i64 a0_2, .int .i64 a0_3, .string a0_4] 33 (0, 0))) ∧ (w'.heap[gb470]? = some (.cells #[.int .i64 a1_0, .int .i64 a1_1, .int .i64 a1_2, .int .i64 a1_3, .string a1_4] 33 (0, 0))) ∧ (w'.heap[gb471]? = some (.cells #[.int .i64 0, .int .i64 0, .int .i64 0] 29 (0, 0))) ∧ (w'.heap[s_]? = some (.cells #[.int .i64 0, .int .i64 0, .int .i64 0, .int .i64 0, .string (⟨#[]⟩ : ByteArray)] 33 (0, 0))) ∧ (w.heap.size ≤ s_) ∧ (w.heap.size ≤ s_) ∧ (gb469 ≠ s_) ∧ (s_ ≠ gb469) ∧ (gb470 ≠ s_) ∧ (s_ ≠ gb470) ∧ (gb471 ≠ s_) ∧ (s_ ≠ gb471) ∧ (Below w.heap.size w w')) ?_ ?_
    rotate_left
    ·intro hJ5_7_8
     refine join_ (σ := Nat) 3 #[true, true, true, true, true, true, true, true, false, true, false, false] (fun s_ => [(40, .int .i64 t484), (42, .agg #[.int .i64 t485, .int .i64 t486, .int .i64 t487, .int .i64 t488, .string t489]), (7, .pointer (some ⟨s_, 0, none⟩)), (41, .int .i64 (wrap64 (a1_2 + t484)))]) (fun s_ w' => (w'.cell? ⟨gb469, 0, none⟩ = some (.int .i64 a0_0) ∧ w'.cell? ⟨gb469, 1, none⟩ = some (.int .i64 a0_1) ∧ w'.cell? ⟨gb469, 2, none⟩ = some (.int .i64 a0_2) ∧ w'.cell? ⟨gb469, 3, none⟩ = some (.int .i64 a0_3) ∧ w'.cell? ⟨gb469, 4, none⟩ = some (.string a0_4) ∧ w'.cell? ⟨gb470, 0, none⟩ = some (.int .i64 a1_0) ∧ w'.cell? ⟨gb470, 1, none⟩ = some (.int .i64 a1_1) ∧ w'.cell? ⟨gb470, 2, none⟩ = some (.int .i64 a1_2) ∧ w'.cell? ⟨gb470, 3, none⟩ = some (.int .i64 a1_3) ∧ w'.cell? ⟨gb470, 4, none⟩ = some (.string a1_4)) ∧ (w'.heap[gb469]? = some (.cells #[.int .i64 a0_0, .int .i64 a0_1, .int .i64 a0_2, .int .i64 a0_3, .string a0_4] 33 (0, 0))) ∧ (w'.heap[gb470]? = some (.cells #[.int .i64 a1_0, .int .i64 a1_1, .int .i64 a1_2, .int .i64 a1_3, .string a1_4] 33 (0, 0))) ∧ (w'.heap[gb471]? = some (.cells #[.int .i64 0, .int .i64 0, .int .i64 0] 29 (0, 0))) ∧ (w'.heap[s_]? = some (.cells #[.int .i64 0, .int .i64 0, .int .i64 0, .int .i64 0, .string (⟨#[]⟩ : ByteArray)] 33 (0, 0))) ∧ (w.heap.size ≤ s_) ∧ (w.heap.size ≤ s_) ∧ (gb469 ≠ s_) ∧ (s_ ≠ gb469) ∧ (gb470 ≠ s_) ∧ (s_ ≠ gb470) ∧ (gb471 ≠ s_) ∧ (s_ ≠ gb471) ∧ (Below w.heap.size w w')) ?_ ?_
     rotate_left
     ·intro hJ5_7_9
      refine join_ (σ := Nat × Nat) 3 #[true, true, true, true, true, true, true, false, true, true, false, false] (fun s_ => [(40, .int .i64 t484), (6, .pointer (some ⟨s_.1, 0, none⟩)), (7, .pointer (some ⟨s_.2, 0, none⟩)), (41, .int .i64 (wrap64 (a1_2 + t484)))]) (fun s_ w' => (w'.cell? ⟨gb469, 0, none⟩ = some (.int .i64 a0_0) ∧ w'.cell? ⟨gb469, 1, none⟩ = some (.int .i64 a0_1) ∧ w'.cell? ⟨gb469, 2, none⟩ = some (.int .i64 a0_2) ∧ w'.cell? ⟨gb469, 3, none⟩ = some (.int .i64 a0_3) ∧ w'.cell? ⟨gb469, 4, none⟩ = some (.string a0_4) ∧ w'.cell? ⟨gb470, 0, none⟩ = some (.int .i64 a1_0) ∧ w'.cell? ⟨gb470, 1, none⟩ = some (.int .i64 a1_1) ∧ w'.cell? ⟨gb470, 2, none⟩ = some (.int .i64 a1_2) ∧ w'.cell? ⟨gb470, 3, none⟩ = some (.int .i64 a1_3) ∧ w'.cell? ⟨gb470, 4, none⟩ = some (.string a1_4)) ∧ (w'.heap[gb469]? = some (.cells #[.int .i64 a0_0, .int .i64 a0_1, .int .i64 a0_2, .int .i64 a0_3, .string a0_4] 33 (0, 0))) ∧ (w'.heap[gb470]? = some (.cells #[.int .i64 a1_0, .int .i64 a1_1, .int .i64 a1_2, .int .i64 a1_3, .string a1_4] 33 (0, 0))) ∧ (w'.heap[gb471]? = some (.cells #[.int .i64 0, .int .i64 0, .int .i64 0] 29 (0, 0))) ∧ (w'.heap[s_.1]? = some (.cells #[.int .i64 0, .int .i64 0, .int .i64 0, .int .i64 0, .string (⟨#[]⟩ : ByteArray)] 33 (0, 0))) ∧ (w'.heap[s_.2]? = some (.cells #[.int .i64 0, .int .i64 0, .int .i64 0, .int .i64 0, .string (⟨#[]⟩ : ByteArray)] 33 (0, 0))) ∧ (w.heap.size ≤ s_.1) ∧ (w.heap.size ≤ s_.1) ∧ (gb469 ≠ s_.1) ∧ (s_.1 ≠ gb469) ∧ (gb470 ≠ s_.1) ∧ (s_.1 ≠ gb470) ∧ (gb471 ≠ s_.1) ∧ (s_.1 ≠ gb471) ∧ (s_.2 ≠ s_.1) ∧ (s_.1 ≠ s_.2) ∧ (w.heap.size ≤ s_.2) ∧ (w.heap.size ≤ s_.2) ∧ (gb469 ≠ s_.2) ∧ (s_.2 ≠ gb469) ∧ (gb470 ≠ s_.2) ∧ (s_.2 ≠ gb470) ∧ (gb471 ≠ s_.2) ∧ (s_.2 ≠ gb471) ∧ (Below w.heap.size w w')) ?_ ?_
      rotate_left
      ·intro hJ5_8_9
       refine join_ (σ := Unit) 4 #[true, true, true, true, true, true, true, true, false, false, false, false] (fun s_ => [(40, .int .i64 t484), (42, .agg #[.int .i64 t485, .int .i64 t486, .int .i64 t487, .int .i64 t488, .string t489]), (41, .int .i64 (wrap64 (a1_2 + t484)))]) (fun s_ w' => (w'.cell? ⟨gb469, 0, none⟩ = some (.int .i64 a0_0) ∧ w'.cell? ⟨gb469, 1, none⟩ = some (.int .i64 a0_1) ∧ w'.cell? ⟨gb469, 2, none⟩ = some (.int .i64 a0_2) ∧ w'.cell? ⟨gb469, 3, none⟩ = some (.int .i64 a0_3) ∧ w'.cell? ⟨gb469, 4, none⟩ = some (.string a0_4) ∧ w'.cell? ⟨gb470, 0, none⟩ = some (.int .i64 a1_0) ∧ w'.cell? ⟨gb470, 1, none⟩ = some (.int .i64 a1_1) ∧ w'.cell? ⟨gb470, 2, none⟩ = some (.int .i64 a1_2) ∧ w'.cell? ⟨gb470, 3, none⟩ = some (.int .i64 a1_3) ∧ w'.cell? ⟨gb470, 4, none⟩ = some (.string a1_4)) ∧ (w'.heap[gb469]? = some (.cells #[.int .i64 a0_0, .int .i64 a0_1, .int .i64 a0_2, .int .i64 a0_3, .string a0_4] 33 (0, 0))) ∧ (w'.heap[gb470]? = some (.cells #[.int .i64 a1_0, .int .i64 a1_1, .int .i64 a1_2, .int .i64 a1_3, .string a1_4] 33 (0, 0))) ∧ (w'.heap[gb471]? = some (.cells #[.int .i64 0, .int .i64 0, .int .i64 0] 29 (0, 0))) ∧ (Below w.heap.size w w')) ?_ ?_
       rotate_left
       ·intro hJ5_7
        refine join_ (σ := Nat) 4 #[true, true, true, true, true, true, true, false, true, false, false, false] (fun s_ => [(40, .int .i64 t484), (6, .pointer (some ⟨s_, 0, none⟩)), (41, .int .i64 (wrap64 (a1_2 + t484)))]) (fun s_ w' => (w'.cell? ⟨gb469, 0, none⟩ = some (.int .i64 a0_0) ∧ w'.cell? ⟨gb469, 1, none⟩ = some (.int .i64 a0_1) ∧ w'.cell? ⟨gb469, 2, none⟩ = some (.int .i64 a0_2) ∧ w'.cell? ⟨gb469, 3, none⟩ = some (.int .i64 a0_3) ∧ w'.cell? ⟨gb469, 4, none⟩ = some (.string a0_4) ∧ w'.cell? ⟨gb470, 0, none⟩ = some (.int .i64 a1_0) ∧ w'.cell? ⟨gb470, 1, none⟩ = some (.int .i64 a1_1) ∧ w'.cell? ⟨gb470, 2, none⟩ = some (.int .i64 a1_2) ∧ w'.cell? ⟨gb470, 3, none⟩ = some (.int .i64 a1_3) ∧ w'.cell? ⟨gb470, 4, none⟩ = some (.string a1_4)) ∧ (w'.heap[gb469]? = some (.cells #[.int .i64 a0_0, .int .i64 a0_1, .int .i64 a0_2, .int .i64 a0_3, .string a0_4] 33 (0, 0))) ∧ (w'.heap[gb470]? = some (.cells #[.int .i64 a1_0, .int .i64 a1_1, .int .i64 a1_2, .int .i64 a1_3, .string a1_4] 33 (0, 0))) ∧ (w'.heap[gb471]? = some (.cells #[.int .i64 0, .int .i64 0, .int .i64 0] 29 (0, 0))) ∧ (w'.heap[s_]? = some (.cells #[.int .i64 0, .int .i64 0, .int .i64 0, .int .i64 0, .string (⟨#[]⟩ : ByteArray)] 33 (0, 0))) ∧ (w.heap.size ≤ s_) ∧ (w.heap.size ≤ s_) ∧ (gb469 ≠ s_) ∧ (s_ ≠ gb469) ∧ (gb470 ≠ s_) ∧ (s_ ≠ gb470) ∧ (gb471 ≠ s_) ∧ (s_ ≠ gb471) ∧ (Below w.heap.size w w')) ?_ ?_
        rotate_left
        ·intro hJ5_8
         refine join_ (σ := Nat) 4 #[true, true, true, true, true, true, true, false, false, true, false, false] (fun s_ => [(40, .int .i64 t484), (7, .pointer (some ⟨s_, 0, none⟩)), (41, .int .i64 (wrap64 (a1_2 + t484)))]) (fun s_ w' => (w'.cell? ⟨gb469, 0, none⟩ = some (.int .i64 a0_0) ∧ w'.cell? ⟨gb469, 1, none⟩ = some (.int .i64 a0_1) ∧ w'.cell? ⟨gb469, 2, none⟩ = some (.int .i64 a0_2) ∧ w'.cell? ⟨gb469, 3, none⟩ = some (.int .i64 a0_3) ∧ w'.cell? ⟨gb469, 4, none⟩ = some (.string a0_4) ∧ w'.cell? ⟨gb470, 0, none⟩ = some (.int .i64 a1_0) ∧ w'.cell? ⟨gb470, 1, none⟩ = some (.int .i64 a1_1) ∧ w'.cell? ⟨gb470, 2, none⟩ = some (.int .i64 a1_2) ∧ w'.cell? ⟨gb470, 3, none⟩ = some (.int .i64 a1_3) ∧ w'.cell? ⟨gb470, 4, none⟩ = some (.string a1_4)) ∧ (w'.heap[gb469]? = some (.cells #[.int .i64 a0_0, .int .i64 a0_1, .int .i64 a0_2, .int .i64 a0_3, .string a0_4] 33 (0, 0))) ∧ (w'.heap[gb470]? = some (.cells #[.int .i64 a1_0, .int .i64 a1_1, .int .i64 a1_2, .int .i64 a1_3, .string a1_4] 33 (0, 0))) ∧ (w'.heap[gb471]? = some (.cells #[.int .i64 0, .int .i64 0, .int .i64 0] 29 (0, 0))) ∧ (w'.heap[s_]? = some (.cells #[.int .i64 0, .int .i64 0, .int .i64 0, .int .i64 0, .string (⟨#[]⟩ : ByteArray)] 33 (0, 0))) ∧ (w.heap.size ≤ s_) ∧ (w.heap.size ≤ s_) ∧ (gb469 ≠ s_) ∧ (s_ ≠ gb469) ∧ (gb470 ≠ s_) ∧ (s_ ≠ gb470) ∧ (gb471 ≠ s_) ∧ (s_ ≠ gb471) ∧ (Below w.heap.size w w')) ?_ ?_
         rotate_left
         ·intro hJ5_9
          refine join_ (σ := Nat × Nat) 5 #[true, true, true, true, true, false, false, false, true, true, false, false] (fun s_ => [(6, .pointer (some ⟨s_.1, 0, none⟩)), (7, .pointer (some ⟨s_.2, 0, none⟩))]) (fun s_ w' => (w'.cell? ⟨gb469, 0, none⟩ = some (.int .i64 a0_0) ∧ w'.cell? ⟨gb469, 1, none⟩ = some (.int .i64 a0_1) ∧ w'.cell? ⟨gb469, 2, none⟩ = some (.int .i64 a0_2) ∧ w'.cell? ⟨gb469, 3, none⟩ = some (.int .i64 a0_3) ∧ w'.cell? ⟨gb469, 4, none⟩ = some (.string a0_4) ∧ w'.cell? ⟨gb470, 0, none⟩ = some (.int .i64 a1_0) ∧ w'.cell? ⟨gb470, 1, none⟩ = some (.int .i64 a1_1) ∧ w'.cell? ⟨gb470, 2, none⟩ = some (.int .i64 a1_2) ∧ w'.cell? ⟨gb470, 3, none⟩ = some (.int .i64 a1_3) ∧ w'.cell? ⟨gb470, 4, none⟩ = some (.string a1_4)) ∧ (w'.heap[gb469]? = some (.cells #[.int .i64 a0_0, .int .i64 a0_1, .int .i64 a0_2, .int .i64 a0_3, .string a0_4] 33 (0, 0))) ∧ (w'.heap[gb470]? = some (.cells #[.int .i64 a1_0, .int .i64 a1_1, .int .i64 a1_2, .int .i64 a1_3, .string a1_4] 33 (0, 0))) ∧ (w'.heap[gb471]? = some (.cells #[.int .i64 0, .int .i64 0, .int .i64 0] 29 (0, 0))) ∧ (w'.heap[s_.1]? = some (.cells #[.int .i64 0, .int .i64 0, .int .i64 0, .int .i64 0, .string (⟨#[]⟩ : ByteArray)] 33 (0, 0))) ∧ (w'.heap[s_.2]? = some (.cells #[.int .i64 0, .int .i64 0, .int .i64 0, .int .i64 0, .string (⟨#[]⟩ : ByteArray)] 33 (0, 0))) ∧ (w.heap.size ≤ s_.1) ∧ (w.heap.size ≤ s_.1) ∧ (gb469 ≠ s_.1) ∧ (s_.1 ≠ gb469) ∧ (gb470 ≠ s_.1) ∧ (s_.1 ≠ gb470) ∧ (gb471 ≠ s_.1) ∧ (s_.1 ≠ gb471) ∧ (s_.2 ≠ s_.1) ∧ (s_.1 ≠ s_.2) ∧ (w.heap.size ≤ s_.2) ∧ (w.heap.size ≤ s_.2) ∧ (gb469 ≠ s_.2) ∧ (s_.2 ≠ gb469) ∧ (gb470 ≠ s_.2) ∧ (s_.2 ≠ gb470) ∧ (gb471 ≠ s_.2) ∧ (s_.2 ≠ gb471) ∧ (Below w.heap.size w w')) ?_ ?_
          rotate_left
          ·intro hJ8_9
           refine join_ (σ := Unit) 5 #[true, true, true, true, true, true, true, false, false, false, false, false] (fun s_ => [(40, .int .i64 t484), (41, .int .i64 (wrap64 (a1_2 + t484)))]) (fun s_ w' => (w'.cell? ⟨gb469, 0, none⟩ = some (.int .i64 a0_0) ∧ w'.cell? ⟨gb469, 1, none⟩ = some (.int .i64 a0_1) ∧ w'.cell? ⟨gb469, 2, none⟩ = some (.int .i64 a0_2) ∧ w'.cell? ⟨gb469, 3, none⟩ = some (.int .i64 a0_3) ∧ w'.cell? ⟨gb469, 4, none⟩ = some (.string a0_4) ∧ w'.cell? ⟨gb470, 0, none⟩ = some (.int .i64 a1_0) ∧ w'.cell? ⟨gb470, 1, none⟩ = some (.int .i64 a1_1) ∧ w'.cell? ⟨gb470, 2, none⟩ = some (.int .i64 a1_2) ∧ w'.cell? ⟨gb470, 3, none⟩ = some (.int .i64 a1_3) ∧ w'.cell? ⟨gb470, 4, none⟩ = some (.string a1_4)) ∧ (w'.heap[gb469]? = some (.cells #[.int .i64 a0_0, .int .i64 a0_1, .int .i64 a0_2, .int .i64 a0_3, .string a0_4] 33 (0, 0))) ∧ (w'.heap[gb470]? = some (.cells #[.int .i64 a1_0, .int .i64 a1_1, .int .i64 a1_2, .int .i64 a1_3, .string a1_4] 33 (0, 0))) ∧ (w'.heap[gb471]? = some (.cells #[.int .i64 0, .int .i64 0, .int .i64 0] 29 (0, 0))) ∧ (Below w.heap.size w w')) ?_ ?_
           rotate_left
           ·intro hJ5
            refine join_ (σ := Nat) 6 #[true, true, true, true, true, false, false, false, true, false, false, false] (fun s_ => [(6, .pointer (some ⟨s_, 0, none⟩))]) (fun s_ w' => (w'.cell? ⟨gb469, 0, none⟩ = some (.int .i64 a0_0) ∧ w'.cell? ⟨gb469, 1, none⟩ = some (.int .i64 a0_1) ∧ w'.cell? ⟨gb469, 2, none⟩ = some (.int .i64 a0_2) ∧ w'.cell? ⟨gb469, 3, none⟩ = some (.int .i64 a0_3) ∧ w'.cell? ⟨gb469, 4, none⟩ = some (.string a0_4) ∧ w'.cell? ⟨gb470, 0, none⟩ = some (.int .i64 a1_0) ∧ w'.cell? ⟨gb470, 1, none⟩ = some (.int .i64 a1_1) ∧ w'.cell? ⟨gb470, 2, none⟩ = some (.int .i64 a1_2) ∧ w'.cell? ⟨gb470, 3, none⟩ = some (.int .i64 a1_3) ∧ w'.cell? ⟨gb470, 4, none⟩ = some (.string a1_4)) ∧ (w'.heap[gb469]? = some (.cells #[.int .i64 a0_0, .int .i64 a0_1, .int .i64 a0_2, .int .i64 a0_3, .string a0_4] 33 (0, 0))) ∧ (w'.heap[gb470]? = some (.cells #[.int .i64 a1_0, .int .i64 a1_1, .int .i64 a1_2, .int .i64 a1_3, .string a1_4] 33 (0, 0))) ∧ (w'.heap[gb471]? = some (.cells #[.int .i64 0, .int .i64 0, .int .i64 0] 29 (0, 0))) ∧ (w'.heap[s_]? = some (.cells #[.int .i64 0, .int .i64 0, .int .i64 0, .int .i64 0, .string (⟨#[]⟩ : ByteArray)] 33 (0, 0))) ∧ (w.heap.size ≤ s_) ∧ (w.heap.size ≤ s_) ∧ (gb469 ≠ s_) ∧ (s_ ≠ gb469) ∧ (gb470 ≠ s_) ∧ (s_ ≠ gb470) ∧ (gb471 ≠ s_) ∧ (s_ ≠ gb471) ∧ (Below w.heap.size w w')) ?_ ?_
            rotate_left
            ·intro hJ8
             refine join_ (σ := Nat) 6 #[true, true, true, true, true, false, false, false, false, true, false, false] (fun s_ => [(7, .pointer (some ⟨s_, 0, none⟩))]) (fun s_ w' => (w'.cell? ⟨gb469, 0, none⟩ = some (.int .i64 a0_0) ∧ w'.cell? ⟨gb469, 1, none⟩ = some (.int .i64 a0_1) ∧ w'.cell? ⟨gb469, 2, none⟩ = some (.int .i64 a0_2) ∧ w'.cell? ⟨gb469, 3, none⟩ = some (.int .i64 a0_3) ∧ w'.cell? ⟨gb469, 4, none⟩ = some (.string a0_4) ∧ w'.cell? ⟨gb470, 0, none⟩ = some (.int .i64 a1_0) ∧ w'.cell? ⟨gb470, 1, none⟩ = some (.int .i64 a1_1) ∧ w'.cell? ⟨gb470, 2, none⟩ = some (.int .i64 a1_2) ∧ w'.cell? ⟨gb470, 3, none⟩ = some (.int .i64 a1_3) ∧ w'.cell? ⟨gb470, 4, none⟩ = some (.string a1_4)) ∧ (w'.heap[gb469]? = some (.cells #[.int .i64 a0_0, .int .i64 a0_1, .int .i64 a0_2, .int .i64 a0_3, .string a0_4] 33 (0, 0))) ∧ (w'.heap[gb470]? = some (.cells #[.int .i64 a1_0, .int .i64 a1_1, .int .i64 a1_2, .int .i64 a1_3, .string a1_4] 33 (0, 0))) ∧ (w'.heap[gb471]? = some (.cells #[.int .i64 0, .int .i64 0, .int .i64 0] 29 (0, 0))) ∧ (w'.heap[s_]? = some (.cells #[.int .i64 0, .int .i64 0, .int .i64 0, .int .i64 0, .string (⟨#[]⟩ : ByteArray)] 33 (0, 0))) ∧ (w.heap.size ≤ s_) ∧ (w.heap.size ≤ s_) ∧ (gb469 ≠ s_) ∧ (s_ ≠ gb469) ∧ (gb470 ≠ s_) ∧ (s_ ≠ gb470) ∧ (gb471 ≠ s_) ∧ (s_ ≠ gb471) ∧ (Below w.heap.size w w')) ?_ ?_
             rotate_left
             ·intro hJ9
              refine three_ (i := 5) (j := 8) (k := 9) (Ni := some 40) (Nj := some 6) (Nk := some 7) #[true, true, true, true, true, true, false, false, false, false, false, false] #[true, true, true, true, true, false, false, false, true, false, false, false] #[true, true, true, true, true, false, false, false, false, true, false, false] rfl rfl rfl rfl rfl rfl (three_of HT_.out (by kernel_rfl)) (by decide) (by decide) (by decide) (fun K hK => ?_) (fun K hK => ?_) (fun K hK => ?_)
              ·skip
               refine goes_ Tryd.func37 (by kernel_rfl) rfl #[.agg #[.int .i64 a1_0, .int .i64 a1_1, .int .i64 a1_2, .int .i64 a1_3, .string a1_4]] (by rfl) rfl rfl (by (try simp only [List.map_toArray, List.map_cons, List.map_nil]); first | done | rfl | (simp only [List.length_drop, List.length_take]; rfl)) ?_
               with_reducible refine (plain_Do_size.calls a1_0 a1_1 a1_2 a1_3 a1_4 t484 _ ?side1 A35.out).mono ?_
               (case side1 => exact XAmb_step hT (hb3_ HB GE469 GE470 GE471))
               rintro e w46 ⟨rfl, hb⟩
               refine ⟨_, rfl, ?_⟩
               have n0_ := Aside0.mk (blk_below (g := gb469) (o := .cells #[.int .i64 a0_0, .int .i64 a0_1, .int .i64 a0_2, .int .i64 a0_3, .string a0_4] 33 (0, 0)) (bk_ BK469) hb)
               have n1_ := Aside0.mk (blk_below (g := gb470) (o := .cells #[.int .i64 a1_0, .int .i64 a1_1, .int .i64 a1_2, .int .i64 a1_3, .string a1_4] 33 (0, 0)) (bk_ BK470) hb)
               have n2_ := Aside0.mk (blk_below (g := gb471) (o := .cells #[.int .i64 0, .int .i64 0, .int .i64 0] 29 (0, 0)) (bk_ BK471) hb)
               have n3_ := Aside0.mk (below_step (hb3_ HB GE469 GE470 GE471) hb)
               clear BK469
               clear BK470
               clear BK471
               clear HB
               have BK469 := n0_
               have BK470 := n1_
               have BK471 := n2_
               have HB := n3_
               clear n0_ n1_ n2_ n3_
               (try clear hb)
               (try clear hb2)
               (try clear hk)
               (try clear hi)
               refine hK.out _ _ ⟨(blk_cell BK469.out 0).trans rfl, (blk_cell BK469.out 1).trans rfl, (blk_cell BK469.out 2).trans rfl, (blk_cell BK469.out 3).trans rfl, (blk_cell BK469.out 4).trans rfl, (blk_cell BK470.out 0).trans rfl, (blk_cell BK470.out 1).trans rfl, (blk_cell BK470.out 2).trans rfl, (blk_cell BK470.out 3).trans rfl, (blk_cell BK470.out 4).trans rfl⟩ (fun hHeld => ?_)
               clear hK K
               refine norm_ (a' := ?_) ?_ ?_
               rotate_left
               ·show Act.put _ (some 40) _ = _
                simp only [Act.put, List.setIfInBounds_toArray, List.set_cons_zero, List.set_cons_succ, i64_w, i32_w]
                rfl
               refine pure_ (i := 6) (N := some 41) (v := ?_) (a' := ?_) #[true, true, true, true, true, true, true, false, false, false, false, false] rfl rfl (any_of HT_.out (by kernel_rfl)) (fun _ _ _ h => h) (Or.inl ⟨by rfl, ?_⟩) ?_ ?_
               rotate_left
               ·intro w'
                go_simp
                with_reducible rfl
               rotate_left
               ·simp only [Act.put, List.setIfInBounds_toArray, List.set_cons_zero, List.set_cons_succ, i64_w, i32_w]
                rfl
               exact norm_ (by first | (simp only [putAll, Act.put, List.setIfInBounds_toArray, List.set_cons_zero, List.set_cons_succ]; done) | (simp only [putAll, Act.put, List.setIfInBounds_toArray, List.set_cons_zero, List.set_cons_succ]; rfl)) (hJ5 () _ ⟨hHeld, (bk_ BK469), (bk_ BK470), (bk_ BK471), (hb3_ HB GE469 GE470 GE471)⟩)
              ·skip
               refine box_step ?hg (N := 6) ?hd (cs := #[.int .i64 0, .int .i64 0, .int .i64 0, .int .i64 0, .string (⟨#[]⟩ : ByteArray)]) (t := 33) ?hr ?_; (case hd => rfl); (case hg => rfl); (case hr => first | (go_simp; done) | (go_simp; rfl))
               intro gb490 hg w46 hbox hb
               have n0_ := Aside0.mk (blk_below (g := gb469) (o := .cells #[.int .i64 a0_0, .int .i64 a0_1, .int .i64 a0_2, .int .i64 a0_3, .string a0_4] 33 (0, 0)) (bk_ BK469) hb)
               have n1_ := Aside0.mk (blk_below (g := gb470) (o := .cells #[.int .i64 a1_0, .int .i64 a1_1, .int .i64 a1_2, .int .i64 a1_3, .string a1_4] 33 (0, 0)) (bk_ BK470) hb)
               have n2_ := Aside0.mk (blk_below (g := gb471) (o := .cells #[.int .i64 0, .int .i64 0, .int .i64 0] 29 (0, 0)) (bk_ BK471) hb)
               have n3_ := Aside0.mk (below_step (hb3_ HB GE469 GE470 GE471) hb)
               have n4_ := Aside0.mk (hbox)
               have n5_ := Aside0.mk ((by rw [hg]; exact (below_size (hb3_ HB GE469 GE470 GE471)) : w.heap.size ≤ gb490))
               have n6_ := Aside0.mk ((by rw [hg]; exact (below_size (hb3_ HB GE469 GE470 GE471)) : w.heap.size ≤ gb490))
               have n7_ := Aside0.mk ((by rw [hg]; exact Nat.ne_of_lt (blk_lt (g := gb469) (o := .cells #[.int .i64 a0_0, .int .i64 a0_1, .int .i64 a0_2, .int .i64 a0_3, .string a0_4] 33 (0, 0)) (bk_ BK469)) : gb469 ≠ gb490))
               have n8_ := Aside0.mk ((by rw [hg]; exact Nat.ne_of_gt (blk_lt (g := gb469) (o := .cells #[.int .i64 a0_0, .int .i64 a0_1, .int .i64 a0_2, .int .i64 a0_3, .string a0_4] 33 (0, 0)) (bk_ BK469)) : gb490 ≠ gb469))
               have n9_ := Aside0.mk ((by rw [hg]; exact Nat.ne_of_lt (blk_lt (g := gb470) (o := .cells #[.int .i64 a1_0, .int .i64 a1_1, .int .i64 a1_2, .int .i64 a1_3, .string a1_4] 33 (0, 0)) (bk_ BK470)) : gb470 ≠ gb490))
               have n10_ := Aside0.mk ((by rw [hg]; exact Nat.ne_of_gt (blk_lt (g := gb470) (o := .cells #[.int .i64 a1_0, .int .i64 a1_1, .int .i64 a1_2, .int .i64 a1_3, .string a1_4] 33 (0, 0)) (bk_ BK470)) : gb490 ≠ gb470))
               have n11_ := Aside0.mk ((by rw [hg]; exact Nat.ne_of_lt (blk_lt (g := gb471) (o := .cells #[.int .i64 0, .int .i64 0, .int .i64 0] 29 (0, 0)) (bk_ BK471)) : gb471 ≠ gb490))
               have n12_ := Aside0.mk ((by rw [hg]; exact Nat.ne_of_gt (blk_lt (g := gb471) (o := .cells #[.int .i64 0, .int .i64 0, .int .i64 0] 29 (0, 0)) (bk_ BK471)) : gb490 ≠ gb471))
               clear BK469
               clear BK470
               clear BK471
               clear HB
               have BK469 := n0_
               have BK470 := n1_
               have BK471 := n2_
               have HB := n3_
               have BK490 := n4_
               have GW490 := n5_
               have GE490 := n6_
               have NB469_490 := n7_
               have NB490_469 := n8_
               have NB470_490 := n9_
               have NB490_470 := n10_
               have NB471_490 := n11_
               have NB490_471 := n12_
               clear n0_ n1_ n2_ n3_ n4_ n5_ n6_ n7_ n8_ n9_ n10_ n11_ n12_
               clear hb hbox hg
               refine hK.out _ _ ⟨(blk_cell BK469.out 0).trans rfl, (blk_cell BK469.out 1).trans rfl, (blk_cell BK469.out 2).trans rfl, (blk_cell BK469.out 3).trans rfl, (blk_cell BK469.out 4).trans rfl, (blk_cell BK470.out 0).trans rfl, (blk_cell BK470.out 1).trans rfl, (blk_cell BK470.out 2).trans rfl, (blk_cell BK470.out 3).trans rfl, (blk_cell BK470.out 4).trans rfl⟩ (fun hHeld => ?_)
               clear hK K
               refine norm_ (a' := ?_) ?_ ?_
               rotate_left
               ·show Act.put _ (some 6) _ = _
                simp only [Act.put, List.setIfInBounds_toArray, List.set_cons_zero, List.set_cons_succ, i64_w, i32_w]
                rfl
               exact norm_ (by first | (simp only [putAll, Act.put, List.setIfInBounds_toArray, List.set_cons_zero, List.set_cons_succ]; done) | (simp only [putAll, Act.put, List.setIfInBounds_toArray, List.set_cons_zero, List.set_cons_succ]; rfl)) (hJ8 (gb490) _ ⟨hHeld, (bk_ BK469), (bk_ BK470), (bk_ BK471), (bk_ BK490), GW490.out, GE490.out, NB469_490.out, NB490_469.out, NB470_490.out, NB490_470.out, NB471_490.out, NB490_471.out, (hb4_ HB GE469 GE470 GE471 GE490)⟩)
              ·skip
               refine box_step ?hg (N := 7) ?hd (cs := #[.int .i64 0, .int .i64 0, .int .i64 0, .int .i64 0, .string (⟨#[]⟩ : ByteArray)]) (t := 33) ?hr ?_; (case hd => rfl); (case hg => rfl); (case hr => first | (go_simp; done) | (go_simp; rfl))
               intro gb491 hg w46 hbox hb
               have n0_ := Aside0.mk (blk_below (g := gb469) (o := .cells #[.int .i64 a0_0, .int .i64 a0_1, .int .i64 a0_2, .int .i64 a0_3, .string a0_4] 33 (0, 0)) (bk_ BK469) hb)
               have n1_ := Aside0.mk (blk_below (g := gb470) (o := .cells #[.int .i64 a1_0, .int .i64 a1_1, .int .i64 a1_2, .int .i64 a1_3, .string a1_4] 33 (0, 0)) (bk_ BK470) hb)
               have n2_ := Aside0.mk (blk_below (g := gb471) (o := .cells #[.int .i64 0, .int .i64 0, .int .i64 0] 29 (0, 0)) (bk_ BK471) hb)
               have n3_ := Aside0.mk (below_step (hb3_ HB GE469 GE470 GE471) hb)
               have n4_ := Aside0.mk (hbox)
               have n5_ := Aside0.mk ((by rw [hg]; exact (below_size (hb3_ HB GE469 GE470 GE471)) : w.heap.size ≤ gb491))
               have n6_ := Aside0.mk ((by rw [hg]; exact (below_size (hb3_ HB GE469 GE470 GE471)) : w.heap.size ≤ gb491))
               have n7_ := Aside0.mk ((by rw [hg]; exact Nat.ne_of_lt (blk_lt (g := gb469) (o := .cells #[.int .i64 a0_0, .int .i64 a0_1, .int .i64 a0_2, .int .i64 a0_3, .string a0_4] 33 (0, 0)) (bk_ BK469)) : gb469 ≠ gb491))
               have n8_ := Aside0.mk ((by rw [hg]; exact Nat.ne_of_gt (blk_lt (g := gb469) (o := .cells #[.int .i64 a0_0, .int .i64 a0_1, .int .i64 a0_2, .int .i64 a0_3, .string a0_4] 33 (0, 0)) (bk_ BK469)) : gb491 ≠ gb469))
               have n9_ := Aside0.mk ((by rw [hg]; exact Nat.ne_of_lt (blk_lt (g := gb470) (o := .cells #[.int .i64 a1_0, .int .i64 a1_1, .int .i64 a1_2, .int .i64 a1_3, .string a1_4] 33 (0, 0)) (bk_ BK470)) : gb470 ≠ gb491))
               have n10_ := Aside0.mk ((by rw [hg]; exact Nat.ne_of_gt (blk_lt (g := gb470) (o := .cells #[.int .i64 a1_0, .int .i64 a1_1, .int .i64 a1_2, .int .i64 a1_3, .string a1_4] 33 (0, 0)) (bk_ BK470)) : gb491 ≠ gb470))
               have n11_ := Aside0.mk ((by rw [hg]; exact Nat.ne_of_lt (blk_lt (g := gb471) (o := .cells #[.int .i64 0, .int .i64 0, .int .i64 0] 29 (0, 0)) (bk_ BK471)) : gb471 ≠ gb491))
               have n12_ := Aside0.mk ((by rw [hg]; exact Nat.ne_of_gt (blk_lt (g := gb471) (o := .cells #[.int .i64 0, .int .i64 0, .int .i64 0] 29 (0, 0)) (bk_ BK471)) : gb491 ≠ gb471))
               clear BK469
               clear BK470
               clear BK471
               clear HB
               have BK469 := n0_
               have BK470 := n1_
               have BK471 := n2_
               have HB := n3_
               have BK491 := n4_
               have GW491 := n5_
               have GE491 := n6_
               have NB469_491 := n7_
               have NB491_469 := n8_
               have NB470_491 := n9_
               have NB491_470 := n10_
               have NB471_491 := n11_
               have NB491_471 := n12_
               clear n0_ n1_ n2_ n3_ n4_ n5_ n6_ n7_ n8_ n9_ n10_ n11_ n12_
               clear hb hbox hg
               refine hK.out _ _ ⟨(blk_cell BK469.out 0).trans rfl, (blk_cell BK469.out 1).trans rfl, (blk_cell BK469.out 2).trans rfl, (blk_cell BK469.out 3).trans rfl, (blk_cell BK469.out 4).trans rfl, (blk_cell BK470.out 0).trans rfl, (blk_cell BK470.out 1).trans rfl, (blk_cell BK470.out 2).trans rfl, (blk_cell BK470.out 3).trans rfl, (blk_cell BK470.out 4).trans rfl⟩ (fun hHeld => ?_)
               clear hK K
               refine norm_ (a' := ?_) ?_ ?_
               rotate_left
               ·show Act.put _ (some 7) _ = _
                simp only [Act.put, List.setIfInBounds_toArray, List.set_cons_zero, List.set_cons_succ, i64_w, i32_w]
                rfl
               exact norm_ (by first | (simp only [putAll, Act.put, List.setIfInBounds_toArray, List.set_cons_zero, List.set_cons_succ]; done) | (simp only [putAll, Act.put, List.setIfInBounds_toArray, List.set_cons_zero, List.set_cons_succ]; rfl)) (hJ9 (gb491) _ ⟨hHeld, (bk_ BK469), (bk_ BK470), (bk_ BK471), (bk_ BK491), GW491.out, GE491.out, NB469_491.out, NB491_469.out, NB470_491.out, NB491_470.out, NB471_491.out, NB491_471.out, (hb4_ HB GE469 GE470 GE471 GE491)⟩)
             ·skip
              rintro gb491 w47 ⟨hS_, h0_, h1_, h2_, h3_, h4_, h5_, h6_, h7_, h8_, h9_, h10_, h11_, h12_⟩
              have n0_ : Aside0 (w47.heap[gb469]? = some (.cells #[.int .i64 a0_0, .int .i64 a0_1, .int .i64 a0_2, .int .i64 a0_3, .string a0_4] 33 (0, 0))) := ⟨h0_⟩
              have n1_ : Aside0 (w47.heap[gb470]? = some (.cells #[.int .i64 a1_0, .int .i64 a1_1, .int .i64 a1_2, .int .i64 a1_3, .string a1_4] 33 (0, 0))) := ⟨h1_⟩
              have n2_ : Aside0 (w47.heap[gb471]? = some (.cells #[.int .i64 0, .int .i64 0, .int .i64 0] 29 (0, 0))) := ⟨h2_⟩
              have n3_ : Aside0 (w47.heap[gb491]? = some (.cells #[.int .i64 0, .int .i64 0, .int .i64 0, .int .i64 0, .string (⟨#[]⟩ : ByteArray)] 33 (0, 0))) := ⟨h3_⟩
              have n4_ : Aside0 (w.heap.size ≤ gb491) := ⟨h4_⟩
              have n5_ : Aside0 (w.heap.size ≤ gb491) := ⟨h5_⟩
              have n6_ : Aside0 (gb469 ≠ gb491) := ⟨h6_⟩
              have n7_ : Aside0 (gb491 ≠ gb469) := ⟨h7_⟩
              have n8_ : Aside0 (gb470 ≠ gb491) := ⟨h8_⟩
              have n9_ : Aside0 (gb491 ≠ gb470) := ⟨h9_⟩
              have n10_ : Aside0 (gb471 ≠ gb491) := ⟨h10_⟩
              have n11_ : Aside0 (gb491 ≠ gb471) := ⟨h11_⟩
              have n12_ : Aside0 (Below w.heap.size w w47) := ⟨h12_⟩
              clear BK469
              clear BK470
              clear BK471
              clear HB
              clear h0_ h1_ h2_ h3_ h4_ h5_ h6_ h7_ h8_ h9_ h10_ h11_ h12_
              have BK469 := n0_
              have BK470 := n1_
              have BK471 := n2_
              have BK491 := n3_
              have GW491 := n4_
              have GE491 := n5_
              have NB469_491 := n6_
              have NB491_469 := n7_
              have NB470_491 := n8_
              have NB491_470 := n9_
              have NB471_491 := n10_
              have NB491_471 := n11_
              have HB := n12_
              clear n0_ n1_ n2_ n3_ n4_ n5_ n6_ n7_ n8_ n9_ n10_ n11_ n12_
              have hHeld : w47.cell? ⟨gb469, 0, none⟩ = some (.int .i64 a0_0) ∧ w47.cell? ⟨gb469, 1, none⟩ = some (.int .i64 a0_1) ∧ w47.cell? ⟨gb469, 2, none⟩ = some (.int .i64 a0_2) ∧ w47.cell? ⟨gb469, 3, none⟩ = some (.int .i64 a0_3) ∧ w47.cell? ⟨gb469, 4, none⟩ = some (.string a0_4) ∧ w47.cell? ⟨gb470, 0, none⟩ = some (.int .i64 a1_0) ∧ w47.cell? ⟨gb470, 1, none⟩ = some (.int .i64 a1_1) ∧ w47.cell? ⟨gb470, 2, none⟩ = some (.int .i64 a1_2) ∧ w47.cell? ⟨gb470, 3, none⟩ = some (.int .i64 a1_3) ∧ w47.cell? ⟨gb470, 4, none⟩ = some (.string a1_4) := hS_
              refine norm_ (a' := ?_) ?_ ?_
              rotate_left
              ·simp only [putAll, Act.put, List.setIfInBounds_toArray, List.set_cons_zero, List.set_cons_succ]
               rfl
              refine two_ (i := 5) (j := 8) (Ni := some 40) (Nj := some 6) #[true, true, true, true, true, true, false, false, false, true, false, false] #[true, true, true, true, true, false, false, false, true, true, false, false] rfl rfl rfl rfl (two_of HT_.out (by kernel_rfl)) (by decide) (by decide) (fun K hK => ?_) (fun K hK => ?_)
              ·skip
               refine goes_ Tryd.func37 (by kernel_rfl) rfl #[.agg #[.int .i64 a1_0, .int .i64 a1_1, .int .i64 a1_2, .int .i64 a1_3, .string a1_4]] (by rfl) rfl rfl (by (try simp only [List.map_toArray, List.map_cons, List.map_nil]); first | done | rfl | (simp only [List.length_drop, List.length_take]; rfl)) ?_
               with_reducible refine (plain_Do_size.calls a1_0 a1_1 a1_2 a1_3 a1_4 t484 _ ?side1 A35.out).mono ?_
               (case side1 => exact XAmb_step hT (hb4_ HB GE469 GE470 GE471 GE491))
               rintro e w48 ⟨rfl, hb⟩
               refine ⟨_, rfl, ?_⟩
               have n0_ := Aside0.mk (blk_below (g := gb469) (o := .cells #[.int .i64 a0_0, .int .i64 a0_1, .int .i64 a0_2, .int .i64 a0_3, .string a0_4] 33 (0, 0)) (bk_ BK469) hb)
               have n1_ := Aside0.mk (blk_below (g := gb470) (o := .cells #[.int .i64 a1_0, .int .i64 a1_1, .int .i64 a1_2, .int .i64 a1_3, .string a1_4] 33 (0, 0)) (bk_ BK470) hb)
               have n2_ := Aside0.mk (blk_below (g := gb471) (o := .cells #[.int .i64 0, .int .i64 0, .int .i64 0] 29 (0, 0)) (bk_ BK471) hb)
               have n3_ := Aside0.mk (blk_below (g := gb491) (o := .cells #[.int .i64 0, .int .i64 0, .int .i64 0, .int .i64 0, .string (⟨#[]⟩ : ByteArray)] 33 (0, 0)) (bk_ BK491) hb)
               have n4_ := Aside0.mk (below_step (hb4_ HB GE469 GE470 GE471 GE491) hb)
               clear BK469
               clear BK470
               clear BK471
               clear BK491
               clear HB
               have BK469 := n0_
               have BK470 := n1_
               have BK471 := n2_
               have BK491 := n3_
               have HB := n4_
               clear n0_ n1_ n2_ n3_ n4_
               (try clear hb)
               (try clear hb2)
               (try clear hk)
               (try clear hi)
               refine hK.out _ _ ⟨(blk_cell BK469.out 0).trans rfl, (blk_cell BK469.out 1).trans rfl, (blk_cell BK469.out 2).trans rfl, (blk_cell BK469.out 3).trans rfl, (blk_cell BK469.out 4).trans rfl, (blk_cell BK470.out 0).trans rfl, (blk_cell BK470.out 1).trans rfl, (blk_cell BK470.out 2).trans rfl, (blk_cell BK470.out 3).trans rfl, (blk_cell BK470.out 4).trans rfl⟩ (fun hHeld => ?_)
               clear hK K
               refine norm_ (a' := ?_) ?_ ?_
               rotate_left
               ·show Act.put _ (some 40) _ = _
                simp only [Act.put, List.setIfInBounds_toArray, List.set_cons_zero, List.set_cons_succ, i64_w, i32_w]
                rfl
               refine pure_ (i := 6) (N := some 41) (v := ?_) (a' := ?_) #[true, true, true, true, true, true, true, false, false, true, false, false] rfl rfl (any_of HT_.out (by kernel_rfl)) (fun _ _ _ h => h) (Or.inl ⟨by rfl, ?_⟩) ?_ ?_
               rotate_left
               ·intro w'
                go_simp
                with_reducible rfl
               rotate_left
               ·simp only [Act.put, List.setIfInBounds_toArray, List.set_cons_zero, List.set_cons_succ, i64_w, i32_w]
                rfl
               exact norm_ (by first | (simp only [putAll, Act.put, List.setIfInBounds_toArray, List.set_cons_zero, List.set_cons_succ]; done) | (simp only [putAll, Act.put, List.setIfInBounds_toArray, List.set_cons_zero, List.set_cons_succ]; rfl)) (hJ5_9 (gb491) _ ⟨hHeld, (bk_ BK469), (bk_ BK470), (bk_ BK471), (bk_ BK491), GW491.out, GE491.out, NB469_491.out, NB491_469.out, NB470_491.out, NB491_470.out, NB471_491.out, NB491_471.out, (hb4_ HB GE469 GE470 GE471 GE491)⟩)
              ·skip
               refine box_step ?hg (N := 6) ?hd (cs := #[.int .i64 0, .int .i64 0, .int .i64 0, .int .i64 0, .string (⟨#[]⟩ : ByteArray)]) (t := 33) ?hr ?_; (case hd => rfl); (case hg => rfl); (case hr => first | (go_simp; done) | (go_simp; rfl))
               intro gb490 hg w48 hbox hb
               have n0_ := Aside0.mk (blk_below (g := gb469) (o := .cells #[.int .i64 a0_0, .int .i64 a0_1, .int .i64 a0_2, .int .i64 a0_3, .string a0_4] 33 (0, 0)) (bk_ BK469) hb)
               have n1_ := Aside0.mk (blk_below (g := gb470) (o := .cells #[.int .i64 a1_0, .int .i64 a1_1, .int .i64 a1_2, .int .i64 a1_3, .string a1_4] 33 (0, 0)) (bk_ BK470) hb)
               have n2_ := Aside0.mk (blk_below (g := gb471) (o := .cells #[.int .i64 0, .int .i64 0, .int .i64 0] 29 (0, 0)) (bk_ BK471) hb)
               have n3_ := Aside0.mk (blk_below (g := gb491) (o := .cells #[.int .i64 0, .int .i64 0, .int .i64 0, .int .i64 0, .string (⟨#[]⟩ : ByteArray)] 33 (0, 0)) (bk_ BK491) hb)
               have n4_ := Aside0.mk (below_step (hb4_ HB GE469 GE470 GE471 GE491) hb)
               have n5_ := Aside0.mk (hbox)
               have n6_ := Aside0.mk ((by rw [hg]; exact (below_size (hb4_ HB GE469 GE470 GE471 GE491)) : w.heap.size ≤ gb490))
               have n7_ := Aside0.mk ((by rw [hg]; exact (below_size (hb4_ HB GE469 GE470 GE471 GE491)) : w.heap.size ≤ gb490))
               have n8_ := Aside0.mk ((by rw [hg]; exact Nat.ne_of_lt (blk_lt (g := gb469) (o := .cells #[.int .i64 a0_0, .int .i64 a0_1, .int .i64 a0_2, .int .i64 a0_3, .string a0_4] 33 (0, 0)) (bk_ BK469)) : gb469 ≠ gb490))
               have n9_ := Aside0.mk ((by rw [hg]; exact Nat.ne_of_gt (blk_lt (g := gb469) (o := .cells #[.int .i64 a0_0, .int .i64 a0_1, .int .i64 a0_2, .int .i64 a0_3, .string a0_4] 33 (0, 0)) (bk_ BK469)) : gb490 ≠ gb469))
               have n10_ := Aside0.mk ((by rw [hg]; exact Nat.ne_of_lt (blk_lt (g := gb470) (o := .cells #[.int .i64 a1_0, .int .i64 a1_1, .int .i64 a1_2, .int .i64 a1_3, .string a1_4] 33 (0, 0)) (bk_ BK470)) : gb470 ≠ gb490))
               have n11_ := Aside0.mk ((by rw [hg]; exact Nat.ne_of_gt (blk_lt (g := gb470) (o := .cells #[.int .i64 a1_0, .int .i64 a1_1, .int .i64 a1_2, .int .i64 a1_3, .string a1_4] 33 (0, 0)) (bk_ BK470)) : gb490 ≠ gb470))
               have n12_ := Aside0.mk ((by rw [hg]; exact Nat.ne_of_lt (blk_lt (g := gb471) (o := .cells #[.int .i64 0, .int .i64 0, .int .i64 0] 29 (0, 0)) (bk_ BK471)) : gb471 ≠ gb490))
               have n13_ := Aside0.mk ((by rw [hg]; exact Nat.ne_of_gt (blk_lt (g := gb471) (o := .cells #[.int .i64 0, .int .i64 0, .int .i64 0] 29 (0, 0)) (bk_ BK471)) : gb490 ≠ gb471))
               have n14_ := Aside0.mk ((by rw [hg]; exact Nat.ne_of_lt (blk_lt (g := gb491) (o := .cells #[.int .i64 0, .int .i64 0, .int .i64 0, .int .i64 0, .string (⟨#[]⟩ : ByteArray)] 33 (0, 0)) (bk_ BK491)) : gb491 ≠ gb490))
               have n15_ := Aside0.mk ((by rw [hg]; exact Nat.ne_of_gt (blk_lt (g := gb491) (o := .cells #[.int .i64 0, .int .i64 0, .int .i64 0, .int .i64 0, .string (⟨#[]⟩ : ByteArray)] 33 (0, 0)) (bk_ BK491)) : gb490 ≠ gb491))
               clear BK469
               clear BK470
               clear BK471
               clear BK491
               clear HB
               have BK469 := n0_
               have BK470 := n1_
               have BK471 := n2_
               have BK491 := n3_
               have HB := n4_
               have BK490 := n5_
               have GW490 := n6_
               have GE490 := n7_
               have NB469_490 := n8_
               have NB490_469 := n9_
               have NB470_490 := n10_
               have NB490_470 := n11_
               have NB471_490 := n12_
               have NB490_471 := n13_
               have NB491_490 := n14_
               have NB490_491 := n15_
               clear n0_ n1_ n2_ n3_ n4_ n5_ n6_ n7_ n8_ n9_ n10_ n11_ n12_ n13_ n14_ n15_
               clear hb hbox hg
               refine hK.out _ _ ⟨(blk_cell BK469.out 0).trans rfl, (blk_cell BK469.out 1).trans rfl, (blk_cell BK469.out 2).trans rfl, (blk_cell BK469.out 3).trans rfl, (blk_cell BK469.out 4).trans rfl, (blk_cell BK470.out 0).trans rfl, (blk_cell BK470.out 1).trans rfl, (blk_cell BK470.out 2).trans rfl, (blk_cell BK470.out 3).trans rfl, (blk_cell BK470.out 4).trans rfl⟩ (fun hHeld => ?_)
               clear hK K
               refine norm_ (a' := ?_) ?_ ?_
               rotate_left
               ·show Act.put _ (some 6) _ = _
                simp only [Act.put, List.setIfInBounds_toArray, List.set_cons_zero, List.set_cons_succ, i64_w, i32_w]
                rfl
               exact norm_ (by first | (simp only [putAll, Act.put, List.setIfInBounds_toArray, List.set_cons_zero, List.set_cons_succ]; done) | (simp only [putAll, Act.put, List.setIfInBounds_toArray, List.set_cons_zero, List.set_cons_succ]; rfl)) (hJ8_9 (gb490, gb491) _ ⟨hHeld, (bk_ BK469), (bk_ BK470), (bk_ BK471), (bk_ BK490), (bk_ BK491), GW490.out, GE490.out, NB469_490.out, NB490_469.out, NB470_490.out, NB490_470.out, NB471_490.out, NB490_471.out, NB491_490.out, NB490_491.out, GW491.out, GE491.out, NB469_491.out, NB491_469.out, NB470_491.out, NB491_470.out, NB471_491.out, NB491_471.out, (hb5_ HB GE469 GE470 GE471 GE491 GE490)⟩)
            ·skip
             rintro gb490 w47 ⟨hS_, h0_, h1_, h2_, h3_, h4_, h5_, h6_, h7_, h8_, h9_, h10_, h11_, h12_⟩
             have n0_ : Aside0 (w47.heap[gb469]? = some (.cells #[.int .i64 a0_0, .int .i64 a0_1, .int .i64 a0_2, .int .i64 a0_3, .string a0_4] 33 (0, 0))) := ⟨h0_⟩
             have n1_ : Aside0 (w47.heap[gb470]? = some (.cells #[.int .i64 a1_0, .int .i64 a1_1, .int .i64 a1_2, .int .i64 a1_3, .string a1_4] 33 (0, 0))) := ⟨h1_⟩
             have n2_ : Aside0 (w47.heap[gb471]? = some (.cells #[.int .i64 0, .int .i64 0, .int .i64 0] 29 (0, 0))) := ⟨h2_⟩
             have n3_ : Aside0 (w47.heap[gb490]? = some (.cells #[.int .i64 0, .int .i64 0, .int .i64 0, .int .i64 0, .string (⟨#[]⟩ : ByteArray)] 33 (0, 0))) := ⟨h3_⟩
             have n4_ : Aside0 (w.heap.size ≤ gb490) := ⟨h4_⟩
             have n5_ : Aside0 (w.heap.size ≤ gb490) := ⟨h5_⟩
             have n6_ : Aside0 (gb469 ≠ gb490) := ⟨h6_⟩
             have n7_ : Aside0 (gb490 ≠ gb469) := ⟨h7_⟩
             have n8_ : Aside0 (gb470 ≠ gb490) := ⟨h8_⟩
             have n9_ : Aside0 (gb490 ≠ gb470) := ⟨h9_⟩
             have n10_ : Aside0 (gb471 ≠ gb490) := ⟨h10_⟩
             have n11_ : Aside0 (gb490 ≠ gb471) := ⟨h11_⟩
             have n12_ : Aside0 (Below w.heap.size w w47) := ⟨h12_⟩
             clear BK469
             clear BK470
             clear BK471
             clear HB
             clear h0_ h1_ h2_ h3_ h4_ h5_ h6_ h7_ h8_ h9_ h10_ h11_ h12_
             have BK469 := n0_
             have BK470 := n1_
             have BK471 := n2_
             have BK490 := n3_
             have GW490 := n4_
             have GE490 := n5_
             have NB469_490 := n6_
             have NB490_469 := n7_
             have NB470_490 := n8_
             have NB490_470 := n9_
             have NB471_490 := n10_
             have NB490_471 := n11_
             have HB := n12_
             clear n0_ n1_ n2_ n3_ n4_ n5_ n6_ n7_ n8_ n9_ n10_ n11_ n12_
             have hHeld : w47.cell? ⟨gb469, 0, none⟩ = some (.int .i64 a0_0) ∧ w47.cell? ⟨gb469, 1, none⟩ = some (.int .i64 a0_1) ∧ w47.cell? ⟨gb469, 2, none⟩ = some (.int .i64 a0_2) ∧ w47.cell? ⟨gb469, 3, none⟩ = some (.int .i64 a0_3) ∧ w47.cell? ⟨gb469, 4, none⟩ = some (.string a0_4) ∧ w47.cell? ⟨gb470, 0, none⟩ = some (.int .i64 a1_0) ∧ w47.cell? ⟨gb470, 1, none⟩ = some (.int .i64 a1_1) ∧ w47.cell? ⟨gb470, 2, none⟩ = some (.int .i64 a1_2) ∧ w47.cell? ⟨gb470, 3, none⟩ = some (.int .i64 a1_3) ∧ w47.cell? ⟨gb470, 4, none⟩ = some (.string a1_4) := hS_
             refine norm_ (a' := ?_) ?_ ?_
             rotate_left
             ·simp only [putAll, Act.put, List.setIfInBounds_toArray, List.set_cons_zero, List.set_cons_succ]
              rfl
             refine two_ (i := 5) (j := 9) (Ni := some 40) (Nj := some 7) #[true, true, true, true, true, true, false, false, true, false, false, false] #[true, true, true, true, true, false, false, false, true, true, false, false] rfl rfl rfl rfl (two_of HT_.out (by kernel_rfl)) (by decide) (by decide) (fun K hK => ?_) (fun K hK => ?_)
             ·skip
              refine goes_ Tryd.func37 (by kernel_rfl) rfl #[.agg #[.int .i64 a1_0, .int .i64 a1_1, .int .i64 a1_2, .int .i64 a1_3, .string a1_4]] (by rfl) rfl rfl (by (try simp only [List.map_toArray, List.map_cons, List.map_nil]); first | done | rfl | (simp only [List.length_drop, List.length_take]; rfl)) ?_
              with_reducible refine (plain_Do_size.calls a1_0 a1_1 a1_2 a1_3 a1_4 t484 _ ?side1 A35.out).mono ?_
              (case side1 => exact XAmb_step hT (hb4_ HB GE469 GE470 GE471 GE490))
              rintro e w48 ⟨rfl, hb⟩
              refine ⟨_, rfl, ?_⟩
              have n0_ := Aside0.mk (blk_below (g := gb469) (o := .cells #[.int .i64 a0_0, .int .i64 a0_1, .int .i64 a0_2, .int .i64 a0_3, .string a0_4] 33 (0, 0)) (bk_ BK469) hb)
              have n1_ := Aside0.mk (blk_below (g := gb470) (o := .cells #[.int .i64 a1_0, .int .i64 a1_1, .int .i64 a1_2, .int .i64 a1_3, .string a1_4] 33 (0, 0)) (bk_ BK470) hb)
              have n2_ := Aside0.mk (blk_below (g := gb471) (o := .cells #[.int .i64 0, .int .i64 0, .int .i64 0] 29 (0, 0)) (bk_ BK471) hb)
              have n3_ := Aside0.mk (blk_below (g := gb490) (o := .cells #[.int .i64 0, .int .i64 0, .int .i64 0, .int .i64 0, .string (⟨#[]⟩ : ByteArray)] 33 (0, 0)) (bk_ BK490) hb)
              have n4_ := Aside0.mk (below_step (hb4_ HB GE469 GE470 GE471 GE490) hb)
              clear BK469
              clear BK470
              clear BK471
              clear BK490
              clear HB
              have BK469 := n0_
              have BK470 := n1_
              have BK471 := n2_
              have BK490 := n3_
              have HB := n4_
              clear n0_ n1_ n2_ n3_ n4_
              (try clear hb)
              (try clear hb2)
              (try clear hk)
              (try clear hi)
              refine hK.out _ _ ⟨(blk_cell BK469.out 0).trans rfl, (blk_cell BK469.out 1).trans rfl, (blk_cell BK469.out 2).trans rfl, (blk_cell BK469.out 3).trans rfl, (blk_cell BK469.out 4).trans rfl, (blk_cell BK470.out 0).trans rfl, (blk_cell BK470.out 1).trans rfl, (blk_cell BK470.out 2).trans rfl, (blk_cell BK470.out 3).trans rfl, (blk_cell BK470.out 4).trans rfl⟩ (fun hHeld => ?_)
              clear hK K
              refine norm_ (a' := ?_) ?_ ?_
              rotate_left
              ·show Act.put _ (some 40) _ = _
               simp only [Act.put, List.setIfInBounds_toArray, List.set_cons_zero, List.set_cons_succ, i64_w, i32_w]
               rfl
              refine pure_ (i := 6) (N := some 41) (v := ?_) (a' := ?_) #[true, true, true, true, true, true, true, false, true, false, false, false] rfl rfl (any_of HT_.out (by kernel_rfl)) (fun _ _ _ h => h) (Or.inl ⟨by rfl, ?_⟩) ?_ ?_
              rotate_left
              ·intro w'
               go_simp
               with_reducible rfl
              rotate_left
              ·simp only [Act.put, List.setIfInBounds_toArray, List.set_cons_zero, List.set_cons_succ, i64_w, i32_w]
               rfl
              exact norm_ (by first | (simp only [putAll, Act.put, List.setIfInBounds_toArray, List.set_cons_zero, List.set_cons_succ]; done) | (simp only [putAll, Act.put, List.setIfInBounds_toArray, List.set_cons_zero, List.set_cons_succ]; rfl)) (hJ5_8 (gb490) _ ⟨hHeld, (bk_ BK469), (bk_ BK470), (bk_ BK471), (bk_ BK490), GW490.out, GE490.out, NB469_490.out, NB490_469.out, NB470_490.out, NB490_470.out, NB471_490.out, NB490_471.out, (hb4_ HB GE469 GE470 GE471 GE490)⟩)
             ·skip
              refine box_step ?hg (N := 7) ?hd (cs := #[.int .i64 0, .int .i64 0, .int .i64 0, .int .i64 0, .string (⟨#[]⟩ : ByteArray)]) (t := 33) ?hr ?_; (case hd => rfl); (case hg => rfl); (case hr => first | (go_simp; done) | (go_simp; rfl))
              intro gb491 hg w48 hbox hb
              have n0_ := Aside0.mk (blk_below (g := gb469) (o := .cells #[.int .i64 a0_0, .int .i64 a0_1, .int .i64 a0_2, .int .i64 a0_3, .string a0_4] 33 (0, 0)) (bk_ BK469) hb)
              have n1_ := Aside0.mk (blk_below (g := gb470) (o := .cells #[.int .i64 a1_0, .int .i64 a1_1, .int .i64 a1_2, .int .i64 a1_3, .string a1_4] 33 (0, 0)) (bk_ BK470) hb)
              have n2_ := Aside0.mk (blk_below (g := gb471) (o := .cells #[.int .i64 0, .int .i64 0, .int .i64 0] 29 (0, 0)) (bk_ BK471) hb)
              have n3_ := Aside0.mk (blk_below (g := gb490) (o := .cells #[.int .i64 0, .int .i64 0, .int .i64 0, .int .i64 0, .string (⟨#[]⟩ : ByteArray)] 33 (0, 0)) (bk_ BK490) hb)
              have n4_ := Aside0.mk (below_step (hb4_ HB GE469 GE470 GE471 GE490) hb)
              have n5_ := Aside0.mk (hbox)
              have n6_ := Aside0.mk ((by rw [hg]; exact (below_size (hb4_ HB GE469 GE470 GE471 GE490)) : w.heap.size ≤ gb491))
              have n7_ := Aside0.mk ((by rw [hg]; exact (below_size (hb4_ HB GE469 GE470 GE471 GE490)) : w.heap.size ≤ gb491))
              have n8_ := Aside0.mk ((by rw [hg]; exact Nat.ne_of_lt (blk_lt (g := gb469) (o := .cells #[.int .i64 a0_0, .int .i64 a0_1, .int .i64 a0_2, .int .i64 a0_3, .string a0_4] 33 (0, 0)) (bk_ BK469)) : gb469 ≠ gb491))
              have n9_ := Aside0.mk ((by rw [hg]; exact Nat.ne_of_gt (blk_lt (g := gb469) (o := .cells #[.int .i64 a0_0, .int .i64 a0_1, .int .i64 a0_2, .int .i64 a0_3, .string a0_4] 33 (0, 0)) (bk_ BK469)) : gb491 ≠ gb469))
              have n10_ := Aside0.mk ((by rw [hg]; exact Nat.ne_of_lt (blk_lt (g := gb470) (o := .cells #[.int .i64 a1_0, .int .i64 a1_1, .int .i64 a1_2, .int .i64 a1_3, .string a1_4] 33 (0, 0)) (bk_ BK470)) : gb470 ≠ gb491))
              have n11_ := Aside0.mk ((by rw [hg]; exact Nat.ne_of_gt (blk_lt (g := gb470) (o := .cells #[.int .i64 a1_0, .int .i64 a1_1, .int .i64 a1_2, .int .i64 a1_3, .string a1_4] 33 (0, 0)) (bk_ BK470)) : gb491 ≠ gb470))
              have n12_ := Aside0.mk ((by rw [hg]; exact Nat.ne_of_lt (blk_lt (g := gb471) (o := .cells #[.int .i64 0, .int .i64 0, .int .i64 0] 29 (0, 0)) (bk_ BK471)) : gb471 ≠ gb491))
              have n13_ := Aside0.mk ((by rw [hg]; exact Nat.ne_of_gt (blk_lt (g := gb471) (o := .cells #[.int .i64 0, .int .i64 0, .int .i64 0] 29 (0, 0)) (bk_ BK471)) : gb491 ≠ gb471))
              have n14_ := Aside0.mk ((by rw [hg]; exact Nat.ne_of_lt (blk_lt (g := gb490) (o := .cells #[.int .i64 0, .int .i64 0, .int .i64 0, .int .i64 0, .string (⟨#[]⟩ : ByteArray)] 33 (0, 0)) (bk_ BK490)) : gb490 ≠ gb491))
              have n15_ := Aside0.mk ((by rw [hg]; exact Nat.ne_of_gt (blk_lt (g := gb490) (o := .cells #[.int .i64 0, .int .i64 0, .int .i64 0, .int .i64 0, .string (⟨#[]⟩ : ByteArray)] 33 (0, 0)) (bk_ BK490)) : gb491 ≠ gb490))
              clear BK469
              clear BK470
              clear BK471
              clear BK490
              clear HB
              have BK469 := n0_
              have BK470 := n1_
              have BK471 := n2_
              have BK490 := n3_
              have HB := n4_
              have BK491 := n5_
              have GW491 := n6_
              have GE491 := n7_
              have NB469_491 := n8_
              have NB491_469 := n9_
              have NB470_491 := n10_
              have NB491_470 := n11_
              have NB471_491 := n12_
              have NB491_471 := n13_
              have NB490_491 := n14_
              have NB491_490 := n15_
              clear n0_ n1_ n2_ n3_ n4_ n5_ n6_ n7_ n8_ n9_ n10_ n11_ n12_ n13_ n14_ n15_
              clear hb hbox hg
              refine hK.out _ _ ⟨(blk_cell BK469.out 0).trans rfl, (blk_cell BK469.out 1).trans rfl, (blk_cell BK469.out 2).trans rfl, (blk_cell BK469.out 3).trans rfl, (blk_cell BK469.out 4).trans rfl, (blk_cell BK470.out 0).trans rfl, (blk_cell BK470.out 1).trans rfl, (blk_cell BK470.out 2).trans rfl, (blk_cell BK470.out 3).trans rfl, (blk_cell BK470.out 4).trans rfl⟩ (fun hHeld => ?_)
              clear hK K
              refine norm_ (a' := ?_) ?_ ?_
              rotate_left
              ·show Act.put _ (some 7) _ = _
               simp only [Act.put, List.setIfInBounds_toArray, List.set_cons_zero, List.set_cons_succ, i64_w, i32_w]
               rfl
              exact norm_ (by first | (simp only [putAll, Act.put, List.setIfInBounds_toArray, List.set_cons_zero, List.set_cons_succ]; done) | (simp only [putAll, Act.put, List.setIfInBounds_toArray, List.set_cons_zero, List.set_cons_succ]; rfl)) (hJ8_9 (gb490, gb491) _ ⟨hHeld, (bk_ BK469), (bk_ BK470), (bk_ BK471), (bk_ BK490), (bk_ BK491), GW490.out, GE490.out, NB469_490.out, NB490_469.out, NB470_490.out, NB490_470.out, NB471_490.out, NB490_471.out, NB491_490.out, NB490_491.out, GW491.out, GE491.out, NB469_491.out, NB491_469.out, NB470_491.out, NB491_470.out, NB471_491.out, NB491_471.out, (hb5_ HB GE469 GE470 GE471 GE490 GE491)⟩)
           ·skip
            rintro _ w47 ⟨hS_, h0_, h1_, h2_, h3_⟩
            have n0_ : Aside0 (w47.heap[gb469]? = some (.cells #[.int .i64 a0_0, .int .i64 a0_1, .int .i64 a0_2, .int .i64 a0_3, .string a0_4] 33 (0, 0))) := ⟨h0_⟩
            have n1_ : Aside0 (w47.heap[gb470]? = some (.cells #[.int .i64 a1_0, .int .i64 a1_1, .int .i64 a1_2, .int .i64 a1_3, .string a1_4] 33 (0, 0))) := ⟨h1_⟩
            have n2_ : Aside0 (w47.heap[gb471]? = some (.cells #[.int .i64 0, .int .i64 0, .int .i64 0] 29 (0, 0))) := ⟨h2_⟩
            have n3_ : Aside0 (Below w.heap.size w w47) := ⟨h3_⟩
            clear BK469
            clear BK470
            clear BK471
            clear HB
            clear h0_ h1_ h2_ h3_
            have BK469 := n0_
            have BK470 := n1_
            have BK471 := n2_
            have HB := n3_
            clear n0_ n1_ n2_ n3_
            have hHeld : w47.cell? ⟨gb469, 0, none⟩ = some (.int .i64 a0_0) ∧ w47.cell? ⟨gb469, 1, none⟩ = some (.int .i64 a0_1) ∧ w47.cell? ⟨gb469, 2, none⟩ = some (.int .i64 a0_2) ∧ w47.cell? ⟨gb469, 3, none⟩ = some (.int .i64 a0_3) ∧ w47.cell? ⟨gb469, 4, none⟩ = some (.string a0_4) ∧ w47.cell? ⟨gb470, 0, none⟩ = some (.int .i64 a1_0) ∧ w47.cell? ⟨gb470, 1, none⟩ = some (.int .i64 a1_1) ∧ w47.cell? ⟨gb470, 2, none⟩ = some (.int .i64 a1_2) ∧ w47.cell? ⟨gb470, 3, none⟩ = some (.int .i64 a1_3) ∧ w47.cell? ⟨gb470, 4, none⟩ = some (.string a1_4) := hS_
            refine norm_ (a' := ?_) ?_ ?_
            rotate_left
            ·simp only [putAll, Act.put, List.setIfInBounds_toArray, List.set_cons_zero, List.set_cons_succ]
             rfl
            refine three_ (i := 7) (j := 8) (k := 9) (Ni := some 42) (Nj := some 6) (Nk := some 7) #[true, true, true, true, true, true, true, true, false, false, false, false] #[true, true, true, true, true, true, true, false, true, false, false, false] #[true, true, true, true, true, true, true, false, false, true, false, false] rfl rfl rfl rfl rfl rfl (three_of HT_.out (by kernel_rfl)) (by decide) (by decide) (by decide) (fun K hK => ?_) (fun K hK => ?_) (fun K hK => ?_)
            ·skip
             refine goes_ Tryd.func36 (by kernel_rfl) rfl #[.agg #[.int .i64 a0_0, .int .i64 a0_1, .int .i64 a0_2, .int .i64 a0_3, .string a0_4], .int .i64 (wrap64 (a1_2 + t484))] (by rfl) rfl rfl (by (try simp only [List.map_toArray, List.map_cons, List.map_nil]); first | done | rfl | (simp only [List.length_drop, List.length_take]; rfl)) ?_
             with_reducible refine (plain_Do_at.calls a0_0 a0_1 a0_2 a0_3 a0_4 (wrap64 (a1_2 + t484)) t485 t486 t487 t488 t489 _ A36.out).mono ?_
             rintro e w48 ⟨rfl, hb⟩
             refine ⟨_, rfl, ?_⟩
             have n0_ := Aside0.mk (blk_below (g := gb469) (o := .cells #[.int .i64 a0_0, .int .i64 a0_1, .int .i64 a0_2, .int .i64 a0_3, .string a0_4] 33 (0, 0)) (bk_ BK469) hb)
             have n1_ := Aside0.mk (blk_below (g := gb470) (o := .cells #[.int .i64 a1_0, .int .i64 a1_1, .int .i64 a1_2, .int .i64 a1_3, .string a1_4] 33 (0, 0)) (bk_ BK470) hb)
             have n2_ := Aside0.mk (blk_below (g := gb471) (o := .cells #[.int .i64 0, .int .i64 0, .int .i64 0] 29 (0, 0)) (bk_ BK471) hb)
             have n3_ := Aside0.mk (below_step (hb3_ HB GE469 GE470 GE471) hb)
             clear BK469
             clear BK470
             clear BK471
             clear HB
             have BK469 := n0_
             have BK470 := n1_
             have BK471 := n2_
             have HB := n3_
             clear n0_ n1_ n2_ n3_
             (try clear hb)
             (try clear hb2)
             (try clear hk)
             (try clear hi)
             refine hK.out _ _ ⟨(blk_cell BK469.out 0).trans rfl, (blk_cell BK469.out 1).trans rfl, (blk_cell BK469.out 2).trans rfl, (blk_cell BK469.out 3).trans rfl, (blk_cell BK469.out 4).trans rfl, (blk_cell BK470.out 0).trans rfl, (blk_cell BK470.out 1).trans rfl, (blk_cell BK470.out 2).trans rfl, (blk_cell BK470.out 3).trans rfl, (blk_cell BK470.out 4).trans rfl⟩ (fun hHeld => ?_)
             clear hK K
             refine norm_ (a' := ?_) ?_ ?_
             rotate_left
             ·show Act.put _ (some 42) _ = _
              simp only [Act.put, List.setIfInBounds_toArray, List.set_cons_zero, List.set_cons_succ, i64_w, i32_w]
              rfl
             exact norm_ (by first | (simp only [putAll, Act.put, List.setIfInBounds_toArray, List.set_cons_zero, List.set_cons_succ]; done) | (simp only [putAll, Act.put, List.setIfInBounds_toArray, List.set_cons_zero, List.set_cons_succ]; rfl)) (hJ5_7 () _ ⟨hHeld, (bk_ BK469), (bk_ BK470), (bk_ BK471), (hb3_ HB GE469 GE470 GE471)⟩)
            ·skip
             refine box_step ?hg (N := 6) ?hd (cs := #[.int .i64 0, .int .i64 0, .int .i64 0, .int .i64 0, .string (⟨#[]⟩ : ByteArray)]) (t := 33) ?hr ?_; (case hd => rfl); (case hg => rfl); (case hr => first | (go_simp; done) | (go_simp; rfl))
             intro gb490 hg w48 hbox hb
             have n0_ := Aside0.mk (blk_below (g := gb469) (o := .cells #[.int .i64 a0_0, .int .i64 a0_1, .int .i64 a0_2, .int .i64 a0_3, .string a0_4] 33 (0, 0)) (bk_ BK469) hb)
             have n1_ := Aside0.mk (blk_below (g := gb470) (o := .cells #[.int .i64 a1_0, .int .i64 a1_1, .int .i64 a1_2, .int .i64 a1_3, .string a1_4] 33 (0, 0)) (bk_ BK470) hb)
             have n2_ := Aside0.mk (blk_below (g := gb471) (o := .cells #[.int .i64 0, .int .i64 0, .int .i64 0] 29 (0, 0)) (bk_ BK471) hb)
             have n3_ := Aside0.mk (below_step (hb3_ HB GE469 GE470 GE471) hb)
             have n4_ := Aside0.mk (hbox)
             have n5_ := Aside0.mk ((by rw [hg]; exact (below_size (hb3_ HB GE469 GE470 GE471)) : w.heap.size ≤ gb490))
             have n6_ := Aside0.mk ((by rw [hg]; exact (below_size (hb3_ HB GE469 GE470 GE471)) : w.heap.size ≤ gb490))
             have n7_ := Aside0.mk ((by rw [hg]; exact Nat.ne_of_lt (blk_lt (g := gb469) (o := .cells #[.int .i64 a0_0, .int .i64 a0_1, .int .i64 a0_2, .int .i64 a0_3, .string a0_4] 33 (0, 0)) (bk_ BK469)) : gb469 ≠ gb490))
             have n8_ := Aside0.mk ((by rw [hg]; exact Nat.ne_of_gt (blk_lt (g := gb469) (o := .cells #[.int .i64 a0_0, .int .i64 a0_1, .int .i64 a0_2, .int .i64 a0_3, .string a0_4] 33 (0, 0)) (bk_ BK469)) : gb490 ≠ gb469))
             have n9_ := Aside0.mk ((by rw [hg]; exact Nat.ne_of_lt (blk_lt (g := gb470) (o := .cells #[.int .i64 a1_0, .int .i64 a1_1, .int .i64 a1_2, .int .i64 a1_3, .string a1_4] 33 (0, 0)) (bk_ BK470)) : gb470 ≠ gb490))
             have n10_ := Aside0.mk ((by rw [hg]; exact Nat.ne_of_gt (blk_lt (g := gb470) (o := .cells #[.int .i64 a1_0, .int .i64 a1_1, .int .i64 a1_2, .int .i64 a1_3, .string a1_4] 33 (0, 0)) (bk_ BK470)) : gb490 ≠ gb470))
             have n11_ := Aside0.mk ((by rw [hg]; exact Nat.ne_of_lt (blk_lt (g := gb471) (o := .cells #[.int .i64 0, .int .i64 0, .int .i64 0] 29 (0, 0)) (bk_ BK471)) : gb471 ≠ gb490))
             have n12_ := Aside0.mk ((by rw [hg]; exact Nat.ne_of_gt (blk_lt (g := gb471) (o := .cells #[.int .i64 0, .int .i64 0, .int .i64 0] 29 (0, 0)) (bk_ BK471)) : gb490 ≠ gb471))
             clear BK469
             clear BK470
             clear BK471
             clear HB
             have BK469 := n0_
             have BK470 := n1_
             have BK471 := n2_
             have HB := n3_
             have BK490 := n4_
             have GW490 := n5_
             have GE490 := n6_
             have NB469_490 := n7_
             have NB490_469 := n8_
             have NB470_490 := n9_
             have NB490_470 := n10_
             have NB471_490 := n11_
             have NB490_471 := n12_
             clear n0_ n1_ n2_ n3_ n4_ n5_ n6_ n7_ n8_ n9_ n10_ n11_ n12_
             clear hb hbox hg
             refine hK.out _ _ ⟨(blk_cell BK469.out 0).trans rfl, (blk_cell BK469.out 1).trans rfl, (blk_cell BK469.out 2).trans rfl, (blk_cell BK469.out 3).trans rfl, (blk_cell BK469.out 4).trans rfl, (blk_cell BK470.out 0).trans rfl, (blk_cell BK470.out 1).trans rfl, (blk_cell BK470.out 2).trans rfl, (blk_cell BK470.out 3).trans rfl, (blk_cell BK470.out 4).trans rfl⟩ (fun hHeld => ?_)
             clear hK K
             refine norm_ (a' := ?_) ?_ ?_
             rotate_left
             ·show Act.put _ (some 6) _ = _
              simp only [Act.put, List.setIfInBounds_toArray, List.set_cons_zero, List.set_cons_succ, i64_w, i32_w]
              rfl
             exact norm_ (by first | (simp only [putAll, Act.put, List.setIfInBounds_toArray, List.set_cons_zero, List.set_cons_succ]; done) | (simp only [putAll, Act.put, List.setIfInBounds_toArray, List.set_cons_zero, List.set_cons_succ]; rfl)) (hJ5_8 (gb490) _ ⟨hHeld, (bk_ BK469), (bk_ BK470), (bk_ BK471), (bk_ BK490), GW490.out, GE490.out, NB469_490.out, NB490_469.out, NB470_490.out, NB490_470.out, NB471_490.out, NB490_471.out, (hb4_ HB GE469 GE470 GE471 GE490)⟩)
            ·skip
             refine box_step ?hg (N := 7) ?hd (cs := #[.int .i64 0, .int .i64 0, .int .i64 0, .int .i64 0, .string (⟨#[]⟩ : ByteArray)]) (t := 33) ?hr ?_; (case hd => rfl); (case hg => rfl); (case hr => first | (go_simp; done) | (go_simp; rfl))
             intro gb491 hg w48 hbox hb
             have n0_ := Aside0.mk (blk_below (g := gb469) (o := .cells #[.int .i64 a0_0, .int .i64 a0_1, .int .i64 a0_2, .int .i64 a0_3, .string a0_4] 33 (0, 0)) (bk_ BK469) hb)
             have n1_ := Aside0.mk (blk_below (g := gb470) (o := .cells #[.int .i64 a1_0, .int .i64 a1_1, .int .i64 a1_2, .int .i64 a1_3, .string a1_4] 33 (0, 0)) (bk_ BK470) hb)
             have n2_ := Aside0.mk (blk_below (g := gb471) (o := .cells #[.int .i64 0, .int .i64 0, .int .i64 0] 29 (0, 0)) (bk_ BK471) hb)
             have n3_ := Aside0.mk (below_step (hb3_ HB GE469 GE470 GE471) hb)
             have n4_ := Aside0.mk (hbox)
             have n5_ := Aside0.mk ((by rw [hg]; exact (below_size (hb3_ HB GE469 GE470 GE471)) : w.heap.size ≤ gb491))
             have n6_ := Aside0.mk ((by rw [hg]; exact (below_size (hb3_ HB GE469 GE470 GE471)) : w.heap.size ≤ gb491))
             have n7_ := Aside0.mk ((by rw [hg]; exact Nat.ne_of_lt (blk_lt (g := gb469) (o := .cells #[.int .i64 a0_0, .int .i64 a0_1, .int .i64 a0_2, .int .i64 a0_3, .string a0_4] 33 (0, 0)) (bk_ BK469)) : gb469 ≠ gb491))
             have n8_ := Aside0.mk ((by rw [hg]; exact Nat.ne_of_gt (blk_lt (g := gb469) (o := .cells #[.int .i64 a0_0, .int .i64 a0_1, .int .i64 a0_2, .int .i64 a0_3, .string a0_4] 33 (0, 0)) (bk_ BK469)) : gb491 ≠ gb469))
             have n9_ := Aside0.mk ((by rw [hg]; exact Nat.ne_of_lt (blk_lt (g := gb470) (o := .cells #[.int .i64 a1_0, .int .i64 a1_1, .int .i64 a1_2, .int .i64 a1_3, .string a1_4] 33 (0, 0)) (bk_ BK470)) : gb470 ≠ gb491))
             have n10_ := Aside0.mk ((by rw [hg]; exact Nat.ne_of_gt (blk_lt (g := gb470) (o := .cells #[.int .i64 a1_0, .int .i64 a1_1, .int .i64 a1_2, .int .i64 a1_3, .string a1_4] 33 (0, 0)) (bk_ BK470)) : gb491 ≠ gb470))
             have n11_ := Aside0.mk ((by rw [hg]; exact Nat.ne_of_lt (blk_lt (g := gb471) (o := .cells #[.int .i64 0, .int .i64 0, .int .i64 0] 29 (0, 0)) (bk_ BK471)) : gb471 ≠ gb491))
             have n12_ := Aside0.mk ((by rw [hg]; exact Nat.ne_of_gt (blk_lt (g := gb471) (o := .cells #[.int .i64 0, .int .i64 0, .int .i64 0] 29 (0, 0)) (bk_ BK471)) : gb491 ≠ gb471))
             clear BK469
             clear BK470
             clear BK471
             clear HB
             have BK469 := n0_
             have BK470 := n1_
             have BK471 := n2_
             have HB := n3_
             have BK491 := n4_
             have GW491 := n5_
             have GE491 := n6_
             have NB469_491 := n7_
             have NB491_469 := n8_
             have NB470_491 := n9_
             have NB491_470 := n10_
             have NB471_491 := n11_
             have NB491_471 := n12_
             clear n0_ n1_ n2_ n3_ n4_ n5_ n6_ n7_ n8_ n9_ n10_ n11_ n12_
             clear hb hbox hg
             refine hK.out _ _ ⟨(blk_cell BK469.out 0).trans rfl, (blk_cell BK469.out 1).trans rfl, (blk_cell BK469.out 2).trans rfl, (blk_cell BK469.out 3).trans rfl, (blk_cell BK469.out 4).trans rfl, (blk_cell BK470.out 0).trans rfl, (blk_cell BK470.out 1).trans rfl, (blk_cell BK470.out 2).trans rfl, (blk_cell BK470.out 3).trans rfl, (blk_cell BK470.out 4).trans rfl⟩ (fun hHeld => ?_)
             clear hK K
             refine norm_ (a' := ?_) ?_ ?_
             rotate_left
             ·show Act.put _ (some 7) _ = _
              simp only [Act.put, List.setIfInBounds_toArray, List.set_cons_zero, List.set_cons_succ, i64_w, i32_w]
              rfl
             exact norm_ (by first | (simp only [putAll, Act.put, List.setIfInBounds_toArray, List.set_cons_zero, List.set_cons_succ]; done) | (simp only [putAll, Act.put, List.setIfInBounds_toArray, List.set_cons_zero, List.set_cons_succ]; rfl)) (hJ5_9 (gb491) _ ⟨hHeld, (bk_ BK469), (bk_ BK470), (bk_ BK471), (bk_ BK491), GW491.out, GE491.out, NB469_491.out, NB491_469.out, NB470_491.out, NB491_470.out, NB471_491.out, NB491_471.out, (hb4_ HB GE469 GE470 GE471 GE491)⟩)
          ·skip
           rintro ⟨gb490, gb491⟩ w48 ⟨hS_, h0_, h1_, h2_, h3_, h4_, h5_, h6_, h7_, h8_, h9_, h10_, h11_, h12_, h13_, h14_, h15_, h16_, h17_, h18_, h19_, h20_, h21_, h22_, h23_⟩
           have n0_ : Aside0 (w48.heap[gb469]? = some (.cells #[.int .i64 a0_0, .int .i64 a0_1, .int .i64 a0_2, .int .i64 a0_3, .string a0_4] 33 (0, 0))) := ⟨h0_⟩
           have n1_ : Aside0 (w48.heap[gb470]? = some (.cells #[.int .i64 a1_0, .int .i64 a1_1, .int .i64 a1_2, .int .i64 a1_3, .string a1_4] 33 (0, 0))) := ⟨h1_⟩
           have n2_ : Aside0 (w48.heap[gb471]? = some (.cells #[.int .i64 0, .int .i64 0, .int .i64 0] 29 (0, 0))) := ⟨h2_⟩
           have n3_ : Aside0 (w48.heap[gb490]? = some (.cells #[.int .i64 0, .int .i64 0, .int .i64 0, .int .i64 0, .string (⟨#[]⟩ : ByteArray)] 33 (0, 0))) := ⟨h3_⟩
           have n4_ : Aside0 (w48.heap[gb491]? = some (.cells #[.int .i64 0, .int .i64 0, .int .i64 0, .int .i64 0, .string (⟨#[]⟩ : ByteArray)] 33 (0, 0))) := ⟨h4_⟩
           have n5_ : Aside0 (w.heap.size ≤ gb490) := ⟨h5_⟩
           have n6_ : Aside0 (w.heap.size ≤ gb490) := ⟨h6_⟩
           have n7_ : Aside0 (gb469 ≠ gb490) := ⟨h7_⟩
           have n8_ : Aside0 (gb490 ≠ gb469) := ⟨h8_⟩
           have n9_ : Aside0 (gb470 ≠ gb490) := ⟨h9_⟩
           have n10_ : Aside0 (gb490 ≠ gb470) := ⟨h10_⟩
           have n11_ : Aside0 (gb471 ≠ gb490) := ⟨h11_⟩
           have n12_ : Aside0 (gb490 ≠ gb471) := ⟨h12_⟩
           have n13_ : Aside0 (gb491 ≠ gb490) := ⟨h13_⟩
           have n14_ : Aside0 (gb490 ≠ gb491) := ⟨h14_⟩
           have n15_ : Aside0 (w.heap.size ≤ gb491) := ⟨h15_⟩
           have n16_ : Aside0 (w.heap.size ≤ gb491) := ⟨h16_⟩
           have n17_ : Aside0 (gb469 ≠ gb491) := ⟨h17_⟩
           have n18_ : Aside0 (gb491 ≠ gb469) := ⟨h18_⟩
           have n19_ : Aside0 (gb470 ≠ gb491) := ⟨h19_⟩
           have n20_ : Aside0 (gb491 ≠ gb470) := ⟨h20_⟩
           have n21_ : Aside0 (gb471 ≠ gb491) := ⟨h21_⟩
           have n22_ : Aside0 (gb491 ≠ gb471) := ⟨h22_⟩
           have n23_ : Aside0 (Below w.heap.size w w48) := ⟨h23_⟩
           clear BK469
           clear BK470
           clear BK471
           clear HB
           clear h0_ h1_ h2_ h3_ h4_ h5_ h6_ h7_ h8_ h9_ h10_ h11_ h12_ h13_ h14_ h15_ h16_ h17_ h18_ h19_ h20_ h21_ h22_ h23_
           have BK469 := n0_
           have BK470 := n1_
           have BK471 := n2_
           have BK490 := n3_
           have BK491 := n4_
           have GW490 := n5_
           have GE490 := n6_
           have NB469_490 := n7_
           have NB490_469 := n8_
           have NB470_490 := n9_
           have NB490_470 := n10_
           have NB471_490 := n11_
           have NB490_471 := n12_
           have NB491_490 := n13_
           have NB490_491 := n14_
           have GW491 := n15_
           have GE491 := n16_
           have NB469_491 := n17_
           have NB491_469 := n18_
           have NB470_491 := n19_
           have NB491_470 := n20_
           have NB471_491 := n21_
           have NB491_471 := n22_
           have HB := n23_
           clear n0_ n1_ n2_ n3_ n4_ n5_ n6_ n7_ n8_ n9_ n10_ n11_ n12_ n13_ n14_ n15_ n16_ n17_ n18_ n19_ n20_ n21_ n22_ n23_
           have hHeld : w48.cell? ⟨gb469, 0, none⟩ = some (.int .i64 a0_0) ∧ w48.cell? ⟨gb469, 1, none⟩ = some (.int .i64 a0_1) ∧ w48.cell? ⟨gb469, 2, none⟩ = some (.int .i64 a0_2) ∧ w48.cell? ⟨gb469, 3, none⟩ = some (.int .i64 a0_3) ∧ w48.cell? ⟨gb469, 4, none⟩ = some (.string a0_4) ∧ w48.cell? ⟨gb470, 0, none⟩ = some (.int .i64 a1_0) ∧ w48.cell? ⟨gb470, 1, none⟩ = some (.int .i64 a1_1) ∧ w48.cell? ⟨gb470, 2, none⟩ = some (.int .i64 a1_2) ∧ w48.cell? ⟨gb470, 3, none⟩ = some (.int .i64 a1_3) ∧ w48.cell? ⟨gb470, 4, none⟩ = some (.string a1_4) := hS_
           refine norm_ (a' := ?_) ?_ ?_
           rotate_left
           ·simp only [putAll, Act.put, List.setIfInBounds_toArray, List.set_cons_zero, List.set_cons_succ]
            rfl
           refine one_ (i := 5) (N := some 40) #[true, true, true, true, true, true, false, false, true, true, false, false] rfl rfl (one_of HT_.out (by kernel_rfl)) (by decide) (fun K hK => ?_)
           refine goes_ Tryd.func37 (by kernel_rfl) rfl #[.agg #[.int .i64 a1_0, .int .i64 a1_1, .int .i64 a1_2, .int .i64 a1_3, .string a1_4]] (by rfl) rfl rfl (by (try simp only [List.map_toArray, List.map_cons, List.map_nil]); first | done | rfl | (simp only [List.length_drop, List.length_take]; rfl)) ?_
           with_reducible refine (plain_Do_size.calls a1_0 a1_1 a1_2 a1_3 a1_4 t484 _ ?side1 A35.out).mono ?_
           (case side1 => exact XAmb_step hT (hb5_ HB GE469 GE470 GE471 GE490 GE491))
           rintro e w49 ⟨rfl, hb⟩
           refine ⟨_, rfl, ?_⟩
           have n0_ := Aside0.mk (blk_below (g := gb469) (o := .cells #[.int .i64 a0_0, .int .i64 a0_1, .int .i64 a0_2, .int .i64 a0_3, .string a0_4] 33 (0, 0)) (bk_ BK469) hb)
           have n1_ := Aside0.mk (blk_below (g := gb470) (o := .cells #[.int .i64 a1_0, .int .i64 a1_1, .int .i64 a1_2, .int .i64 a1_3, .string a1_4] 33 (0, 0)) (bk_ BK470) hb)
           have n2_ := Aside0.mk (blk_below (g := gb471) (o := .cells #[.int .i64 0, .int .i64 0, .int .i64 0] 29 (0, 0)) (bk_ BK471) hb)
           have n3_ := Aside0.mk (blk_below (g := gb490) (o := .cells #[.int .i64 0, .int .i64 0, .int .i64 0, .int .i64 0, .string (⟨#[]⟩ : ByteArray)] 33 (0, 0)) (bk_ BK490) hb)
           have n4_ := Aside0.mk (blk_below (g := gb491) (o := .cells #[.int .i64 0, .int .i64 0, .int .i64 0, .int .i64 0, .string (⟨#[]⟩ : ByteArray)] 33 (0, 0)) (bk_ BK491) hb)
           have n5_ := Aside0.mk (below_step (hb5_ HB GE469 GE470 GE471 GE490 GE491) hb)
           clear BK469
           clear BK470
           clear BK471
           clear BK490
           clear BK491
           clear HB
           have BK469 := n0_
           have BK470 := n1_
           have BK471 := n2_
           have BK490 := n3_
           have BK491 := n4_
           have HB := n5_
           clear n0_ n1_ n2_ n3_ n4_ n5_
           (try clear hb)
           (try clear hb2)
           (try clear hk)
           (try clear hi)
           refine hK.out _ _ ⟨(blk_cell BK469.out 0).trans rfl, (blk_cell BK469.out 1).trans rfl, (blk_cell BK469.out 2).trans rfl, (blk_cell BK469.out 3).trans rfl, (blk_cell BK469.out 4).trans rfl, (blk_cell BK470.out 0).trans rfl, (blk_cell BK470.out 1).trans rfl, (blk_cell BK470.out 2).trans rfl, (blk_cell BK470.out 3).trans rfl, (blk_cell BK470.out 4).trans rfl⟩ (fun hHeld => ?_)
           clear hK K
           refine norm_ (a' := ?_) ?_ ?_
           rotate_left
           ·show Act.put _ (some 40) _ = _
            simp only [Act.put, List.setIfInBounds_toArray, List.set_cons_zero, List.set_cons_succ, i64_w, i32_w]
            rfl
           refine pure_ (i := 6) (N := some 41) (v := ?_) (a' := ?_) #[true, true, true, true, true, true, true, false, true, true, false, false] rfl rfl (any_of HT_.out (by kernel_rfl)) (fun _ _ _ h => h) (Or.inl ⟨by rfl, ?_⟩) ?_ ?_
           rotate_left
           ·intro w'
            go_simp
            with_reducible rfl
           rotate_left
           ·simp only [Act.put, List.setIfInBounds_toArray, List.set_cons_zero, List.set_cons_succ, i64_w, i32_w]
            rfl
           exact norm_ (by first | (simp only [putAll, Act.put, List.setIfInBounds_toArray, List.set_cons_zero, List.set_cons_succ]; done) | (simp only [putAll, Act.put, List.setIfInBounds_toArray, List.set_cons_zero, List.set_cons_succ]; rfl)) (hJ5_8_9 (gb490, gb491) _ ⟨hHeld, (bk_ BK469), (bk_ BK470), (bk_ BK471), (bk_ BK490), (bk_ BK491), GW490.out, GE490.out, NB469_490.out, NB490_469.out, NB470_490.out, NB490_470.out, NB471_490.out, NB490_471.out, NB491_490.out, NB490_491.out, GW491.out, GE491.out, NB469_491.out, NB491_469.out, NB470_491.out, NB491_470.out, NB471_491.out, NB491_471.out, (hb5_ HB GE469 GE470 GE471 GE490 GE491)⟩)
         ·skip
          rintro gb491 w48 ⟨hS_, h0_, h1_, h2_, h3_, h4_, h5_, h6_, h7_, h8_, h9_, h10_, h11_, h12_⟩
          have n0_ : Aside0 (w48.heap[gb469]? = some (.cells #[.int .i64 a0_0, .int .i64 a0_1, .int .i64 a0_2, .int .i64 a0_3, .string a0_4] 33 (0, 0))) := ⟨h0_⟩
          have n1_ : Aside0 (w48.heap[gb470]? = some (.cells #[.int .i64 a1_0, .int .i64 a1_1, .int .i64 a1_2, .int .i64 a1_3, .string a1_4] 33 (0, 0))) := ⟨h1_⟩
          have n2_ : Aside0 (w48.heap[gb471]? = some (.cells #[.int .i64 0, .int .i64 0, .int .i64 0] 29 (0, 0))) := ⟨h2_⟩
          have n3_ : Aside0 (w48.heap[gb491]? = some (.cells #[.int .i64 0, .int .i64 0, .int .i64 0, .int .i64 0, .string (⟨#[]⟩ : ByteArray)] 33 (0, 0))) := ⟨h3_⟩
          have n4_ : Aside0 (w.heap.size ≤ gb491) := ⟨h4_⟩
          have n5_ : Aside0 (w.heap.size ≤ gb491) := ⟨h5_⟩
          have n6_ : Aside0 (gb469 ≠ gb491) := ⟨h6_⟩
          have n7_ : Aside0 (gb491 ≠ gb469) := ⟨h7_⟩
          have n8_ : Aside0 (gb470 ≠ gb491) := ⟨h8_⟩
          have n9_ : Aside0 (gb491 ≠ gb470) := ⟨h9_⟩
          have n10_ : Aside0 (gb471 ≠ gb491) := ⟨h10_⟩
          have n11_ : Aside0 (gb491 ≠ gb471) := ⟨h11_⟩
          have n12_ : Aside0 (Below w.heap.size w w48) := ⟨h12_⟩
          clear BK469
          clear BK470
          clear BK471
          clear HB
          clear h0_ h1_ h2_ h3_ h4_ h5_ h6_ h7_ h8_ h9_ h10_ h11_ h12_
          have BK469 := n0_
          have BK470 := n1_
          have BK471 := n2_
          have BK491 := n3_
          have GW491 := n4_
          have GE491 := n5_
          have NB469_491 := n6_
          have NB491_469 := n7_
          have NB470_491 := n8_
          have NB491_470 := n9_
          have NB471_491 := n10_
          have NB491_471 := n11_
          have HB := n12_
          clear n0_ n1_ n2_ n3_ n4_ n5_ n6_ n7_ n8_ n9_ n10_ n11_ n12_
          have hHeld : w48.cell? ⟨gb469, 0, none⟩ = some (.int .i64 a0_0) ∧ w48.cell? ⟨gb469, 1, none⟩ = some (.int .i64 a0_1) ∧ w48.cell? ⟨gb469, 2, none⟩ = some (.int .i64 a0_2) ∧ w48.cell? ⟨gb469, 3, none⟩ = some (.int .i64 a0_3) ∧ w48.cell? ⟨gb469, 4, none⟩ = some (.string a0_4) ∧ w48.cell? ⟨gb470, 0, none⟩ = some (.int .i64 a1_0) ∧ w48.cell? ⟨gb470, 1, none⟩ = some (.int .i64 a1_1) ∧ w48.cell? ⟨gb470, 2, none⟩ = some (.int .i64 a1_2) ∧ w48.cell? ⟨gb470, 3, none⟩ = some (.int .i64 a1_3) ∧ w48.cell? ⟨gb470, 4, none⟩ = some (.string a1_4) := hS_
          refine norm_ (a' := ?_) ?_ ?_
          rotate_left
          ·simp only [putAll, Act.put, List.setIfInBounds_toArray, List.set_cons_zero, List.set_cons_succ]
           rfl
          refine two_ (i := 7) (j := 8) (Ni := some 42) (Nj := some 6) #[true, true, true, true, true, true, true, true, false, true, false, false] #[true, true, true, true, true, true, true, false, true, true, false, false] rfl rfl rfl rfl (two_of HT_.out (by kernel_rfl)) (by decide) (by decide) (fun K hK => ?_) (fun K hK => ?_)
          ·skip
           refine goes_ Tryd.func36 (by kernel_rfl) rfl #[.agg #[.int .i64 a0_0, .int .i64 a0_1, .int .i64 a0_2, .int .i64 a0_3, .string a0_4], .int .i64 (wrap64 (a1_2 + t484))] (by rfl) rfl rfl (by (try simp only [List.map_toArray, List.map_cons, List.map_nil]); first | done | rfl | (simp only [List.length_drop, List.length_take]; rfl)) ?_
           with_reducible refine (plain_Do_at.calls a0_0 a0_1 a0_2 a0_3 a0_4 (wrap64 (a1_2 + t484)) t485 t486 t487 t488 t489 _ A36.out).mono ?_
           rintro e w49 ⟨rfl, hb⟩
           refine ⟨_, rfl, ?_⟩
           have n0_ := Aside0.mk (blk_below (g := gb469) (o := .cells #[.int .i64 a0_0, .int .i64 a0_1, .int .i64 a0_2, .int .i64 a0_3, .string a0_4] 33 (0, 0)) (bk_ BK469) hb)
           have n1_ := Aside0.mk (blk_below (g := gb470) (o := .cells #[.int .i64 a1_0, .int .i64 a1_1, .int .i64 a1_2, .int .i64 a1_3, .string a1_4] 33 (0, 0)) (bk_ BK470) hb)
           have n2_ := Aside0.mk (blk_below (g := gb471) (o := .cells #[.int .i64 0, .int .i64 0, .int .i64 0] 29 (0, 0)) (bk_ BK471) hb)
           have n3_ := Aside0.mk (blk_below (g := gb491) (o := .cells #[.int .i64 0, .int .i64 0, .int .i64 0, .int .i64 0, .string (⟨#[]⟩ : ByteArray)] 33 (0, 0)) (bk_ BK491) hb)
           have n4_ := Aside0.mk (below_step (hb4_ HB GE469 GE470 GE471 GE491) hb)
           clear BK469
           clear BK470
           clear BK471
           clear BK491
           clear HB
           have BK469 := n0_
           have BK470 := n1_
           have BK471 := n2_
           have BK491 := n3_
           have HB := n4_
           clear n0_ n1_ n2_ n3_ n4_
           (try clear hb)
           (try clear hb2)
           (try clear hk)
           (try clear hi)
           refine hK.out _ _ ⟨(blk_cell BK469.out 0).trans rfl, (blk_cell BK469.out 1).trans rfl, (blk_cell BK469.out 2).trans rfl, (blk_cell BK469.out 3).trans rfl, (blk_cell BK469.out 4).trans rfl, (blk_cell BK470.out 0).trans rfl, (blk_cell BK470.out 1).trans rfl, (blk_cell BK470.out 2).trans rfl, (blk_cell BK470.out 3).trans rfl, (blk_cell BK470.out 4).trans rfl⟩ (fun hHeld => ?_)
           clear hK K
           refine norm_ (a' := ?_) ?_ ?_
           rotate_left
           ·show Act.put _ (some 42) _ = _
            simp only [Act.put, List.setIfInBounds_toArray, List.set_cons_zero, List.set_cons_succ, i64_w, i32_w]
            rfl
           exact norm_ (by first | (simp only [putAll, Act.put, List.setIfInBounds_toArray, List.set_cons_zero, List.set_cons_succ]; done) | (simp only [putAll, Act.put, List.setIfInBounds_toArray, List.set_cons_zero, List.set_cons_succ]; rfl)) (hJ5_7_9 (gb491) _ ⟨hHeld, (bk_ BK469), (bk_ BK470), (bk_ BK471), (bk_ BK491), GW491.out, GE491.out, NB469_491.out, NB491_469.out, NB470_491.out, NB491_470.out, NB471_491.out, NB491_471.out, (hb4_ HB GE469 GE470 GE471 GE491)⟩)
          ·skip
           refine box_step ?hg (N := 6) ?hd (cs := #[.int .i64 0, .int .i64 0, .int .i64 0, .int .i64 0, .string (⟨#[]⟩ : ByteArray)]) (t := 33) ?hr ?_; (case hd => rfl); (case hg => rfl); (case hr => first | (go_simp; done) | (go_simp; rfl))
           intro gb490 hg w49 hbox hb
           have n0_ := Aside0.mk (blk_below (g := gb469) (o := .cells #[.int .i64 a0_0, .int .i64 a0_1, .int .i64 a0_2, .int .i64 a0_3, .string a0_4] 33 (0, 0)) (bk_ BK469) hb)
           have n1_ := Aside0.mk (blk_below (g := gb470) (o := .cells #[.int .i64 a1_0, .int .i64 a1_1, .int .i64 a1_2, .int .i64 a1_3, .string a1_4] 33 (0, 0)) (bk_ BK470) hb)
           have n2_ := Aside0.mk (blk_below (g := gb471) (o := .cells #[.int .i64 0, .int .i64 0, .int .i64 0] 29 (0, 0)) (bk_ BK471) hb)
           have n3_ := Aside0.mk (blk_below (g := gb491) (o := .cells #[.int .i64 0, .int .i64 0, .int .i64 0, .int .i64 0, .string (⟨#[]⟩ : ByteArray)] 33 (0, 0)) (bk_ BK491) hb)
           have n4_ := Aside0.mk (below_step (hb4_ HB GE469 GE470 GE471 GE491) hb)
           have n5_ := Aside0.mk (hbox)
           have n6_ := Aside0.mk ((by rw [hg]; exact (below_size (hb4_ HB GE469 GE470 GE471 GE491)) : w.heap.size ≤ gb490))
           have n7_ := Aside0.mk ((by rw [hg]; exact (below_size (hb4_ HB GE469 GE470 GE471 GE491)) : w.heap.size ≤ gb490))
           have n8_ := Aside0.mk ((by rw [hg]; exact Nat.ne_of_lt (blk_lt (g := gb469) (o := .cells #[.int .i64 a0_0, .int .i64 a0_1, .int .i64 a0_2, .int .i64 a0_3, .string a0_4] 33 (0, 0)) (bk_ BK469)) : gb469 ≠ gb490))
           have n9_ := Aside0.mk ((by rw [hg]; exact Nat.ne_of_gt (blk_lt (g := gb469) (o := .cells #[.int .i64 a0_0, .int .i64 a0_1, .int .i64 a0_2, .int .i64 a0_3, .string a0_4] 33 (0, 0)) (bk_ BK469)) : gb490 ≠ gb469))
           have n10_ := Aside0.mk ((by rw [hg]; exact Nat.ne_of_lt (blk_lt (g := gb470) (o := .cells #[.int .i64 a1_0, .int .i64 a1_1, .int .i64 a1_2, .int .i64 a1_3, .string a1_4] 33 (0, 0)) (bk_ BK470)) : gb470 ≠ gb490))
           have n11_ := Aside0.mk ((by rw [hg]; exact Nat.ne_of_gt (blk_lt (g := gb470) (o := .cells #[.int .i64 a1_0, .int .i64 a1_1, .int .i64 a1_2, .int .i64 a1_3, .string a1_4] 33 (0, 0)) (bk_ BK470)) : gb490 ≠ gb470))
           have n12_ := Aside0.mk ((by rw [hg]; exact Nat.ne_of_lt (blk_lt (g := gb471) (o := .cells #[.int .i64 0, .int .i64 0, .int .i64 0] 29 (0, 0)) (bk_ BK471)) : gb471 ≠ gb490))
           have n13_ := Aside0.mk ((by rw [hg]; exact Nat.ne_of_gt (blk_lt (g := gb471) (o := .cells #[.int .i64 0, .int .i64 0, .int .i64 0] 29 (0, 0)) (bk_ BK471)) : gb490 ≠ gb471))
           have n14_ := Aside0.mk ((by rw [hg]; exact Nat.ne_of_lt (blk_lt (g := gb491) (o := .cells #[.int .i64 0, .int .i64 0, .int .i64 0, .int .i64 0, .string (⟨#[]⟩ : ByteArray)] 33 (0, 0)) (bk_ BK491)) : gb491 ≠ gb490))
           have n15_ := Aside0.mk ((by rw [hg]; exact Nat.ne_of_gt (blk_lt (g := gb491) (o := .cells #[.int .i64 0, .int .i64 0, .int .i64 0, .int .i64 0, .string (⟨#[]⟩ : ByteArray)] 33 (0, 0)) (bk_ BK491)) : gb490 ≠ gb491))
           clear BK469
           clear BK470
           clear BK471
           clear BK491
           clear HB
           have BK469 := n0_
           have BK470 := n1_
           have BK471 := n2_
           have BK491 := n3_
           have HB := n4_
           have BK490 := n5_
           have GW490 := n6_
           have GE490 := n7_
           have NB469_490 := n8_
           have NB490_469 := n9_
           have NB470_490 := n10_
           have NB490_470 := n11_
           have NB471_490 := n12_
           have NB490_471 := n13_
           have NB491_490 := n14_
           have NB490_491 := n15_
           clear n0_ n1_ n2_ n3_ n4_ n5_ n6_ n7_ n8_ n9_ n10_ n11_ n12_ n13_ n14_ n15_
           clear hb hbox hg
           refine hK.out _ _ ⟨(blk_cell BK469.out 0).trans rfl, (blk_cell BK469.out 1).trans rfl, (blk_cell BK469.out 2).trans rfl, (blk_cell BK469.out 3).trans rfl, (blk_cell BK469.out 4).trans rfl, (blk_cell BK470.out 0).trans rfl, (blk_cell BK470.out 1).trans rfl, (blk_cell BK470.out 2).trans rfl, (blk_cell BK470.out 3).trans rfl, (blk_cell BK470.out 4).trans rfl⟩ (fun hHeld => ?_)
           clear hK K
           refine norm_ (a' := ?_) ?_ ?_
           rotate_left
           ·show Act.put _ (some 6) _ = _
            simp only [Act.put, List.setIfInBounds_toArray, List.set_cons_zero, List.set_cons_succ, i64_w, i32_w]
            rfl
           exact norm_ (by first | (simp only [putAll, Act.put, List.setIfInBounds_toArray, List.set_cons_zero, List.set_cons_succ]; done) | (simp only [putAll, Act.put, List.setIfInBounds_toArray, List.set_cons_zero, List.set_cons_succ]; rfl)) (hJ5_8_9 (gb490, gb491) _ ⟨hHeld, (bk_ BK469), (bk_ BK470), (bk_ BK471), (bk_ BK490), (bk_ BK491), GW490.out, GE490.out, NB469_490.out, NB490_469.out, NB470_490.out, NB490_470.out, NB471_490.out, NB490_471.out, NB491_490.out, NB490_491.out, GW491.out, GE491.out, NB469_491.out, NB491_469.out, NB470_491.out, NB491_470.out, NB471_491.out, NB491_471.out, (hb5_ HB GE469 GE470 GE471 GE491 GE490)⟩)
        ·skip
         rintro gb490 w48 ⟨hS_, h0_, h1_, h2_, h3_, h4_, h5_, h6_, h7_, h8_, h9_, h10_, h11_, h12_⟩
         have n0_ : Aside0 (w48.heap[gb469]? = some (.cells #[.int .i64 a0_0, .int .i64 a0_1, .int .i64 a0_2, .int .i64 a0_3, .string a0_4] 33 (0, 0))) := ⟨h0_⟩
         have n1_ : Aside0 (w48.heap[gb470]? = some (.cells #[.int .i64 a1_0, .int .i64 a1_1, .int .i64 a1_2, .int .i64 a1_3, .string a1_4] 33 (0, 0))) := ⟨h1_⟩
         have n2_ : Aside0 (w48.heap[gb471]? = some (.cells #[.int .i64 0, .int .i64 0, .int .i64 0] 29 (0, 0))) := ⟨h2_⟩
         have n3_ : Aside0 (w48.heap[gb490]? = some (.cells #[.int .i64 0, .int .i64 0, .int .i64 0, .int .i64 0, .string (⟨#[]⟩ : ByteArray)] 33 (0, 0))) := ⟨h3_⟩
         have n4_ : Aside0 (w.heap.size ≤ gb490) := ⟨h4_⟩
         have n5_ : Aside0 (w.heap.size ≤ gb490) := ⟨h5_⟩
         have n6_ : Aside0 (gb469 ≠ gb490) := ⟨h6_⟩
         have n7_ : Aside0 (gb490 ≠ gb469) := ⟨h7_⟩
         have n8_ : Aside0 (gb470 ≠ gb490) := ⟨h8_⟩
         have n9_ : Aside0 (gb490 ≠ gb470) := ⟨h9_⟩
         have n10_ : Aside0 (gb471 ≠ gb490) := ⟨h10_⟩
         have n11_ : Aside0 (gb490 ≠ gb471) := ⟨h11_⟩
         have n12_ : Aside0 (Below w.heap.size w w48) := ⟨h12_⟩
         clear BK469
         clear BK470
         clear BK471
         clear HB
         clear h0_ h1_ h2_ h3_ h4_ h5_ h6_ h7_ h8_ h9_ h10_ h11_ h12_
         have BK469 := n0_
         have BK470 := n1_
         have BK471 := n2_
         have BK490 := n3_
         have GW490 := n4_
         have GE490 := n5_
         have NB469_490 := n6_
         have NB490_469 := n7_
         have NB470_490 := n8_
         have NB490_470 := n9_
         have NB471_490 := n10_
         have NB490_471 := n11_
         have HB := n12_
         clear n0_ n1_ n2_ n3_ n4_ n5_ n6_ n7_ n8_ n9_ n10_ n11_ n12_
         have hHeld : w48.cell? ⟨gb469, 0, none⟩ = some (.int .i64 a0_0) ∧ w48.cell? ⟨gb469, 1, none⟩ = some (.int .i64 a0_1) ∧ w48.cell? ⟨gb469, 2, none⟩ = some (.int .i64 a0_2) ∧ w48.cell? ⟨gb469, 3, none⟩ = some (.int .i64 a0_3) ∧ w48.cell? ⟨gb469, 4, none⟩ = some (.string a0_4) ∧ w48.cell? ⟨gb470, 0, none⟩ = some (.int .i64 a1_0) ∧ w48.cell? ⟨gb470, 1, none⟩ = some (.int .i64 a1_1) ∧ w48.cell? ⟨gb470, 2, none⟩ = some (.int .i64 a1_2) ∧ w48.cell? ⟨gb470, 3, none⟩ = some (.int .i64 a1_3) ∧ w48.cell? ⟨gb470, 4, none⟩ = some (.string a1_4) := hS_
         refine norm_ (a' := ?_) ?_ ?_
         rotate_left
         ·simp only [putAll, Act.put, List.setIfInBounds_toArray, List.set_cons_zero, List.set_cons_succ]
          rfl
         refine two_ (i := 7) (j := 9) (Ni := some 42) (Nj := some 7) #[true, true, true, true, true, true, true, true, true, false, false, false] #[true, true, true, true, true, true, true, false, true, true, false, false] rfl rfl rfl rfl (two_of HT_.out (by kernel_rfl)) (by decide) (by decide) (fun K hK => ?_) (fun K hK => ?_)
         ·skip
          refine goes_ Tryd.func36 (by kernel_rfl) rfl #[.agg #[.int .i64 a0_0, .int .i64 a0_1, .int .i64 a0_2, .int .i64 a0_3, .string a0_4], .int .i64 (wrap64 (a1_2 + t484))] (by rfl) rfl rfl (by (try simp only [List.map_toArray, List.map_cons, List.map_nil]); first | done | rfl | (simp only [List.length_drop, List.length_take]; rfl)) ?_
          with_reducible refine (plain_Do_at.calls a0_0 a0_1 a0_2 a0_3 a0_4 (wrap64 (a1_2 + t484)) t485 t486 t487 t488 t489 _ A36.out).mono ?_
          rintro e w49 ⟨rfl, hb⟩
          refine ⟨_, rfl, ?_⟩
          have n0_ := Aside0.mk (blk_below (g := gb469) (o := .cells #[.int .i64 a0_0, .int .i64 a0_1, .int .i64 a0_2, .int .i64 a0_3, .string a0_4] 33 (0, 0)) (bk_ BK469) hb)
          have n1_ := Aside0.mk (blk_below (g := gb470) (o := .cells #[.int .i64 a1_0, .int .i64 a1_1, .int .i64 a1_2, .int .i64 a1_3, .string a1_4] 33 (0, 0)) (bk_ BK470) hb)
          have n2_ := Aside0.mk (blk_below (g := gb471) (o := .cells #[.int .i64 0, .int .i64 0, .int .i64 0] 29 (0, 0)) (bk_ BK471) hb)
          have n3_ := Aside0.mk (blk_below (g := gb490) (o := .cells #[.int .i64 0, .int .i64 0, .int .i64 0, .int .i64 0, .string (⟨#[]⟩ : ByteArray)] 33 (0, 0)) (bk_ BK490) hb)
          have n4_ := Aside0.mk (below_step (hb4_ HB GE469 GE470 GE471 GE490) hb)
          clear BK469
          clear BK470
          clear BK471
          clear BK490
          clear HB
          have BK469 := n0_
          have BK470 := n1_
          have BK471 := n2_
          have BK490 := n3_
          have HB := n4_
          clear n0_ n1_ n2_ n3_ n4_
          (try clear hb)
          (try clear hb2)
          (try clear hk)
          (try clear hi)
          refine hK.out _ _ ⟨(blk_cell BK469.out 0).trans rfl, (blk_cell BK469.out 1).trans rfl, (blk_cell BK469.out 2).trans rfl, (blk_cell BK469.out 3).trans rfl, (blk_cell BK469.out 4).trans rfl, (blk_cell BK470.out 0).trans rfl, (blk_cell BK470.out 1).trans rfl, (blk_cell BK470.out 2).trans rfl, (blk_cell BK470.out 3).trans rfl, (blk_cell BK470.out 4).trans rfl⟩ (fun hHeld => ?_)
          clear hK K
          refine norm_ (a' := ?_) ?_ ?_
          rotate_left
          ·show Act.put _ (some 42) _ = _
           simp only [Act.put, List.setIfInBounds_toArray, List.set_cons_zero, List.set_cons_succ, i64_w, i32_w]
           rfl
          exact norm_ (by first | (simp only [putAll, Act.put, List.setIfInBounds_toArray, List.set_cons_zero, List.set_cons_succ]; done) | (simp only [putAll, Act.put, List.setIfInBounds_toArray, List.set_cons_zero, List.set_cons_succ]; rfl)) (hJ5_7_8 (gb490) _ ⟨hHeld, (bk_ BK469), (bk_ BK470), (bk_ BK471), (bk_ BK490), GW490.out, GE490.out, NB469_490.out, NB490_469.out, NB470_490.out, NB490_470.out, NB471_490.out, NB490_471.out, (hb4_ HB GE469 GE470 GE471 GE490)⟩)
         ·skip
          refine box_step ?hg (N := 7) ?hd (cs := #[.int .i64 0, .int .i64 0, .int .i64 0, .int .i64 0, .string (⟨#[]⟩ : ByteArray)]) (t := 33) ?hr ?_; (case hd => rfl); (case hg => rfl); (case hr => first | (go_simp; done) | (go_simp; rfl))
          intro gb491 hg w49 hbox hb
          have n0_ := Aside0.mk (blk_below (g := gb469) (o := .cells #[.int .i64 a0_0, .int .i64 a0_1, .int .i64 a0_2, .int .i64 a0_3, .string a0_4] 33 (0, 0)) (bk_ BK469) hb)
          have n1_ := Aside0.mk (blk_below (g := gb470) (o := .cells #[.int .i64 a1_0, .int .i64 a1_1, .int .i64 a1_2, .int .i64 a1_3, .string a1_4] 33 (0, 0)) (bk_ BK470) hb)
          have n2_ := Aside0.mk (blk_below (g := gb471) (o := .cells #[.int .i64 0, .int .i64 0, .int .i64 0] 29 (0, 0)) (bk_ BK471) hb)
          have n3_ := Aside0.mk (blk_below (g := gb490) (o := .cells #[.int .i64 0, .int .i64 0, .int .i64 0, .int .i64 0, .string (⟨#[]⟩ : ByteArray)] 33 (0, 0)) (bk_ BK490) hb)
          have n4_ := Aside0.mk (below_step (hb4_ HB GE469 GE470 GE471 GE490) hb)
          have n5_ := Aside0.mk (hbox)
          have n6_ := Aside0.mk ((by rw [hg]; exact (below_size (hb4_ HB GE469 GE470 GE471 GE490)) : w.heap.size ≤ gb491))
          have n7_ := Aside0.mk ((by rw [hg]; exact (below_size (hb4_ HB GE469 GE470 GE471 GE490)) : w.heap.size ≤ gb491))
          have n8_ := Aside0.mk ((by rw [hg]; exact Nat.ne_of_lt (blk_lt (g := gb469) (o := .cells #[.int .i64 a0_0, .int .i64 a0_1, .int .i64 a0_2, .int .i64 a0_3, .string a0_4] 33 (0, 0)) (bk_ BK469)) : gb469 ≠ gb491))
          have n9_ := Aside0.mk ((by rw [hg]; exact Nat.ne_of_gt (blk_lt (g := gb469) (o := .cells #[.int .i64 a0_0, .int .i64 a0_1, .int .i64 a0_2, .int .i64 a0_3, .string a0_4] 33 (0, 0)) (bk_ BK469)) : gb491 ≠ gb469))
          have n10_ := Aside0.mk ((by rw [hg]; exact Nat.ne_of_lt (blk_lt (g := gb470) (o := .cells #[.int .i64 a1_0, .int .i64 a1_1, .int .i64 a1_2, .int .i64 a1_3, .string a1_4] 33 (0, 0)) (bk_ BK470)) : gb470 ≠ gb491))
          have n11_ := Aside0.mk ((by rw [hg]; exact Nat.ne_of_gt (blk_lt (g := gb470) (o := .cells #[.int .i64 a1_0, .int .i64 a1_1, .int .i64 a1_2, .int .i64 a1_3, .string a1_4] 33 (0, 0)) (bk_ BK470)) : gb491 ≠ gb470))
          have n12_ := Aside0.mk ((by rw [hg]; exact Nat.ne_of_lt (blk_lt (g := gb471) (o := .cells #[.int .i64 0, .int .i64 0, .int .i64 0] 29 (0, 0)) (bk_ BK471)) : gb471 ≠ gb491))
          have n13_ := Aside0.mk ((by rw [hg]; exact Nat.ne_of_gt (blk_lt (g := gb471) (o := .cells #[.int .i64 0, .int .i64 0, .int .i64 0] 29 (0, 0)) (bk_ BK471)) : gb491 ≠ gb471))
          have n14_ := Aside0.mk ((by rw [hg]; exact Nat.ne_of_lt (blk_lt (g := gb490) (o := .cells #[.int .i64 0, .int .i64 0, .int .i64 0, .int .i64 0, .string (⟨#[]⟩ : ByteArray)] 33 (0, 0)) (bk_ BK490)) : gb490 ≠ gb491))
          have n15_ := Aside0.mk ((by rw [hg]; exact Nat.ne_of_gt (blk_lt (g := gb490) (o := .cells #[.int .i64 0, .int .i64 0, .int .i64 0, .int .i64 0, .string (⟨#[]⟩ : ByteArray)] 33 (0, 0)) (bk_ BK490)) : gb491 ≠ gb490))
          clear BK469
          clear BK470
          clear BK471
          clear BK490
          clear HB
          have BK469 := n0_
          have BK470 := n1_
          have BK471 := n2_
          have BK490 := n3_
          have HB := n4_
          have BK491 := n5_
          have GW491 := n6_
          have GE491 := n7_
          have NB469_491 := n8_
          have NB491_469 := n9_
          have NB470_491 := n10_
          have NB491_470 := n11_
          have NB471_491 := n12_
          have NB491_471 := n13_
          have NB490_491 := n14_
          have NB491_490 := n15_
          clear n0_ n1_ n2_ n3_ n4_ n5_ n6_ n7_ n8_ n9_ n10_ n11_ n12_ n13_ n14_ n15_
          clear hb hbox hg
          refine hK.out _ _ ⟨(blk_cell BK469.out 0).trans rfl, (blk_cell BK469.out 1).trans rfl, (blk_cell BK469.out 2).trans rfl, (blk_cell BK469.out 3).trans rfl, (blk_cell BK469.out 4).trans rfl, (blk_cell BK470.out 0).trans rfl, (blk_cell BK470.out 1).trans rfl, (blk_cell BK470.out 2).trans rfl, (blk_cell BK470.out 3).trans rfl, (blk_cell BK470.out 4).trans rfl⟩ (fun hHeld => ?_)
          clear hK K
          refine norm_ (a' := ?_) ?_ ?_
          rotate_left
          ·show Act.put _ (some 7) _ = _
           simp only [Act.put, List.setIfInBounds_toArray, List.set_cons_zero, List.set_cons_succ, i64_w, i32_w]
           rfl
          exact norm_ (by first | (simp only [putAll, Act.put, List.setIfInBounds_toArray, List.set_cons_zero, List.set_cons_succ]; done) | (simp only [putAll, Act.put, List.setIfInBounds_toArray, List.set_cons_zero, List.set_cons_succ]; rfl)) (hJ5_8_9 (gb490, gb491) _ ⟨hHeld, (bk_ BK469), (bk_ BK470), (bk_ BK471), (bk_ BK490), (bk_ BK491), GW490.out, GE490.out, NB469_490.out, NB490_469.out, NB470_490.out, NB490_470.out, NB471_490.out, NB490_471.out, NB491_490.out, NB490_491.out, GW491.out, GE491.out, NB469_491.out, NB491_469.out, NB470_491.out, NB491_470.out, NB471_491.out, NB491_471.out, (hb5_ HB GE469 GE470 GE471 GE490 GE491)⟩)
       ·skip
        rintro _ w48 ⟨hS_, h0_, h1_, h2_, h3_⟩
        have n0_ : Aside0 (w48.heap[gb469]? = some (.cells #[.int .i64 a0_0, .int .i64 a0_1, .int .i64 a0_2, .int .i64 a0_3, .string a0_4] 33 (0, 0))) := ⟨h0_⟩
        have n1_ : Aside0 (w48.heap[gb470]? = some (.cells #[.int .i64 a1_0, .int .i64 a1_1, .int .i64 a1_2, .int .i64 a1_3, .string a1_4] 33 (0, 0))) := ⟨h1_⟩
        have n2_ : Aside0 (w48.heap[gb471]? = some (.cells #[.int .i64 0, .int .i64 0, .int .i64 0] 29 (0, 0))) := ⟨h2_⟩
        have n3_ : Aside0 (Below w.heap.size w w48) := ⟨h3_⟩
        clear BK469
        clear BK470
        clear BK471
        clear HB
        clear h0_ h1_ h2_ h3_
        have BK469 := n0_
        have BK470 := n1_
        have BK471 := n2_
        have HB := n3_
        clear n0_ n1_ n2_ n3_
        have hHeld : w48.cell? ⟨gb469, 0, none⟩ = some (.int .i64 a0_0) ∧ w48.cell? ⟨gb469, 1, none⟩ = some (.int .i64 a0_1) ∧ w48.cell? ⟨gb469, 2, none⟩ = some (.int .i64 a0_2) ∧ w48.cell? ⟨gb469, 3, none⟩ = some (.int .i64 a0_3) ∧ w48.cell? ⟨gb469, 4, none⟩ = some (.string a0_4) ∧ w48.cell? ⟨gb470, 0, none⟩ = some (.int .i64 a1_0) ∧ w48.cell? ⟨gb470, 1, none⟩ = some (.int .i64 a1_1) ∧ w48.cell? ⟨gb470, 2, none⟩ = some (.int .i64 a1_2) ∧ w48.cell? ⟨gb470, 3, none⟩ = some (.int .i64 a1_3) ∧ w48.cell? ⟨gb470, 4, none⟩ = some (.string a1_4) := hS_
        refine norm_ (a' := ?_) ?_ ?_
        rotate_left
        ·simp only [putAll, Act.put, List.setIfInBounds_toArray, List.set_cons_zero, List.set_cons_succ]
         rfl
        refine two_ (i := 8) (j := 9) (Ni := some 6) (Nj := some 7) #[true, true, true, true, true, true, true, true, true, false, false, false] #[true, true, true, true, true, true, true, true, false, true, false, false] rfl rfl rfl rfl (two_of HT_.out (by kernel_rfl)) (by decide) (by decide) (fun K hK => ?_) (fun K hK => ?_)
        ·skip
         refine box_step ?hg (N := 6) ?hd (cs := #[.int .i64 0, .int .i64 0, .int .i64 0, .int .i64 0, .string (⟨#[]⟩ : ByteArray)]) (t := 33) ?hr ?_; (case hd => rfl); (case hg => rfl); (case hr => first | (go_simp; done) | (go_simp; rfl))
         intro gb490 hg w49 hbox hb
         have n0_ := Aside0.mk (blk_below (g := gb469) (o := .cells #[.int .i64 a0_0, .int .i64 a0_1, .int .i64 a0_2, .int .i64 a0_3, .string a0_4] 33 (0, 0)) (bk_ BK469) hb)
         have n1_ := Aside0.mk (blk_below (g := gb470) (o := .cells #[.int .i64 a1_0, .int .i64 a1_1, .int .i64 a1_2, .int .i64 a1_3, .string a1_4] 33 (0, 0)) (bk_ BK470) hb)
         have n2_ := Aside0.mk (blk_below (g := gb471) (o := .cells #[.int .i64 0, .int .i64 0, .int .i64 0] 29 (0, 0)) (bk_ BK471) hb)
         have n3_ := Aside0.mk (below_step (hb3_ HB GE469 GE470 GE471) hb)
         have n4_ := Aside0.mk (hbox)
         have n5_ := Aside0.mk ((by rw [hg]; exact (below_size (hb3_ HB GE469 GE470 GE471)) : w.heap.size ≤ gb490))
         have n6_ := Aside0.mk ((by rw [hg]; exact (below_size (hb3_ HB GE469 GE470 GE471)) : w.heap.size ≤ gb490))
         have n7_ := Aside0.mk ((by rw [hg]; exact Nat.ne_of_lt (blk_lt (g := gb469) (o := .cells #[.int .i64 a0_0, .int .i64 a0_1, .int .i64 a0_2, .int .i64 a0_3, .string a0_4] 33 (0, 0)) (bk_ BK469)) : gb469 ≠ gb490))
         have n8_ := Aside0.mk ((by rw [hg]; exact Nat.ne_of_gt (blk_lt (g := gb469) (o := .cells #[.int .i64 a0_0, .int .i64 a0_1, .int .i64 a0_2, .int .i64 a0_3, .string a0_4] 33 (0, 0)) (bk_ BK469)) : gb490 ≠ gb469))
         have n9_ := Aside0.mk ((by rw [hg]; exact Nat.ne_of_lt (blk_lt (g := gb470) (o := .cells #[.int .i64 a1_0, .int .i64 a1_1, .int .i64 a1_2, .int .i64 a1_3, .string a1_4] 33 (0, 0)) (bk_ BK470)) : gb470 ≠ gb490))
         have n10_ := Aside0.mk ((by rw [hg]; exact Nat.ne_of_gt (blk_lt (g := gb470) (o := .cells #[.int .i64 a1_0, .int .i64 a1_1, .int .i64 a1_2, .int .i64 a1_3, .string a1_4] 33 (0, 0)) (bk_ BK470)) : gb490 ≠ gb470))
         have n11_ := Aside0.mk ((by rw [hg]; exact Nat.ne_of_lt (blk_lt (g := gb471) (o := .cells #[.int .i64 0, .int .i64 0, .int .i64 0] 29 (0, 0)) (bk_ BK471)) : gb471 ≠ gb490))
         have n12_ := Aside0.mk ((by rw [hg]; exact Nat.ne_of_gt (blk_lt (g := gb471) (o := .cells #[.int .i64 0, .int .i64 0, .int .i64 0] 29 (0, 0)) (bk_ BK471)) : gb490 ≠ gb471))
         clear BK469
         clear BK470
         clear BK471
         clear HB
         have BK469 := n0_
         have BK470 := n1_
         have BK471 := n2_
         have HB := n3_
         have BK490 := n4_
         have GW490 := n5_
         have GE490 := n6_
         have NB469_490 := n7_
         have NB490_469 := n8_
         have NB470_490 := n9_
         have NB490_470 := n10_
         have NB471_490 := n11_
         have NB490_471 := n12_
         clear n0_ n1_ n2_ n3_ n4_ n5_ n6_ n7_ n8_ n9_ n10_ n11_ n12_
         clear hb hbox hg
         refine hK.out _ _ ⟨(blk_cell BK469.out 0).trans rfl, (blk_cell BK469.out 1).trans rfl, (blk_cell BK469.out 2).trans rfl, (blk_cell BK469.out 3).trans rfl, (blk_cell BK469.out 4).trans rfl, (blk_cell BK470.out 0).trans rfl, (blk_cell BK470.out 1).trans rfl, (blk_cell BK470.out 2).trans rfl, (blk_cell BK470.out 3).trans rfl, (blk_cell BK470.out 4).trans rfl⟩ (fun hHeld => ?_)
         clear hK K
         refine norm_ (a' := ?_) ?_ ?_
         rotate_left
         ·show Act.put _ (some 6) _ = _
          simp only [Act.put, List.setIfInBounds_toArray, List.set_cons_zero, List.set_cons_succ, i64_w, i32_w]
          rfl
         exact norm_ (by first | (simp only [putAll, Act.put, List.setIfInBounds_toArray, List.set_cons_zero, List.set_cons_succ]; done) | (simp only [putAll, Act.put, List.setIfInBounds_toArray, List.set_cons_zero, List.set_cons_succ]; rfl)) (hJ5_7_8 (gb490) _ ⟨hHeld, (bk_ BK469), (bk_ BK470), (bk_ BK471), (bk_ BK490), GW490.out, GE490.out, NB469_490.out, NB490_469.out, NB470_490.out, NB490_470.out, NB471_490.out, NB490_471.out, (hb4_ HB GE469 GE470 GE471 GE490)⟩)
        ·skip
         refine box_step ?hg (N := 7) ?hd (cs := #[.int .i64 0, .int .i64 0, .int .i64 0, .int .i64 0, .string (⟨#[]⟩ : ByteArray)]) (t := 33) ?hr ?_; (case hd => rfl); (case hg => rfl); (case hr => first | (go_simp; done) | (go_simp; rfl))
         intro gb491 hg w49 hbox hb
         have n0_ := Aside0.mk (blk_below (g := gb469) (o := .cells #[.int .i64 a0_0, .int .i64 a0_1, .int .i64 a0_2, .int .i64 a0_3, .string a0_4] 33 (0, 0)) (bk_ BK469) hb)
         have n1_ := Aside0.mk (blk_below (g := gb470) (o := .cells #[.int .i64 a1_0, .int .i64 a1_1, .int .i64 a1_2, .int .i64 a1_3, .string a1_4] 33 (0, 0)) (bk_ BK470) hb)
         have n2_ := Aside0.mk (blk_below (g := gb471) (o := .cells #[.int .i64 0, .int .i64 0, .int .i64 0] 29 (0, 0)) (bk_ BK471) hb)
         have n3_ := Aside0.mk (below_step (hb3_ HB GE469 GE470 GE471) hb)
         have n4_ := Aside0.mk (hbox)
         have n5_ := Aside0.mk ((by rw [hg]; exact (below_size (hb3_ HB GE469 GE470 GE471)) : w.heap.size ≤ gb491))
         have n6_ := Aside0.mk ((by rw [hg]; exact (below_size (hb3_ HB GE469 GE470 GE471)) : w.heap.size ≤ gb491))
         have n7_ := Aside0.mk ((by rw [hg]; exact Nat.ne_of_lt (blk_lt (g := gb469) (o := .cells #[.int .i64 a0_0, .int .i64 a0_1, .int .i64 a0_2, .int .i64 a0_3, .string a0_4] 33 (0, 0)) (bk_ BK469)) : gb469 ≠ gb491))
         have n8_ := Aside0.mk ((by rw [hg]; exact Nat.ne_of_gt (blk_lt (g := gb469) (o := .cells #[.int .i64 a0_0, .int .i64 a0_1, .int .i64 a0_2, .int .i64 a0_3, .string a0_4] 33 (0, 0)) (bk_ BK469)) : gb491 ≠ gb469))
         have n9_ := Aside0.mk ((by rw [hg]; exact Nat.ne_of_lt (blk_lt (g := gb470) (o := .cells #[.int .i64 a1_0, .int .i64 a1_1, .int .i64 a1_2, .int .i64 a1_3, .string a1_4] 33 (0, 0)) (bk_ BK470)) : gb470 ≠ gb491))
         have n10_ := Aside0.mk ((by rw [hg]; exact Nat.ne_of_gt (blk_lt (g := gb470) (o := .cells #[.int .i64 a1_0, .int .i64 a1_1, .int .i64 a1_2, .int .i64 a1_3, .string a1_4] 33 (0, 0)) (bk_ BK470)) : gb491 ≠ gb470))
         have n11_ := Aside0.mk ((by rw [hg]; exact Nat.ne_of_lt (blk_lt (g := gb471) (o := .cells #[.int .i64 0, .int .i64 0, .int .i64 0] 29 (0, 0)) (bk_ BK471)) : gb471 ≠ gb491))
         have n12_ := Aside0.mk ((by rw [hg]; exact Nat.ne_of_gt (blk_lt (g := gb471) (o := .cells #[.int .i64 0, .int .i64 0, .int .i64 0] 29 (0, 0)) (bk_ BK471)) : gb491 ≠ gb471))
         clear BK469
         clear BK470
         clear BK471
         clear HB
         have BK469 := n0_
         have BK470 := n1_
         have BK471 := n2_
         have HB := n3_
         have BK491 := n4_
         have GW491 := n5_
         have GE491 := n6_
         have NB469_491 := n7_
         have NB491_469 := n8_
         have NB470_491 := n9_
         have NB491_470 := n10_
         have NB471_491 := n11_
         have NB491_471 := n12_
         clear n0_ n1_ n2_ n3_ n4_ n5_ n6_ n7_ n8_ n9_ n10_ n11_ n12_
         clear hb hbox hg
         refine hK.out _ _ ⟨(blk_cell BK469.out 0).trans rfl, (blk_cell BK469.out 1).trans rfl, (blk_cell BK469.out 2).trans rfl, (blk_cell BK469.out 3).trans rfl, (blk_cell BK469.out 4).trans rfl, (blk_cell BK470.out 0).trans rfl, (blk_cell BK470.out 1).trans rfl, (blk_cell BK470.out 2).trans rfl, (blk_cell BK470.out 3).trans rfl, (blk_cell BK470.out 4).trans rfl⟩ (fun hHeld => ?_)
         clear hK K
         refine norm_ (a' := ?_) ?_ ?_
         rotate_left
         ·show Act.put _ (some 7) _ = _
          simp only [Act.put, List.setIfInBounds_toArray, List.set_cons_zero, List.set_cons_succ, i64_w, i32_w]
          rfl
         exact norm_ (by first | (simp only [putAll, Act.put, List.setIfInBounds_toArray, List.set_cons_zero, List.set_cons_succ]; done) | (simp only [putAll, Act.put, List.setIfInBounds_toArray, List.set_cons_zero, List.set_cons_succ]; rfl)) (hJ5_7_9 (gb491) _ ⟨hHeld, (bk_ BK469), (bk_ BK470), (bk_ BK471), (bk_ BK491), GW491.out, GE491.out, NB469_491.out, NB491_469.out, NB470_491.out, NB491_470.out, NB471_491.out, NB491_471.out, (hb4_ HB GE469 GE470 GE471 GE491)⟩)
      ·skip
       rintro ⟨gb490, gb491⟩ w49 ⟨hS_, h0_, h1_, h2_, h3_, h4_, h5_, h6_, h7_, h8_, h9_, h10_, h11_, h12_, h13_, h14_, h15_, h16_, h17_, h18_, h19_, h20_, h21_, h22_, h23_⟩
       have n0_ : Aside0 (w49.heap[gb469]? = some (.cells #[.int .i64 a0_0, .int .i64 a0_1, .int .i64 a0_2, .int .i64 a0_3, .string a0_4] 33 (0, 0))) := ⟨h0_⟩
       have n1_ : Aside0 (w49.heap[gb470]? = some (.cells #[.int .i64 a1_0, .int .i64 a1_1, .int .i64 a1_2, .int .i64 a1_3, .string a1_4] 33 (0, 0))) := ⟨h1_⟩
       have n2_ : Aside0 (w49.heap[gb471]? = some (.cells #[.int .i64 0, .int .i64 0, .int .i64 0] 29 (0, 0))) := ⟨h2_⟩
       have n3_ : Aside0 (w49.heap[gb490]? = some (.cells #[.int .i64 0, .int .i64 0, .int .i64 0, .int .i64 0, .string (⟨#[]⟩ : ByteArray)] 33 (0, 0))) := ⟨h3_⟩
       have n4_ : Aside0 (w49.heap[gb491]? = some (.cells #[.int .i64 0, .int .i64 0, .int .i64 0, .int .i64 0, .string (⟨#[]⟩ : ByteArray)] 33 (0, 0))) := ⟨h4_⟩
       have n5_ : Aside0 (w.heap.size ≤ gb490) := ⟨h5_⟩
       have n6_ : Aside0 (w.heap.size ≤ gb490) := ⟨h6_⟩
       have n7_ : Aside0 (gb469 ≠ gb490) := ⟨h7_⟩
       have n8_ : Aside0 (gb490 ≠ gb469) := ⟨h8_⟩
       have n9_ : Aside0 (gb470 ≠ gb490) := ⟨h9_⟩
       have n10_ : Aside0 (gb490 ≠ gb470) := ⟨h10_⟩
       have n11_ : Aside0 (gb471 ≠ gb490) := ⟨h11_⟩
       have n12_ : Aside0 (gb490 ≠ gb471) := ⟨h12_⟩
       have n13_ : Aside0 (gb491 ≠ gb490) := ⟨h13_⟩
       have n14_ : Aside0 (gb490 ≠ gb491) := ⟨h14_⟩
       have n15_ : Aside0 (w.heap.size ≤ gb491) := ⟨h15_⟩
       have n16_ : Aside0 (w.heap.size ≤ gb491) := ⟨h16_⟩
       have n17_ : Aside0 (gb469 ≠ gb491) := ⟨h17_⟩
       have n18_ : Aside0 (gb491 ≠ gb469) := ⟨h18_⟩
       have n19_ : Aside0 (gb470 ≠ gb491) := ⟨h19_⟩
       have n20_ : Aside0 (gb491 ≠ gb470) := ⟨h20_⟩
       have n21_ : Aside0 (gb471 ≠ gb491) := ⟨h21_⟩
       have n22_ : Aside0 (gb491 ≠ gb471) := ⟨h22_⟩
       have n23_ : Aside0 (Below w.heap.size w w49) := ⟨h23_⟩
       clear BK469
       clear BK470
       clear BK471
       clear HB
       clear h0_ h1_ h2_ h3_ h4_ h5_ h6_ h7_ h8_ h9_ h10_ h11_ h12_ h13_ h14_ h15_ h16_ h17_ h18_ h19_ h20_ h21_ h22_ h23_
       have BK469 := n0_
       have BK470 := n1_
       have BK471 := n2_
       have BK490 := n3_
       have BK491 := n4_
       have GW490 := n5_
       have GE490 := n6_
       have NB469_490 := n7_
       have NB490_469 := n8_
       have NB470_490 := n9_
       have NB490_470 := n10_
       have NB471_490 := n11_
       have NB490_471 := n12_
       have NB491_490 := n13_
       have NB490_491 := n14_
       have GW491 := n15_
       have GE491 := n16_
       have NB469_491 := n17_
       have NB491_469 := n18_
       have NB470_491 := n19_
       have NB491_470 := n20_
       have NB471_491 := n21_
       have NB491_471 := n22_
       have HB := n23_
       clear n0_ n1_ n2_ n3_ n4_ n5_ n6_ n7_ n8_ n9_ n10_ n11_ n12_ n13_ n14_ n15_ n16_ n17_ n18_ n19_ n20_ n21_ n22_ n23_
       have hHeld : w49.cell? ⟨gb469, 0, none⟩ = some (.int .i64 a0_0) ∧ w49.cell? ⟨gb469, 1, none⟩ = some (.int .i64 a0_1) ∧ w49.cell? ⟨gb469, 2, none⟩ = some (.int .i64 a0_2) ∧ w49.cell? ⟨gb469, 3, none⟩ = some (.int .i64 a0_3) ∧ w49.cell? ⟨gb469, 4, none⟩ = some (.string a0_4) ∧ w49.cell? ⟨gb470, 0, none⟩ = some (.int .i64 a1_0) ∧ w49.cell? ⟨gb470, 1, none⟩ = some (.int .i64 a1_1) ∧ w49.cell? ⟨gb470, 2, none⟩ = some (.int .i64 a1_2) ∧ w49.cell? ⟨gb470, 3, none⟩ = some (.int .i64 a1_3) ∧ w49.cell? ⟨gb470, 4, none⟩ = some (.string a1_4) := hS_
       refine norm_ (a' := ?_) ?_ ?_
       rotate_left
       ·simp only [putAll, Act.put, List.setIfInBounds_toArray, List.set_cons_zero, List.set_cons_succ]
        rfl
       refine one_ (i := 7) (N := some 42) #[true, true, true, true, true, true, true, true, true, true, false, false] rfl rfl (one_of HT_.out (by kernel_rfl)) (by decide) (fun K hK => ?_)
       refine goes_ Tryd.func36 (by kernel_rfl) rfl #[.agg #[.int .i64 a0_0, .int .i64 a0_1, .int .i64 a0_2, .int .i64 a0_3, .string a0_4], .int .i64 (wrap64 (a1_2 + t484))] (by rfl) rfl rfl (by (try simp only [List.map_toArray, List.map_cons, List.map_nil]); first | done | rfl | (simp only [List.length_drop, List.length_take]; rfl)) ?_
       with_reducible refine (plain_Do_at.calls a0_0 a0_1 a0_2 a0_3 a0_4 (wrap64 (a1_2 + t484)) t485 t486 t487 t488 t489 _ A36.out).mono ?_
       rintro e w50 ⟨rfl, hb⟩
       refine ⟨_, rfl, ?_⟩
       have n0_ := Aside0.mk (blk_below (g := gb469) (o := .cells #[.int .i64 a0_0, .int .i64 a0_1, .int .i64 a0_2, .int .i64 a0_3, .string a0_4] 33 (0, 0)) (bk_ BK469) hb)
       have n1_ := Aside0.mk (blk_below (g := gb470) (o := .cells #[.int .i64 a1_0, .int .i64 a1_1, .int .i64 a1_2, .int .i64 a1_3, .string a1_4] 33 (0, 0)) (bk_ BK470) hb)
       have n2_ := Aside0.mk (blk_below (g := gb471) (o := .cells #[.int .i64 0, .int .i64 0, .int .i64 0] 29 (0, 0)) (bk_ BK471) hb)
       have n3_ := Aside0.mk (blk_below (g := gb490) (o := .cells #[.int .i64 0, .int .i64 0, .int .i64 0, .int .i64 0, .string (⟨#[]⟩ : ByteArray)] 33 (0, 0)) (bk_ BK490) hb)
       have n4_ := Aside0.mk (blk_below (g := gb491) (o := .cells #[.int .i64 0, .int .i64 0, .int .i64 0, .int .i64 0, .string (⟨#[]⟩ : ByteArray)] 33 (0, 0)) (bk_ BK491) hb)
       have n5_ := Aside0.mk (below_step (hb5_ HB GE469 GE470 GE471 GE490 GE491) hb)
       clear BK469
       clear BK470
       clear BK471
       clear BK490
       clear BK491
       clear HB
       have BK469 := n0_
       have BK470 := n1_
       have BK471 := n2_
       have BK490 := n3_
       have BK491 := n4_
       have HB := n5_
       clear n0_ n1_ n2_ n3_ n4_ n5_
       (try clear hb)
       (try clear hb2)
       (try clear hk)
       (try clear hi)
       refine hK.out _ _ ⟨(blk_cell BK469.out 0).trans rfl, (blk_cell BK469.out 1).trans rfl, (blk_cell BK469.out 2).trans rfl, (blk_cell BK469.out 3).trans rfl, (blk_cell BK469.out 4).trans rfl, (blk_cell BK470.out 0).trans rfl, (blk_cell BK470.out 1).trans rfl, (blk_cell BK470.out 2).trans rfl, (blk_cell BK470.out 3).trans rfl, (blk_cell BK470.out 4).trans rfl⟩ (fun hHeld => ?_)
       clear hK K
       refine norm_ (a' := ?_) ?_ ?_
       rotate_left
       ·show Act.put _ (some 42) _ = _
        simp only [Act.put, List.setIfInBounds_toArray, List.set_cons_zero, List.set_cons_succ, i64_w, i32_w]
        rfl
       exact norm_ (by first | (simp only [putAll, Act.put, List.setIfInBounds_toArray, List.set_cons_zero, List.set_cons_succ]; done) | (simp only [putAll, Act.put, List.setIfInBounds_toArray, List.set_cons_zero, List.set_cons_succ]; rfl)) (hJ5_7_8_9 (gb490, gb491) _ ⟨hHeld, (bk_ BK469), (bk_ BK470), (bk_ BK471), (bk_ BK490), (bk_ BK491), GW490.out, GE490.out, NB469_490.out, NB490_469.out, NB470_490.out, NB490_470.out, NB471_490.out, NB490_471.out, NB491_490.out, NB490_491.out, GW491.out, GE491.out, NB469_491.out, NB491_469.out, NB470_491.out, NB491_470.out, NB471_491.out, NB491_471.out, (hb5_ HB GE469 GE470 GE471 GE490 GE491)⟩)
     ·skip
      rintro gb491 w49 ⟨hS_, h0_, h1_, h2_, h3_, h4_, h5_, h6_, h7_, h8_, h9_, h10_, h11_, h12_⟩
      have n0_ : Aside0 (w49.heap[gb469]? = some (.cells #[.int .i64 a0_0, .int .i64 a0_1, .int .i64 a0_2, .int .i64 a0_3, .string a0_4] 33 (0, 0))) := ⟨h0_⟩
      have n1_ : Aside0 (w49.heap[gb470]? = some (.cells #[.int .i64 a1_0, .int .i64 a1_1, .int .i64 a1_2, .int .i64 a1_3, .string a1_4] 33 (0, 0))) := ⟨h1_⟩
      have n2_ : Aside0 (w49.heap[gb471]? = some (.cells #[.int .i64 0, .int .i64 0, .int .i64 0] 29 (0, 0))) := ⟨h2_⟩
      have n3_ : Aside0 (w49.heap[gb491]? = some (.cells #[.int .i64 0, .int .i64 0, .int .i64 0, .int .i64 0, .string (⟨#[]⟩ : ByteArray)] 33 (0, 0))) := ⟨h3_⟩
      have n4_ : Aside0 (w.heap.size ≤ gb491) := ⟨h4_⟩
      have n5_ : Aside0 (w.heap.size ≤ gb491) := ⟨h5_⟩
      have n6_ : Aside0 (gb469 ≠ gb491) := ⟨h6_⟩
      have n7_ : Aside0 (gb491 ≠ gb469) := ⟨h7_⟩
      have n8_ : Aside0 (gb470 ≠ gb491) := ⟨h8_⟩
      have n9_ : Aside0 (gb491 ≠ gb470) := ⟨h9_⟩
      have n10_ : Aside0 (gb471 ≠ gb491) := ⟨h10_⟩
      have n11_ : Aside0 (gb491 ≠ gb471) := ⟨h11_⟩
      have n12_ : Aside0 (Below w.heap.size w w49) := ⟨h12_⟩
      clear BK469
      clear BK470
      clear BK471
      clear HB
      clear h0_ h1_ h2_ h3_ h4_ h5_ h6_ h7_ h8_ h9_ h10_ h11_ h12_
      have BK469 := n0_
      have BK470 := n1_
      have BK471 := n2_
      have BK491 := n3_
      have GW491 := n4_
      have GE491 := n5_
      have NB469_491 := n6_
      have NB491_469 := n7_
      have NB470_491 := n8_
      have NB491_470 := n9_
      have NB471_491 := n10_
      have NB491_471 := n11_
      have HB := n12_
      clear n0_ n1_ n2_ n3_ n4_ n5_ n6_ n7_ n8_ n9_ n10_ n11_ n12_
      have hHeld : w49.cell? ⟨gb469, 0, none⟩ = some (.int .i64 a0_0) ∧ w49.cell? ⟨gb469, 1, none⟩ = some (.int .i64 a0_1) ∧ w49.cell? ⟨gb469, 2, none⟩ = some (.int .i64 a0_2) ∧ w49.cell? ⟨gb469, 3, none⟩ = some (.int .i64 a0_3) ∧ w49.cell? ⟨gb469, 4, none⟩ = some (.string a0_4) ∧ w49.cell? ⟨gb470, 0, none⟩ = some (.int .i64 a1_0) ∧ w49.cell? ⟨gb470, 1, none⟩ = some (.int .i64 a1_1) ∧ w49.cell? ⟨gb470, 2, none⟩ = some (.int .i64 a1_2) ∧ w49.cell? ⟨gb470, 3, none⟩ = some (.int .i64 a1_3) ∧ w49.cell? ⟨gb470, 4, none⟩ = some (.string a1_4) := hS_
      refine norm_ (a' := ?_) ?_ ?_
      rotate_left
      ·simp only [putAll, Act.put, List.setIfInBounds_toArray, List.set_cons_zero, List.set_cons_succ]
       rfl
      refine one_ (i := 8) (N := some 6) #[true, true, true, true, true, true, true, true, true, true, false, false] rfl rfl (one_of HT_.out (by kernel_rfl)) (by decide) (fun K hK => ?_)
      refine box_step ?hg (N := 6) ?hd (cs := #[.int .i64 0, .int .i64 0, .int .i64 0, .int .i64 0, .string (⟨#[]⟩ : ByteArray)]) (t := 33) ?hr ?_; (case hd => rfl); (case hg => rfl); (case hr => first | (go_simp; done) | (go_simp; rfl))
      intro gb490 hg w50 hbox hb
      have n0_ := Aside0.mk (blk_below (g := gb469) (o := .cells #[.int .i64 a0_0, .int .i64 a0_1, .int .i64 a0_2, .int .i64 a0_3, .string a0_4] 33 (0, 0)) (bk_ BK469) hb)
      have n1_ := Aside0.mk (blk_below (g := gb470) (o := .cells #[.int .i64 a1_0, .int .i64 a1_1, .int .i64 a1_2, .int .i64 a1_3, .string a1_4] 33 (0, 0)) (bk_ BK470) hb)
      have n2_ := Aside0.mk (blk_below (g := gb471) (o := .cells #[.int .i64 0, .int .i64 0, .int .i64 0] 29 (0, 0)) (bk_ BK471) hb)
      have n3_ := Aside0.mk (blk_below (g := gb491) (o := .cells #[.int .i64 0, .int .i64 0, .int .i64 0, .int .i64 0, .string (⟨#[]⟩ : ByteArray)] 33 (0, 0)) (bk_ BK491) hb)
      have n4_ := Aside0.mk (below_step (hb4_ HB GE469 GE470 GE471 GE491) hb)
      have n5_ := Aside0.mk (hbox)
      have n6_ := Aside0.mk ((by rw [hg]; exact (below_size (hb4_ HB GE469 GE470 GE471 GE491)) : w.heap.size ≤ gb490))
      have n7_ := Aside0.mk ((by rw [hg]; exact (below_size (hb4_ HB GE469 GE470 GE471 GE491)) : w.heap.size ≤ gb490))
      have n8_ := Aside0.mk ((by rw [hg]; exact Nat.ne_of_lt (blk_lt (g := gb469) (o := .cells #[.int .i64 a0_0, .int .i64 a0_1, .int .i64 a0_2, .int .i64 a0_3, .string a0_4] 33 (0, 0)) (bk_ BK469)) : gb469 ≠ gb490))
      have n9_ := Aside0.mk ((by rw [hg]; exact Nat.ne_of_gt (blk_lt (g := gb469) (o := .cells #[.int .i64 a0_0, .int .i64 a0_1, .int .i64 a0_2, .int .i64 a0_3, .string a0_4] 33 (0, 0)) (bk_ BK469)) : gb490 ≠ gb469))
      have n10_ := Aside0.mk ((by rw [hg]; exact Nat.ne_of_lt (blk_lt (g := gb470) (o := .cells #[.int .i64 a1_0, .int .i64 a1_1, .int .i64 a1_2, .int .i64 a1_3, .string a1_4] 33 (0, 0)) (bk_ BK470)) : gb470 ≠ gb490))
      have n11_ := Aside0.mk ((by rw [hg]; exact Nat.ne_of_gt (blk_lt (g := gb470) (o := .cells #[.int .i64 a1_0, .int .i64 a1_1, .int .i64 a1_2, .int .i64 a1_3, .string a1_4] 33 (0, 0)) (bk_ BK470)) : gb490 ≠ gb470))
      have n12_ := Aside0.mk ((by rw [hg]; exact Nat.ne_of_lt (blk_lt (g := gb471) (o := .cells #[.int .i64 0, .int .i64 0, .int .i64 0] 29 (0, 0)) (bk_ BK471)) : gb471 ≠ gb490))
      have n13_ := Aside0.mk ((by rw [hg]; exact Nat.ne_of_gt (blk_lt (g := gb471) (o := .cells #[.int .i64 0, .int .i64 0, .int .i64 0] 29 (0, 0)) (bk_ BK471)) : gb490 ≠ gb471))
      have n14_ := Aside0.mk ((by rw [hg]; exact Nat.ne_of_lt (blk_lt (g := gb491) (o := .cells #[.int .i64 0, .int .i64 0, .int .i64 0, .int .i64 0, .string (⟨#[]⟩ : ByteArray)] 33 (0, 0)) (bk_ BK491)) : gb491 ≠ gb490))
      have n15_ := Aside0.mk ((by rw [hg]; exact Nat.ne_of_gt (blk_lt (g := gb491) (o := .cells #[.int .i64 0, .int .i64 0, .int .i64 0, .int .i64 0, .string (⟨#[]⟩ : ByteArray)] 33 (0, 0)) (bk_ BK491)) : gb490 ≠ gb491))
      clear BK469
      clear BK470
      clear BK471
      clear BK491
      clear HB
      have BK469 := n0_
      have BK470 := n1_
      have BK471 := n2_
      have BK491 := n3_
      have HB := n4_
      have BK490 := n5_
      have GW490 := n6_
      have GE490 := n7_
      have NB469_490 := n8_
      have NB490_469 := n9_
      have NB470_490 := n10_
      have NB490_470 := n11_
      have NB471_490 := n12_
      have NB490_471 := n13_
      have NB491_490 := n14_
      have NB490_491 := n15_
      clear n0_ n1_ n2_ n3_ n4_ n5_ n6_ n7_ n8_ n9_ n10_ n11_ n12_ n13_ n14_ n15_
      clear hb hbox hg
      refine hK.out _ _ ⟨(blk_cell BK469.out 0).trans rfl, (blk_cell BK469.out 1).trans rfl, (blk_cell BK469.out 2).trans rfl, (blk_cell BK469.out 3).trans rfl, (blk_cell BK469.out 4).trans rfl, (blk_cell BK470.out 0).trans rfl, (blk_cell BK470.out 1).trans rfl, (blk_cell BK470.out 2).trans rfl, (blk_cell BK470.out 3).trans rfl, (blk_cell BK470.out 4).trans rfl⟩ (fun hHeld => ?_)
      clear hK K
      refine norm_ (a' := ?_) ?_ ?_
      rotate_left
      ·show Act.put _ (some 6) _ = _
       simp only [Act.put, List.setIfInBounds_toArray, List.set_cons_zero, List.set_cons_succ, i64_w, i32_w]
       rfl
      exact norm_ (by first | (simp only [putAll, Act.put, List.setIfInBounds_toArray, List.set_cons_zero, List.set_cons_succ]; done) | (simp only [putAll, Act.put, List.setIfInBounds_toArray, List.set_cons_zero, List.set_cons_succ]; rfl)) (hJ5_7_8_9 (gb490, gb491) _ ⟨hHeld, (bk_ BK469), (bk_ BK470), (bk_ BK471), (bk_ BK490), (bk_ BK491), GW490.out, GE490.out, NB469_490.out, NB490_469.out, NB470_490.out, NB490_470.out, NB471_490.out, NB490_471.out, NB491_490.out, NB490_491.out, GW491.out, GE491.out, NB469_491.out, NB491_469.out, NB470_491.out, NB491_470.out, NB471_491.out, NB491_471.out, (hb5_ HB GE469 GE470 GE471 GE491 GE490)⟩)
    ·skip
     rintro gb490 w49 ⟨hS_, h0_, h1_, h2_, h3_, h4_, h5_, h6_, h7_, h8_, h9_, h10_, h11_, h12_⟩
     have n0_ : Aside0 (w49.heap[gb469]? = some (.cells #[.int .i64 a0_0, .int .i64 a0_1, .int .i64 a0_2, .int .i64 a0_3, .string a0_4] 33 (0, 0))) := ⟨h0_⟩
     have n1_ : Aside0 (w49.heap[gb470]? = some (.cells #[.int .i64 a1_0, .int .i64 a1_1, .int .i64 a1_2, .int .i64 a1_3, .string a1_4] 33 (0, 0))) := ⟨h1_⟩
     have n2_ : Aside0 (w49.heap[gb471]? = some (.cells #[.int .i64 0, .int .i64 0, .int .i64 0] 29 (0, 0))) := ⟨h2_⟩
     have n3_ : Aside0 (w49.heap[gb490]? = some (.cells #[.int .i64 0, .int .i64 0, .int .i64 0, .int .i64 0, .string (⟨#[]⟩ : ByteArray)] 33 (0, 0))) := ⟨h3_⟩
     have n4_ : Aside0 (w.heap.size ≤ gb490) := ⟨h4_⟩
     have n5_ : Aside0 (w.heap.size ≤ gb490) := ⟨h5_⟩
     have n6_ : Aside0 (gb469 ≠ gb490) := ⟨h6_⟩
     have n7_ : Aside0 (gb490 ≠ gb469) := ⟨h7_⟩
     have n8_ : Aside0 (gb470 ≠ gb490) := ⟨h8_⟩
     have n9_ : Aside0 (gb490 ≠ gb470) := ⟨h9_⟩
     have n10_ : Aside0 (gb471 ≠ gb490) := ⟨h10_⟩
     have n11_ : Aside0 (gb490 ≠ gb471) := ⟨h11_⟩
     have n12_ : Aside0 (Below w.heap.size w w49) := ⟨h12_⟩
     clear BK469
     clear BK470
     clear BK471
     clear HB
     clear h0_ h1_ h2_ h3_ h4_ h5_ h6_ h7_ h8_ h9_ h10_ h11_ h12_
     have BK469 := n0_
     have BK470 := n1_
     have BK471 := n2_
     have BK490 := n3_
     have GW490 := n4_
     have GE490 := n5_
     have NB469_490 := n6_
     have NB490_469 := n7_
     have NB470_490 := n8_
     have NB490_470 := n9_
     have NB471_490 := n10_
     have NB490_471 := n11_
     have HB := n12_
     clear n0_ n1_ n2_ n3_ n4_ n5_ n6_ n7_ n8_ n9_ n10_ n11_ n12_
     have hHeld : w49.cell? ⟨gb469, 0, none⟩ = some (.int .i64 a0_0) ∧ w49.cell? ⟨gb469, 1, none⟩ = some (.int .i64 a0_1) ∧ w49.cell? ⟨gb469, 2, none⟩ = some (.int .i64 a0_2) ∧ w49.cell? ⟨gb469, 3, none⟩ = some (.int .i64 a0_3) ∧ w49.cell? ⟨gb469, 4, none⟩ = some (.string a0_4) ∧ w49.cell? ⟨gb470, 0, none⟩ = some (.int .i64 a1_0) ∧ w49.cell? ⟨gb470, 1, none⟩ = some (.int .i64 a1_1) ∧ w49.cell? ⟨gb470, 2, none⟩ = some (.int .i64 a1_2) ∧ w49.cell? ⟨gb470, 3, none⟩ = some (.int .i64 a1_3) ∧ w49.cell? ⟨gb470, 4, none⟩ = some (.string a1_4) := hS_
     refine norm_ (a' := ?_) ?_ ?_
     rotate_left
     ·simp only [putAll, Act.put, List.setIfInBounds_toArray, List.set_cons_zero, List.set_cons_succ]
      rfl
     refine one_ (i := 9) (N := some 7) #[true, true, true, true, true, true, true, true, true, true, false, false] rfl rfl (one_of HT_.out (by kernel_rfl)) (by decide) (fun K hK => ?_)
     refine box_step ?hg (N := 7) ?hd (cs := #[.int .i64 0, .int .i64 0, .int .i64 0, .int .i64 0, .string (⟨#[]⟩ : ByteArray)]) (t := 33) ?hr ?_; (case hd => rfl); (case hg => rfl); (case hr => first | (go_simp; done) | (go_simp; rfl))
     intro gb491 hg w50 hbox hb
     have n0_ := Aside0.mk (blk_below (g := gb469) (o := .cells #[.int .i64 a0_0, .int .i64 a0_1, .int .i64 a0_2, .int .i64 a0_3, .string a0_4] 33 (0, 0)) (bk_ BK469) hb)
     have n1_ := Aside0.mk (blk_below (g := gb470) (o := .cells #[.int .i64 a1_0, .int .i64 a1_1, .int .i64 a1_2, .int .i64 a1_3, .string a1_4] 33 (0, 0)) (bk_ BK470) hb)
     have n2_ := Aside0.mk (blk_below (g := gb471) (o := .cells #[.int .i64 0, .int .i64 0, .int .i64 0] 29 (0, 0)) (bk_ BK471) hb)
     have n3_ := Aside0.mk (blk_below (g := gb490) (o := .cells #[.int .i64 0, .int .i64 0, .int .i64 0, .int .i64 0, .string (⟨#[]⟩ : ByteArray)] 33 (0, 0)) (bk_ BK490) hb)
     have n4_ := Aside0.mk (below_step (hb4_ HB GE469 GE470 GE471 GE490) hb)
     have n5_ := Aside0.mk (hbox)
     have n6_ := Aside0.mk ((by rw [hg]; exact (below_size (hb4_ HB GE469 GE470 GE471 GE490)) : w.heap.size ≤ gb491))
     have n7_ := Aside0.mk ((by rw [hg]; exact (below_size (hb4_ HB GE469 GE470 GE471 GE490)) : w.heap.size ≤ gb491))
     have n8_ := Aside0.mk ((by rw [hg]; exact Nat.ne_of_lt (blk_lt (g := gb469) (o := .cells #[.int .i64 a0_0, .int .i64 a0_1, .int .i64 a0_2, .int .i64 a0_3, .string a0_4] 33 (0, 0)) (bk_ BK469)) : gb469 ≠ gb491))
     have n9_ := Aside0.mk ((by rw [hg]; exact Nat.ne_of_gt (blk_lt (g := gb469) (o := .cells #[.int .i64 a0_0, .int .i64 a0_1, .int .i64 a0_2, .int .i64 a0_3, .string a0_4] 33 (0, 0)) (bk_ BK469)) : gb491 ≠ gb469))
     have n10_ := Aside0.mk ((by rw [hg]; exact Nat.ne_of_lt (blk_lt (g := gb470) (o := .cells #[.int .i64 a1_0, .int .i64 a1_1, .int .i64 a1_2, .int .i64 a1_3, .string a1_4] 33 (0, 0)) (bk_ BK470)) : gb470 ≠ gb491))
     have n11_ := Aside0.mk ((by rw [hg]; exact Nat.ne_of_gt (blk_lt (g := gb470) (o := .cells #[.int .i64 a1_0, .int .i64 a1_1, .int .i64 a1_2, .int .i64 a1_3, .string a1_4] 33 (0, 0)) (bk_ BK470)) : gb491 ≠ gb470))
     have n12_ := Aside0.mk ((by rw [hg]; exact Nat.ne_of_lt (blk_lt (g := gb471) (o := .cells #[.int .i64 0, .int .i64 0, .int .i64 0] 29 (0, 0)) (bk_ BK471)) : gb471 ≠ gb491))
     have n13_ := Aside0.mk ((by rw [hg]; exact Nat.ne_of_gt (blk_lt (g := gb471) (o := .cells #[.int .i64 0, .int .i64 0, .int .i64 0] 29 (0, 0)) (bk_ BK471)) : gb491 ≠ gb471))
     have n14_ := Aside0.mk ((by rw [hg]; exact Nat.ne_of_lt (blk_lt (g := gb490) (o := .cells #[.int .i64 0, .int .i64 0, .int .i64 0, .int .i64 0, .string (⟨#[]⟩ : ByteArray)] 33 (0, 0)) (bk_ BK490)) : gb490 ≠ gb491))
     have n15_ := Aside0.mk ((by rw [hg]; exact Nat.ne_of_gt (blk_lt (g := gb490) (o := .cells #[.int .i64 0, .int .i64 0, .int .i64 0, .int .i64 0, .string (⟨#[]⟩ : ByteArray)] 33 (0, 0)) (bk_ BK490)) : gb491 ≠ gb490))
     clear BK469
     clear BK470
     clear BK471
     clear BK490
     clear HB
     have BK469 := n0_
     have BK470 := n1_
     have BK471 := n2_
     have BK490 := n3_
     have HB := n4_
     have BK491 := n5_
     have GW491 := n6_
     have GE491 := n7_
     have NB469_491 := n8_
     have NB491_469 := n9_
     have NB470_491 := n10_
     have NB491_470 := n11_
     have NB471_491 := n12_
     have NB491_471 := n13_
     have NB490_491 := n14_
     have NB491_490 := n15_
     clear n0_ n1_ n2_ n3_ n4_ n5_ n6_ n7_ n8_ n9_ n10_ n11_ n12_ n13_ n14_ n15_
     clear hb hbox hg
     refine hK.out _ _ ⟨(blk_cell BK469.out 0).trans rfl, (blk_cell BK469.out 1).trans rfl, (blk_cell BK469.out 2).trans rfl, (blk_cell BK469.out 3).trans rfl, (blk_cell BK469.out 4).trans rfl, (blk_cell BK470.out 0).trans rfl, (blk_cell BK470.out 1).trans rfl, (blk_cell BK470.out 2).trans rfl, (blk_cell BK470.out 3).trans rfl, (blk_cell BK470.out 4).trans rfl⟩ (fun hHeld => ?_)
     clear hK K
     refine norm_ (a' := ?_) ?_ ?_
     rotate_left
     ·show Act.put _ (some 7) _ = _
      simp only [Act.put, List.setIfInBounds_toArray, List.set_cons_zero, List.set_cons_succ, i64_w, i32_w]
      rfl
     exact norm_ (by first | (simp only [putAll, Act.put, List.setIfInBounds_toArray, List.set_cons_zero, List.set_cons_succ]; done) | (simp only [putAll, Act.put, List.setIfInBounds_toArray, List.set_cons_zero, List.set_cons_succ]; rfl)) (hJ5_7_8_9 (gb490, gb491) _ ⟨hHeld, (bk_ BK469), (bk_ BK470), (bk_ BK471), (bk_ BK490), (bk_ BK491), GW490.out, GE490.out, NB469_490.out, NB490_469.out, NB470_490.out, NB490_470.out, NB471_490.out, NB490_471.out, NB491_490.out, NB490_491.out, GW491.out, GE491.out, NB469_491.out, NB491_469.out, NB470_491.out, NB491_470.out, NB471_491.out, NB491_471.out, (hb5_ HB GE469 GE470 GE471 GE490 GE491)⟩)
   rintro ⟨gb490, gb491⟩ w50 ⟨hS_, h0_, h1_, h2_, h3_, h4_, h5_, h6_, h7_, h8_, h9_, h10_, h11_, h12_, h13_, h14_, h15_, h16_, h17_, h18_, h19_, h20_, h21_, h22_, h23_⟩
   have n0_ : Aside0 (w50.heap[gb469]? = some (.cells #[.int .i64 a0_0, .int .i64 a0_1, .int .i64 a0_2, .int .i64 a0_3, .string a0_4] 33 (0, 0))) := ⟨h0_⟩
   have n1_ : Aside0 (w50.heap[gb470]? = some (.cells #[.int .i64 a1_0, .int .i64 a1_1, .int .i64 a1_2, .int .i64 a1_3, .string a1_4] 33 (0, 0))) := ⟨h1_⟩
   have n2_ : Aside0 (w50.heap[gb471]? = some (.cells #[.int .i64 0, .int .i64 0, .int .i64 0] 29 (0, 0))) := ⟨h2_⟩
   have n3_ : Aside0 (w50.heap[gb490]? = some (.cells #[.int .i64 0, .int .i64 0, .int .i64 0, .int .i64 0, .string (⟨#[]⟩ : ByteArray)] 33 (0, 0))) := ⟨h3_⟩
   have n4_ : Aside0 (w50.heap[gb491]? = some (.cells #[.int .i64 0, .int .i64 0, .int .i64 0, .int .i64 0, .string (⟨#[]⟩ : ByteArray)] 33 (0, 0))) := ⟨h4_⟩
   have n5_ : Aside0 (w.heap.size ≤ gb490) := ⟨h5_⟩
   have n6_ : Aside0 (w.heap.size ≤ gb490) := ⟨h6_⟩
   have n7_ : Aside0 (gb469 ≠ gb490) := ⟨h7_⟩
   have n8_ : Aside0 (gb490 ≠ gb469) := ⟨h8_⟩
   have n9_ : Aside0 (gb470 ≠ gb490) := ⟨h9_⟩
   have n10_ : Aside0 (gb490 ≠ gb470) := ⟨h10_⟩
   have n11_ : Aside0 (gb471 ≠ gb490) := ⟨h11_⟩
   have n12_ : Aside0 (gb490 ≠ gb471) := ⟨h12_⟩
   have n13_ : Aside0 (gb491 ≠ gb490) := ⟨h13_⟩
   have n14_ : Aside0 (gb490 ≠ gb491) := ⟨h14_⟩
   have n15_ : Aside0 (w.heap.size ≤ gb491) := ⟨h15_⟩
   have n16_ : Aside0 (w.heap.size ≤ gb491) := ⟨h16_⟩
   have n17_ : Aside0 (gb469 ≠ gb491) := ⟨h17_⟩
   have n18_ : Aside0 (gb491 ≠ gb469) := ⟨h18_⟩
   have n19_ : Aside0 (gb470 ≠ gb491) := ⟨h19_⟩
   have n20_ : Aside0 (gb491 ≠ gb470) := ⟨h20_⟩
   have n21_ : Aside0 (gb471 ≠ gb491) := ⟨h21_⟩
   have n22_ : Aside0 (gb491 ≠ gb471) := ⟨h22_⟩
   have n23_ : Aside0 (Below w.heap.size w w50) := ⟨h23_⟩
   clear BK469
   clear BK470
   clear BK471
   clear HB
   clear h0_ h1_ h2_ h3_ h4_ h5_ h6_ h7_ h8_ h9_ h10_ h11_ h12_ h13_ h14_ h15_ h16_ h17_ h18_ h19_ h20_ h21_ h22_ h23_
   have BK469 := n0_
   have BK470 := n1_
   have BK471 := n2_
   have BK490 := n3_
   have BK491 := n4_
   have GW490 := n5_
   have GE490 := n6_
   have NB469_490 := n7_
   have NB490_469 := n8_
   have NB470_490 := n9_
   have NB490_470 := n10_
   have NB471_490 := n11_
   have NB490_471 := n12_
   have NB491_490 := n13_
   have NB490_491 := n14_
   have GW491 := n15_
   have GE491 := n16_
   have NB469_491 := n17_
   have NB491_469 := n18_
   have NB470_491 := n19_
   have NB491_470 := n20_
   have NB471_491 := n21_
   have NB491_471 := n22_
   have HB := n23_
   clear n0_ n1_ n2_ n3_ n4_ n5_ n6_ n7_ n8_ n9_ n10_ n11_ n12_ n13_ n14_ n15_ n16_ n17_ n18_ n19_ n20_ n21_ n22_ n23_
   have hHeld : w50.cell? ⟨gb469, 0, none⟩ = some (.int .i64 a0_0) ∧ w50.cell? ⟨gb469, 1, none⟩ = some (.int .i64 a0_1) ∧ w50.cell? ⟨gb469, 2, none⟩ = some (.int .i64 a0_2) ∧ w50.cell? ⟨gb469, 3, none⟩ = some (.int .i64 a0_3) ∧ w50.cell? ⟨gb469, 4, none⟩ = some (.string a0_4) ∧ w50.cell? ⟨gb470, 0, none⟩ = some (.int .i64 a1_0) ∧ w50.cell? ⟨gb470, 1, none⟩ = some (.int .i64 a1_1) ∧ w50.cell? ⟨gb470, 2, none⟩ = some (.int .i64 a1_2) ∧ w50.cell? ⟨gb470, 3, none⟩ = some (.int .i64 a1_3) ∧ w50.cell? ⟨gb470, 4, none⟩ = some (.string a1_4) := hS_
   refine norm_ (a' := ?_) ?_ ?_
   rotate_left
   ·simp only [putAll, Act.put, List.setIfInBounds_toArray, List.set_cons_zero, List.set_cons_succ]
    rfl
   refine one_ (i := 10) (N := none) #[true, true, true, true, true, true, true, true, true, true, true, false] rfl rfl (one_of HT_.out (by kernel_rfl)) (by decide) (fun K hK => ?_)
   have hs51 : w50.cell? ⟨gb490, 0, none⟩ = some (.int .i64 0) := (blk_cell BK490.out 0).trans rfl
   have hfs51 := blk_frozen BK490.out 0
   have hns51_0 := NB469_490.out
   have hns51_1 := NB470_490.out
   have hns51_2 := NB471_490.out
   have hns51_4 := NB491_490.out
   have hms51_0 := NB490_469.out
   have hms51_1 := NB490_470.out
   have hms51_2 := NB490_471.out
   have hms51_4 := NB490_491.out
   have hs52 : w50.cell? ⟨gb490, 1, none⟩ = some (.int .i64 0) := (blk_cell BK490.out 1).trans rfl
   have hfs52 := blk_frozen BK490.out 1
   have hns52_0 := NB469_490.out
   have hns52_1 := NB470_490.out
   have hns52_2 := NB471_490.out
   have hns52_4 := NB491_490.out
   have hms52_0 := NB490_469.out
   have hms52_1 := NB490_470.out
   have hms52_2 := NB490_471.out
   have hms52_4 := NB490_491.out
   have hs53 : w50.cell? ⟨gb490, 2, none⟩ = some (.int .i64 0) := (blk_cell BK490.out 2).trans rfl
   have hfs53 := blk_frozen BK490.out 2
   have hns53_0 := NB469_490.out
   have hns53_1 := NB470_490.out
   have hns53_2 := NB471_490.out
   have hns53_4 := NB491_490.out
   have hms53_0 := NB490_469.out
   have hms53_1 := NB490_470.out
   have hms53_2 := NB490_471.out
   have hms53_4 := NB490_491.out
   have hs54 : w50.cell? ⟨gb490, 3, none⟩ = some (.int .i64 0) := (blk_cell BK490.out 3).trans rfl
   have hfs54 := blk_frozen BK490.out 3
   have hns54_0 := NB469_490.out
   have hns54_1 := NB470_490.out
   have hns54_2 := NB471_490.out
   have hns54_4 := NB491_490.out
   have hms54_0 := NB490_469.out
   have hms54_1 := NB490_470.out
   have hms54_2 := NB490_471.out
   have hms54_4 := NB490_491.out
   have hs55 : w50.cell? ⟨gb490, 4, none⟩ = some (.string (⟨#[]⟩ : ByteArray)) := (blk_cell BK490.out 4).trans rfl
   have hfs55 := blk_frozen BK490.out 4
   have hns55_0 := NB469_490.out
   have hns55_1 := NB470_490.out
   have hns55_2 := NB471_490.out
   have hns55_4 := NB491_490.out
   have hms55_0 := NB490_469.out
   have hms55_1 := NB490_470.out
   have hms55_2 := NB490_471.out
   have hms55_4 := NB490_491.out
   refine skip_ (w1 := ?_) (by rfl) rfl ?_ ?_
   rotate_left
   ·go_simp
    rfl
   refine hK.out _ _ ⟨((cell_far (p := ⟨gb490, _, none⟩) NB469_490.out _).trans (((cell_far (p := ⟨gb490, _, none⟩) NB469_490.out _).trans (((cell_far (p := ⟨gb490, _, none⟩) NB469_490.out _).trans (((cell_far (p := ⟨gb490, _, none⟩) NB469_490.out _).trans (((cell_far (p := ⟨gb490, _, none⟩) NB469_490.out _).trans (hHeld.1)))))))))), ((cell_far (p := ⟨gb490, _, none⟩) NB469_490.out _).trans (((cell_far (p := ⟨gb490, _, none⟩) NB469_490.out _).trans (((cell_far (p := ⟨gb490, _, none⟩) NB469_490.out _).trans (((cell_far (p := ⟨gb490, _, none⟩) NB469_490.out _).trans (((cell_far (p := ⟨gb490, _, none⟩) NB469_490.out _).trans (hHeld.2.1)))))))))), ((cell_far (p := ⟨gb490, _, none⟩) NB469_490.out _).trans (((cell_far (p := ⟨gb490, _, none⟩) NB469_490.out _).trans (((cell_far (p := ⟨gb490, _, none⟩) NB469_490.out _).trans (((cell_far (p := ⟨gb490, _, none⟩) NB469_490.out _).trans (((cell_far (p := ⟨gb490, _, none⟩) NB469_490.out _).trans (hHeld.2.2.1)))))))))), ((cell_far (p := ⟨gb490, _, none⟩) NB469_490.out _).trans (((cell_far (p := ⟨gb490, _, none⟩) NB469_490.out _).trans (((cell_far (p := ⟨gb490, _, none⟩) NB469_490.out _).trans (((cell_far (p := ⟨gb490, _, none⟩) NB469_490.out _).trans (((cell_far (p := ⟨gb490, _, none⟩) NB469_490.out _).trans (hHeld.2.2.2.1)))))))))), ((cell_far (p := ⟨gb490, _, none⟩) NB469_490.out _).trans (((cell_far (p := ⟨gb490, _, none⟩) NB469_490.out _).trans (((cell_far (p := ⟨gb490, _, none⟩) NB469_490.out _).trans (((cell_far (p := ⟨gb490, _, none⟩) NB469_490.out _).trans (((cell_far (p := ⟨gb490, _, none⟩) NB469_490.out _).trans (hHeld.2.2.2.2.1)))))))))), ((cell_far (p := ⟨gb490, _, none⟩) NB470_490.out _).trans (((cell_far (p := ⟨gb490, _, none⟩) NB470_490.out _).trans (((cell_far (p := ⟨gb490, _, none⟩) NB470_490.out _).trans (((cell_far (p := ⟨gb490, _, none⟩) NB470_490.out _).trans (((cell_far (p := ⟨gb490, _, none⟩) NB470_490.out _).trans (hHeld.2.2.2.2.2.1)))))))))), ((cell_far (p := ⟨gb490, _, none⟩) NB470_490.out _).trans (((cell_far (p := ⟨gb490, _, none⟩) NB470_490.out _).trans (((cell_far (p := ⟨gb490, _, none⟩) NB470_490.out _).trans (((cell_far (p := ⟨gb490, _, none⟩) NB470_490.out _).trans (((cell_far (p := ⟨gb490, _, none⟩) NB470_490.out _).trans (hHeld.2.2.2.2.2.2.1)))))))))), ((cell_far (p := ⟨gb490, _, none⟩) NB470_490.out _).trans (((cell_far (p := ⟨gb490, _, none⟩) NB470_490.out _).trans (((cell_far (p := ⟨gb490, _, none⟩) NB470_490.out _).trans (((cell_far (p := ⟨gb490, _, none⟩) NB470_490.out _).trans (((cell_far (p := ⟨gb490, _, none⟩) NB470_490.out _).trans (hHeld.2.2.2.2.2.2.2.1)))))))))), ((cell_far (p := ⟨gb490, _, none⟩) NB470_490.out _).trans (((cell_far (p := ⟨gb490, _, none⟩) NB470_490.out _).trans (((cell_far (p := ⟨gb490, _, none⟩) NB470_490.out _).trans (((cell_far (p := ⟨gb490, _, none⟩) NB470_490.out _).trans (((cell_far (p := ⟨gb490, _, none⟩) NB470_490.out _).trans (hHeld.2.2.2.2.2.2.2.2.1)))))))))), ((cell_far (p := ⟨gb490, _, none⟩) NB470_490.out _).trans (((cell_far (p := ⟨gb490, _, none⟩) NB470_490.out _).trans (((cell_far (p := ⟨gb490, _, none⟩) NB470_490.out _).trans (((cell_far (p := ⟨gb490, _, none⟩) NB470_490.out _).trans (((cell_far (p := ⟨gb490, _, none⟩) NB470_490.out _).trans (hHeld.2.2.2.2.2.2.2.2.2))))))))))⟩ (fun hHeld => ?_)
   clear hK K
   refine one_ (i := 11) (N := none) #[true, true, true, true, true, true, true, true, true, true, true, true] rfl rfl (one_of HT_.out (by kernel_rfl)) (by decide) (fun K hK => ?_)
   have hs56 : w50.cell? ⟨gb491, 0, none⟩ = some (.int .i64 0) := (blk_cell BK491.out 0).trans rfl
   have hfs56 := blk_frozen BK491.out 0
   have hns56_0 := NB469_491.out
   have hns56_1 := NB470_491.out
   have hns56_2 := NB471_491.out
   have hns56_3 := NB490_491.out
   have hms56_0 := NB491_469.out
   have hms56_1 := NB491_470.out
   have hms56_2 := NB491_471.out
   have hms56_3 := NB491_490.out
   have hs57 : w50.cell? ⟨gb491, 1, none⟩ = some (.int .i64 0) := (blk_cell BK491.out 1).trans rfl
   have hfs57 := blk_frozen BK491.out 1
   have hns57_0 := NB469_491.out
   have hns57_1 := NB470_491.out
   have hns57_2 := NB471_491.out
   have hns57_3 := NB490_491.out
   have hms57_0 := NB491_469.out
   have hms57_1 := NB491_470.out
   have hms57_2 := NB491_471.out
   have hms57_3 := NB491_490.out
   have hs58 : w50.cell? ⟨gb491, 2, none⟩ = some (.int .i64 0) := (blk_cell BK491.out 2).trans rfl
   have hfs58 := blk_frozen BK491.out 2
   have hns58_0 := NB469_491.out
   have hns58_1 := NB470_491.out
   have hns58_2 := NB471_491.out
   have hns58_3 := NB490_491.out
   have hms58_0 := NB491_469.out
   have hms58_1 := NB491_470.out
   have hms58_2 := NB491_471.out
   have hms58_3 := NB491_490.out
   have hs59 : w50.cell? ⟨gb491, 3, none⟩ = some (.int .i64 0) := (blk_cell BK491.out 3).trans rfl
   have hfs59 := blk_frozen BK491.out 3
   have hns59_0 := NB469_491.out
   have hns59_1 := NB470_491.out
   have hns59_2 := NB471_491.out
   have hns59_3 := NB490_491.out
   have hms59_0 := NB491_469.out
   have hms59_1 := NB491_470.out
   have hms59_2 := NB491_471.out
   have hms59_3 := NB491_490.out
   have hs60 : w50.cell? ⟨gb491, 4, none⟩ = some (.string (⟨#[]⟩ : ByteArray)) := (blk_cell BK491.out 4).trans rfl
   have hfs60 := blk_frozen BK491.out 4
   have hns60_0 := NB469_491.out
   have hns60_1 := NB470_491.out
   have hns60_2 := NB471_491.out
   have hns60_3 := NB490_491.out
   have hms60_0 := NB491_469.out
   have hms60_1 := NB491_470.out
   have hms60_2 := NB491_471.out
   have hms60_3 := NB491_490.out
   refine skip_ (w1 := ?_) (by rfl) rfl ?_ ?_
   rotate_left
   ·go_simp
    rfl
   refine hK.out _ _ ⟨((cell_far (p := ⟨gb491, _, none⟩) NB469_491.out _).trans (((cell_far (p := ⟨gb491, _, none⟩) NB469_491.out _).trans (((cell_far (p := ⟨gb491, _, none⟩) NB469_491.out _).trans (((cell_far (p := ⟨gb491, _, none⟩) NB469_491.out _).trans (((cell_far (p := ⟨gb491, _, none⟩) NB469_491.out _).trans (hHeld.1)))))))))), ((cell_far (p := ⟨gb491, _, none⟩) NB469_491.out _).trans (((cell_far (p := ⟨gb491, _, none⟩) NB469_491.out _).trans (((cell_far (p := ⟨gb491, _, none⟩) NB469_491.out _).trans (((cell_far (p := ⟨gb491, _, none⟩) NB469_491.out _).trans (((cell_far (p := ⟨gb491, _, none⟩) NB469_491.out _).trans (hHeld.2.1)))))))))), ((cell_far (p := ⟨gb491, _, none⟩) NB469_491.out _).trans (((cell_far (p := ⟨gb491, _, none⟩) NB469_491.out _).trans (((cell_far (p := ⟨gb491, _, none⟩) NB469_491.out _).trans (((cell_far (p := ⟨gb491, _, none⟩) NB469_491.out _).trans (((cell_far (p := ⟨gb491, _, none⟩) NB469_491.out _).trans (hHeld.2.2.1)))))))))), ((cell_far (p := ⟨gb491, _, none⟩) NB469_491.out _).trans (((cell_far (p := ⟨gb491, _, none⟩) NB469_491.out _).trans (((cell_far (p := ⟨gb491, _, none⟩) NB469_491.out _).trans (((cell_far (p := ⟨gb491, _, none⟩) NB469_491.out _).trans (((cell_far (p := ⟨gb491, _, none⟩) NB469_491.out _).trans (hHeld.2.2.2.1)))))))))), ((cell_far (p := ⟨gb491, _, none⟩) NB469_491.out _).trans (((cell_far (p := ⟨gb491, _, none⟩) NB469_491.out _).trans (((cell_far (p := ⟨gb491, _, none⟩) NB469_491.out _).trans (((cell_far (p := ⟨gb491, _, none⟩) NB469_491.out _).trans (((cell_far (p := ⟨gb491, _, none⟩) NB469_491.out _).trans (hHeld.2.2.2.2.1)))))))))), ((cell_far (p := ⟨gb491, _, none⟩) NB470_491.out _).trans (((cell_far (p := ⟨gb491, _, none⟩) NB470_491.out _).trans (((cell_far (p := ⟨gb491, _, none⟩) NB470_491.out _).trans (((cell_far (p := ⟨gb491, _, none⟩) NB470_491.out _).trans (((cell_far (p := ⟨gb491, _, none⟩) NB470_491.out _).trans (hHeld.2.2.2.2.2.1)))))))))), ((cell_far (p := ⟨gb491, _, none⟩) NB470_491.out _).trans (((cell_far (p := ⟨gb491, _, none⟩) NB470_491.out _).trans (((cell_far (p := ⟨gb491, _, none⟩) NB470_491.out _).trans (((cell_far (p := ⟨gb491, _, none⟩) NB470_491.out _).trans (((cell_far (p := ⟨gb491, _, none⟩) NB470_491.out _).trans (hHeld.2.2.2.2.2.2.1)))))))))), ((cell_far (p := ⟨gb491, _, none⟩) NB470_491.out _).trans (((cell_far (p := ⟨gb491, _, none⟩) NB470_491.out _).trans (((cell_far (p := ⟨gb491, _, none⟩) NB470_491.out _).trans (((cell_far (p := ⟨gb491, _, none⟩) NB470_491.out _).trans (((cell_far (p := ⟨gb491, _, none⟩) NB470_491.out _).trans (hHeld.2.2.2.2.2.2.2.1)))))))))), ((cell_far (p := ⟨gb491, _, none⟩) NB470_491.out _).trans (((cell_far (p := ⟨gb491, _, none⟩) NB470_491.out _).trans (((cell_far (p := ⟨gb491, _, none⟩) NB470_491.out _).trans (((cell_far (p := ⟨gb491, _, none⟩) NB470_491.out _).trans (((cell_far (p := ⟨gb491, _, none⟩) NB470_491.out _).trans (hHeld.2.2.2.2.2.2.2.2.1)))))))))), ((cell_far (p := ⟨gb491, _, none⟩) NB470_491.out _).trans (((cell_far (p := ⟨gb491, _, none⟩) NB470_491.out _).trans (((cell_far (p := ⟨gb491, _, none⟩) NB470_491.out _).trans (((cell_far (p := ⟨gb491, _, none⟩) NB470_491.out _).trans (((cell_far (p := ⟨gb491, _, none⟩) NB470_491.out _).trans (hHeld.2.2.2.2.2.2.2.2.2))))))))))⟩ (fun hHeld => ?_)
   clear hK K
   refine done_ (done_of HT_.out (by kernel_rfl)) ?_
   have hnb61 := NB470_490.out
   have hnc61 := NB490_470.out
   have hnb62 := NB470_491.out
   have hnc62 := NB491_470.out
   have hcz63_0 : w50.cell? ⟨gb470, 0, none⟩ = some (.int .i64 a1_0) := (blk_cell BK470.out 0).trans rfl
   have hcz63_1 : w50.cell? ⟨gb470, 1, none⟩ = some (.int .i64 a1_1) := (blk_cell BK470.out 1).trans rfl
   have hcz63_2 : w50.cell? ⟨gb470, 2, none⟩ = some (.int .i64 a1_2) := (blk_cell BK470.out 2).trans rfl
   have hcz63_3 : w50.cell? ⟨gb470, 3, none⟩ = some (.int .i64 a1_3) := (blk_cell BK470.out 3).trans rfl
   have hcz63_4 : w50.cell? ⟨gb470, 4, none⟩ = some (.string a1_4) := (blk_cell BK470.out 4).trans rfl
   have hfz63_0 := blk_frozen BK470.out 0
   have hfz63_1 := blk_frozen BK470.out 1
   have hfz63_2 := blk_frozen BK470.out 2
   have hfz63_3 := blk_frozen BK470.out 3
   have hfz63_4 := blk_frozen BK470.out 4
   have hnb64 := NB469_490.out
   have hnc64 := NB490_469.out
   have hnb65 := NB469_491.out
   have hnc65 := NB491_469.out
   have hcz66_0 : w50.cell? ⟨gb469, 0, none⟩ = some (.int .i64 a0_0) := (blk_cell BK469.out 0).trans rfl
   have hcz66_1 : w50.cell? ⟨gb469, 1, none⟩ = some (.int .i64 a0_1) := (blk_cell BK469.out 1).trans rfl
   have hcz66_2 : w50.cell? ⟨gb469, 2, none⟩ = some (.int .i64 a0_2) := (blk_cell BK469.out 2).trans rfl
   have hcz66_3 : w50.cell? ⟨gb469, 3, none⟩ = some (.int .i64 a0_3) := (blk_cell BK469.out 3).trans rfl
   have hcz66_4 : w50.cell? ⟨gb469, 4, none⟩ = some (.string a0_4) := (blk_cell BK469.out 4).trans rfl
   have hfz66_0 := blk_frozen BK469.out 0
   have hfz66_1 := blk_frozen BK469.out 1
   have hfz66_2 := blk_frozen BK469.out 2
   have hfz66_3 := blk_frozen BK469.out 3
   have hfz66_4 := blk_frozen BK469.out 4
   have hnb67 := NB490_471.out
   have hnc67 := NB471_490.out
   have hnb68 := NB490_491.out
   have hnc68 := NB491_490.out
   have hcz69_0 : w50.cell? ⟨gb490, 0, none⟩ = some (.int .i64 0) := (blk_cell BK490.out 0).trans rfl
   have hcz69_1 : w50.cell? ⟨gb490, 1, none⟩ = some (.int .i64 0) := (blk_cell BK490.out 1).trans rfl
   have hcz69_2 : w50.cell? ⟨gb490, 2, none⟩ = some (.int .i64 0) := (blk_cell BK490.out 2).trans rfl
   have hcz69_3 : w50.cell? ⟨gb490, 3, none⟩ = some (.int .i64 0) := (blk_cell BK490.out 3).trans rfl
   have hcz69_4 : w50.cell? ⟨gb490, 4, none⟩ = some (.string (⟨#[]⟩ : ByteArray)) := (blk_cell BK490.out 4).trans rfl
   have hfz69_0 := blk_frozen BK490.out 0
   have hfz69_1 := blk_frozen BK490.out 1
   have hfz69_2 := blk_frozen BK490.out 2
   have hfz69_3 := blk_frozen BK490.out 3
   have hfz69_4 := blk_frozen BK490.out 4
   try go_wp2_with (first | ((with_reducible refine gate_store (t := 3) (p := 48) rfl ?_); refine store_event (t := 3) (p := 48) (v := ?vo_w70) (w1 := (((((((((((w50.setCell ⟨gb490, 0, none⟩ (.int .i64 a0_0)).setCell ⟨gb490, 1, none⟩ (.int .i64 a0_1)).setCell ⟨gb490, 2, none⟩ (.int .i64 a0_2)).setCell ⟨gb490, 3, none⟩ (.int .i64 a0_3)).setCell ⟨gb490, 4, none⟩ (.string a0_4)).setCell ⟨gb491, 0, none⟩ (.int .i64 t485)).setCell ⟨gb491, 1, none⟩ (.int .i64 t486)).setCell ⟨gb491, 2, none⟩ (.int .i64 t487)).setCell ⟨gb491, 3, none⟩ (.int .i64 t488)).setCell ⟨gb491, 4, none⟩ (.string t489)).setCell ⟨gb490, 3, none⟩ (.int .i64 (wrap64 (a1_2 - a0_2))))) ?hg ?ho ?hn ?hr ?_; (case ho => rfl); (case hg => rfl); (case hn => rfl); (case hr => first | (go_simp; done) | (go_simp; rfl)); intro w70 hw; have n0_ : Aside0 (w70.heap[gb469]? = some (.cells #[.int .i64 a0_0, .int .i64 a0_1, .int .i64 a0_2, .int .i64 a0_3, .string a0_4] 33 (0, 0))) := ⟨(by rw [hw]; exact (by (with_reducible repeat (first | refine blk_drewN ?_ _ | refine blk_drew ?_ | refine blk_alloc ?_ _)); refine blk_far ?_ NB469_490.out _; (with_reducible repeat (first | refine blk_drewN ?_ _ | refine blk_drew ?_ | refine blk_alloc ?_ _)); refine blk_far ?_ NB469_491.out _; (with_reducible repeat (first | refine blk_drewN ?_ _ | refine blk_drew ?_ | refine blk_alloc ?_ _)); refine blk_far ?_ NB469_491.out _; (with_reducible repeat (first | refine blk_drewN ?_ _ | refine blk_drew ?_ | refine blk_alloc ?_ _)); refine blk_far ?_ NB469_491.out _; (with_reducible repeat (first | refine blk_drewN ?_ _ | refine blk_drew ?_ | refine blk_alloc ?_ _)); refine blk_far ?_ NB469_491.out _; (with_reducible repeat (first | refine blk_drewN ?_ _ | refine blk_drew ?_ | refine blk_alloc ?_ _)); refine blk_far ?_ NB469_491.out _; (with_reducible repeat (first | refine blk_drewN ?_ _ | refine blk_drew ?_ | refine blk_alloc ?_ _)); refine blk_far ?_ NB469_490.out _; (with_reducible repeat (first | refine blk_drewN ?_ _ | refine blk_drew ?_ | refine blk_alloc ?_ _)); refine blk_far ?_ NB469_490.out _; (with_reducible repeat (first | refine blk_drewN ?_ _ | refine blk_drew ?_ | refine blk_alloc ?_ _)); refine blk_far ?_ NB469_490.out _; (with_reducible repeat (first | refine blk_drewN ?_ _ | refine blk_drew ?_ | refine blk_alloc ?_ _)); refine blk_far ?_ NB469_490.out _; (with_reducible repeat (first | refine blk_drewN ?_ _ | refine blk_drew ?_ | refine blk_alloc ?_ _)); refine blk_far ?_ NB469_490.out _; (with_reducible repeat (first | refine blk_drewN ?_ _ | refine blk_drew ?_ | refine blk_alloc ?_ _)); exact BK469.out))⟩; have n1_ : Aside0 (w70.heap[gb470]? = some (.cells #[.int .i64 a1_0, .int .i64 a1_1, .int .i64 a1_2, .int .i64 a1_3, .string a1_4] 33 (0, 0))) := ⟨(by rw [hw]; exact (by (with_reducible repeat (first | refine blk_drewN ?_ _ | refine blk_drew ?_ | refine blk_alloc ?_ _)); refine blk_far ?_ NB470_490.out _; (with_reducible repeat (first | refine blk_drewN ?_ _ | refine blk_drew ?_ | refine blk_alloc ?_ _)); refine blk_far ?_ NB470_491.out _; (with_reducible repeat (first | refine blk_drewN ?_ _ | refine blk_drew ?_ | refine blk_alloc ?_ _)); refine blk_far ?_ NB470_491.out _; (with_reducible repeat (first | refine blk_drewN ?_ _ | refine blk_drew ?_ | refine blk_alloc ?_ _)); refine blk_far ?_ NB470_491.out _; (with_reducible repeat (first | refine blk_drewN ?_ _ | refine blk_drew ?_ | refine blk_alloc ?_ _)); refine blk_far ?_ NB470_491.out _; (with_reducible repeat (first | refine blk_drewN ?_ _ | refine blk_drew ?_ | refine blk_alloc ?_ _)); refine blk_far ?_ NB470_491.out _; (with_reducible repeat (first | refine blk_drewN ?_ _ | refine blk_drew ?_ | refine blk_alloc ?_ _)); refine blk_far ?_ NB470_490.out _; (with_reducible repeat (first | refine blk_drewN ?_ _ | refine blk_drew ?_ | refine blk_alloc ?_ _)); refine blk_far ?_ NB470_490.out _; (with_reducible repeat (first | refine blk_drewN ?_ _ | refine blk_drew ?_ | refine blk_alloc ?_ _)); refine blk_far ?_ NB470_490.out _; (with_reducible repeat (first | refine blk_drewN ?_ _ | refine blk_drew ?_ | refine blk_alloc ?_ _)); refine blk_far ?_ NB470_490.out _; (with_reducible repeat (first | refine blk_drewN ?_ _ | refine blk_drew ?_ | refine blk_alloc ?_ _)); refine blk_far ?_ NB470_490.out _; (with_reducible repeat (first | refine blk_drewN ?_ _ | refine blk_drew ?_ | refine blk_alloc ?_ _)); exact BK470.out))⟩; have n2_ : Aside0 (w70.heap[gb471]? = some (.cells #[.int .i64 0, .int .i64 0, .int .i64 0] 29 (0, 0))) := ⟨(by rw [hw]; exact (by (with_reducible repeat (first | refine blk_drewN ?_ _ | refine blk_drew ?_ | refine blk_alloc ?_ _)); refine blk_far ?_ NB471_490.out _; (with_reducible repeat (first | refine blk_drewN ?_ _ | refine blk_drew ?_ | refine blk_alloc ?_ _)); refine blk_far ?_ NB471_491.out _; (with_reducible repeat (first | refine blk_drewN ?_ _ | refine blk_drew ?_ | refine blk_alloc ?_ _)); refine blk_far ?_ NB471_491.out _; (with_reducible repeat (first | refine blk_drewN ?_ _ | refine blk_drew ?_ | refine blk_alloc ?_ _)); refine blk_far ?_ NB471_491.out _; (with_reducible repeat (first | refine blk_drewN ?_ _ | refine blk_drew ?_ | refine blk_alloc ?_ _)); refine blk_far ?_ NB471_491.out _; (with_reducible repeat (first | refine blk_drewN ?_ _ | refine blk_drew ?_ | refine blk_alloc ?_ _)); refine blk_far ?_ NB471_491.out _; (with_reducible repeat (first | refine blk_drewN ?_ _ | refine blk_drew ?_ | refine blk_alloc ?_ _)); refine blk_far ?_ NB471_490.out _; (with_reducible repeat (first | refine blk_drewN ?_ _ | refine blk_drew ?_ | refine blk_alloc ?_ _)); refine blk_far ?_ NB471_490.out _; (with_reducible repeat (first | refine blk_drewN ?_ _ | refine blk_drew ?_ | refine blk_alloc ?_ _)); refine blk_far ?_ NB471_490.out _; (with_reducible repeat (first | refine blk_drewN ?_ _ | refine blk_drew ?_ | refine blk_alloc ?_ _)); refine blk_far ?_ NB471_490.out _; (with_reducible repeat (first | refine blk_drewN ?_ _ | refine blk_drew ?_ | refine blk_alloc ?_ _)); refine blk_far ?_ NB471_490.out _; (with_reducible repeat (first | refine blk_drewN ?_ _ | refine blk_drew ?_ | refine blk_alloc ?_ _)); exact BK471.out))⟩; have n3_ : Aside0 (w70.heap[gb490]? = some (.cells #[.int .i64 a0_0, .int .i64 a0_1, .int .i64 a0_2, .int .i64 (wrap64 (a1_2 - a0_2)), .string a0_4] 33 (0, 0))) := ⟨(by rw [hw]; exact (by (with_reducible repeat (first | refine blk_drewN ?_ _ | refine blk_drew ?_ | refine blk_alloc ?_ _)); refine blk_put (cs := #[.int .i64 a0_0, .int .i64 a0_1, .int .i64 a0_2, .int .i64 a0_3, .string a0_4]) ?_ 3 _ rfl; (with_reducible repeat (first | refine blk_drewN ?_ _ | refine blk_drew ?_ | refine blk_alloc ?_ _)); refine blk_far ?_ NB490_491.out _; (with_reducible repeat (first | refine blk_drewN ?_ _ | refine blk_drew ?_ | refine blk_alloc ?_ _)); refine blk_far ?_ NB490_491.out _; (with_reducible repeat (first | refine blk_drewN ?_ _ | refine blk_drew ?_ | refine blk_alloc ?_ _)); refine blk_far ?_ NB490_491.out _; (with_reducible repeat (first | refine blk_drewN ?_ _ | refine blk_drew ?_ | refine blk_alloc ?_ _)); refine blk_far ?_ NB490_491.out _; (with_reducible repeat (first | refine blk_drewN ?_ _ | refine blk_drew ?_ | refine blk_alloc ?_ _)); refine blk_far ?_ NB490_491.out _; (with_reducible repeat (first | refine blk_drewN ?_ _ | refine blk_drew ?_ | refine blk_alloc ?_ _)); refine blk_put (cs := #[.int .i64 a0_0, .int .i64 a0_1, .int .i64 a0_2, .int .i64 a0_3, .string (⟨#[]⟩ : ByteArray)]) ?_ 4 _ rfl; (with_reducible repeat (first | refine blk_drewN ?_ _ | refine blk_drew ?_ | refine blk_alloc ?_ _)); refine blk_put (cs := #[.int .i64 a0_0, .int .i64 a0_1, .int .i64 a0_2, .int .i64 0, .string (⟨#[]⟩ : ByteArray)]) ?_ 3 _ rfl; (with_reducible repeat (first | refine blk_drewN ?_ _ | refine blk_drew ?_ | refine blk_alloc ?_ _)); refine blk_put (cs := #[.int .i64 a0_0, .int .i64 a0_1, .int .i64 0, .int .i64 0, .string (⟨#[]⟩ : ByteArray)]) ?_ 2 _ rfl; (with_reducible repeat (first | refine blk_drewN ?_ _ | refine blk_drew ?_ | refine blk_alloc ?_ _)); refine blk_put (cs := #[.int .i64 a0_0, .int .i64 0, .int .i64 0, .int .i64 0, .string (⟨#[]⟩ : ByteArray)]) ?_ 1 _ rfl; (with_reducible repeat (first | refine blk_drewN ?_ _ | refine blk_drew ?_ | refine blk_alloc ?_ _)); refine blk_put (cs := #[.int .i64 0, .int .i64 0, .int .i64 0, .int .i64 0, .string (⟨#[]⟩ : ByteArray)]) ?_ 0 _ rfl; (with_reducible repeat (first | refine blk_drewN ?_ _ | refine blk_drew ?_ | refine blk_alloc ?_ _)); exact BK490.out))⟩; have n4_ : Aside0 (w70.heap[gb491]? = some (.cells #[.int .i64 t485, .int .i64 t486, .int .i64 t487, .int .i64 t488, .string t489] 33 (0, 0))) := ⟨(by rw [hw]; exact (by (with_reducible repeat (first | refine blk_drewN ?_ _ | refine blk_drew ?_ | refine blk_alloc ?_ _)); refine blk_far ?_ NB491_490.out _; (with_reducible repeat (first | refine blk_drewN ?_ _ | refine blk_drew ?_ | refine blk_alloc ?_ _)); refine blk_put (cs := #[.int .i64 t485, .int .i64 t486, .int .i64 t487, .int .i64 t488, .string (⟨#[]⟩ : ByteArray)]) ?_ 4 _ rfl; (with_reducible repeat (first | refine blk_drewN ?_ _ | refine blk_drew ?_ | refine blk_alloc ?_ _)); refine blk_put (cs := #[.int .i64 t485, .int .i64 t486, .int .i64 t487, .int .i64 0, .string (⟨#[]⟩ : ByteArray)]) ?_ 3 _ rfl; (with_reducible repeat (first | refine blk_drewN ?_ _ | refine blk_drew ?_ | refine blk_alloc ?_ _)); refine blk_put (cs := #[.int .i64 t485, .int .i64 t486, .int .i64 0, .int .i64 0, .string (⟨#[]⟩ : ByteArray)]) ?_ 2 _ rfl; (with_reducible repeat (first | refine blk_drewN ?_ _ | refine blk_drew ?_ | refine blk_alloc ?_ _)); refine blk_put (cs := #[.int .i64 t485, .int .i64 0, .int .i64 0, .int .i64 0, .string (⟨#[]⟩ : ByteArray)]) ?_ 1 _ rfl; (with_reducible repeat (first | refine blk_drewN ?_ _ | refine blk_drew ?_ | refine blk_alloc ?_ _)); refine blk_put (cs := #[.int .i64 0, .int .i64 0, .int .i64 0, .int .i64 0, .string (⟨#[]⟩ : ByteArray)]) ?_ 0 _ rfl; (with_reducible repeat (first | refine blk_drewN ?_ _ | refine blk_drew ?_ | refine blk_alloc ?_ _)); refine blk_far ?_ NB491_490.out _; (with_reducible repeat (first | refine blk_drewN ?_ _ | refine blk_drew ?_ | refine blk_alloc ?_ _)); refine blk_far ?_ NB491_490.out _; (with_reducible repeat (first | refine blk_drewN ?_ _ | refine blk_drew ?_ | refine blk_alloc ?_ _)); refine blk_far ?_ NB491_490.out _; (with_reducible repeat (first | refine blk_drewN ?_ _ | refine blk_drew ?_ | refine blk_alloc ?_ _)); refine blk_far ?_ NB491_490.out _; (with_reducible repeat (first | refine blk_drewN ?_ _ | refine blk_drew ?_ | refine blk_alloc ?_ _)); refine blk_far ?_ NB491_490.out _; (with_reducible repeat (first | refine blk_drewN ?_ _ | refine blk_drew ?_ | refine blk_alloc ?_ _)); exact BK491.out))⟩; have n5_ : Aside0 (Below w.heap.size w w70) := ⟨(by rw [hw]; exact (hb5_ HB GE469 GE470 GE471 GE490 GE491))⟩; clear hw; clear BK469; clear BK470; clear BK471; clear BK490; clear BK491; clear HB; have BK469 := n0_; have BK470 := n1_; have BK471 := n2_; have BK490 := n3_; have BK491 := n4_; have HB := n5_; clear n0_ n1_ n2_ n3_ n4_ n5_; have hcz71_0 : w70.cell? ⟨gb469, 0, none⟩ = some (.int .i64 a0_0) := (blk_cell BK469.out 0).trans rfl; have hcz71_1 : w70.cell? ⟨gb469, 1, none⟩ = some (.int .i64 a0_1) := (blk_cell BK469.out 1).trans rfl; have hcz71_2 : w70.cell? ⟨gb469, 2, none⟩ = some (.int .i64 a0_2) := (blk_cell BK469.out 2).trans rfl; have hcz71_3 : w70.cell? ⟨gb469, 3, none⟩ = some (.int .i64 a0_3) := (blk_cell BK469.out 3).trans rfl; have hcz71_4 : w70.cell? ⟨gb469, 4, none⟩ = some (.string a0_4) := (blk_cell BK469.out 4).trans rfl; have hfz71_0 := blk_frozen BK469.out 0; have hfz71_1 := blk_frozen BK469.out 1; have hfz71_2 := blk_frozen BK469.out 2; have hfz71_3 := blk_frozen BK469.out 3; have hfz71_4 := blk_frozen BK469.out 4; have hcz72_0 : w70.cell? ⟨gb490, 0, none⟩ = some (.int .i64 a0_0) := (blk_cell BK490.out 0).trans rfl; have hcz72_1 : w70.cell? ⟨gb490, 1, none⟩ = some (.int .i64 a0_1) := (blk_cell BK490.out 1).trans rfl; have hcz72_2 : w70.cell? ⟨gb490, 2, none⟩ = some (.int .i64 a0_2) := (blk_cell BK490.out 2).trans rfl; have hcz72_3 : w70.cell? ⟨gb490, 3, none⟩ = some (.int .i64 (wrap64 (a1_2 - a0_2))) := (blk_cell BK490.out 3).trans rfl; have hcz72_4 : w70.cell? ⟨gb490, 4, none⟩ = some (.string a0_4) := (blk_cell BK490.out 4).trans rfl; have hfz72_0 := blk_frozen BK490.out 0; have hfz72_1 := blk_frozen BK490.out 1; have hfz72_2 := blk_frozen BK490.out 2; have hfz72_3 := blk_frozen BK490.out 3; have hfz72_4 := blk_frozen BK490.out 4; have hnb73 := NB491_471.out; have hnc73 := NB471_491.out; have hcz74_0 : w70.cell? ⟨gb491, 0, none⟩ = some (.int .i64 t485) := (blk_cell BK491.out 0).trans rfl; have hcz74_1 : w70.cell? ⟨gb491, 1, none⟩ = some (.int .i64 t486) := (blk_cell BK491.out 1).trans rfl; have hcz74_2 : w70.cell? ⟨gb491, 2, none⟩ = some (.int .i64 t487) := (blk_cell BK491.out 2).trans rfl; have hcz74_3 : w70.cell? ⟨gb491, 3, none⟩ = some (.int .i64 t488) := (blk_cell BK491.out 3).trans rfl; have hcz74_4 : w70.cell? ⟨gb491, 4, none⟩ = some (.string t489) := (blk_cell BK491.out 4).trans rfl; have hfz74_0 := blk_frozen BK491.out 0; have hfz74_1 := blk_frozen BK491.out 1; have hfz74_2 := blk_frozen BK491.out 2; have hfz74_3 := blk_frozen BK491.out 3; have hfz74_4 := blk_frozen BK491.out 4) | ((with_reducible refine gate_store (t := 3) (p := 54) rfl ?_); refine store_event (t := 3) (p := 54) (v := ?vo_w75) (w1 := (w70.setCell ⟨gb491, 3, none⟩ (.int .i64 (wrap64 (a0_3 - (wrap64 (a1_2 - a0_2))))))) ?hg ?ho ?hn ?hr ?_; (case ho => rfl); (case hg => rfl); (case hn => rfl); (case hr => first | (go_simp; done) | (go_simp; rfl)); intro w75 hw; have n0_ : Aside0 (w75.heap[gb469]? = some (.cells #[.int .i64 a0_0, .int .i64 a0_1, .int .i64 a0_2, .int .i64 a0_3, .string a0_4] 33 (0, 0))) := ⟨(by rw [hw]; exact (by (with_reducible repeat (first | refine blk_drewN ?_ _ | refine blk_drew ?_ | refine blk_alloc ?_ _)); refine blk_far ?_ NB469_491.out _; (with_reducible repeat (first | refine blk_drewN ?_ _ | refine blk_drew ?_ | refine blk_alloc ?_ _)); exact BK469.out))⟩; have n1_ : Aside0 (w75.heap[gb470]? = some (.cells #[.int .i64 a1_0, .int .i64 a1_1, .int .i64 a1_2, .int .i64 a1_3, .string a1_4] 33 (0, 0))) := ⟨(by rw [hw]; exact (by (with_reducible repeat (first | refine blk_drewN ?_ _ | refine blk_drew ?_ | refine blk_alloc ?_ _)); refine blk_far ?_ NB470_491.out _; (with_reducible repeat (first | refine blk_drewN ?_ _ | refine blk_drew ?_ | refine blk_alloc ?_ _)); exact BK470.out))⟩; have n2_ : Aside0 (w75.heap[gb471]? = some (.cells #[.int .i64 0, .int .i64 0, .int .i64 0] 29 (0, 0))) := ⟨(by rw [hw]; exact (by (with_reducible repeat (first | refine blk_drewN ?_ _ | refine blk_drew ?_ | refine blk_alloc ?_ _)); refine blk_far ?_ NB471_491.out _; (with_reducible repeat (first | refine blk_drewN ?_ _ | refine blk_drew ?_ | refine blk_alloc ?_ _)); exact BK471.out))⟩; have n3_ : Aside0 (w75.heap[gb490]? = some (.cells #[.int .i64 a0_0, .int .i64 a0_1, .int .i64 a0_2, .int .i64 (wrap64 (a1_2 - a0_2)), .string a0_4] 33 (0, 0))) := ⟨(by rw [hw]; exact (by (with_reducible repeat (first | refine blk_drewN ?_ _ | refine blk_drew ?_ | refine blk_alloc ?_ _)); refine blk_far ?_ NB490_491.out _; (with_reducible repeat (first | refine blk_drewN ?_ _ | refine blk_drew ?_ | refine blk_alloc ?_ _)); exact BK490.out))⟩; have n4_ : Aside0 (w75.heap[gb491]? = some (.cells #[.int .i64 t485, .int .i64 t486, .int .i64 t487, .int .i64 (wrap64 (a0_3 - (wrap64 (a1_2 - a0_2)))), .string t489] 33 (0, 0))) := ⟨(by rw [hw]; exact (by (with_reducible repeat (first | refine blk_drewN ?_ _ | refine blk_drew ?_ | refine blk_alloc ?_ _)); refine blk_put (cs := #[.int .i64 t485, .int .i64 t486, .int .i64 t487, .int .i64 t488, .string t489]) ?_ 3 _ rfl; (with_reducible repeat (first | refine blk_drewN ?_ _ | refine blk_drew ?_ | refine blk_alloc ?_ _)); exact BK491.out))⟩; have n5_ : Aside0 (Below w.heap.size w w75) := ⟨(by rw [hw]; exact (hb5_ HB GE469 GE470 GE471 GE490 GE491))⟩; clear hw; clear BK469; clear BK470; clear BK471; clear BK490; clear BK491; clear HB; have BK469 := n0_; have BK470 := n1_; have BK471 := n2_; have BK490 := n3_; have BK491 := n4_; have HB := n5_; clear n0_ n1_ n2_ n3_ n4_ n5_; have hcz76_0 : w75.cell? ⟨gb491, 0, none⟩ = some (.int .i64 t485) := (blk_cell BK491.out 0).trans rfl; have hcz76_1 : w75.cell? ⟨gb491, 1, none⟩ = some (.int .i64 t486) := (blk_cell BK491.out 1).trans rfl; have hcz76_2 : w75.cell? ⟨gb491, 2, none⟩ = some (.int .i64 t487) := (blk_cell BK491.out 2).trans rfl; have hcz76_3 : w75.cell? ⟨gb491, 3, none⟩ = some (.int .i64 (wrap64 (a0_3 - (wrap64 (a1_2 - a0_2))))) := (blk_cell BK491.out 3).trans rfl; have hcz76_4 : w75.cell? ⟨gb491, 4, none⟩ = some (.string t489) := (blk_cell BK491.out 4).trans rfl; have hfz76_0 := blk_frozen BK491.out 0; have hfz76_1 := blk_frozen BK491.out 1; have hfz76_2 := blk_frozen BK491.out 2; have hfz76_3 := blk_frozen BK491.out 3; have hfz76_4 := blk_frozen BK491.out 4; have hcz77_0 : w75.cell? ⟨gb490, 0, none⟩ = some (.int .i64 a0_0) := (blk_cell BK490.out 0).trans rfl; have hcz77_1 : w75.cell? ⟨gb490, 1, none⟩ = some (.int .i64 a0_1) := (blk_cell BK490.out 1).trans rfl; have hcz77_2 : w75.cell? ⟨gb490, 2, none⟩ = some (.int .i64 a0_2) := (blk_cell BK490.out 2).trans rfl; have hcz77_3 : w75.cell? ⟨gb490, 3, none⟩ = some (.int .i64 (wrap64 (a1_2 - a0_2))) := (blk_cell BK490.out 3).trans rfl; have hcz77_4 : w75.cell? ⟨gb490, 4, none⟩ = some (.string a0_4) := (blk_cell BK490.out 4).trans rfl; have hfz77_0 := blk_frozen BK490.out 0; have hfz77_1 := blk_frozen BK490.out 1; have hfz77_2 := blk_frozen BK490.out 2; have hfz77_3 := blk_frozen BK490.out 3; have hfz77_4 := blk_frozen BK490.out 4) | ((with_reducible refine gate_dst (N := 57) rfl ?_); refine Kd.R_lit k33 _ 33 ?hg (N := 57) ?hd (xs := ([(⟨t485, t486, t487, wrap64 (a0_3 - (wrap64 (a1_2 - a0_2))), t489⟩ : S33), (⟨a0_0, a0_1, a0_2, wrap64 (a1_2 - a0_2), a0_4⟩ : S33)] : List (S33))) (inner := [.int .i64 t485, .int .i64 t486, .int .i64 t487, .int .i64 (wrap64 (a0_3 - (wrap64 (a1_2 - a0_2)))), .string t489, .int .i64 a0_0, .int .i64 a0_1, .int .i64 a0_2, .int .i64 (wrap64 (a1_2 - a0_2)), .string a0_4]) (ok := fun _ => True) (okp := fun _ => True) ?hr ?hp (fun _ hk => hk) trivial (Below.refl _ _) (Nat.le_refl _) (by simp) ?_; (case hd => rfl); (case hg => rfl); (case hr => first | (go_simp; done) | (go_simp; rfl)); (case hp => exact (Reps.c5 (show Kd.M k33 _ _ _ (⟨t485, t486, t487, wrap64 (a0_3 - (wrap64 (a1_2 - a0_2))), t489⟩ : S33) [.int .i64 t485, .int .i64 t486, .int .i64 t487, .int .i64 (wrap64 (a0_3 - (wrap64 (a1_2 - a0_2)))), .string t489] from (k33_mkM _ _ _ (⟨t485, t486, t487, wrap64 (a0_3 - (wrap64 (a1_2 - a0_2))), t489⟩ : S33) )) (Reps.c5 (show Kd.M k33 _ _ _ (⟨a0_0, a0_1, a0_2, wrap64 (a1_2 - a0_2), a0_4⟩ : S33) [.int .i64 a0_0, .int .i64 a0_1, .int .i64 a0_2, .int .i64 (wrap64 (a1_2 - a0_2)), .string a0_4] from (k33_mkM _ _ _ (⟨a0_0, a0_1, a0_2, wrap64 (a1_2 - a0_2), a0_4⟩ : S33) )) (Reps.none _ _)))); intro v493 w78 ho79 hb hg_ hnew_; clear hg_ hnew_; (first | rw [← Ny492.out] at ho79 | (simp only [Int.reduceToNat] at ho79; rw [← Ny492.out] at ho79)); have n0_ := Aside0.mk (Kd.R_lower (Kd.R_newB (Kd.R_newB (Kd.R_newB (Kd.R_newB ho79 (g := gb469) (o := .cells #[.int .i64 a0_0, .int .i64 a0_1, .int .i64 a0_2, .int .i64 a0_3, .string a0_4] 33 (0, 0)) (bk_ BK469)) (g := gb470) (o := .cells #[.int .i64 a1_0, .int .i64 a1_1, .int .i64 a1_2, .int .i64 a1_3, .string a1_4] 33 (0, 0)) (bk_ BK470)) (g := gb490) (o := .cells #[.int .i64 a0_0, .int .i64 a0_1, .int .i64 a0_2, .int .i64 (wrap64 (a1_2 - a0_2)), .string a0_4] 33 (0, 0)) (bk_ BK490)) (g := gb491) (o := .cells #[.int .i64 t485, .int .i64 t486, .int .i64 t487, .int .i64 (wrap64 (a0_3 - (wrap64 (a1_2 - a0_2)))), .string t489] 33 (0, 0)) (bk_ BK491)) (below_size (hb5_ HB GE469 GE470 GE471 GE490 GE491))); have n1_ := Aside0.mk (blk_below (g := gb469) (o := .cells #[.int .i64 a0_0, .int .i64 a0_1, .int .i64 a0_2, .int .i64 a0_3, .string a0_4] 33 (0, 0)) (bk_ BK469) hb); have n2_ := Aside0.mk (blk_below (g := gb470) (o := .cells #[.int .i64 a1_0, .int .i64 a1_1, .int .i64 a1_2, .int .i64 a1_3, .string a1_4] 33 (0, 0)) (bk_ BK470) hb); have n3_ := Aside0.mk (blk_below (g := gb471) (o := .cells #[.int .i64 0, .int .i64 0, .int .i64 0] 29 (0, 0)) (bk_ BK471) hb); have n4_ := Aside0.mk (blk_below (g := gb490) (o := .cells #[.int .i64 a0_0, .int .i64 a0_1, .int .i64 a0_2, .int .i64 (wrap64 (a1_2 - a0_2)), .string a0_4] 33 (0, 0)) (bk_ BK490) hb); have n5_ := Aside0.mk (blk_below (g := gb491) (o := .cells #[.int .i64 t485, .int .i64 t486, .int .i64 t487, .int .i64 (wrap64 (a0_3 - (wrap64 (a1_2 - a0_2)))), .string t489] 33 (0, 0)) (bk_ BK491) hb); have n6_ := Aside0.mk (below_step (hb5_ HB GE469 GE470 GE471 GE490 GE491) hb); clear BK469; clear BK470; clear BK471; clear BK490; clear BK491; clear HB; have HO494 := n0_; have BK469 := n1_; have BK470 := n2_; have BK471 := n3_; have BK490 := n4_; have BK491 := n5_; have HB := n6_; clear n0_ n1_ n2_ n3_ n4_ n5_ n6_; clear hb ho79; have hcz80_0 : w78.cell? ⟨gb471, 0, none⟩ = some (.int .i64 0) := (blk_cell BK471.out 0).trans rfl; have hcz80_1 : w78.cell? ⟨gb471, 1, none⟩ = some (.int .i64 0) := (blk_cell BK471.out 1).trans rfl; have hcz80_2 : w78.cell? ⟨gb471, 2, none⟩ = some (.int .i64 0) := (blk_cell BK471.out 2).trans rfl; have hfz80_0 := blk_frozen BK471.out 0; have hfz80_1 := blk_frozen BK471.out 1; have hfz80_2 := blk_frozen BK471.out 2) | ((with_reducible refine gate_store (t := 29) (p := 5) rfl ?_); refine store_event (t := 29) (p := 5) (v := ?vo_w81) (w1 := (((w78.setCell ⟨gb471, 0, none⟩ (.int .i64 0)).setCell ⟨gb471, 1, none⟩ (.int .i64 0)).setCell ⟨gb471, 2, none⟩ (.int .i64 0))) ?hg ?ho ?hn ?hr ?_; (case ho => rfl); (case hg => rfl); (case hn => rfl); (case hr => first | (go_simp; done) | (go_simp; rfl)); intro w81 hw; have n0_ : Aside0 (Kd.R k33 33 w81 w.heap.size (fun k_ => k_ ≠ gb469 ∧ k_ ≠ gb470 ∧ k_ ≠ gb490 ∧ k_ ≠ gb491) v493 y492) := ⟨(by rw [hw]; exact (by (with_reducible repeat (first | apply Kd.R_alloc | apply Kd.R_drewN | apply Kd.R_drew)); exact Kd.R_mono (Kd.R_far (p := ⟨gb471, 2, none⟩) (Kd.R_far (p := ⟨gb471, 1, none⟩) (Kd.R_far (p := ⟨gb471, 0, none⟩) (Kd.R_types HO494.out BK471.out (by decide)) (fun _ hk => hk.2) (.int .i64 0)) (fun _ hk => hk.2) (.int .i64 0)) (fun _ hk => hk.2) (.int .i64 0)) (fun _ hk => ⟨hk.1.1.1.1.2, ⟨hk.1.1.1.2, ⟨hk.1.1.2, hk.1.2⟩⟩⟩)))⟩; have n1_ : Aside0 (w81.heap[gb469]? = some (.cells #[.int .i64 a0_0, .int .i64 a0_1, .int .i64 a0_2, .int .i64 a0_3, .string a0_4] 33 (0, 0))) := ⟨(by rw [hw]; exact (by (with_reducible repeat (first | refine blk_drewN ?_ _ | refine blk_drew ?_ | refine blk_alloc ?_ _)); refine blk_far ?_ NB469_471.out _; (with_reducible repeat (first | refine blk_drewN ?_ _ | refine blk_drew ?_ | refine blk_alloc ?_ _)); refine blk_far ?_ NB469_471.out _; (with_reducible repeat (first | refine blk_drewN ?_ _ | refine blk_drew ?_ | refine blk_alloc ?_ _)); refine blk_far ?_ NB469_471.out _; (with_reducible repeat (first | refine blk_drewN ?_ _ | refine blk_drew ?_ | refine blk_alloc ?_ _)); exact BK469.out))⟩; have n2_ : Aside0 (w81.heap[gb470]? = some (.cells #[.int .i64 a1_0, .int .i64 a1_1, .int .i64 a1_2, .int .i64 a1_3, .string a1_4] 33 (0, 0))) := ⟨(by rw [hw]; exact (by (with_reducible repeat (first | refine blk_drewN ?_ _ | refine blk_drew ?_ | refine blk_alloc ?_ _)); refine blk_far ?_ NB470_471.out _; (with_reducible repeat (first | refine blk_drewN ?_ _ | refine blk_drew ?_ | refine blk_alloc ?_ _)); refine blk_far ?_ NB470_471.out _; (with_reducible repeat (first | refine blk_drewN ?_ _ | refine blk_drew ?_ | refine blk_alloc ?_ _)); refine blk_far ?_ NB470_471.out _; (with_reducible repeat (first | refine blk_drewN ?_ _ | refine blk_drew ?_ | refine blk_alloc ?_ _)); exact BK470.out))⟩; have n3_ : Aside0 (w81.heap[gb471]? = some (.cells #[.int .i64 0, .int .i64 0, .int .i64 0] 29 (0, 0))) := ⟨(by rw [hw]; exact (by (with_reducible repeat (first | refine blk_drewN ?_ _ | refine blk_drew ?_ | refine blk_alloc ?_ _)); refine blk_put (cs := #[.int .i64 0, .int .i64 0, .int .i64 0]) ?_ 2 _ rfl; (with_reducible repeat (first | refine blk_drewN ?_ _ | refine blk_drew ?_ | refine blk_alloc ?_ _)); refine blk_put (cs := #[.int .i64 0, .int .i64 0, .int .i64 0]) ?_ 1 _ rfl; (with_reducible repeat (first | refine blk_drewN ?_ _ | refine blk_drew ?_ | refine blk_alloc ?_ _)); refine blk_put (cs := #[.int .i64 0, .int .i64 0, .int .i64 0]) ?_ 0 _ rfl; (with_reducible repeat (first | refine blk_drewN ?_ _ | refine blk_drew ?_ | refine blk_alloc ?_ _)); exact BK471.out))⟩; have n4_ : Aside0 (w81.heap[gb490]? = some (.cells #[.int .i64 a0_0, .int .i64 a0_1, .int .i64 a0_2, .int .i64 (wrap64 (a1_2 - a0_2)), .string a0_4] 33 (0, 0))) := ⟨(by rw [hw]; exact (by (with_reducible repeat (first | refine blk_drewN ?_ _ | refine blk_drew ?_ | refine blk_alloc ?_ _)); refine blk_far ?_ NB490_471.out _; (with_reducible repeat (first | refine blk_drewN ?_ _ | refine blk_drew ?_ | refine blk_alloc ?_ _)); refine blk_far ?_ NB490_471.out _; (with_reducible repeat (first | refine blk_drewN ?_ _ | refine blk_drew ?_ | refine blk_alloc ?_ _)); refine blk_far ?_ NB490_471.out _; (with_reducible repeat (first | refine blk_drewN ?_ _ | refine blk_drew ?_ | refine blk_alloc ?_ _)); exact BK490.out))⟩; have n5_ : Aside0 (w81.heap[gb491]? = some (.cells #[.int .i64 t485, .int .i64 t486, .int .i64 t487, .int .i64 (wrap64 (a0_3 - (wrap64 (a1_2 - a0_2)))), .string t489] 33 (0, 0))) := ⟨(by rw [hw]; exact (by (with_reducible repeat (first | refine blk_drewN ?_ _ | refine blk_drew ?_ | refine blk_alloc ?_ _)); refine blk_far ?_ NB491_471.out _; (with_reducible repeat (first | refine blk_drewN ?_ _ | refine blk_drew ?_ | refine blk_alloc ?_ _)); refine blk_far ?_ NB491_471.out _; (with_reducible repeat (first | refine blk_drewN ?_ _ | refine blk_drew ?_ | refine blk_alloc ?_ _)); refine blk_far ?_ NB491_471.out _; (with_reducible repeat (first | refine blk_drewN ?_ _ | refine blk_drew ?_ | refine blk_alloc ?_ _)); exact BK491.out))⟩; have n6_ : Aside0 (Below w.heap.size w w81) := ⟨(by rw [hw]; exact (hb5_ HB GE469 GE470 GE471 GE490 GE491))⟩; clear hw; clear HO494; clear BK469; clear BK470; clear BK471; clear BK490; clear BK491; clear HB; have HO494 := n0_; have BK469 := n1_; have BK470 := n2_; have BK471 := n3_; have BK490 := n4_; have BK491 := n5_; have HB := n6_; clear n0_ n1_ n2_ n3_ n4_ n5_ n6_))
   refine bodyPost_ret (results_tc rfl _ _ gb471 29 #[.int .i64 0, .int .i64 0, .int .i64 0] (0, 0) _ rfl (bk_ BK471) Tryd.underlying29 rfl (by kernel_rfl)) rfl ?_
   exact ⟨_, by first | rfl | (simp [errW_none, errW_some] <;> rfl) | (simp [*, errW_none, errW_some] <;> rfl), by (with_reducible repeat (first | apply Kd.R_alloc | apply Kd.R_drewN | apply Kd.R_drew)); exact Kd.R_mono HO494.out (fun _ hk => trivial), by repeat (first | (with_reducible first | exact HB.out | apply below_alloc | apply pw_below_drewN | apply below_drew1 | refine below_set ?_ GE469.out | refine below_set ?_ GE470.out | refine below_set ?_ GE471.out | refine below_set ?_ GE490.out | refine below_set ?_ GE491.out) | exact HB.out)⟩

end Go.Proofs.YtmkmpjkgpnahnaaDoor.P
