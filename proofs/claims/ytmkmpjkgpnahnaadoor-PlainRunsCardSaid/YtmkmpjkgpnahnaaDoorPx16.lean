/- Printed by a program of this session (wip/xprint) over the kit's print: functions of the seat and what they come to, with their proofs. Conditions: as typed. -/
import Derived.Test.YtmkmpjkgpnahnaaDoorPx0
import Derived.Test.YtmkmpjkgpnahnaaDoorPx15
namespace Go.Proofs.YtmkmpjkgpnahnaaDoor.P
open Go.RowKit Go.Proofs.YtmkmpjkgpnahnaaDoor.X Go.Proofs.YtmkmpjkgpnahnaaDoorW.PrintWords Go.Proofs.YtmkmpjkgpnahnaaDoorW.PrintLast Go.Proofs.YtmkmpjkgpnahnaaDoorW.PrintMore
attribute [local go_sem] max2_int min2_int max_two min_two max_three min_three max_four min_four   -- for this text's walks alone
set_option linter.unusedVariables false
set_option linter.unusedSimpArgs false

/-! ### plain_Apply: function 20 -/
def plain_Apply.f (k : Nat) (a0 : ByteArray) (a1_0 : Int) (a1_1 : Int) (a1_2 : Int) (a1_3 : Int) (a1_4 : ByteArray) : Option (ByteArray × Int) := (plain_Run.f k a0 (([(⟨a1_0, a1_1, a1_2, a1_3, a1_4⟩ : S33)] : List (S33)))).bind fun bt389 => (some (bt389.1, bt389.2))
set_option maxHeartbeats 8000000 in
set_option maxRecDepth 100000 in
theorem plain_Apply.calls (k : Nat) (a0 : ByteArray) (a1_0 : Int) (a1_1 : Int) (a1_2 : Int) (a1_3 : Int) (a1_4 : ByteArray) (r1 : ByteArray) (r2 : Int) (w : World) (hT : Aside0 (XAmb w)) (h : plain_Apply.f k a0 a1_0 a1_1 a1_2 a1_3 a1_4 = some (r1, r2)) :
  Calls Tryd.prog 20 #[.string a0, .agg #[.int .i64 a1_0, .int .i64 a1_1, .int .i64 a1_2, .int .i64 a1_3, .string a1_4]] w fun e w' => e = .returned (.tuple #[.string r1, .int .i64 r2]) ∧ Below w.heap.size w w' := by
 have hu33 := Tryd.underlying33
 have HB := Aside0.mk (Below.refl w.heap.size w)
 have H : ((plain_Run.f k a0 (([(⟨a1_0, a1_1, a1_2, a1_3, a1_4⟩ : S33)] : List (S33)))).bind fun bt389 => (some (bt389.1, bt389.2))) = some (r1, r2) := h
 clear h
 obtain ⟨y386, hy386⟩ : ∃ y_ : List (S33), y_ = (([(⟨a1_0, a1_1, a1_2, a1_3, a1_4⟩ : S33)] : List (S33))) := ⟨_, rfl⟩
 replace H : ((plain_Run.f k a0 y386).bind fun bt389 => (some (bt389.1, bt389.2))) = some (r1, r2) := by first | (rw [hy386]; with_reducible exact H) | (have H2_ := (Option.bind_some _ _).symm.trans H; rw [hy386]; with_reducible exact H2_) | (have H2_ := (Option.bind_some _ _).symm.trans H; with_reducible exact H2_) | with_reducible exact H | (rw [hy386]; exact H) | exact H
 have Ny386 := Aside0.mk hy386
 clear hy386
 replace H := Option.bind_eq_some_iff.mp H
 obtain ⟨⟨t389, t390⟩, A30, H⟩ := H
 replace H : (some (t389, t390)) = some (r1, r2) := H
 have A3 := Aside0.mk A30
 clear A30
 simp only [Option.some.injEq, Prod.mk.injEq] at H
 obtain ⟨rfl, rfl⟩ := H
 go_enter Tryd.func20, Tryd.ntmps20
 go_wp2_with (first | ((with_reducible refine gate_dst (N := 3) rfl ?_); refine box_event ?hg (N := 3) ?hd (cs := #[.int .i64 a1_0, .int .i64 a1_1, .int .i64 a1_2, .int .i64 a1_3, .string a1_4]) (t := 33) ?hr ?_; (case hd => rfl); (case hg => rfl); (case hr => first | (go_simp; done) | (go_simp; rfl)); intro gb385 hg w4 hbox hb; have n0_ := Aside0.mk (below_step (hb0_ HB) hb); have n1_ := Aside0.mk (hbox); have n2_ := Aside0.mk ((by rw [hg]; exact (below_size (hb0_ HB)) : w.heap.size ≤ gb385)); have n3_ := Aside0.mk ((by rw [hg]; exact (below_size (hb0_ HB)) : w.heap.size ≤ gb385)); clear HB; have HB := n0_; have BK385 := n1_; have GW385 := n2_; have GE385 := n3_; clear n0_ n1_ n2_ n3_; clear hb hbox hg; have hcz5_0 : w4.cell? ⟨gb385, 0, none⟩ = some (.int .i64 a1_0) := (blk_cell BK385.out 0).trans rfl; have hcz5_1 : w4.cell? ⟨gb385, 1, none⟩ = some (.int .i64 a1_1) := (blk_cell BK385.out 1).trans rfl; have hcz5_2 : w4.cell? ⟨gb385, 2, none⟩ = some (.int .i64 a1_2) := (blk_cell BK385.out 2).trans rfl; have hcz5_3 : w4.cell? ⟨gb385, 3, none⟩ = some (.int .i64 a1_3) := (blk_cell BK385.out 3).trans rfl; have hcz5_4 : w4.cell? ⟨gb385, 4, none⟩ = some (.string a1_4) := (blk_cell BK385.out 4).trans rfl; have hfz5_0 := blk_frozen BK385.out 0; have hfz5_1 := blk_frozen BK385.out 1; have hfz5_2 := blk_frozen BK385.out 2; have hfz5_3 := blk_frozen BK385.out 3; have hfz5_4 := blk_frozen BK385.out 4) | ((with_reducible refine gate_dst (N := 8) rfl ?_); refine Kd.R_lit k33 _ 33 ?hg (N := 8) ?hd (xs := ([(⟨a1_0, a1_1, a1_2, a1_3, a1_4⟩ : S33)] : List (S33))) (inner := [.int .i64 a1_0, .int .i64 a1_1, .int .i64 a1_2, .int .i64 a1_3, .string a1_4]) (ok := fun _ => True) (okp := fun _ => True) ?hr ?hp (fun _ hk => hk) trivial (Below.refl _ _) (Nat.le_refl _) (by simp) ?_; (case hd => rfl); (case hg => rfl); (case hr => first | (go_simp; done) | (go_simp; rfl)); (case hp => exact (Reps.c5 (show Kd.M k33 _ _ _ (⟨a1_0, a1_1, a1_2, a1_3, a1_4⟩ : S33) [.int .i64 a1_0, .int .i64 a1_1, .int .i64 a1_2, .int .i64 a1_3, .string a1_4] from (k33_mkM _ _ _ (⟨a1_0, a1_1, a1_2, a1_3, a1_4⟩ : S33) )) (Reps.none _ _))); intro v387 w6 ho7 hb hg_ hnew_; clear hg_ hnew_; (first | rw [← Ny386.out] at ho7 | (simp only [Int.reduceToNat] at ho7; rw [← Ny386.out] at ho7)); have n0_ := Aside0.mk (Kd.R_lower (Kd.R_newB ho7 (g := gb385) (o := .cells #[.int .i64 a1_0, .int .i64 a1_1, .int .i64 a1_2, .int .i64 a1_3, .string a1_4] 33 (0, 0)) (bk_ BK385)) (below_size (hb1_ HB GE385))); have n1_ := Aside0.mk (blk_below (g := gb385) (o := .cells #[.int .i64 a1_0, .int .i64 a1_1, .int .i64 a1_2, .int .i64 a1_3, .string a1_4] 33 (0, 0)) (bk_ BK385) hb); have n2_ := Aside0.mk (below_step (hb1_ HB GE385) hb); clear BK385; clear HB; have HO388 := n0_; have BK385 := n1_; have HB := n2_; clear n0_ n1_ n2_; clear hb ho7; obtain ⟨Ao8, co8, eo8⟩ := Kd.R_slice HO388.out; subst eo8) | ((with_reducible refine gate_callee (f := 19) rfl ?_); refine goesL_ (some 9) rfl rfl Tryd.func19 (by kernel_rfl) rfl #[.string a0, .slice Ao8 y386.length co8] rfl (by (try simp only [List.map_toArray, List.map_cons, List.map_nil]); first | done | rfl | (simp only [List.length_drop, List.length_take]; rfl)) ?_; (with_reducible refine (plain_Run.calls k a0 _ _ y386 t389 t390 _ ?side3 ?side1 ?side2 A3.out).mono ?_); (case side1 => repeat (first | exact (Kd.R_reads' HO388.out).2.2 | (with_reducible refine Kd.C_alloc ?_ _) | (with_reducible refine Kd.C_drewN ?_ _) | (with_reducible refine Kd.C_drew ?_))); (case side2 => exact (Kd.R_reads' HO388.out).2.1); (case side3 => exact XAmb_step hT (hb1_ HB GE385)); rintro e w9 ⟨rfl, hb⟩; refine ⟨_, rfl, ?_⟩; have n0_ := Aside0.mk (Kd.R_below (ro_ HO388) hb); have n1_ := Aside0.mk (blk_below (g := gb385) (o := .cells #[.int .i64 a1_0, .int .i64 a1_1, .int .i64 a1_2, .int .i64 a1_3, .string a1_4] 33 (0, 0)) (bk_ BK385) hb); have n2_ := Aside0.mk (below_step (hb1_ HB GE385) hb); clear HO388; clear BK385; clear HB; have HO388 := n0_; have BK385 := n1_; have HB := n2_; clear n0_ n1_ n2_; (try clear hb); (try clear hb2); (try clear hk); (try clear hi)))
 go_ret2
 exact ⟨by first | rfl | (simp [errW_none, errW_some] <;> rfl) | (simp [*, errW_none, errW_some] <;> rfl), by repeat (first | (with_reducible first | exact HB.out | apply below_alloc | apply pw_below_drewN | apply below_drew1 | refine below_set ?_ GE385.out) | exact HB.out)⟩

end Go.Proofs.YtmkmpjkgpnahnaaDoor.P
