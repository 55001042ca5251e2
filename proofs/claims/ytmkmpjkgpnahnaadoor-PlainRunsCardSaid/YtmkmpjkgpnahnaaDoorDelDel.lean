/-
  plain's deletion behind a deletion (delDel), walked by hand (printed by wip/gen29.py). Conditions: as typed (places from 0, lengths from 1, to 20000).
-/
import Derived.Test.YtmkmpjkgpnahnaaDoorBox
import Derived.Test.YtmkmpjkgpnahnaaDoorPx0
import Derived.Test.YtmkmpjkgpnahnaaDoorExt
import Derived.Deep.QuietTactic
import Derived.BigQuiet
namespace Go.Proofs.YtmkmpjkgpnahnaaDoor.X
open Go Go.RowKit Go.Shelf Go.Proofs.YtmkmpjkgpnahnaaDoorW.PrintWords Go.Proofs.YtmkmpjkgpnahnaaDoor.P
set_option linter.unusedVariables false

set_option maxRecDepth 100000 in
set_option maxHeartbeats 4000000 in
theorem delDel_before (s1 k1 p1 n1 : Int) (t1 : ByteArray) (s2 k2 p2 n2 : Int) (t2 : ByteArray) (w : World) (h1 : 0 ≤ p1) (h2 : p1 ≤ 20000) (h3 : 1 ≤ n1) (h4 : n1 ≤ 20000) (h5 : 0 ≤ p2) (h6 : p2 ≤ 20000) (h7 : 1 ≤ n2) (h8 : n2 ≤ 20000) (hx : p1 + n1 ≤ p2) :
    Calls Tryd.prog 26 #[.agg #[.int .i64 s1, .int .i64 k1, .int .i64 p1, .int .i64 n1, .string t1], .agg #[.int .i64 s2, .int .i64 k2, .int .i64 p2, .int .i64 n2, .string t2]] w fun e w' => ∃ v, e = .returned (.tuple #[v, .agg #[.int .i64 0, .int .i64 0, .int .i64 0]]) ∧ Kd.R k33 33 w' w.heap.size (fun _ => True) v [(⟨s1, k1, p1, n1, t1⟩ : S33)] ∧ Below w.heap.size w w' := by
  have HB0 := Lib.hid ((((Bxs.start w).new #[.int .i64 s1, .int .i64 k1, .int .i64 p1, .int .i64 n1, .string t1] 33).new #[.int .i64 s2, .int .i64 k2, .int .i64 p2, .int .i64 n2, .string t2] 33).new #[.int .i64 0, .int .i64 0, .int .i64 0] 29)
  have hu33 := Tryd.underlying33
  have hu29 := Tryd.underlying29
  go_enter Tryd.func26, Tryd.ntmps26
  go_wp2
  obtain ⟨W1, hW1⟩ : ∃ x, ((w.alloc (.cells #[.int .i64 s1, .int .i64 k1, .int .i64 p1, .int .i64 n1, .string t1] 33)).alloc (.cells #[.int .i64 s2, .int .i64 k2, .int .i64 p2, .int .i64 n2, .string t2] 33)).alloc (.cells #[.int .i64 0, .int .i64 0, .int .i64 0] 29) = x := ⟨_, rfl⟩
  have HX : Hid (Bxs w [((w.heap.size + 1 + 1), #[.int .i64 0, .int .i64 0, .int .i64 0], 29), ((w.heap.size + 1), #[.int .i64 s2, .int .i64 k2, .int .i64 p2, .int .i64 n2, .string t2], 33), (w.heap.size, #[.int .i64 s1, .int .i64 k1, .int .i64 p1, .int .i64 n1, .string t1], 33)] W1) := by
    rw [← hW1]
    simpa [Hid] using HB0.out
  rw [hW1]
  clear hW1 HB0
  have c2_2 : W1.cell? ⟨w.heap.size, 2, none⟩ = some (.int .i64 p1) := (HX.out.cell 2 rfl 2).trans rfl
  have c2_3 : W1.cell? ⟨w.heap.size, 3, none⟩ = some (.int .i64 n1) := (HX.out.cell 2 rfl 3).trans rfl
  have c1_2 : W1.cell? ⟨(w.heap.size + 1), 2, none⟩ = some (.int .i64 p2) := (HX.out.cell 1 rfl 2).trans rfl
  have c1_3 : W1.cell? ⟨(w.heap.size + 1), 3, none⟩ = some (.int .i64 n2) := (HX.out.cell 1 rfl 3).trans rfl
  go_quiet (fail)
  clear c2_2 c2_3 c1_2 c1_3
  obtain ⟨W2, hW2⟩ : ∃ x, W1.drewN nq = x := ⟨_, rfl⟩
  rw [hW2]
  have HY := Lib.hid (hW2 ▸ HX.out.drewN nq)
  clear HX
  have HX := HY
  clear HY hW2
  have c2_2 : W2.cell? ⟨w.heap.size, 2, none⟩ = some (.int .i64 p1) := (HX.out.cell 2 rfl 2).trans rfl
  have c2_3 : W2.cell? ⟨w.heap.size, 3, none⟩ = some (.int .i64 n1) := (HX.out.cell 2 rfl 3).trans rfl
  have c1_2 : W2.cell? ⟨(w.heap.size + 1), 2, none⟩ = some (.int .i64 p2) := (HX.out.cell 1 rfl 2).trans rfl
  have c1_3 : W2.cell? ⟨(w.heap.size + 1), 3, none⟩ = some (.int .i64 n2) := (HX.out.cell 1 rfl 3).trans rfl
  go_upto_region 5 with fail
  clear c1_2 c1_3 c2_2 c2_3
  have c2_0 : W2.cell? ⟨w.heap.size, 0, none⟩ = some (.int .i64 s1) := (HX.out.cell 2 rfl 0).trans rfl
  have c2_1 : W2.cell? ⟨w.heap.size, 1, none⟩ = some (.int .i64 k1) := (HX.out.cell 2 rfl 1).trans rfl
  have c2_2 : W2.cell? ⟨w.heap.size, 2, none⟩ = some (.int .i64 p1) := (HX.out.cell 2 rfl 2).trans rfl
  have c2_3 : W2.cell? ⟨w.heap.size, 3, none⟩ = some (.int .i64 n1) := (HX.out.cell 2 rfl 3).trans rfl
  have c2_4 : W2.cell? ⟨w.heap.size, 4, none⟩ = some (.string t1) := (HX.out.cell 2 rfl 4).trans rfl
  go_wp2_with ((with_reducible refine gate_dst (N := 43) rfl ?_); refine Kd.R_lit k33 _ 33 ?hg (N := 43) ?hd (xs := [(⟨s1, k1, p1, n1, t1⟩ : S33)]) (inner := [.int .i64 s1, .int .i64 k1, .int .i64 p1, .int .i64 n1, .string t1]) (ok := fun _ => True) (okp := fun _ => True) ?hr ?hp (fun _ hk => hk) trivial (Below.refl _ _) (Nat.le_refl _) (by simp) ?_; (case hd => rfl); (case hg => rfl); (case hr => first | (go_simp; done) | (go_simp; rfl)); (case hp => exact (Reps.c5 (show Kd.M k33 _ _ _ (⟨s1, k1, p1, n1, t1⟩ : S33) [.int .i64 s1, .int .i64 k1, .int .i64 p1, .int .i64 n1, .string t1] from (k33_mkM _ _ _ (⟨s1, k1, p1, n1, t1⟩ : S33))) (Reps.none _ _))); intro v9 W9 ho hb9 hg_ hnew_; clear hg_ hnew_; have HX0 := Lib.hid HX.out.below.size; have HY := Lib.hid (HX.out.keep hb9); clear HX; have HX := HY; clear HY; have HO := Lib.hid ho; clear ho hb9; have cz0_0 : W9.cell? ⟨(w.heap.size + 1 + 1), 0, none⟩ = some (.int .i64 0) := (HX.out.cell 0 rfl 0).trans rfl; have fz0_0 : W9.frozen? ⟨(w.heap.size + 1 + 1), 0, none⟩ = false := HX.out.free 0 rfl 0; have cz0_1 : W9.cell? ⟨(w.heap.size + 1 + 1), 1, none⟩ = some (.int .i64 0) := (HX.out.cell 0 rfl 1).trans rfl; have fz0_1 : W9.frozen? ⟨(w.heap.size + 1 + 1), 1, none⟩ = false := HX.out.free 0 rfl 1; have cz0_2 : W9.cell? ⟨(w.heap.size + 1 + 1), 2, none⟩ = some (.int .i64 0) := (HX.out.cell 0 rfl 2).trans rfl; have fz0_2 : W9.frozen? ⟨(w.heap.size + 1 + 1), 2, none⟩ = false := HX.out.free 0 rfl 2)
  have HZ := Lib.hid (((HX.out.put 0 rfl 0 (.int .i64 0)).put 0 rfl 1 (.int .i64 0)).put 0 rfl 2 (.int .i64 0))
  refine bodyPost_ret (results_tc rfl _ _ (w.heap.size + 1 + 1) 29 #[.int .i64 0, .int .i64 0, .int .i64 0] (0, 0) _ rfl (HZ.out.blk 0 rfl) hu29 rfl (by kernel_rfl)) rfl ?_
  exact ⟨_, rfl, R_three HO.out HX0.out (HX.out.blk 0 rfl) (by decide) _ _ _, HZ.out.below⟩

set_option maxRecDepth 100000 in
set_option maxHeartbeats 4000000 in
theorem delDel_behind (s1 k1 p1 n1 : Int) (t1 : ByteArray) (s2 k2 p2 n2 : Int) (t2 : ByteArray) (w : World) (h1 : 0 ≤ p1) (h2 : p1 ≤ 20000) (h3 : 1 ≤ n1) (h4 : n1 ≤ 20000) (h5 : 0 ≤ p2) (h6 : p2 ≤ 20000) (h7 : 1 ≤ n2) (h8 : n2 ≤ 20000) (hx : p2 + n2 ≤ p1) :
    Calls Tryd.prog 26 #[.agg #[.int .i64 s1, .int .i64 k1, .int .i64 p1, .int .i64 n1, .string t1], .agg #[.int .i64 s2, .int .i64 k2, .int .i64 p2, .int .i64 n2, .string t2]] w fun e w' => ∃ v, e = .returned (.tuple #[v, .agg #[.int .i64 0, .int .i64 0, .int .i64 0]]) ∧ Kd.R k33 33 w' w.heap.size (fun _ => True) v [(⟨s1, k1, p1 - n2, n1, t1⟩ : S33)] ∧ Below w.heap.size w w' := by
  have HB0 := Lib.hid ((((Bxs.start w).new #[.int .i64 s1, .int .i64 k1, .int .i64 p1, .int .i64 n1, .string t1] 33).new #[.int .i64 s2, .int .i64 k2, .int .i64 p2, .int .i64 n2, .string t2] 33).new #[.int .i64 0, .int .i64 0, .int .i64 0] 29)
  have hu33 := Tryd.underlying33
  have hu29 := Tryd.underlying29
  go_enter Tryd.func26, Tryd.ntmps26
  go_wp2
  obtain ⟨W1, hW1⟩ : ∃ x, ((w.alloc (.cells #[.int .i64 s1, .int .i64 k1, .int .i64 p1, .int .i64 n1, .string t1] 33)).alloc (.cells #[.int .i64 s2, .int .i64 k2, .int .i64 p2, .int .i64 n2, .string t2] 33)).alloc (.cells #[.int .i64 0, .int .i64 0, .int .i64 0] 29) = x := ⟨_, rfl⟩
  have HX : Hid (Bxs w [((w.heap.size + 1 + 1), #[.int .i64 0, .int .i64 0, .int .i64 0], 29), ((w.heap.size + 1), #[.int .i64 s2, .int .i64 k2, .int .i64 p2, .int .i64 n2, .string t2], 33), (w.heap.size, #[.int .i64 s1, .int .i64 k1, .int .i64 p1, .int .i64 n1, .string t1], 33)] W1) := by
    rw [← hW1]
    simpa [Hid] using HB0.out
  rw [hW1]
  clear hW1 HB0
  have c2_2 : W1.cell? ⟨w.heap.size, 2, none⟩ = some (.int .i64 p1) := (HX.out.cell 2 rfl 2).trans rfl
  have c2_3 : W1.cell? ⟨w.heap.size, 3, none⟩ = some (.int .i64 n1) := (HX.out.cell 2 rfl 3).trans rfl
  have c1_2 : W1.cell? ⟨(w.heap.size + 1), 2, none⟩ = some (.int .i64 p2) := (HX.out.cell 1 rfl 2).trans rfl
  have c1_3 : W1.cell? ⟨(w.heap.size + 1), 3, none⟩ = some (.int .i64 n2) := (HX.out.cell 1 rfl 3).trans rfl
  go_quiet (fail)
  clear c2_2 c2_3 c1_2 c1_3
  obtain ⟨W2, hW2⟩ : ∃ x, W1.drewN nq = x := ⟨_, rfl⟩
  rw [hW2]
  have HY := Lib.hid (hW2 ▸ HX.out.drewN nq)
  clear HX
  have HX := HY
  clear HY hW2
  have c2_2 : W2.cell? ⟨w.heap.size, 2, none⟩ = some (.int .i64 p1) := (HX.out.cell 2 rfl 2).trans rfl
  have f2_2 : W2.frozen? ⟨w.heap.size, 2, none⟩ = false := HX.out.free 2 rfl 2
  have c2_3 : W2.cell? ⟨w.heap.size, 3, none⟩ = some (.int .i64 n1) := (HX.out.cell 2 rfl 3).trans rfl
  have f2_3 : W2.frozen? ⟨w.heap.size, 3, none⟩ = false := HX.out.free 2 rfl 3
  have c1_2 : W2.cell? ⟨(w.heap.size + 1), 2, none⟩ = some (.int .i64 p2) := (HX.out.cell 1 rfl 2).trans rfl
  have c1_3 : W2.cell? ⟨(w.heap.size + 1), 3, none⟩ = some (.int .i64 n2) := (HX.out.cell 1 rfl 3).trans rfl
  go_upto_region 5 with fail
  clear c1_2 c1_3 c2_2 c2_3 f2_2 f2_3
  obtain ⟨W3, hW_⟩ : ∃ x, W2.setCell ⟨w.heap.size, 2, none⟩ (.int .i64 (p1 - n2)) = x := ⟨_, rfl⟩
  have HY := Lib.hid (HX.out.put 2 rfl 2 (.int .i64 (p1 - n2)))
  rw [hW_] at HY
  rw [hW_]
  clear HX
  have HX := HY
  clear HY hW_
  have c2_0 : W3.cell? ⟨w.heap.size, 0, none⟩ = some (.int .i64 s1) := (HX.out.cell 2 rfl 0).trans rfl
  have c2_1 : W3.cell? ⟨w.heap.size, 1, none⟩ = some (.int .i64 k1) := (HX.out.cell 2 rfl 1).trans rfl
  have c2_2 : W3.cell? ⟨w.heap.size, 2, none⟩ = some (.int .i64 (p1 - n2)) := (HX.out.cell 2 rfl 2).trans rfl
  have c2_3 : W3.cell? ⟨w.heap.size, 3, none⟩ = some (.int .i64 n1) := (HX.out.cell 2 rfl 3).trans rfl
  have c2_4 : W3.cell? ⟨w.heap.size, 4, none⟩ = some (.string t1) := (HX.out.cell 2 rfl 4).trans rfl
  go_wp2_with ((with_reducible refine gate_dst (N := 43) rfl ?_); refine Kd.R_lit k33 _ 33 ?hg (N := 43) ?hd (xs := [(⟨s1, k1, p1 - n2, n1, t1⟩ : S33)]) (inner := [.int .i64 s1, .int .i64 k1, .int .i64 (p1 - n2), .int .i64 n1, .string t1]) (ok := fun _ => True) (okp := fun _ => True) ?hr ?hp (fun _ hk => hk) trivial (Below.refl _ _) (Nat.le_refl _) (by simp) ?_; (case hd => rfl); (case hg => rfl); (case hr => first | (go_simp; done) | (go_simp; rfl)); (case hp => exact (Reps.c5 (show Kd.M k33 _ _ _ (⟨s1, k1, p1 - n2, n1, t1⟩ : S33) [.int .i64 s1, .int .i64 k1, .int .i64 (p1 - n2), .int .i64 n1, .string t1] from (k33_mkM _ _ _ (⟨s1, k1, p1 - n2, n1, t1⟩ : S33))) (Reps.none _ _))); intro v9 W9 ho hb9 hg_ hnew_; clear hg_ hnew_; have HX0 := Lib.hid HX.out.below.size; have HY := Lib.hid (HX.out.keep hb9); clear HX; have HX := HY; clear HY; have HO := Lib.hid ho; clear ho hb9; have cz0_0 : W9.cell? ⟨(w.heap.size + 1 + 1), 0, none⟩ = some (.int .i64 0) := (HX.out.cell 0 rfl 0).trans rfl; have fz0_0 : W9.frozen? ⟨(w.heap.size + 1 + 1), 0, none⟩ = false := HX.out.free 0 rfl 0; have cz0_1 : W9.cell? ⟨(w.heap.size + 1 + 1), 1, none⟩ = some (.int .i64 0) := (HX.out.cell 0 rfl 1).trans rfl; have fz0_1 : W9.frozen? ⟨(w.heap.size + 1 + 1), 1, none⟩ = false := HX.out.free 0 rfl 1; have cz0_2 : W9.cell? ⟨(w.heap.size + 1 + 1), 2, none⟩ = some (.int .i64 0) := (HX.out.cell 0 rfl 2).trans rfl; have fz0_2 : W9.frozen? ⟨(w.heap.size + 1 + 1), 2, none⟩ = false := HX.out.free 0 rfl 2)
  have HZ := Lib.hid (((HX.out.put 0 rfl 0 (.int .i64 0)).put 0 rfl 1 (.int .i64 0)).put 0 rfl 2 (.int .i64 0))
  refine bodyPost_ret (results_tc rfl _ _ (w.heap.size + 1 + 1) 29 #[.int .i64 0, .int .i64 0, .int .i64 0] (0, 0) _ rfl (HZ.out.blk 0 rfl) hu29 rfl (by kernel_rfl)) rfl ?_
  exact ⟨_, rfl, R_three HO.out HX0.out (HX.out.blk 0 rfl) (by decide) _ _ _, HZ.out.below⟩

set_option maxRecDepth 100000 in
set_option maxHeartbeats 4000000 in
theorem delDel_all (s1 k1 p1 n1 : Int) (t1 : ByteArray) (s2 k2 p2 n2 : Int) (t2 : ByteArray) (w : World) (h1 : 0 ≤ p1) (h2 : p1 ≤ 20000) (h3 : 1 ≤ n1) (h4 : n1 ≤ 20000) (h5 : 0 ≤ p2) (h6 : p2 ≤ 20000) (h7 : 1 ≤ n2) (h8 : n2 ≤ 20000) (hx : max p1 p2 < min (p1 + n1) (p2 + n2)) (he : n1 = min (p1 + n1) (p2 + n2) - max p1 p2) :
    Calls Tryd.prog 26 #[.agg #[.int .i64 s1, .int .i64 k1, .int .i64 p1, .int .i64 n1, .string t1], .agg #[.int .i64 s2, .int .i64 k2, .int .i64 p2, .int .i64 n2, .string t2]] w fun e w' => ∃ v, e = .returned (.tuple #[v, .agg #[.int .i64 2, .int .i64 (max p1 p2 - p2), .int .i64 (min (p1 + n1) (p2 + n2) - max p1 p2)]]) ∧ Kd.R k33 33 w' w.heap.size (fun _ => True) v ([] : List S33) ∧ Below w.heap.size w w' := by
  have HE := Lib.hid he
  clear he
  have HB0 := Lib.hid ((((Bxs.start w).new #[.int .i64 s1, .int .i64 k1, .int .i64 p1, .int .i64 n1, .string t1] 33).new #[.int .i64 s2, .int .i64 k2, .int .i64 p2, .int .i64 n2, .string t2] 33).new #[.int .i64 0, .int .i64 0, .int .i64 0] 29)
  have hu33 := Tryd.underlying33
  have hu29 := Tryd.underlying29
  go_enter Tryd.func26, Tryd.ntmps26
  go_wp2
  obtain ⟨W1, hW1⟩ : ∃ x, ((w.alloc (.cells #[.int .i64 s1, .int .i64 k1, .int .i64 p1, .int .i64 n1, .string t1] 33)).alloc (.cells #[.int .i64 s2, .int .i64 k2, .int .i64 p2, .int .i64 n2, .string t2] 33)).alloc (.cells #[.int .i64 0, .int .i64 0, .int .i64 0] 29) = x := ⟨_, rfl⟩
  have HX : Hid (Bxs w [((w.heap.size + 1 + 1), #[.int .i64 0, .int .i64 0, .int .i64 0], 29), ((w.heap.size + 1), #[.int .i64 s2, .int .i64 k2, .int .i64 p2, .int .i64 n2, .string t2], 33), (w.heap.size, #[.int .i64 s1, .int .i64 k1, .int .i64 p1, .int .i64 n1, .string t1], 33)] W1) := by
    rw [← hW1]
    simpa [Hid] using HB0.out
  rw [hW1]
  clear hW1 HB0
  have c2_2 : W1.cell? ⟨w.heap.size, 2, none⟩ = some (.int .i64 p1) := (HX.out.cell 2 rfl 2).trans rfl
  have c2_3 : W1.cell? ⟨w.heap.size, 3, none⟩ = some (.int .i64 n1) := (HX.out.cell 2 rfl 3).trans rfl
  have c1_2 : W1.cell? ⟨(w.heap.size + 1), 2, none⟩ = some (.int .i64 p2) := (HX.out.cell 1 rfl 2).trans rfl
  have c1_3 : W1.cell? ⟨(w.heap.size + 1), 3, none⟩ = some (.int .i64 n2) := (HX.out.cell 1 rfl 3).trans rfl
  go_quiet (fail)
  clear c2_2 c2_3 c1_2 c1_3
  obtain ⟨W2, hW2⟩ : ∃ x, W1.drewN nq = x := ⟨_, rfl⟩
  rw [hW2]
  have HY := Lib.hid (hW2 ▸ HX.out.drewN nq)
  clear HX
  have HX := HY
  clear HY hW2
  have c1_2 : W2.cell? ⟨(w.heap.size + 1), 2, none⟩ = some (.int .i64 p2) := (HX.out.cell 1 rfl 2).trans rfl
  have c1_3 : W2.cell? ⟨(w.heap.size + 1), 3, none⟩ = some (.int .i64 n2) := (HX.out.cell 1 rfl 3).trans rfl
  have c2_2 : W2.cell? ⟨w.heap.size, 2, none⟩ = some (.int .i64 p1) := (HX.out.cell 2 rfl 2).trans rfl
  have c2_3 : W2.cell? ⟨w.heap.size, 3, none⟩ = some (.int .i64 n1) := (HX.out.cell 2 rfl 3).trans rfl
  obtain ⟨M, hM⟩ : ∃ x, max p1 p2 = x := ⟨_, rfl⟩
  obtain ⟨N, hN⟩ : ∃ x, min (p1 + n1) (p2 + n2) = x := ⟨_, rfl⟩
  rw [hM, hN] at hx ⊢
  have m1 : p1 ≤ M := by omega
  have m2 : p2 ≤ M := by omega
  have m3 : M ≤ 20000 := by omega
  have m4 : N ≤ 40000 := by omega
  have HM := Lib.hid hM
  have HN := Lib.hid hN
  clear hM hN
  go_upto_region 6 with fail
  go_upto_region 7 with fail
  clear c1_2 c1_3 c2_2 c2_3
  have hlt : w.heap.size + 1 + 1 < W2.heap.size := HX.out.lt (List.mem_cons_self ..)
  have hq1 : ¬ (W2.heap.size = w.heap.size) := by omega
  have hq2 : ¬ (w.heap.size = W2.heap.size) := by omega
  clear hlt
  obtain ⟨W3, hW_⟩ : ∃ x, W2.alloc (.cells #[.int .i64 2, .int .i64 (M - p2), .int .i64 (N - M)] 29) = x := ⟨_, rfl⟩
  have HY := Lib.hid (HX.out.new #[.int .i64 2, .int .i64 (M - p2), .int .i64 (N - M)] 29)
  rw [hW_] at HY
  rw [hW_]
  clear HX
  have HX := HY
  clear HY hW_
  have c3_2 : W3.cell? ⟨w.heap.size, 2, none⟩ = some (.int .i64 p1) := (HX.out.cell 3 rfl 2).trans rfl
  have f3_2 : W3.frozen? ⟨w.heap.size, 2, none⟩ = false := HX.out.free 3 rfl 2
  have c3_3 : W3.cell? ⟨w.heap.size, 3, none⟩ = some (.int .i64 n1) := (HX.out.cell 3 rfl 3).trans rfl
  have f3_3 : W3.frozen? ⟨w.heap.size, 3, none⟩ = false := HX.out.free 3 rfl 3
  have c2_2 : W3.cell? ⟨(w.heap.size + 1), 2, none⟩ = some (.int .i64 p2) := (HX.out.cell 2 rfl 2).trans rfl
  have c0_2 : W3.cell? ⟨W2.heap.size, 2, none⟩ = some (.int .i64 (N - M)) := (HX.out.cell 0 rfl 2).trans rfl
  go_region
  clear c3_2 c3_3 f3_2 f3_3 c2_2 c0_2
  obtain ⟨W4, hW_⟩ : ∃ x, ((W3.setCell ⟨w.heap.size, 2, none⟩ (.int .i64 (min p1 p2))).setCell ⟨w.heap.size, 3, none⟩ (.int .i64 (n1 - (N - M)))).drew = x := ⟨_, rfl⟩
  have HY := Lib.hid (((HX.out.put 3 rfl 2 (.int .i64 (min p1 p2))).put 3 rfl 3 (.int .i64 (n1 - (N - M)))).drew)
  rw [hW_] at HY
  rw [hW_]
  clear HX
  have HX := HY
  clear HY hW_
  have hz : ((n1 - (N - M)) == 0) = true := by
    have ha := HE.out
    have hb := HM.out
    have hc := HN.out
    rw [beq_iff_eq]
    omega
  have c3_3 : W4.cell? ⟨w.heap.size, 3, none⟩ = some (.int .i64 (n1 - (N - M))) := (HX.out.cell 3 rfl 3).trans rfl
  have c0_0 : W4.cell? ⟨W2.heap.size, 0, none⟩ = some (.int .i64 2) := (HX.out.cell 0 rfl 0).trans rfl
  have c0_1 : W4.cell? ⟨W2.heap.size, 1, none⟩ = some (.int .i64 (M - p2)) := (HX.out.cell 0 rfl 1).trans rfl
  have c0_2 : W4.cell? ⟨W2.heap.size, 2, none⟩ = some (.int .i64 (N - M)) := (HX.out.cell 0 rfl 2).trans rfl
  have c1_0 : W4.cell? ⟨(w.heap.size + 1 + 1), 0, none⟩ = some (.int .i64 0) := (HX.out.cell 1 rfl 0).trans rfl
  have f1_0 : W4.frozen? ⟨(w.heap.size + 1 + 1), 0, none⟩ = false := HX.out.free 1 rfl 0
  have c1_1 : W4.cell? ⟨(w.heap.size + 1 + 1), 1, none⟩ = some (.int .i64 0) := (HX.out.cell 1 rfl 1).trans rfl
  have f1_1 : W4.frozen? ⟨(w.heap.size + 1 + 1), 1, none⟩ = false := HX.out.free 1 rfl 1
  have c1_2 : W4.cell? ⟨(w.heap.size + 1 + 1), 2, none⟩ = some (.int .i64 0) := (HX.out.cell 1 rfl 2).trans rfl
  have f1_2 : W4.frozen? ⟨(w.heap.size + 1 + 1), 2, none⟩ = false := HX.out.free 1 rfl 2
  have hq3 : ¬ (W2.heap.size = w.heap.size + 1 + 1) := by have := HX.out.nd; simp at this; omega
  go_upto_region 9 with fail
  go_region
  obtain ⟨W5, hW_⟩ : ∃ x, (((W4.setCell ⟨w.heap.size + 1 + 1, 0, none⟩ (.int .i64 2)).setCell ⟨w.heap.size + 1 + 1, 1, none⟩ (.int .i64 (M - p2))).setCell ⟨w.heap.size + 1 + 1, 2, none⟩ (.int .i64 (N - M))).drew = x := ⟨_, rfl⟩
  have HY := Lib.hid ((((HX.out.put 1 rfl 0 (.int .i64 2)).put 1 rfl 1 (.int .i64 (M - p2))).put 1 rfl 2 (.int .i64 (N - M))).drew)
  rw [hW_] at HY
  rw [hW_]
  clear HX
  have HX := HY
  clear HY hW_
  go_wp2
  refine bodyPost_ret (results_tc rfl _ _ (w.heap.size + 1 + 1) 29 #[.int .i64 2, .int .i64 (M - p2), .int .i64 (N - M)] (0, 0) _ rfl (HX.out.blk 1 rfl) hu29 rfl (by kernel_rfl)) rfl ?_
  obtain rfl := HM.out
  obtain rfl := HN.out
  exact ⟨_, rfl, Kd.R_nil _ _ _ _ _, HX.out.below⟩

set_option maxRecDepth 100000 in
set_option maxHeartbeats 4000000 in
theorem delDel_part (s1 k1 p1 n1 : Int) (t1 : ByteArray) (s2 k2 p2 n2 : Int) (t2 : ByteArray) (w : World) (h1 : 0 ≤ p1) (h2 : p1 ≤ 20000) (h3 : 1 ≤ n1) (h4 : n1 ≤ 20000) (h5 : 0 ≤ p2) (h6 : p2 ≤ 20000) (h7 : 1 ≤ n2) (h8 : n2 ≤ 20000) (hx : max p1 p2 < min (p1 + n1) (p2 + n2)) (he : n1 ≠ min (p1 + n1) (p2 + n2) - max p1 p2) :
    Calls Tryd.prog 26 #[.agg #[.int .i64 s1, .int .i64 k1, .int .i64 p1, .int .i64 n1, .string t1], .agg #[.int .i64 s2, .int .i64 k2, .int .i64 p2, .int .i64 n2, .string t2]] w fun e w' => ∃ v, e = .returned (.tuple #[v, .agg #[.int .i64 2, .int .i64 (max p1 p2 - p2), .int .i64 (min (p1 + n1) (p2 + n2) - max p1 p2)]]) ∧ Kd.R k33 33 w' w.heap.size (fun _ => True) v [(⟨s1, k1, min p1 p2, n1 - (min (p1 + n1) (p2 + n2) - max p1 p2), t1⟩ : S33)] ∧ Below w.heap.size w w' := by
  have HE := Lib.hid he
  clear he
  have HB0 := Lib.hid ((((Bxs.start w).new #[.int .i64 s1, .int .i64 k1, .int .i64 p1, .int .i64 n1, .string t1] 33).new #[.int .i64 s2, .int .i64 k2, .int .i64 p2, .int .i64 n2, .string t2] 33).new #[.int .i64 0, .int .i64 0, .int .i64 0] 29)
  have hu33 := Tryd.underlying33
  have hu29 := Tryd.underlying29
  go_enter Tryd.func26, Tryd.ntmps26
  go_wp2
  obtain ⟨W1, hW1⟩ : ∃ x, ((w.alloc (.cells #[.int .i64 s1, .int .i64 k1, .int .i64 p1, .int .i64 n1, .string t1] 33)).alloc (.cells #[.int .i64 s2, .int .i64 k2, .int .i64 p2, .int .i64 n2, .string t2] 33)).alloc (.cells #[.int .i64 0, .int .i64 0, .int .i64 0] 29) = x := ⟨_, rfl⟩
  have HX : Hid (Bxs w [((w.heap.size + 1 + 1), #[.int .i64 0, .int .i64 0, .int .i64 0], 29), ((w.heap.size + 1), #[.int .i64 s2, .int .i64 k2, .int .i64 p2, .int .i64 n2, .string t2], 33), (w.heap.size, #[.int .i64 s1, .int .i64 k1, .int .i64 p1, .int .i64 n1, .string t1], 33)] W1) := by
    rw [← hW1]
    simpa [Hid] using HB0.out
  rw [hW1]
  clear hW1 HB0
  have c2_2 : W1.cell? ⟨w.heap.size, 2, none⟩ = some (.int .i64 p1) := (HX.out.cell 2 rfl 2).trans rfl
  have c2_3 : W1.cell? ⟨w.heap.size, 3, none⟩ = some (.int .i64 n1) := (HX.out.cell 2 rfl 3).trans rfl
  have c1_2 : W1.cell? ⟨(w.heap.size + 1), 2, none⟩ = some (.int .i64 p2) := (HX.out.cell 1 rfl 2).trans rfl
  have c1_3 : W1.cell? ⟨(w.heap.size + 1), 3, none⟩ = some (.int .i64 n2) := (HX.out.cell 1 rfl 3).trans rfl
  go_quiet (fail)
  clear c2_2 c2_3 c1_2 c1_3
  obtain ⟨W2, hW2⟩ : ∃ x, W1.drewN nq = x := ⟨_, rfl⟩
  rw [hW2]
  have HY := Lib.hid (hW2 ▸ HX.out.drewN nq)
  clear HX
  have HX := HY
  clear HY hW2
  have c1_2 : W2.cell? ⟨(w.heap.size + 1), 2, none⟩ = some (.int .i64 p2) := (HX.out.cell 1 rfl 2).trans rfl
  have c1_3 : W2.cell? ⟨(w.heap.size + 1), 3, none⟩ = some (.int .i64 n2) := (HX.out.cell 1 rfl 3).trans rfl
  have c2_2 : W2.cell? ⟨w.heap.size, 2, none⟩ = some (.int .i64 p1) := (HX.out.cell 2 rfl 2).trans rfl
  have c2_3 : W2.cell? ⟨w.heap.size, 3, none⟩ = some (.int .i64 n1) := (HX.out.cell 2 rfl 3).trans rfl
  obtain ⟨M, hM⟩ : ∃ x, max p1 p2 = x := ⟨_, rfl⟩
  obtain ⟨N, hN⟩ : ∃ x, min (p1 + n1) (p2 + n2) = x := ⟨_, rfl⟩
  rw [hM, hN] at hx ⊢
  have m1 : p1 ≤ M := by omega
  have m2 : p2 ≤ M := by omega
  have m3 : M ≤ 20000 := by omega
  have m4 : N ≤ 40000 := by omega
  have HM := Lib.hid hM
  have HN := Lib.hid hN
  clear hM hN
  go_upto_region 6 with fail
  go_upto_region 7 with fail
  clear c1_2 c1_3 c2_2 c2_3
  have hlt : w.heap.size + 1 + 1 < W2.heap.size := HX.out.lt (List.mem_cons_self ..)
  have hq1 : ¬ (W2.heap.size = w.heap.size) := by omega
  have hq2 : ¬ (w.heap.size = W2.heap.size) := by omega
  clear hlt
  obtain ⟨W3, hW_⟩ : ∃ x, W2.alloc (.cells #[.int .i64 2, .int .i64 (M - p2), .int .i64 (N - M)] 29) = x := ⟨_, rfl⟩
  have HY := Lib.hid (HX.out.new #[.int .i64 2, .int .i64 (M - p2), .int .i64 (N - M)] 29)
  rw [hW_] at HY
  rw [hW_]
  clear HX
  have HX := HY
  clear HY hW_
  have c3_2 : W3.cell? ⟨w.heap.size, 2, none⟩ = some (.int .i64 p1) := (HX.out.cell 3 rfl 2).trans rfl
  have f3_2 : W3.frozen? ⟨w.heap.size, 2, none⟩ = false := HX.out.free 3 rfl 2
  have c3_3 : W3.cell? ⟨w.heap.size, 3, none⟩ = some (.int .i64 n1) := (HX.out.cell 3 rfl 3).trans rfl
  have f3_3 : W3.frozen? ⟨w.heap.size, 3, none⟩ = false := HX.out.free 3 rfl 3
  have c2_2 : W3.cell? ⟨(w.heap.size + 1), 2, none⟩ = some (.int .i64 p2) := (HX.out.cell 2 rfl 2).trans rfl
  have c0_2 : W3.cell? ⟨W2.heap.size, 2, none⟩ = some (.int .i64 (N - M)) := (HX.out.cell 0 rfl 2).trans rfl
  go_region
  clear c3_2 c3_3 f3_2 f3_3 c2_2 c0_2
  obtain ⟨W4, hW_⟩ : ∃ x, ((W3.setCell ⟨w.heap.size, 2, none⟩ (.int .i64 (min p1 p2))).setCell ⟨w.heap.size, 3, none⟩ (.int .i64 (n1 - (N - M)))).drew = x := ⟨_, rfl⟩
  have HY := Lib.hid (((HX.out.put 3 rfl 2 (.int .i64 (min p1 p2))).put 3 rfl 3 (.int .i64 (n1 - (N - M)))).drew)
  rw [hW_] at HY
  rw [hW_]
  clear HX
  have HX := HY
  clear HY hW_
  have hz : ((n1 - (N - M)) == 0) = false := by
    have ha := HE.out
    have hb := HM.out
    have hc := HN.out
    rw [beq_eq_false_iff_ne]
    omega
  have c3_0 : W4.cell? ⟨w.heap.size, 0, none⟩ = some (.int .i64 s1) := (HX.out.cell 3 rfl 0).trans rfl
  have c3_1 : W4.cell? ⟨w.heap.size, 1, none⟩ = some (.int .i64 k1) := (HX.out.cell 3 rfl 1).trans rfl
  have c3_2 : W4.cell? ⟨w.heap.size, 2, none⟩ = some (.int .i64 (min p1 p2)) := (HX.out.cell 3 rfl 2).trans rfl
  have c3_3 : W4.cell? ⟨w.heap.size, 3, none⟩ = some (.int .i64 (n1 - (N - M))) := (HX.out.cell 3 rfl 3).trans rfl
  have c3_4 : W4.cell? ⟨w.heap.size, 4, none⟩ = some (.string t1) := (HX.out.cell 3 rfl 4).trans rfl
  have c0_0 : W4.cell? ⟨W2.heap.size, 0, none⟩ = some (.int .i64 2) := (HX.out.cell 0 rfl 0).trans rfl
  have c0_1 : W4.cell? ⟨W2.heap.size, 1, none⟩ = some (.int .i64 (M - p2)) := (HX.out.cell 0 rfl 1).trans rfl
  have c0_2 : W4.cell? ⟨W2.heap.size, 2, none⟩ = some (.int .i64 (N - M)) := (HX.out.cell 0 rfl 2).trans rfl
  have c1_0 : W4.cell? ⟨(w.heap.size + 1 + 1), 0, none⟩ = some (.int .i64 0) := (HX.out.cell 1 rfl 0).trans rfl
  have f1_0 : W4.frozen? ⟨(w.heap.size + 1 + 1), 0, none⟩ = false := HX.out.free 1 rfl 0
  have c1_1 : W4.cell? ⟨(w.heap.size + 1 + 1), 1, none⟩ = some (.int .i64 0) := (HX.out.cell 1 rfl 1).trans rfl
  have f1_1 : W4.frozen? ⟨(w.heap.size + 1 + 1), 1, none⟩ = false := HX.out.free 1 rfl 1
  have c1_2 : W4.cell? ⟨(w.heap.size + 1 + 1), 2, none⟩ = some (.int .i64 0) := (HX.out.cell 1 rfl 2).trans rfl
  have f1_2 : W4.frozen? ⟨(w.heap.size + 1 + 1), 2, none⟩ = false := HX.out.free 1 rfl 2
  have hq3 : ¬ (W2.heap.size = w.heap.size + 1 + 1) := by have := HX.out.nd; simp at this; omega
  go_upto_region 10 with fail
  have g0_0 : ∀ o, (W4.alloc o).cell? ⟨W2.heap.size, 0, none⟩ = some (.int .i64 2) := fun o => (blk_cell (blk_alloc (HX.out.blk 0 rfl) o) 0).trans rfl
  have g0_1 : ∀ o, (W4.alloc o).cell? ⟨W2.heap.size, 1, none⟩ = some (.int .i64 (M - p2)) := fun o => (blk_cell (blk_alloc (HX.out.blk 0 rfl) o) 1).trans rfl
  have g0_2 : ∀ o, (W4.alloc o).cell? ⟨W2.heap.size, 2, none⟩ = some (.int .i64 (N - M)) := fun o => (blk_cell (blk_alloc (HX.out.blk 0 rfl) o) 2).trans rfl
  have g1_0 : ∀ o, (W4.alloc o).cell? ⟨(w.heap.size + 1 + 1), 0, none⟩ = some (.int .i64 0) := fun o => (blk_cell (blk_alloc (HX.out.blk 1 rfl) o) 0).trans rfl
  have k1_0 : ∀ o, (W4.alloc o).frozen? ⟨(w.heap.size + 1 + 1), 0, none⟩ = false := fun o => blk_frozen (blk_alloc (HX.out.blk 1 rfl) o) 0
  have g1_1 : ∀ o, (W4.alloc o).cell? ⟨(w.heap.size + 1 + 1), 1, none⟩ = some (.int .i64 0) := fun o => (blk_cell (blk_alloc (HX.out.blk 1 rfl) o) 1).trans rfl
  have k1_1 : ∀ o, (W4.alloc o).frozen? ⟨(w.heap.size + 1 + 1), 1, none⟩ = false := fun o => blk_frozen (blk_alloc (HX.out.blk 1 rfl) o) 1
  have g1_2 : ∀ o, (W4.alloc o).cell? ⟨(w.heap.size + 1 + 1), 2, none⟩ = some (.int .i64 0) := fun o => (blk_cell (blk_alloc (HX.out.blk 1 rfl) o) 2).trans rfl
  have k1_2 : ∀ o, (W4.alloc o).frozen? ⟨(w.heap.size + 1 + 1), 2, none⟩ = false := fun o => blk_frozen (blk_alloc (HX.out.blk 1 rfl) o) 2
  go_region
  have HL := Lib.hid (R_new k33 (W := W4) (base := w.heap.size) (e := 33) (xs := [(⟨s1, k1, min p1 p2, n1 - (N - M), t1⟩ : S33)]) (inner := [.int .i64 s1, .int .i64 k1, .int .i64 (min p1 p2), .int .i64 (n1 - (N - M)), .string t1]) HX.out.below.size (Reps.c5 (k33_mkM _ _ _ (⟨s1, k1, min p1 p2, n1 - (N - M), t1⟩ : S33)) (Reps.none _ _)) (by simp))
  have HR := Lib.hid (Kd.R_drew (R_three HL.out (Nat.le_refl _) (blk_alloc (HX.out.blk 1 rfl) _) (by decide) (.int .i64 2) (.int .i64 (M - p2)) (.int .i64 (N - M))))
  clear HL
  have HN2 := Lib.hid (HX.out.new #[.int .i64 s1, .int .i64 k1, .int .i64 (min p1 p2), .int .i64 (n1 - (N - M)), .string t1] 33)
  obtain ⟨W5, hW_⟩ : ∃ x, ((((W4.alloc (.cells #[.int .i64 s1, .int .i64 k1, .int .i64 (min p1 p2), .int .i64 (n1 - (N - M)), .string t1] 33)).setCell ⟨w.heap.size + 1 + 1, 0, none⟩ (.int .i64 2)).setCell ⟨w.heap.size + 1 + 1, 1, none⟩ (.int .i64 (M - p2))).setCell ⟨w.heap.size + 1 + 1, 2, none⟩ (.int .i64 (N - M))).drew = x := ⟨_, rfl⟩
  have HY := Lib.hid ((((HN2.out.put 2 rfl 0 (.int .i64 2)).put 2 rfl 1 (.int .i64 (M - p2))).put 2 rfl 2 (.int .i64 (N - M))).drew)
  rw [hW_] at HY HR
  rw [hW_]
  clear HX HN2
  have HX := HY
  clear HY hW_
  go_wp2
  refine bodyPost_ret (results_tc rfl _ _ (w.heap.size + 1 + 1) 29 #[.int .i64 2, .int .i64 (M - p2), .int .i64 (N - M)] (0, 0) _ rfl (HX.out.blk 2 rfl) hu29 rfl (by kernel_rfl)) rfl ?_
  obtain rfl := HM.out
  obtain rfl := HN.out
  exact ⟨_, rfl, HR.out, HX.out.below⟩

end Go.Proofs.YtmkmpjkgpnahnaaDoor.X
