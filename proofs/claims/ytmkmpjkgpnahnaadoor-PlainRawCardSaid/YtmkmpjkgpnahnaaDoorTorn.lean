/-
 plain.torn, walked by hand (printed by wip/gen29b.py). Conditions: as typed (places and lengths from 0 to 40000).
-/
import Derived.Test.YtmkmpjkgpnahnaaDoorBox
import Derived.Test.YtmkmpjkgpnahnaaDoorPx0
import Derived.Deep.QuietTactic
import Derived.BigQuiet
namespace Go.Proofs.YtmkmpjkgpnahnaaDoor.X
open Go Go.RowKit Go.Shelf Go.Proofs.YtmkmpjkgpnahnaaDoorW.PrintWords Go.Proofs.YtmkmpjkgpnahnaaDoor.P
set_option linter.unusedVariables false
theorem elt0 {w : World} {A : Option Addr} {n : Nat} {xs : List S33} {x : S33} (h : Kd.C k33 w A n xs) (h0 : 0 < n) (hx : xs.getD 0 z33 = x) : ∃ ad : Addr, A = some ad ∧ w.cell? ad = some (.int .i64 x.f0) ∧ w.cell? ⟨ad.block, ad.off + 1, none⟩ = some (.int .i64 x.f1) ∧ w.cell? ⟨ad.block, ad.off + 2, none⟩ = some (.int .i64 x.f2) ∧ w.cell? ⟨ad.block, ad.off + 3, none⟩ = some (.int .i64 x.f3) ∧ w.cell? ⟨ad.block, ad.off + 4, none⟩ = some (.string x.f4) := by
 obtain ⟨ad, e, h0, h1, h2, h3, h4⟩ := at_T33 h 0 (by omega) (by omega)
 have hr : rd_T33 xs 0 = x := hx
 rw [show ((0 : Int)).toNat * 5 = 0 from rfl, Addr.add_zero'] at h0 h1 h2 h3 h4
 rw [hr] at h0 h1 h2 h3 h4
 exact ⟨ad, e, h0, h1, h2, h3, h4⟩

set_option maxRecDepth 100000 in
set_option maxHeartbeats 4000000 in
theorem torn_none (q1 q2 q3 s2 k2 p2 n2 : Int) (t2 : ByteArray) (w : World) (b1 : 0 ≤ p2) (b2 : p2 ≤ 20000) (b3 : 0 ≤ q2) (b4 : q2 ≤ 20000) (b5 : 0 ≤ q3) (b6 : q3 ≤ 20000) (A : Option Addr) (c : Nat) :
  Calls Tryd.prog 41 #[.slice A 0 c, .agg #[.int .i64 q1, .int .i64 q2, .int .i64 q3], .agg #[.int .i64 s2, .int .i64 k2, .int .i64 p2, .int .i64 n2, .string t2]] w fun e w' => e = .returned (.agg #[.int .i64 0, .int .i64 2, .int .i64 (p2 + q2), .int .i64 q3, .string ⟨#[]⟩]) ∧ Below w.heap.size w w' := by
 have HB0 := Lib.hid (((((Bxs.start w).new #[.int .i64 q1, .int .i64 q2, .int .i64 q3] 29).new #[.int .i64 s2, .int .i64 k2, .int .i64 p2, .int .i64 n2, .string t2] 33).new #[.int .i64 0, .int .i64 0, .int .i64 0, .int .i64 0, .string ⟨#[]⟩] 33).new #[.int .i64 0, .int .i64 0, .int .i64 0, .int .i64 0, .string ⟨#[]⟩] 33)
 have hu33 := Tryd.underlying33
 have hu29 := Tryd.underlying29
 go_enter Tryd.func41, Tryd.ntmps41
 go_upto_region 2 with fail
 obtain ⟨W1, hW1⟩ : ∃ W_, (((w.alloc (.cells #[.int .i64 q1, .int .i64 q2, .int .i64 q3] 29)).alloc (.cells #[.int .i64 s2, .int .i64 k2, .int .i64 p2, .int .i64 n2, .string t2] 33)).alloc (.cells #[.int .i64 0, .int .i64 0, .int .i64 0, .int .i64 0, .string ⟨#[]⟩] 33)).alloc (.cells #[.int .i64 0, .int .i64 0, .int .i64 0, .int .i64 0, .string ⟨#[]⟩] 33) = W_ := ⟨_, rfl⟩
 have HX : Hid (Bxs w [((w.heap.size + 1 + 1 + 1), #[.int .i64 0, .int .i64 0, .int .i64 0, .int .i64 0, .string ⟨#[]⟩], 33), ((w.heap.size + 1 + 1), #[.int .i64 0, .int .i64 0, .int .i64 0, .int .i64 0, .string ⟨#[]⟩], 33), ((w.heap.size + 1), #[.int .i64 s2, .int .i64 k2, .int .i64 p2, .int .i64 n2, .string t2], 33), (w.heap.size, #[.int .i64 q1, .int .i64 q2, .int .i64 q3], 29)] W1) := by
  rw [← hW1]
  simpa [Hid] using HB0.out
 rw [hW1]
 clear hW1 HB0
 have c3_1 : W1.cell? ⟨w.heap.size, 1, none⟩ = some (.int .i64 q2) := (HX.out.cell 3 rfl 1).trans rfl
 have c3_2 : W1.cell? ⟨w.heap.size, 2, none⟩ = some (.int .i64 q3) := (HX.out.cell 3 rfl 2).trans rfl
 have c2_2 : W1.cell? ⟨(w.heap.size + 1), 2, none⟩ = some (.int .i64 p2) := (HX.out.cell 2 rfl 2).trans rfl
 have cd0_0 : W1.cell? ⟨(w.heap.size + 1 + 1 + 1), 0, none⟩ = some (.int .i64 0) := (HX.out.cell 0 rfl 0).trans rfl
 have fd0_0 : W1.frozen? ⟨(w.heap.size + 1 + 1 + 1), 0, none⟩ = false := HX.out.free 0 rfl 0
 have cd0_1 : W1.cell? ⟨(w.heap.size + 1 + 1 + 1), 1, none⟩ = some (.int .i64 0) := (HX.out.cell 0 rfl 1).trans rfl
 have fd0_1 : W1.frozen? ⟨(w.heap.size + 1 + 1 + 1), 1, none⟩ = false := HX.out.free 0 rfl 1
 have cd0_2 : W1.cell? ⟨(w.heap.size + 1 + 1 + 1), 2, none⟩ = some (.int .i64 0) := (HX.out.cell 0 rfl 2).trans rfl
 have fd0_2 : W1.frozen? ⟨(w.heap.size + 1 + 1 + 1), 2, none⟩ = false := HX.out.free 0 rfl 2
 have cd0_3 : W1.cell? ⟨(w.heap.size + 1 + 1 + 1), 3, none⟩ = some (.int .i64 0) := (HX.out.cell 0 rfl 3).trans rfl
 have fd0_3 : W1.frozen? ⟨(w.heap.size + 1 + 1 + 1), 3, none⟩ = false := HX.out.free 0 rfl 3
 have cd0_4 : W1.cell? ⟨(w.heap.size + 1 + 1 + 1), 4, none⟩ = some (.string ⟨#[]⟩) := (HX.out.cell 0 rfl 4).trans rfl
 have fd0_4 : W1.frozen? ⟨(w.heap.size + 1 + 1 + 1), 4, none⟩ = false := HX.out.free 0 rfl 4
 go_upto_region 9 with fail
 clear c3_1 c3_2 c2_2 cd0_0 fd0_0 cd0_1 fd0_1 cd0_2 fd0_2 cd0_3 fd0_3 cd0_4 fd0_4
 obtain ⟨W2, hW_⟩ : ∃ W_, (((W1.setCell ⟨(w.heap.size + 1 + 1 + 1), 1, none⟩ (.int .i64 2)).setCell ⟨(w.heap.size + 1 + 1 + 1), 2, none⟩ (.int .i64 (p2 + q2))).setCell ⟨(w.heap.size + 1 + 1 + 1), 3, none⟩ (.int .i64 q3)) = W_ := ⟨_, rfl⟩
 rw [hW_]
 have HY : Hid (Bxs w [((w.heap.size + 1 + 1 + 1), #[.int .i64 0, .int .i64 2, .int .i64 (p2 + q2), .int .i64 q3, .string ⟨#[]⟩], 33), ((w.heap.size + 1 + 1), #[.int .i64 0, .int .i64 0, .int .i64 0, .int .i64 0, .string ⟨#[]⟩], 33), ((w.heap.size + 1), #[.int .i64 s2, .int .i64 k2, .int .i64 p2, .int .i64 n2, .string t2], 33), (w.heap.size, #[.int .i64 q1, .int .i64 q2, .int .i64 q3], 29)] W2) := by rw [← hW_]; exact Lib.hid ((((HX.out.put 0 rfl 1 (.int .i64 2)).put 0 rfl 2 (.int .i64 (p2 + q2))).put 0 rfl 3 (.int .i64 q3)))
 clear HX
 have HX := HY
 clear HY hW_
 have ce0_0 : W2.cell? ⟨(w.heap.size + 1 + 1 + 1), 0, none⟩ = some (.int .i64 0) := (HX.out.cell 0 rfl 0).trans rfl
 have ce0_1 : W2.cell? ⟨(w.heap.size + 1 + 1 + 1), 1, none⟩ = some (.int .i64 2) := (HX.out.cell 0 rfl 1).trans rfl
 have ce0_2 : W2.cell? ⟨(w.heap.size + 1 + 1 + 1), 2, none⟩ = some (.int .i64 (p2 + q2)) := (HX.out.cell 0 rfl 2).trans rfl
 have ce0_3 : W2.cell? ⟨(w.heap.size + 1 + 1 + 1), 3, none⟩ = some (.int .i64 q3) := (HX.out.cell 0 rfl 3).trans rfl
 have ce0_4 : W2.cell? ⟨(w.heap.size + 1 + 1 + 1), 4, none⟩ = some (.string ⟨#[]⟩) := (HX.out.cell 0 rfl 4).trans rfl
 have cr1_0 : W2.cell? ⟨(w.heap.size + 1 + 1), 0, none⟩ = some (.int .i64 0) := (HX.out.cell 1 rfl 0).trans rfl
 have fr1_0 : W2.frozen? ⟨(w.heap.size + 1 + 1), 0, none⟩ = false := HX.out.free 1 rfl 0
 have cr1_1 : W2.cell? ⟨(w.heap.size + 1 + 1), 1, none⟩ = some (.int .i64 0) := (HX.out.cell 1 rfl 1).trans rfl
 have fr1_1 : W2.frozen? ⟨(w.heap.size + 1 + 1), 1, none⟩ = false := HX.out.free 1 rfl 1
 have cr1_2 : W2.cell? ⟨(w.heap.size + 1 + 1), 2, none⟩ = some (.int .i64 0) := (HX.out.cell 1 rfl 2).trans rfl
 have fr1_2 : W2.frozen? ⟨(w.heap.size + 1 + 1), 2, none⟩ = false := HX.out.free 1 rfl 2
 have cr1_3 : W2.cell? ⟨(w.heap.size + 1 + 1), 3, none⟩ = some (.int .i64 0) := (HX.out.cell 1 rfl 3).trans rfl
 have fr1_3 : W2.frozen? ⟨(w.heap.size + 1 + 1), 3, none⟩ = false := HX.out.free 1 rfl 3
 have cr1_4 : W2.cell? ⟨(w.heap.size + 1 + 1), 4, none⟩ = some (.string ⟨#[]⟩) := (HX.out.cell 1 rfl 4).trans rfl
 have fr1_4 : W2.frozen? ⟨(w.heap.size + 1 + 1), 4, none⟩ = false := HX.out.free 1 rfl 4
 go_wp2
 clear ce0_0 ce0_1 ce0_2 ce0_3 ce0_4 cr1_0 fr1_0 cr1_1 fr1_1 cr1_2 fr1_2 cr1_3 fr1_3 cr1_4 fr1_4
 obtain ⟨W3, hW_⟩ : ∃ W_, (((((W2.setCell ⟨(w.heap.size + 1 + 1), 0, none⟩ (.int .i64 0)).setCell ⟨(w.heap.size + 1 + 1), 1, none⟩ (.int .i64 2)).setCell ⟨(w.heap.size + 1 + 1), 2, none⟩ (.int .i64 (p2 + q2))).setCell ⟨(w.heap.size + 1 + 1), 3, none⟩ (.int .i64 q3)).setCell ⟨(w.heap.size + 1 + 1), 4, none⟩ (.string ⟨#[]⟩)) = W_ := ⟨_, rfl⟩
 rw [hW_]
 have HY : Hid (Bxs w [((w.heap.size + 1 + 1 + 1), #[.int .i64 0, .int .i64 2, .int .i64 (p2 + q2), .int .i64 q3, .string ⟨#[]⟩], 33), ((w.heap.size + 1 + 1), #[.int .i64 0, .int .i64 2, .int .i64 (p2 + q2), .int .i64 q3, .string ⟨#[]⟩], 33), ((w.heap.size + 1), #[.int .i64 s2, .int .i64 k2, .int .i64 p2, .int .i64 n2, .string t2], 33), (w.heap.size, #[.int .i64 q1, .int .i64 q2, .int .i64 q3], 29)] W3) := by rw [← hW_]; exact Lib.hid ((((((HX.out.put 1 rfl 0 (.int .i64 0)).put 1 rfl 1 (.int .i64 2)).put 1 rfl 2 (.int .i64 (p2 + q2))).put 1 rfl 3 (.int .i64 q3)).put 1 rfl 4 (.string ⟨#[]⟩)))
 clear HX
 have HX := HY
 clear HY hW_
 refine bodyPost_ret (results_cell_row rfl _ _ (w.heap.size + 1 + 1) 33 #[.int .i64 0, .int .i64 2, .int .i64 (p2 + q2), .int .i64 q3, .string ⟨#[]⟩] (0, 0) _ rfl (HX.out.blk 1 rfl) Tryd.underlying33 rfl (by kernel_rfl)) rfl ?_
 exact ⟨rfl, HX.out.below⟩

set_option maxRecDepth 100000 in
set_option maxHeartbeats 4000000 in
theorem torn_at (q1 q2 q3 s2 k2 p2 n2 : Int) (t2 : ByteArray) (w : World) (b1 : 0 ≤ p2) (b2 : p2 ≤ 20000) (b3 : 0 ≤ q2) (b4 : q2 ≤ 20000) (b5 : 0 ≤ q3) (b6 : q3 ≤ 20000) (A : Option Addr) (c : Nat) (x : S33) (hC : Kd.C k33 w A 1 [x]) (b7 : 0 ≤ x.f3) (b8 : x.f3 ≤ 20000) (h : 0 < q2) :
  Calls Tryd.prog 41 #[.slice A 1 c, .agg #[.int .i64 q1, .int .i64 q2, .int .i64 q3], .agg #[.int .i64 s2, .int .i64 k2, .int .i64 p2, .int .i64 n2, .string t2]] w fun e w' => e = .returned (.agg #[.int .i64 x.f0, .int .i64 2, .int .i64 (p2 + q2), .int .i64 (x.f3 + q3), .string x.f4]) ∧ Below w.heap.size w w' := by
 have HB0 := Lib.hid (((((Bxs.start w).new #[.int .i64 q1, .int .i64 q2, .int .i64 q3] 29).new #[.int .i64 s2, .int .i64 k2, .int .i64 p2, .int .i64 n2, .string t2] 33).new #[.int .i64 0, .int .i64 0, .int .i64 0, .int .i64 0, .string ⟨#[]⟩] 33).new #[.int .i64 0, .int .i64 0, .int .i64 0, .int .i64 0, .string ⟨#[]⟩] 33)
 have hu33 := Tryd.underlying33
 have hu29 := Tryd.underlying29
 go_enter Tryd.func41, Tryd.ntmps41
 go_upto_region 2 with fail
 obtain ⟨W1, hW1⟩ : ∃ W_, (((w.alloc (.cells #[.int .i64 q1, .int .i64 q2, .int .i64 q3] 29)).alloc (.cells #[.int .i64 s2, .int .i64 k2, .int .i64 p2, .int .i64 n2, .string t2] 33)).alloc (.cells #[.int .i64 0, .int .i64 0, .int .i64 0, .int .i64 0, .string ⟨#[]⟩] 33)).alloc (.cells #[.int .i64 0, .int .i64 0, .int .i64 0, .int .i64 0, .string ⟨#[]⟩] 33) = W_ := ⟨_, rfl⟩
 have HX : Hid (Bxs w [((w.heap.size + 1 + 1 + 1), #[.int .i64 0, .int .i64 0, .int .i64 0, .int .i64 0, .string ⟨#[]⟩], 33), ((w.heap.size + 1 + 1), #[.int .i64 0, .int .i64 0, .int .i64 0, .int .i64 0, .string ⟨#[]⟩], 33), ((w.heap.size + 1), #[.int .i64 s2, .int .i64 k2, .int .i64 p2, .int .i64 n2, .string t2], 33), (w.heap.size, #[.int .i64 q1, .int .i64 q2, .int .i64 q3], 29)] W1) := by
  rw [← hW1]
  simpa [Hid] using HB0.out
 rw [hW1]
 clear hW1 HB0
 obtain ⟨ad, rfl, e0, e1, e2, e3, e4⟩ := elt0 (x := x) hC (by omega) rfl
 have x0 := (HX.out.below.cell (World.block_lt_of_cell? w _ e0)).trans e0
 have x1 := (HX.out.below.cell (World.block_lt_of_cell? w _ e1)).trans e1
 have x2 := (HX.out.below.cell (World.block_lt_of_cell? w _ e2)).trans e2
 have x3 := (HX.out.below.cell (World.block_lt_of_cell? w _ e3)).trans e3
 have x4 := (HX.out.below.cell (World.block_lt_of_cell? w _ e4)).trans e4
 clear e0 e1 e2 e3 e4
 have cd0_0 : W1.cell? ⟨(w.heap.size + 1 + 1 + 1), 0, none⟩ = some (.int .i64 0) := (HX.out.cell 0 rfl 0).trans rfl
 have fd0_0 : W1.frozen? ⟨(w.heap.size + 1 + 1 + 1), 0, none⟩ = false := HX.out.free 0 rfl 0
 have cd0_1 : W1.cell? ⟨(w.heap.size + 1 + 1 + 1), 1, none⟩ = some (.int .i64 0) := (HX.out.cell 0 rfl 1).trans rfl
 have fd0_1 : W1.frozen? ⟨(w.heap.size + 1 + 1 + 1), 1, none⟩ = false := HX.out.free 0 rfl 1
 have cd0_2 : W1.cell? ⟨(w.heap.size + 1 + 1 + 1), 2, none⟩ = some (.int .i64 0) := (HX.out.cell 0 rfl 2).trans rfl
 have fd0_2 : W1.frozen? ⟨(w.heap.size + 1 + 1 + 1), 2, none⟩ = false := HX.out.free 0 rfl 2
 have cd0_3 : W1.cell? ⟨(w.heap.size + 1 + 1 + 1), 3, none⟩ = some (.int .i64 0) := (HX.out.cell 0 rfl 3).trans rfl
 have fd0_3 : W1.frozen? ⟨(w.heap.size + 1 + 1 + 1), 3, none⟩ = false := HX.out.free 0 rfl 3
 have cd0_4 : W1.cell? ⟨(w.heap.size + 1 + 1 + 1), 4, none⟩ = some (.string ⟨#[]⟩) := (HX.out.cell 0 rfl 4).trans rfl
 have fd0_4 : W1.frozen? ⟨(w.heap.size + 1 + 1 + 1), 4, none⟩ = false := HX.out.free 0 rfl 4
 go_upto_region 4 with fail
 clear x0 x1 x2 x3 x4 cd0_0 fd0_0 cd0_1 fd0_1 cd0_2 fd0_2 cd0_3 fd0_3 cd0_4 fd0_4
 obtain ⟨W2, hW_⟩ : ∃ W_, (((((W1.setCell ⟨(w.heap.size + 1 + 1 + 1), 0, none⟩ (.int .i64 x.f0)).setCell ⟨(w.heap.size + 1 + 1 + 1), 1, none⟩ (.int .i64 x.f1)).setCell ⟨(w.heap.size + 1 + 1 + 1), 2, none⟩ (.int .i64 x.f2)).setCell ⟨(w.heap.size + 1 + 1 + 1), 3, none⟩ (.int .i64 x.f3)).setCell ⟨(w.heap.size + 1 + 1 + 1), 4, none⟩ (.string x.f4)) = W_ := ⟨_, rfl⟩
 rw [hW_]
 have HY : Hid (Bxs w [((w.heap.size + 1 + 1 + 1), #[.int .i64 x.f0, .int .i64 x.f1, .int .i64 x.f2, .int .i64 x.f3, .string x.f4], 33), ((w.heap.size + 1 + 1), #[.int .i64 0, .int .i64 0, .int .i64 0, .int .i64 0, .string ⟨#[]⟩], 33), ((w.heap.size + 1), #[.int .i64 s2, .int .i64 k2, .int .i64 p2, .int .i64 n2, .string t2], 33), (w.heap.size, #[.int .i64 q1, .int .i64 q2, .int .i64 q3], 29)] W2) := by rw [← hW_]; exact Lib.hid ((((((HX.out.put 0 rfl 0 (.int .i64 x.f0)).put 0 rfl 1 (.int .i64 x.f1)).put 0 rfl 2 (.int .i64 x.f2)).put 0 rfl 3 (.int .i64 x.f3)).put 0 rfl 4 (.string x.f4)))
 clear HX
 have HX := HY
 clear HY hW_
 have c3_1 : W2.cell? ⟨w.heap.size, 1, none⟩ = some (.int .i64 q2) := (HX.out.cell 3 rfl 1).trans rfl
 have c3_2 : W2.cell? ⟨w.heap.size, 2, none⟩ = some (.int .i64 q3) := (HX.out.cell 3 rfl 2).trans rfl
 have c2_2 : W2.cell? ⟨(w.heap.size + 1), 2, none⟩ = some (.int .i64 p2) := (HX.out.cell 2 rfl 2).trans rfl
 have cd0_0 : W2.cell? ⟨(w.heap.size + 1 + 1 + 1), 0, none⟩ = some (.int .i64 x.f0) := (HX.out.cell 0 rfl 0).trans rfl
 have fd0_0 : W2.frozen? ⟨(w.heap.size + 1 + 1 + 1), 0, none⟩ = false := HX.out.free 0 rfl 0
 have cd0_1 : W2.cell? ⟨(w.heap.size + 1 + 1 + 1), 1, none⟩ = some (.int .i64 x.f1) := (HX.out.cell 0 rfl 1).trans rfl
 have fd0_1 : W2.frozen? ⟨(w.heap.size + 1 + 1 + 1), 1, none⟩ = false := HX.out.free 0 rfl 1
 have cd0_2 : W2.cell? ⟨(w.heap.size + 1 + 1 + 1), 2, none⟩ = some (.int .i64 x.f2) := (HX.out.cell 0 rfl 2).trans rfl
 have fd0_2 : W2.frozen? ⟨(w.heap.size + 1 + 1 + 1), 2, none⟩ = false := HX.out.free 0 rfl 2
 have cd0_3 : W2.cell? ⟨(w.heap.size + 1 + 1 + 1), 3, none⟩ = some (.int .i64 x.f3) := (HX.out.cell 0 rfl 3).trans rfl
 have fd0_3 : W2.frozen? ⟨(w.heap.size + 1 + 1 + 1), 3, none⟩ = false := HX.out.free 0 rfl 3
 have cd0_4 : W2.cell? ⟨(w.heap.size + 1 + 1 + 1), 4, none⟩ = some (.string x.f4) := (HX.out.cell 0 rfl 4).trans rfl
 have fd0_4 : W2.frozen? ⟨(w.heap.size + 1 + 1 + 1), 4, none⟩ = false := HX.out.free 0 rfl 4
 go_upto_region 9 with fail
 clear c3_1 c3_2 c2_2 cd0_0 fd0_0 cd0_1 fd0_1 cd0_2 fd0_2 cd0_3 fd0_3 cd0_4 fd0_4
 obtain ⟨W4, hW_⟩ : ∃ W_, (((W2.setCell ⟨(w.heap.size + 1 + 1 + 1), 1, none⟩ (.int .i64 2)).setCell ⟨(w.heap.size + 1 + 1 + 1), 2, none⟩ (.int .i64 (p2 + q2))).setCell ⟨(w.heap.size + 1 + 1 + 1), 3, none⟩ (.int .i64 (x.f3 + q3))) = W_ := ⟨_, rfl⟩
 rw [hW_]
 have HY : Hid (Bxs w [((w.heap.size + 1 + 1 + 1), #[.int .i64 x.f0, .int .i64 2, .int .i64 (p2 + q2), .int .i64 (x.f3 + q3), .string x.f4], 33), ((w.heap.size + 1 + 1), #[.int .i64 0, .int .i64 0, .int .i64 0, .int .i64 0, .string ⟨#[]⟩], 33), ((w.heap.size + 1), #[.int .i64 s2, .int .i64 k2, .int .i64 p2, .int .i64 n2, .string t2], 33), (w.heap.size, #[.int .i64 q1, .int .i64 q2, .int .i64 q3], 29)] W4) := by rw [← hW_]; exact Lib.hid ((((HX.out.put 0 rfl 1 (.int .i64 2)).put 0 rfl 2 (.int .i64 (p2 + q2))).put 0 rfl 3 (.int .i64 (x.f3 + q3))))
 clear HX
 have HX := HY
 clear HY hW_
 have ce0_0 : W4.cell? ⟨(w.heap.size + 1 + 1 + 1), 0, none⟩ = some (.int .i64 x.f0) := (HX.out.cell 0 rfl 0).trans rfl
 have ce0_1 : W4.cell? ⟨(w.heap.size + 1 + 1 + 1), 1, none⟩ = some (.int .i64 2) := (HX.out.cell 0 rfl 1).trans rfl
 have ce0_2 : W4.cell? ⟨(w.heap.size + 1 + 1 + 1), 2, none⟩ = some (.int .i64 (p2 + q2)) := (HX.out.cell 0 rfl 2).trans rfl
 have ce0_3 : W4.cell? ⟨(w.heap.size + 1 + 1 + 1), 3, none⟩ = some (.int .i64 (x.f3 + q3)) := (HX.out.cell 0 rfl 3).trans rfl
 have ce0_4 : W4.cell? ⟨(w.heap.size + 1 + 1 + 1), 4, none⟩ = some (.string x.f4) := (HX.out.cell 0 rfl 4).trans rfl
 have cr1_0 : W4.cell? ⟨(w.heap.size + 1 + 1), 0, none⟩ = some (.int .i64 0) := (HX.out.cell 1 rfl 0).trans rfl
 have fr1_0 : W4.frozen? ⟨(w.heap.size + 1 + 1), 0, none⟩ = false := HX.out.free 1 rfl 0
 have cr1_1 : W4.cell? ⟨(w.heap.size + 1 + 1), 1, none⟩ = some (.int .i64 0) := (HX.out.cell 1 rfl 1).trans rfl
 have fr1_1 : W4.frozen? ⟨(w.heap.size + 1 + 1), 1, none⟩ = false := HX.out.free 1 rfl 1
 have cr1_2 : W4.cell? ⟨(w.heap.size + 1 + 1), 2, none⟩ = some (.int .i64 0) := (HX.out.cell 1 rfl 2).trans rfl
 have fr1_2 : W4.frozen? ⟨(w.heap.size + 1 + 1), 2, none⟩ = false := HX.out.free 1 rfl 2
 have cr1_3 : W4.cell? ⟨(w.heap.size + 1 + 1), 3, none⟩ = some (.int .i64 0) := (HX.out.cell 1 rfl 3).trans rfl
 have fr1_3 : W4.frozen? ⟨(w.heap.size + 1 + 1), 3, none⟩ = false := HX.out.free 1 rfl 3
 have cr1_4 : W4.cell? ⟨(w.heap.size + 1 + 1), 4, none⟩ = some (.string ⟨#[]⟩) := (HX.out.cell 1 rfl 4).trans rfl
 have fr1_4 : W4.frozen? ⟨(w.heap.size + 1 + 1), 4, none⟩ = false := HX.out.free 1 rfl 4
 go_wp2
 clear ce0_0 ce0_1 ce0_2 ce0_3 ce0_4 cr1_0 fr1_0 cr1_1 fr1_1 cr1_2 fr1_2 cr1_3 fr1_3 cr1_4 fr1_4
 obtain ⟨W3, hW_⟩ : ∃ W_, (((((W4.setCell ⟨(w.heap.size + 1 + 1), 0, none⟩ (.int .i64 x.f0)).setCell ⟨(w.heap.size + 1 + 1), 1, none⟩ (.int .i64 2)).setCell ⟨(w.heap.size + 1 + 1), 2, none⟩ (.int .i64 (p2 + q2))).setCell ⟨(w.heap.size + 1 + 1), 3, none⟩ (.int .i64 (x.f3 + q3))).setCell ⟨(w.heap.size + 1 + 1), 4, none⟩ (.string x.f4)) = W_ := ⟨_, rfl⟩
 rw [hW_]
 have HY : Hid (Bxs w [((w.heap.size + 1 + 1 + 1), #[.int .i64 x.f0, .int .i64 2, .int .i64 (p2 + q2), .int .i64 (x.f3 + q3), .string x.f4], 33), ((w.heap.size + 1 + 1), #[.int .i64 x.f0, .int .i64 2, .int .i64 (p2 + q2), .int .i64 (x.f3 + q3), .string x.f4], 33), ((w.heap.size + 1), #[.int .i64 s2, .int .i64 k2, .int .i64 p2, .int .i64 n2, .string t2], 33), (w.heap.size, #[.int .i64 q1, .int .i64 q2, .int .i64 q3], 29)] W3) := by rw [← hW_]; exact Lib.hid ((((((HX.out.put 1 rfl 0 (.int .i64 x.f0)).put 1 rfl 1 (.int .i64 2)).put 1 rfl 2 (.int .i64 (p2 + q2))).put 1 rfl 3 (.int .i64 (x.f3 + q3))).put 1 rfl 4 (.string x.f4)))
 clear HX
 have HX := HY
 clear HY hW_
 refine bodyPost_ret (results_cell_row rfl _ _ (w.heap.size + 1 + 1) 33 #[.int .i64 x.f0, .int .i64 2, .int .i64 (p2 + q2), .int .i64 (x.f3 + q3), .string x.f4] (0, 0) _ rfl (HX.out.blk 1 rfl) Tryd.underlying33 rfl (by kernel_rfl)) rfl ?_
 exact ⟨rfl, HX.out.below⟩

set_option maxRecDepth 100000 in
set_option maxHeartbeats 4000000 in
theorem torn_in (q1 q2 q3 s2 k2 p2 n2 : Int) (t2 : ByteArray) (w : World) (b1 : 0 ≤ p2) (b2 : p2 ≤ 20000) (b3 : 0 ≤ q2) (b4 : q2 ≤ 20000) (b5 : 0 ≤ q3) (b6 : q3 ≤ 20000) (A : Option Addr) (c : Nat) (x : S33) (hC : Kd.C k33 w A 1 [x]) (b7 : 0 ≤ x.f3) (b8 : x.f3 ≤ 20000) (h : ¬ 0 < q2) :
  Calls Tryd.prog 41 #[.slice A 1 c, .agg #[.int .i64 q1, .int .i64 q2, .int .i64 q3], .agg #[.int .i64 s2, .int .i64 k2, .int .i64 p2, .int .i64 n2, .string t2]] w fun e w' => e = .returned (.agg #[.int .i64 x.f0, .int .i64 2, .int .i64 x.f2, .int .i64 (x.f3 + q3), .string x.f4]) ∧ Below w.heap.size w w' := by
 have HB0 := Lib.hid (((((Bxs.start w).new #[.int .i64 q1, .int .i64 q2, .int .i64 q3] 29).new #[.int .i64 s2, .int .i64 k2, .int .i64 p2, .int .i64 n2, .string t2] 33).new #[.int .i64 0, .int .i64 0, .int .i64 0, .int .i64 0, .string ⟨#[]⟩] 33).new #[.int .i64 0, .int .i64 0, .int .i64 0, .int .i64 0, .string ⟨#[]⟩] 33)
 have hu33 := Tryd.underlying33
 have hu29 := Tryd.underlying29
 go_enter Tryd.func41, Tryd.ntmps41
 go_upto_region 2 with fail
 obtain ⟨W1, hW1⟩ : ∃ W_, (((w.alloc (.cells #[.int .i64 q1, .int .i64 q2, .int .i64 q3] 29)).alloc (.cells #[.int .i64 s2, .int .i64 k2, .int .i64 p2, .int .i64 n2, .string t2] 33)).alloc (.cells #[.int .i64 0, .int .i64 0, .int .i64 0, .int .i64 0, .string ⟨#[]⟩] 33)).alloc (.cells #[.int .i64 0, .int .i64 0, .int .i64 0, .int .i64 0, .string ⟨#[]⟩] 33) = W_ := ⟨_, rfl⟩
 have HX : Hid (Bxs w [((w.heap.size + 1 + 1 + 1), #[.int .i64 0, .int .i64 0, .int .i64 0, .int .i64 0, .string ⟨#[]⟩], 33), ((w.heap.size + 1 + 1), #[.int .i64 0, .int .i64 0, .int .i64 0, .int .i64 0, .string ⟨#[]⟩], 33), ((w.heap.size + 1), #[.int .i64 s2, .int .i64 k2, .int .i64 p2, .int .i64 n2, .string t2], 33), (w.heap.size, #[.int .i64 q1, .int .i64 q2, .int .i64 q3], 29)] W1) := by
  rw [← hW1]
  simpa [Hid] using HB0.out
 rw [hW1]
 clear hW1 HB0
 obtain ⟨ad, rfl, e0, e1, e2, e3, e4⟩ := elt0 (x := x) hC (by omega) rfl
 have x0 := (HX.out.below.cell (World.block_lt_of_cell? w _ e0)).trans e0
 have x1 := (HX.out.below.cell (World.block_lt_of_cell? w _ e1)).trans e1
 have x2 := (HX.out.below.cell (World.block_lt_of_cell? w _ e2)).trans e2
 have x3 := (HX.out.below.cell (World.block_lt_of_cell? w _ e3)).trans e3
 have x4 := (HX.out.below.cell (World.block_lt_of_cell? w _ e4)).trans e4
 clear e0 e1 e2 e3 e4
 have cd0_0 : W1.cell? ⟨(w.heap.size + 1 + 1 + 1), 0, none⟩ = some (.int .i64 0) := (HX.out.cell 0 rfl 0).trans rfl
 have fd0_0 : W1.frozen? ⟨(w.heap.size + 1 + 1 + 1), 0, none⟩ = false := HX.out.free 0 rfl 0
 have cd0_1 : W1.cell? ⟨(w.heap.size + 1 + 1 + 1), 1, none⟩ = some (.int .i64 0) := (HX.out.cell 0 rfl 1).trans rfl
 have fd0_1 : W1.frozen? ⟨(w.heap.size + 1 + 1 + 1), 1, none⟩ = false := HX.out.free 0 rfl 1
 have cd0_2 : W1.cell? ⟨(w.heap.size + 1 + 1 + 1), 2, none⟩ = some (.int .i64 0) := (HX.out.cell 0 rfl 2).trans rfl
 have fd0_2 : W1.frozen? ⟨(w.heap.size + 1 + 1 + 1), 2, none⟩ = false := HX.out.free 0 rfl 2
 have cd0_3 : W1.cell? ⟨(w.heap.size + 1 + 1 + 1), 3, none⟩ = some (.int .i64 0) := (HX.out.cell 0 rfl 3).trans rfl
 have fd0_3 : W1.frozen? ⟨(w.heap.size + 1 + 1 + 1), 3, none⟩ = false := HX.out.free 0 rfl 3
 have cd0_4 : W1.cell? ⟨(w.heap.size + 1 + 1 + 1), 4, none⟩ = some (.string ⟨#[]⟩) := (HX.out.cell 0 rfl 4).trans rfl
 have fd0_4 : W1.frozen? ⟨(w.heap.size + 1 + 1 + 1), 4, none⟩ = false := HX.out.free 0 rfl 4
 go_upto_region 4 with fail
 clear x0 x1 x2 x3 x4 cd0_0 fd0_0 cd0_1 fd0_1 cd0_2 fd0_2 cd0_3 fd0_3 cd0_4 fd0_4
 obtain ⟨W2, hW_⟩ : ∃ W_, (((((W1.setCell ⟨(w.heap.size + 1 + 1 + 1), 0, none⟩ (.int .i64 x.f0)).setCell ⟨(w.heap.size + 1 + 1 + 1), 1, none⟩ (.int .i64 x.f1)).setCell ⟨(w.heap.size + 1 + 1 + 1), 2, none⟩ (.int .i64 x.f2)).setCell ⟨(w.heap.size + 1 + 1 + 1), 3, none⟩ (.int .i64 x.f3)).setCell ⟨(w.heap.size + 1 + 1 + 1), 4, none⟩ (.string x.f4)) = W_ := ⟨_, rfl⟩
 rw [hW_]
 have HY : Hid (Bxs w [((w.heap.size + 1 + 1 + 1), #[.int .i64 x.f0, .int .i64 x.f1, .int .i64 x.f2, .int .i64 x.f3, .string x.f4], 33), ((w.heap.size + 1 + 1), #[.int .i64 0, .int .i64 0, .int .i64 0, .int .i64 0, .string ⟨#[]⟩], 33), ((w.heap.size + 1), #[.int .i64 s2, .int .i64 k2, .int .i64 p2, .int .i64 n2, .string t2], 33), (w.heap.size, #[.int .i64 q1, .int .i64 q2, .int .i64 q3], 29)] W2) := by rw [← hW_]; exact Lib.hid ((((((HX.out.put 0 rfl 0 (.int .i64 x.f0)).put 0 rfl 1 (.int .i64 x.f1)).put 0 rfl 2 (.int .i64 x.f2)).put 0 rfl 3 (.int .i64 x.f3)).put 0 rfl 4 (.string x.f4)))
 clear HX
 have HX := HY
 clear HY hW_
 have c3_1 : W2.cell? ⟨w.heap.size, 1, none⟩ = some (.int .i64 q2) := (HX.out.cell 3 rfl 1).trans rfl
 have c3_2 : W2.cell? ⟨w.heap.size, 2, none⟩ = some (.int .i64 q3) := (HX.out.cell 3 rfl 2).trans rfl
 have c2_2 : W2.cell? ⟨(w.heap.size + 1), 2, none⟩ = some (.int .i64 p2) := (HX.out.cell 2 rfl 2).trans rfl
 have cd0_0 : W2.cell? ⟨(w.heap.size + 1 + 1 + 1), 0, none⟩ = some (.int .i64 x.f0) := (HX.out.cell 0 rfl 0).trans rfl
 have fd0_0 : W2.frozen? ⟨(w.heap.size + 1 + 1 + 1), 0, none⟩ = false := HX.out.free 0 rfl 0
 have cd0_1 : W2.cell? ⟨(w.heap.size + 1 + 1 + 1), 1, none⟩ = some (.int .i64 x.f1) := (HX.out.cell 0 rfl 1).trans rfl
 have fd0_1 : W2.frozen? ⟨(w.heap.size + 1 + 1 + 1), 1, none⟩ = false := HX.out.free 0 rfl 1
 have cd0_2 : W2.cell? ⟨(w.heap.size + 1 + 1 + 1), 2, none⟩ = some (.int .i64 x.f2) := (HX.out.cell 0 rfl 2).trans rfl
 have fd0_2 : W2.frozen? ⟨(w.heap.size + 1 + 1 + 1), 2, none⟩ = false := HX.out.free 0 rfl 2
 have cd0_3 : W2.cell? ⟨(w.heap.size + 1 + 1 + 1), 3, none⟩ = some (.int .i64 x.f3) := (HX.out.cell 0 rfl 3).trans rfl
 have fd0_3 : W2.frozen? ⟨(w.heap.size + 1 + 1 + 1), 3, none⟩ = false := HX.out.free 0 rfl 3
 have cd0_4 : W2.cell? ⟨(w.heap.size + 1 + 1 + 1), 4, none⟩ = some (.string x.f4) := (HX.out.cell 0 rfl 4).trans rfl
 have fd0_4 : W2.frozen? ⟨(w.heap.size + 1 + 1 + 1), 4, none⟩ = false := HX.out.free 0 rfl 4
 go_upto_region 9 with fail
 clear c3_1 c3_2 c2_2 cd0_0 fd0_0 cd0_1 fd0_1 cd0_2 fd0_2 cd0_3 fd0_3 cd0_4 fd0_4
 obtain ⟨W4, hW_⟩ : ∃ W_, ((W2.setCell ⟨(w.heap.size + 1 + 1 + 1), 1, none⟩ (.int .i64 2)).setCell ⟨(w.heap.size + 1 + 1 + 1), 3, none⟩ (.int .i64 (x.f3 + q3))) = W_ := ⟨_, rfl⟩
 rw [hW_]
 have HY : Hid (Bxs w [((w.heap.size + 1 + 1 + 1), #[.int .i64 x.f0, .int .i64 2, .int .i64 x.f2, .int .i64 (x.f3 + q3), .string x.f4], 33), ((w.heap.size + 1 + 1), #[.int .i64 0, .int .i64 0, .int .i64 0, .int .i64 0, .string ⟨#[]⟩], 33), ((w.heap.size + 1), #[.int .i64 s2, .int .i64 k2, .int .i64 p2, .int .i64 n2, .string t2], 33), (w.heap.size, #[.int .i64 q1, .int .i64 q2, .int .i64 q3], 29)] W4) := by rw [← hW_]; exact Lib.hid (((HX.out.put 0 rfl 1 (.int .i64 2)).put 0 rfl 3 (.int .i64 (x.f3 + q3))))
 clear HX
 have HX := HY
 clear HY hW_
 have ce0_0 : W4.cell? ⟨(w.heap.size + 1 + 1 + 1), 0, none⟩ = some (.int .i64 x.f0) := (HX.out.cell 0 rfl 0).trans rfl
 have ce0_1 : W4.cell? ⟨(w.heap.size + 1 + 1 + 1), 1, none⟩ = some (.int .i64 2) := (HX.out.cell 0 rfl 1).trans rfl
 have ce0_2 : W4.cell? ⟨(w.heap.size + 1 + 1 + 1), 2, none⟩ = some (.int .i64 x.f2) := (HX.out.cell 0 rfl 2).trans rfl
 have ce0_3 : W4.cell? ⟨(w.heap.size + 1 + 1 + 1), 3, none⟩ = some (.int .i64 (x.f3 + q3)) := (HX.out.cell 0 rfl 3).trans rfl
 have ce0_4 : W4.cell? ⟨(w.heap.size + 1 + 1 + 1), 4, none⟩ = some (.string x.f4) := (HX.out.cell 0 rfl 4).trans rfl
 have cr1_0 : W4.cell? ⟨(w.heap.size + 1 + 1), 0, none⟩ = some (.int .i64 0) := (HX.out.cell 1 rfl 0).trans rfl
 have fr1_0 : W4.frozen? ⟨(w.heap.size + 1 + 1), 0, none⟩ = false := HX.out.free 1 rfl 0
 have cr1_1 : W4.cell? ⟨(w.heap.size + 1 + 1), 1, none⟩ = some (.int .i64 0) := (HX.out.cell 1 rfl 1).trans rfl
 have fr1_1 : W4.frozen? ⟨(w.heap.size + 1 + 1), 1, none⟩ = false := HX.out.free 1 rfl 1
 have cr1_2 : W4.cell? ⟨(w.heap.size + 1 + 1), 2, none⟩ = some (.int .i64 0) := (HX.out.cell 1 rfl 2).trans rfl
 have fr1_2 : W4.frozen? ⟨(w.heap.size + 1 + 1), 2, none⟩ = false := HX.out.free 1 rfl 2
 have cr1_3 : W4.cell? ⟨(w.heap.size + 1 + 1), 3, none⟩ = some (.int .i64 0) := (HX.out.cell 1 rfl 3).trans rfl
 have fr1_3 : W4.frozen? ⟨(w.heap.size + 1 + 1), 3, none⟩ = false := HX.out.free 1 rfl 3
 have cr1_4 : W4.cell? ⟨(w.heap.size + 1 + 1), 4, none⟩ = some (.string ⟨#[]⟩) := (HX.out.cell 1 rfl 4).trans rfl
 have fr1_4 : W4.frozen? ⟨(w.heap.size + 1 + 1), 4, none⟩ = false := HX.out.free 1 rfl 4
 go_wp2
 clear ce0_0 ce0_1 ce0_2 ce0_3 ce0_4 cr1_0 fr1_0 cr1_1 fr1_1 cr1_2 fr1_2 cr1_3 fr1_3 cr1_4 fr1_4
 obtain ⟨W3, hW_⟩ : ∃ W_, (((((W4.setCell ⟨(w.heap.size + 1 + 1), 0, none⟩ (.int .i64 x.f0)).setCell ⟨(w.heap.size + 1 + 1), 1, none⟩ (.int .i64 2)).setCell ⟨(w.heap.size + 1 + 1), 2, none⟩ (.int .i64 x.f2)).setCell ⟨(w.heap.size + 1 + 1), 3, none⟩ (.int .i64 (x.f3 + q3))).setCell ⟨(w.heap.size + 1 + 1), 4, none⟩ (.string x.f4)) = W_ := ⟨_, rfl⟩
 rw [hW_]
 have HY : Hid (Bxs w [((w.heap.size + 1 + 1 + 1), #[.int .i64 x.f0, .int .i64 2, .int .i64 x.f2, .int .i64 (x.f3 + q3), .string x.f4], 33), ((w.heap.size + 1 + 1), #[.int .i64 x.f0, .int .i64 2, .int .i64 x.f2, .int .i64 (x.f3 + q3), .string x.f4], 33), ((w.heap.size + 1), #[.int .i64 s2, .int .i64 k2, .int .i64 p2, .int .i64 n2, .string t2], 33), (w.heap.size, #[.int .i64 q1, .int .i64 q2, .int .i64 q3], 29)] W3) := by rw [← hW_]; exact Lib.hid ((((((HX.out.put 1 rfl 0 (.int .i64 x.f0)).put 1 rfl 1 (.int .i64 2)).put 1 rfl 2 (.int .i64 x.f2)).put 1 rfl 3 (.int .i64 (x.f3 + q3))).put 1 rfl 4 (.string x.f4)))
 clear HX
 have HX := HY
 clear HY hW_
 refine bodyPost_ret (results_cell_row rfl _ _ (w.heap.size + 1 + 1) 33 #[.int .i64 x.f0, .int .i64 2, .int .i64 x.f2, .int .i64 (x.f3 + q3), .string x.f4] (0, 0) _ rfl (HX.out.blk 1 rfl) Tryd.underlying33 rfl (by kernel_rfl)) rfl ?_
 exact ⟨rfl, HX.out.below⟩

end Go.Proofs.YtmkmpjkgpnahnaaDoor.X
