/-
 plain.back, walked by hand (printed by wip/gen29bk.py). Conditions: as typed (places and lengths from 0 to 40000).
-/
import Derived.Test.YtmkmpjkgpnahnaaDoorBox
import Derived.Test.YtmkmpjkgpnahnaaDoorTorn
import Derived.Test.YtmkmpjkgpnahnaaDoorIncl
import Derived.Deep.RegionHeld3
import Derived.Laws.EntriesVeiled
import Derived.Deep.QuietTactic
import Derived.BigQuiet
namespace Go.Proofs.YtmkmpjkgpnahnaaDoor.X
open Go Go.RowKit Go.Shelf Go.Proofs.YtmkmpjkgpnahnaaDoorW.PrintWords Go.Proofs.YtmkmpjkgpnahnaaDoor.P
set_option linter.unusedVariables false
theorem gcell {W w1 : World} (hb : Below W.heap.size W w1) : ∀ p v, W.cell? p = some v → w1.cell? p = some v := fun p v h => (hb.cell (World.block_lt_of_cell? W _ h)).trans h
theorem ecell {W w1 : World} (hb : Below W.heap.size W w1) : (∀ p : Addr, p.block < W.heap.size → w1.cell? p = W.cell? p) ∧ (∀ p : Addr, p.block < W.heap.size → w1.frozen? p = W.frozen? p) := ⟨fun p h => hb.cell h, fun p h => hb.frozen h⟩
theorem elt1 {w : World} {A : Option Addr} {n : Nat} {xs : List S33} {x : S33} (h : Kd.C k33 w A n xs) (h0 : 1 < n) (hx : xs.getD 1 z33 = x) : ∃ ad : Addr, A = some ad ∧ w.cell? ⟨ad.block, ad.off + 5, none⟩ = some (.int .i64 x.f0) ∧ w.cell? ⟨ad.block, ad.off + 6, none⟩ = some (.int .i64 x.f1) ∧ w.cell? ⟨ad.block, ad.off + 7, none⟩ = some (.int .i64 x.f2) ∧ w.cell? ⟨ad.block, ad.off + 8, none⟩ = some (.int .i64 x.f3) ∧ w.cell? ⟨ad.block, ad.off + 9, none⟩ = some (.string x.f4) := by
 obtain ⟨ad, e, h0, h1, h2, h3, h4⟩ := at_T33 h 1 (by omega) (by omega)
 have hr : rd_T33 xs 1 = x := hx
 rw [show ((1 : Int)).toNat * 5 = 5 from rfl] at h0 h1 h2 h3 h4
 rw [hr] at h0 h1 h2 h3 h4
 exact ⟨ad, e, h0, h1, h2, h3, h4⟩

set_option maxRecDepth 100000 in
set_option maxHeartbeats 4000000 in
theorem back_two (q1 q2 q3 s2 k2 p2 n2 : Int) (t2 : ByteArray) (w : World) (b1 : 0 ≤ p2) (b2 : p2 ≤ 20000) (b3 : 0 ≤ q2) (b4 : q2 ≤ 20000) (b5 : 0 ≤ q3) (b6 : q3 ≤ 20000) (A : Option Addr) (c : Nat) (y x : S33) (hC : Kd.C k33 w A 2 [y, x]) (b7 : 0 ≤ x.f3) (b8 : x.f3 ≤ 20000) (b9 : 0 ≤ y.f3) (b10 : y.f3 ≤ 20000) :
  Calls Tryd.prog 30 #[.slice A 2 c, .agg #[.int .i64 q1, .int .i64 q2, .int .i64 q3], .agg #[.int .i64 s2, .int .i64 k2, .int .i64 p2, .int .i64 n2, .string t2]] w fun e w' => e = .returned (.agg #[.int .i64 x.f0, .int .i64 x.f1, .int .i64 x.f2, .int .i64 (x.f3 + y.f3), .string x.f4]) ∧ Below w.heap.size w w' := by
 have HB0 := Lib.hid ((((Bxs.start w).new #[.int .i64 q1, .int .i64 q2, .int .i64 q3] 29).new #[.int .i64 s2, .int .i64 k2, .int .i64 p2, .int .i64 n2, .string t2] 33).new #[.int .i64 0, .int .i64 0, .int .i64 0, .int .i64 0, .string ⟨#[]⟩] 33)
 have hu33 := Tryd.underlying33
 have hu29 := Tryd.underlying29
 go_enter Tryd.func30, Tryd.ntmps30
 go_upto_region 1 with fail
 obtain ⟨W1, hW1⟩ : ∃ W_, ((w.alloc (.cells #[.int .i64 q1, .int .i64 q2, .int .i64 q3] 29)).alloc (.cells #[.int .i64 s2, .int .i64 k2, .int .i64 p2, .int .i64 n2, .string t2] 33)).alloc (.cells #[.int .i64 0, .int .i64 0, .int .i64 0, .int .i64 0, .string ⟨#[]⟩] 33) = W_ := ⟨_, rfl⟩
 have HX : Hid (Bxs w [((w.heap.size + 1 + 1), #[.int .i64 0, .int .i64 0, .int .i64 0, .int .i64 0, .string ⟨#[]⟩], 33), ((w.heap.size + 1), #[.int .i64 s2, .int .i64 k2, .int .i64 p2, .int .i64 n2, .string t2], 33), (w.heap.size, #[.int .i64 q1, .int .i64 q2, .int .i64 q3], 29)] W1) := by
  rw [← hW1]
  simpa [Hid] using HB0.out
 rw [hW1]
 clear hW1 HB0
 obtain ⟨ad', e', _, _, _, y3, _⟩ := elt0 (x := y) hC (by omega) rfl
 obtain ⟨ad, rfl, e0, e1, e2, e3, e4⟩ := elt1 (x := x) hC (by omega) rfl
 have x0 := (HX.out.below.cell (World.block_lt_of_cell? w _ e0)).trans e0
 have x1 := (HX.out.below.cell (World.block_lt_of_cell? w _ e1)).trans e1
 have x2 := (HX.out.below.cell (World.block_lt_of_cell? w _ e2)).trans e2
 have x3 := (HX.out.below.cell (World.block_lt_of_cell? w _ e3)).trans e3
 have x4 := (HX.out.below.cell (World.block_lt_of_cell? w _ e4)).trans e4
 clear e0 e1 e2 e3 e4
 injection e' with e'
 subst e'
 go_upto_region 4 with fail
 obtain ⟨g8, hg8⟩ : ∃ G_, W1.heap.size = G_ := ⟨_, rfl⟩
 obtain ⟨W2, hW_⟩ : ∃ W_, W1.alloc (.cells #[.int .i64 x.f0, .int .i64 x.f1, .int .i64 x.f2, .int .i64 x.f3, .string x.f4] 33) = W_ := ⟨_, rfl⟩
 have HY : Hid (Bxs w ((g8, #[.int .i64 x.f0, .int .i64 x.f1, .int .i64 x.f2, .int .i64 x.f3, .string x.f4], 33) :: [((w.heap.size + 1 + 1), #[.int .i64 0, .int .i64 0, .int .i64 0, .int .i64 0, .string ⟨#[]⟩], 33), ((w.heap.size + 1), #[.int .i64 s2, .int .i64 k2, .int .i64 p2, .int .i64 n2, .string t2], 33), (w.heap.size, #[.int .i64 q1, .int .i64 q2, .int .i64 q3], 29)]) W2) := by rw [← hW_, ← hg8]; exact HX.out.new _ _
 rw [hW_, hg8]
 clear HX x0 x1 x2 x3 x4
 have HX := HY
 clear HY hW_ hg8
 have y3' := (HX.out.below.cell (World.block_lt_of_cell? w _ y3)).trans y3
 have m1 : min x.f3 20000 = x.f3 := by omega
 have m2 : min y.f3 20000 = y.f3 := by omega
 have c0_3 : W2.cell? ⟨g8, 3, none⟩ = some (.int .i64 x.f3) := (HX.out.cell 0 rfl 3).trans rfl
 have f0_3 : W2.frozen? ⟨g8, 3, none⟩ = false := HX.out.free 0 rfl 3
 go_region
 clear c0_3 f0_3 y3' m1 m2
 obtain ⟨W3, hW_⟩ : ∃ W_, (W2.setCell ⟨g8, 3, none⟩ (.int .i64 (x.f3 + y.f3))).drew = W_ := ⟨_, rfl⟩
 rw [hW_]
 have HY : Hid (Bxs w ((g8, #[.int .i64 x.f0, .int .i64 x.f1, .int .i64 x.f2, .int .i64 (x.f3 + y.f3), .string x.f4], 33) :: [((w.heap.size + 1 + 1), #[.int .i64 0, .int .i64 0, .int .i64 0, .int .i64 0, .string ⟨#[]⟩], 33), ((w.heap.size + 1), #[.int .i64 s2, .int .i64 k2, .int .i64 p2, .int .i64 n2, .string t2], 33), (w.heap.size, #[.int .i64 q1, .int .i64 q2, .int .i64 q3], 29)]) W3) := by rw [← hW_]; exact Lib.hid ((HX.out.put 0 rfl 3 (.int .i64 (x.f3 + y.f3))).drew)
 clear HX
 have HX := HY
 clear HY hW_
 have ce0_0 : W3.cell? ⟨g8, 0, none⟩ = some (.int .i64 x.f0) := (HX.out.cell 0 rfl 0).trans rfl
 have ce0_1 : W3.cell? ⟨g8, 1, none⟩ = some (.int .i64 x.f1) := (HX.out.cell 0 rfl 1).trans rfl
 have ce0_2 : W3.cell? ⟨g8, 2, none⟩ = some (.int .i64 x.f2) := (HX.out.cell 0 rfl 2).trans rfl
 have ce0_3 : W3.cell? ⟨g8, 3, none⟩ = some (.int .i64 (x.f3 + y.f3)) := (HX.out.cell 0 rfl 3).trans rfl
 have ce0_4 : W3.cell? ⟨g8, 4, none⟩ = some (.string x.f4) := (HX.out.cell 0 rfl 4).trans rfl
 have cr1_0 : W3.cell? ⟨(w.heap.size + 1 + 1), 0, none⟩ = some (.int .i64 0) := (HX.out.cell 1 rfl 0).trans rfl
 have fr1_0 : W3.frozen? ⟨(w.heap.size + 1 + 1), 0, none⟩ = false := HX.out.free 1 rfl 0
 have cr1_1 : W3.cell? ⟨(w.heap.size + 1 + 1), 1, none⟩ = some (.int .i64 0) := (HX.out.cell 1 rfl 1).trans rfl
 have fr1_1 : W3.frozen? ⟨(w.heap.size + 1 + 1), 1, none⟩ = false := HX.out.free 1 rfl 1
 have cr1_2 : W3.cell? ⟨(w.heap.size + 1 + 1), 2, none⟩ = some (.int .i64 0) := (HX.out.cell 1 rfl 2).trans rfl
 have fr1_2 : W3.frozen? ⟨(w.heap.size + 1 + 1), 2, none⟩ = false := HX.out.free 1 rfl 2
 have cr1_3 : W3.cell? ⟨(w.heap.size + 1 + 1), 3, none⟩ = some (.int .i64 0) := (HX.out.cell 1 rfl 3).trans rfl
 have fr1_3 : W3.frozen? ⟨(w.heap.size + 1 + 1), 3, none⟩ = false := HX.out.free 1 rfl 3
 have cr1_4 : W3.cell? ⟨(w.heap.size + 1 + 1), 4, none⟩ = some (.string ⟨#[]⟩) := (HX.out.cell 1 rfl 4).trans rfl
 have fr1_4 : W3.frozen? ⟨(w.heap.size + 1 + 1), 4, none⟩ = false := HX.out.free 1 rfl 4
 go_wp2
 clear ce0_0 ce0_1 ce0_2 ce0_3 ce0_4 cr1_0 fr1_0 cr1_1 fr1_1 cr1_2 fr1_2 cr1_3 fr1_3 cr1_4 fr1_4
 obtain ⟨W4, hW_⟩ : ∃ W_, (((((W3.setCell ⟨(w.heap.size + 1 + 1), 0, none⟩ (.int .i64 x.f0)).setCell ⟨(w.heap.size + 1 + 1), 1, none⟩ (.int .i64 x.f1)).setCell ⟨(w.heap.size + 1 + 1), 2, none⟩ (.int .i64 x.f2)).setCell ⟨(w.heap.size + 1 + 1), 3, none⟩ (.int .i64 (x.f3 + y.f3))).setCell ⟨(w.heap.size + 1 + 1), 4, none⟩ (.string x.f4)) = W_ := ⟨_, rfl⟩
 rw [hW_]
 have HY : Hid (Bxs w ((g8, #[.int .i64 x.f0, .int .i64 x.f1, .int .i64 x.f2, .int .i64 (x.f3 + y.f3), .string x.f4], 33) :: [((w.heap.size + 1 + 1), #[.int .i64 x.f0, .int .i64 x.f1, .int .i64 x.f2, .int .i64 (x.f3 + y.f3), .string x.f4], 33), ((w.heap.size + 1), #[.int .i64 s2, .int .i64 k2, .int .i64 p2, .int .i64 n2, .string t2], 33), (w.heap.size, #[.int .i64 q1, .int .i64 q2, .int .i64 q3], 29)]) W4) := by rw [← hW_]; exact Lib.hid ((((((HX.out.put 1 rfl 0 (.int .i64 x.f0)).put 1 rfl 1 (.int .i64 x.f1)).put 1 rfl 2 (.int .i64 x.f2)).put 1 rfl 3 (.int .i64 (x.f3 + y.f3))).put 1 rfl 4 (.string x.f4)))
 clear HX
 have HX := HY
 clear HY hW_
 refine bodyPost_ret (results_cell_row rfl _ _ (w.heap.size + 1 + 1) 33 #[.int .i64 x.f0, .int .i64 x.f1, .int .i64 x.f2, .int .i64 (x.f3 + y.f3), .string x.f4] (0, 0) _ rfl (HX.out.blk 1 rfl) Tryd.underlying33 rfl (by kernel_rfl)) rfl ?_
 exact ⟨rfl, HX.out.below⟩

set_option maxRecDepth 100000 in
set_option maxHeartbeats 4000000 in
theorem back_place (q2 q3 s2 k2 p2 n2 : Int) (t2 : ByteArray) (w : World) (hT : Aside0 (XAmb w)) (b1 : 0 ≤ p2) (b2 : p2 ≤ 20000) (b3 : 0 ≤ q2) (b4 : q2 ≤ 20000) (b5 : 0 ≤ q3) (b6 : q3 ≤ 20000) (A : Option Addr) (c : Nat) (x : S33) (hC : Kd.C k33 w A 1 [x]) (b7 : 0 ≤ x.f2) (b8 : x.f2 ≤ 40000) (b9 : 0 ≤ x.f3) (b10 : x.f3 ≤ 20000)  :
  Calls Tryd.prog 30 #[.slice A 1 c, .agg #[.int .i64 1, .int .i64 q2, .int .i64 q3], .agg #[.int .i64 s2, .int .i64 k2, .int .i64 p2, .int .i64 n2, .string t2]] w fun e w' => e = .returned (.agg #[.int .i64 x.f0, .int .i64 x.f1, .int .i64 (p2 + q2), .int .i64 x.f3, .string x.f4]) ∧ Below w.heap.size w w' := by
 have HB0 := Lib.hid ((((Bxs.start w).new #[.int .i64 1, .int .i64 q2, .int .i64 q3] 29).new #[.int .i64 s2, .int .i64 k2, .int .i64 p2, .int .i64 n2, .string t2] 33).new #[.int .i64 0, .int .i64 0, .int .i64 0, .int .i64 0, .string ⟨#[]⟩] 33)
 have hu33 := Tryd.underlying33
 have hu29 := Tryd.underlying29
 go_enter Tryd.func30, Tryd.ntmps30
 go_upto_region 1 with fail
 obtain ⟨W1, hW1⟩ : ∃ W_, ((w.alloc (.cells #[.int .i64 1, .int .i64 q2, .int .i64 q3] 29)).alloc (.cells #[.int .i64 s2, .int .i64 k2, .int .i64 p2, .int .i64 n2, .string t2] 33)).alloc (.cells #[.int .i64 0, .int .i64 0, .int .i64 0, .int .i64 0, .string ⟨#[]⟩] 33) = W_ := ⟨_, rfl⟩
 have HX : Hid (Bxs w [((w.heap.size + 1 + 1), #[.int .i64 0, .int .i64 0, .int .i64 0, .int .i64 0, .string ⟨#[]⟩], 33), ((w.heap.size + 1), #[.int .i64 s2, .int .i64 k2, .int .i64 p2, .int .i64 n2, .string t2], 33), (w.heap.size, #[.int .i64 1, .int .i64 q2, .int .i64 q3], 29)] W1) := by
  rw [← hW1]
  simpa [Hid] using HB0.out
 rw [hW1]
 clear hW1 HB0
 obtain ⟨ad, rfl, e0, e1, e2, e3, e4⟩ := elt0 (x := x) hC (by omega) rfl
 have nad : ad.block ≠ w.heap.size + 1 + 1 := by have := World.block_lt_of_cell? w _ e0; omega
 have x0 := (HX.out.below.cell (World.block_lt_of_cell? w _ e0)).trans e0
 have x1 := (HX.out.below.cell (World.block_lt_of_cell? w _ e1)).trans e1
 have x2 := (HX.out.below.cell (World.block_lt_of_cell? w _ e2)).trans e2
 have x3 := (HX.out.below.cell (World.block_lt_of_cell? w _ e3)).trans e3
 have x4 := (HX.out.below.cell (World.block_lt_of_cell? w _ e4)).trans e4
 clear e0 e1 e2 e3 e4
 have c2_0 : W1.cell? ⟨w.heap.size, 0, none⟩ = some (.int .i64 1) := (HX.out.cell 2 rfl 0).trans rfl
 go_upto_region 7 with fail
 clear c2_0
 have wr1 : IntKind.i64.wrap (p2 + q2) = p2 + q2 := by rw [Go.Proofs.YtmkmpjkgpnahnaaDoorW.PrintLast.i64_w]; exact w64 (by omega) (by omega)
 have c1_2 : W1.cell? ⟨(w.heap.size + 1), 2, none⟩ = some (.int .i64 p2) := (HX.out.cell 1 rfl 2).trans rfl
 have c2_1 : W1.cell? ⟨w.heap.size, 1, none⟩ = some (.int .i64 q2) := (HX.out.cell 2 rfl 1).trans rfl
 have cr0_0 : W1.cell? ⟨(w.heap.size + 1 + 1), 0, none⟩ = some (.int .i64 0) := (HX.out.cell 0 rfl 0).trans rfl
 have fr0_0 : W1.frozen? ⟨(w.heap.size + 1 + 1), 0, none⟩ = false := HX.out.free 0 rfl 0
 have cr0_1 : W1.cell? ⟨(w.heap.size + 1 + 1), 1, none⟩ = some (.int .i64 0) := (HX.out.cell 0 rfl 1).trans rfl
 have fr0_1 : W1.frozen? ⟨(w.heap.size + 1 + 1), 1, none⟩ = false := HX.out.free 0 rfl 1
 have cr0_2 : W1.cell? ⟨(w.heap.size + 1 + 1), 2, none⟩ = some (.int .i64 0) := (HX.out.cell 0 rfl 2).trans rfl
 have fr0_2 : W1.frozen? ⟨(w.heap.size + 1 + 1), 2, none⟩ = false := HX.out.free 0 rfl 2
 have cr0_3 : W1.cell? ⟨(w.heap.size + 1 + 1), 3, none⟩ = some (.int .i64 0) := (HX.out.cell 0 rfl 3).trans rfl
 have fr0_3 : W1.frozen? ⟨(w.heap.size + 1 + 1), 3, none⟩ = false := HX.out.free 0 rfl 3
 have cr0_4 : W1.cell? ⟨(w.heap.size + 1 + 1), 4, none⟩ = some (.string ⟨#[]⟩) := (HX.out.cell 0 rfl 4).trans rfl
 have fr0_4 : W1.frozen? ⟨(w.heap.size + 1 + 1), 4, none⟩ = false := HX.out.free 0 rfl 4
 have lr : w.heap.size + 1 + 1 < W1.heap.size := HX.out.lt (x := ((w.heap.size + 1 + 1), #[.int .i64 0, .int .i64 0, .int .i64 0, .int .i64 0, .string ⟨#[]⟩], 33)) (by simp)
 have hS : ∀ (V : World) (i : Nat) (u : Value) (p : Addr), p.block ≠ w.heap.size + 1 + 1 → (V.setCell ⟨w.heap.size + 1 + 1, i, none⟩ u).cell? p = V.cell? p := fun V i u p h => World.cell?_setCell_other _ _ _ _ (fun e => h (by rw [← e]))
 have na : w.heap.size ≠ w.heap.size + 1 + 1 := by omega
 have nb : w.heap.size + 1 ≠ w.heap.size + 1 + 1 := by omega
 go_region_held3 (fun w' => w'.cell? ad = some (.int .i64 x.f0) ∧ w'.cell? ⟨ad.block, ad.off + 1, none⟩ = some (.int .i64 x.f1) ∧ w'.cell? ⟨ad.block, ad.off + 2, none⟩ = some (.int .i64 x.f2) ∧ w'.cell? ⟨ad.block, ad.off + 3, none⟩ = some (.int .i64 x.f3) ∧ w'.cell? ⟨ad.block, ad.off + 4, none⟩ = some (.string x.f4) ∧ w'.cell? ⟨(w.heap.size + 1), 2, none⟩ = some (.int .i64 p2) ∧ w'.cell? ⟨w.heap.size, 1, none⟩ = some (.int .i64 q2)) (go_keep) ((go_at_call 36; refine (plain_Do_at.calls x.f0 x.f1 x.f2 x.f3 x.f4 (p2 + q2) x.f0 x.f1 (p2 + q2) x.f3 x.f4 _ rfl).mono ?_; rintro e w9 ⟨rfl, hb⟩; have hc_ := gcell hb; have hE := below_step (Below.refl W1.heap.size W1).drew hb; obtain ⟨hd_, hf_⟩ := ecell hE))
 have HY := Lib.hid ((((((HX.out.drew.keep hb).put 0 rfl 0 (.int .i64 x.f0)).put 0 rfl 1 (.int .i64 x.f1)).put 0 rfl 2 (.int .i64 (p2 + q2))).put 0 rfl 3 (.int .i64 x.f3)).put 0 rfl 4 (.string x.f4))
 clear HX
 obtain ⟨W9, hW_⟩ : ∃ W_, (((((w9.setCell ⟨(w.heap.size + 1 + 1), 0, none⟩ (.int .i64 x.f0)).setCell ⟨(w.heap.size + 1 + 1), 1, none⟩ (.int .i64 x.f1)).setCell ⟨(w.heap.size + 1 + 1), 2, none⟩ (.int .i64 (p2 + q2))).setCell ⟨(w.heap.size + 1 + 1), 3, none⟩ (.int .i64 x.f3)).setCell ⟨(w.heap.size + 1 + 1), 4, none⟩ (.string x.f4)) = W_ := ⟨_, rfl⟩
 have HX : Hid (Bxs w [((w.heap.size + 1 + 1), #[.int .i64 x.f0, .int .i64 x.f1, .int .i64 (p2 + q2), .int .i64 x.f3, .string x.f4], 33), ((w.heap.size + 1), #[.int .i64 s2, .int .i64 k2, .int .i64 p2, .int .i64 n2, .string t2], 33), (w.heap.size, #[.int .i64 1, .int .i64 q2, .int .i64 q3], 29)] W9) := by rw [← hW_]; exact HY
 rw [hW_]
 clear HY hW_ lr c1_2 c2_1 cr0_0 fr0_0 cr0_1 fr0_1 cr0_2 fr0_2 cr0_3 fr0_3 cr0_4 fr0_4
 go_wp2
 refine bodyPost_ret (results_cell_row rfl _ _ (w.heap.size + 1 + 1) 33 #[.int .i64 x.f0, .int .i64 x.f1, .int .i64 (p2 + q2), .int .i64 x.f3, .string x.f4] (0, 0) _ rfl (HX.out.blk 0 rfl) Tryd.underlying33 rfl (by kernel_rfl)) rfl ?_
 exact ⟨rfl, HX.out.below⟩

set_option maxRecDepth 100000 in
set_option maxHeartbeats 4000000 in
theorem back_ins_gt (q2 q3 s2 p2 n2 : Int) (t2 : ByteArray) (w : World) (hT : Aside0 (XAmb w)) (b1 : 0 ≤ p2) (b2 : p2 ≤ 20000) (b3 : 0 ≤ q2) (b4 : q2 ≤ 20000) (b5 : 0 ≤ q3) (b6 : q3 ≤ 20000) (A : Option Addr) (c : Nat) (x : S33) (hC : Kd.C k33 w A 1 [x]) (b7 : 0 ≤ x.f2) (b8 : x.f2 ≤ 40000) (b9 : 0 ≤ x.f3) (b10 : x.f3 ≤ 20000) (hz : t2.size ≤ 800) (hz2 : lenU t2 ≤ 200) (h : p2 < x.f2) :
  Calls Tryd.prog 30 #[.slice A 1 c, .agg #[.int .i64 0, .int .i64 q2, .int .i64 q3], .agg #[.int .i64 s2, .int .i64 1, .int .i64 p2, .int .i64 n2, .string t2]] w fun e w' => e = .returned (.agg #[.int .i64 x.f0, .int .i64 x.f1, .int .i64 (x.f2 - szU t2), .int .i64 x.f3, .string x.f4]) ∧ Below w.heap.size w w' := by
 have HSZ := Lib.hid (size_f (s := s2) (k := 1) (p := p2) (n := n2) (t := t2) hz)
 have hs1 : 0 ≤ szU t2 ∧ szU t2 ≤ 200 := ⟨Int.le_max_left _ _, by unfold szU; omega⟩
 obtain ⟨z, hzz⟩ : ∃ z, szU t2 = z := ⟨_, rfl⟩
 rw [hzz] at hs1 HSZ ⊢
 obtain ⟨hs2, hs3⟩ := hs1
 have HB0 := Lib.hid ((((Bxs.start w).new #[.int .i64 0, .int .i64 q2, .int .i64 q3] 29).new #[.int .i64 s2, .int .i64 1, .int .i64 p2, .int .i64 n2, .string t2] 33).new #[.int .i64 0, .int .i64 0, .int .i64 0, .int .i64 0, .string ⟨#[]⟩] 33)
 have hu33 := Tryd.underlying33
 have hu29 := Tryd.underlying29
 go_enter Tryd.func30, Tryd.ntmps30
 go_upto_region 1 with fail
 obtain ⟨W1, hW1⟩ : ∃ W_, ((w.alloc (.cells #[.int .i64 0, .int .i64 q2, .int .i64 q3] 29)).alloc (.cells #[.int .i64 s2, .int .i64 1, .int .i64 p2, .int .i64 n2, .string t2] 33)).alloc (.cells #[.int .i64 0, .int .i64 0, .int .i64 0, .int .i64 0, .string ⟨#[]⟩] 33) = W_ := ⟨_, rfl⟩
 have HX : Hid (Bxs w [((w.heap.size + 1 + 1), #[.int .i64 0, .int .i64 0, .int .i64 0, .int .i64 0, .string ⟨#[]⟩], 33), ((w.heap.size + 1), #[.int .i64 s2, .int .i64 1, .int .i64 p2, .int .i64 n2, .string t2], 33), (w.heap.size, #[.int .i64 0, .int .i64 q2, .int .i64 q3], 29)] W1) := by
  rw [← hW1]
  simpa [Hid] using HB0.out
 rw [hW1]
 clear hW1 HB0
 obtain ⟨ad, rfl, e0, e1, e2, e3, e4⟩ := elt0 (x := x) hC (by omega) rfl
 have nad : ad.block ≠ w.heap.size + 1 + 1 := by have := World.block_lt_of_cell? w _ e0; omega
 have x0 := (HX.out.below.cell (World.block_lt_of_cell? w _ e0)).trans e0
 have x1 := (HX.out.below.cell (World.block_lt_of_cell? w _ e1)).trans e1
 have x2 := (HX.out.below.cell (World.block_lt_of_cell? w _ e2)).trans e2
 have x3 := (HX.out.below.cell (World.block_lt_of_cell? w _ e3)).trans e3
 have x4 := (HX.out.below.cell (World.block_lt_of_cell? w _ e4)).trans e4
 clear e0 e1 e2 e3 e4
 have g1 : decide (p2 < x.f2) = true := decide_eq_true h
 have g2 : decide (x.f2 > p2) = true := decide_eq_true h
 have HH := Lib.hid h
 clear h
 have c2_0 : W1.cell? ⟨w.heap.size, 0, none⟩ = some (.int .i64 0) := (HX.out.cell 2 rfl 0).trans rfl
 have c1_1 : W1.cell? ⟨(w.heap.size + 1), 1, none⟩ = some (.int .i64 1) := (HX.out.cell 1 rfl 1).trans rfl
 have c1_2 : W1.cell? ⟨(w.heap.size + 1), 2, none⟩ = some (.int .i64 p2) := (HX.out.cell 1 rfl 2).trans rfl
 go_upto_region 9 with fail
 go_quiet (fail)
 obtain ⟨W2, hW2⟩ : ∃ x, W1.drewN nq = x := ⟨_, rfl⟩
 rw [hW2]
 have HY := Lib.hid (hW2 ▸ HX.out.drewN nq)
 have z0 : W2.cell? ad = some (.int .i64 x.f0) := hW2 ▸ x0
 have z1 : W2.cell? ⟨ad.block, ad.off + 1, none⟩ = some (.int .i64 x.f1) := hW2 ▸ x1
 have z2 : W2.cell? ⟨ad.block, ad.off + 2, none⟩ = some (.int .i64 x.f2) := hW2 ▸ x2
 have z3 : W2.cell? ⟨ad.block, ad.off + 3, none⟩ = some (.int .i64 x.f3) := hW2 ▸ x3
 have z4 : W2.cell? ⟨ad.block, ad.off + 4, none⟩ = some (.string x.f4) := hW2 ▸ x4
 clear HX x0 x1 x2 x3 x4 c2_0 c1_1 c1_2 g1 g2
 have HX := HY
 clear HY hW2
 go_upto_region 10 with fail
 have wr1 : IntKind.i64.wrap (x.f2 - z) = x.f2 - z := by rw [Go.Proofs.YtmkmpjkgpnahnaaDoorW.PrintLast.i64_w]; exact w64 (by omega) (by omega)
 have c1_0 : W2.cell? ⟨(w.heap.size + 1), 0, none⟩ = some (.int .i64 s2) := (HX.out.cell 1 rfl 0).trans rfl
 have c1_1 : W2.cell? ⟨(w.heap.size + 1), 1, none⟩ = some (.int .i64 1) := (HX.out.cell 1 rfl 1).trans rfl
 have c1_2 : W2.cell? ⟨(w.heap.size + 1), 2, none⟩ = some (.int .i64 p2) := (HX.out.cell 1 rfl 2).trans rfl
 have c1_3 : W2.cell? ⟨(w.heap.size + 1), 3, none⟩ = some (.int .i64 n2) := (HX.out.cell 1 rfl 3).trans rfl
 have c1_4 : W2.cell? ⟨(w.heap.size + 1), 4, none⟩ = some (.string t2) := (HX.out.cell 1 rfl 4).trans rfl
 have cr0_0 : W2.cell? ⟨(w.heap.size + 1 + 1), 0, none⟩ = some (.int .i64 0) := (HX.out.cell 0 rfl 0).trans rfl
 have fr0_0 : W2.frozen? ⟨(w.heap.size + 1 + 1), 0, none⟩ = false := HX.out.free 0 rfl 0
 have cr0_1 : W2.cell? ⟨(w.heap.size + 1 + 1), 1, none⟩ = some (.int .i64 0) := (HX.out.cell 0 rfl 1).trans rfl
 have fr0_1 : W2.frozen? ⟨(w.heap.size + 1 + 1), 1, none⟩ = false := HX.out.free 0 rfl 1
 have cr0_2 : W2.cell? ⟨(w.heap.size + 1 + 1), 2, none⟩ = some (.int .i64 0) := (HX.out.cell 0 rfl 2).trans rfl
 have fr0_2 : W2.frozen? ⟨(w.heap.size + 1 + 1), 2, none⟩ = false := HX.out.free 0 rfl 2
 have cr0_3 : W2.cell? ⟨(w.heap.size + 1 + 1), 3, none⟩ = some (.int .i64 0) := (HX.out.cell 0 rfl 3).trans rfl
 have fr0_3 : W2.frozen? ⟨(w.heap.size + 1 + 1), 3, none⟩ = false := HX.out.free 0 rfl 3
 have cr0_4 : W2.cell? ⟨(w.heap.size + 1 + 1), 4, none⟩ = some (.string ⟨#[]⟩) := (HX.out.cell 0 rfl 4).trans rfl
 have fr0_4 : W2.frozen? ⟨(w.heap.size + 1 + 1), 4, none⟩ = false := HX.out.free 0 rfl 4
 have lr : w.heap.size + 1 + 1 < W2.heap.size := HX.out.lt (x := ((w.heap.size + 1 + 1), #[.int .i64 0, .int .i64 0, .int .i64 0, .int .i64 0, .string ⟨#[]⟩], 33)) (by simp)
 have hS : ∀ (V : World) (i : Nat) (u : Value) (p : Addr), p.block ≠ w.heap.size + 1 + 1 → (V.setCell ⟨w.heap.size + 1 + 1, i, none⟩ u).cell? p = V.cell? p := fun V i u p h => World.cell?_setCell_other _ _ _ _ (fun e => h (by rw [← e]))
 have na : w.heap.size ≠ w.heap.size + 1 + 1 := by omega
 have nb : w.heap.size + 1 ≠ w.heap.size + 1 + 1 := by omega
 go_region_held3 (fun w' => w'.cell? ad = some (.int .i64 x.f0) ∧ w'.cell? ⟨ad.block, ad.off + 1, none⟩ = some (.int .i64 x.f1) ∧ w'.cell? ⟨ad.block, ad.off + 2, none⟩ = some (.int .i64 x.f2) ∧ w'.cell? ⟨ad.block, ad.off + 3, none⟩ = some (.int .i64 x.f3) ∧ w'.cell? ⟨ad.block, ad.off + 4, none⟩ = some (.string x.f4) ∧ w'.cell? ⟨(w.heap.size + 1), 0, none⟩ = some (.int .i64 s2) ∧ w'.cell? ⟨(w.heap.size + 1), 1, none⟩ = some (.int .i64 1) ∧ w'.cell? ⟨(w.heap.size + 1), 2, none⟩ = some (.int .i64 p2) ∧ w'.cell? ⟨(w.heap.size + 1), 3, none⟩ = some (.int .i64 n2) ∧ w'.cell? ⟨(w.heap.size + 1), 4, none⟩ = some (.string t2)) (go_keep) ((first | (go_at_call 37; refine (plain_Do_size.calls s2 1 p2 n2 t2 (z) _ (XAmb_step hT ?am) HSZ.out).mono ?_; (try (case am => repeat (first | exact HX.out.below | apply below_drew1 | apply pw_below_drewN | apply below_alloc))); rintro e w8 ⟨rfl, hb8⟩; have hE8 := below_step (Below.refl W2.heap.size W2).drew hb8; have hc8 := gcell hb8; obtain ⟨hd8, hf8⟩ := ecell hE8) | (go_at_call 36; refine (plain_Do_at.calls x.f0 x.f1 x.f2 x.f3 x.f4 (x.f2 - z) x.f0 x.f1 (x.f2 - z) x.f3 x.f4 _ rfl).mono ?_; rintro e w9 ⟨rfl, hb⟩; have hc_ := gcell hb; have hE := below_step hE8 hb; obtain ⟨hd_, hf_⟩ := ecell hE)))
 have HY := Lib.hid (((((((HX.out.drew.keep hb8).keep hb).put 0 rfl 0 (.int .i64 x.f0)).put 0 rfl 1 (.int .i64 x.f1)).put 0 rfl 2 (.int .i64 (x.f2 - z))).put 0 rfl 3 (.int .i64 x.f3)).put 0 rfl 4 (.string x.f4))
 clear HX
 obtain ⟨W9, hW_⟩ : ∃ W_, (((((w9.setCell ⟨(w.heap.size + 1 + 1), 0, none⟩ (.int .i64 x.f0)).setCell ⟨(w.heap.size + 1 + 1), 1, none⟩ (.int .i64 x.f1)).setCell ⟨(w.heap.size + 1 + 1), 2, none⟩ (.int .i64 (x.f2 - z))).setCell ⟨(w.heap.size + 1 + 1), 3, none⟩ (.int .i64 x.f3)).setCell ⟨(w.heap.size + 1 + 1), 4, none⟩ (.string x.f4)) = W_ := ⟨_, rfl⟩
 have HX : Hid (Bxs w [((w.heap.size + 1 + 1), #[.int .i64 x.f0, .int .i64 x.f1, .int .i64 (x.f2 - z), .int .i64 x.f3, .string x.f4], 33), ((w.heap.size + 1), #[.int .i64 s2, .int .i64 1, .int .i64 p2, .int .i64 n2, .string t2], 33), (w.heap.size, #[.int .i64 0, .int .i64 q2, .int .i64 q3], 29)] W9) := by rw [← hW_]; exact HY
 rw [hW_]
 clear HY hW_ lr c1_0 c1_1 c1_2 c1_3 c1_4 cr0_0 fr0_0 cr0_1 fr0_1 cr0_2 fr0_2 cr0_3 fr0_3 cr0_4 fr0_4
 go_wp2
 refine bodyPost_ret (results_cell_row rfl _ _ (w.heap.size + 1 + 1) 33 #[.int .i64 x.f0, .int .i64 x.f1, .int .i64 (x.f2 - z), .int .i64 x.f3, .string x.f4] (0, 0) _ rfl (HX.out.blk 0 rfl) Tryd.underlying33 rfl (by kernel_rfl)) rfl ?_
 exact ⟨rfl, HX.out.below⟩

set_option maxRecDepth 100000 in
set_option maxHeartbeats 4000000 in
theorem back_ins_eq (q2 q3 s2 p2 n2 : Int) (t2 : ByteArray) (w : World) (hT : Aside0 (XAmb w)) (b1 : 0 ≤ p2) (b2 : p2 ≤ 20000) (b3 : 0 ≤ q2) (b4 : q2 ≤ 20000) (b5 : 0 ≤ q3) (b6 : q3 ≤ 20000) (A : Option Addr) (c : Nat) (x : S33) (hC : Kd.C k33 w A 1 [x]) (b7 : 0 ≤ x.f2) (b8 : x.f2 ≤ 40000) (b9 : 0 ≤ x.f3) (b10 : x.f3 ≤ 20000) (hz : t2.size ≤ 800) (hz2 : lenU t2 ≤ 200) (h : x.f2 = p2 ∧ x.f1 = 2) :
  Calls Tryd.prog 30 #[.slice A 1 c, .agg #[.int .i64 0, .int .i64 q2, .int .i64 q3], .agg #[.int .i64 s2, .int .i64 1, .int .i64 p2, .int .i64 n2, .string t2]] w fun e w' => e = .returned (.agg #[.int .i64 x.f0, .int .i64 x.f1, .int .i64 (x.f2 - szU t2), .int .i64 x.f3, .string x.f4]) ∧ Below w.heap.size w w' := by
 have HSZ := Lib.hid (size_f (s := s2) (k := 1) (p := p2) (n := n2) (t := t2) hz)
 have hs1 : 0 ≤ szU t2 ∧ szU t2 ≤ 200 := ⟨Int.le_max_left _ _, by unfold szU; omega⟩
 obtain ⟨z, hzz⟩ : ∃ z, szU t2 = z := ⟨_, rfl⟩
 rw [hzz] at hs1 HSZ ⊢
 obtain ⟨hs2, hs3⟩ := hs1
 have HB0 := Lib.hid ((((Bxs.start w).new #[.int .i64 0, .int .i64 q2, .int .i64 q3] 29).new #[.int .i64 s2, .int .i64 1, .int .i64 p2, .int .i64 n2, .string t2] 33).new #[.int .i64 0, .int .i64 0, .int .i64 0, .int .i64 0, .string ⟨#[]⟩] 33)
 have hu33 := Tryd.underlying33
 have hu29 := Tryd.underlying29
 go_enter Tryd.func30, Tryd.ntmps30
 go_upto_region 1 with fail
 obtain ⟨W1, hW1⟩ : ∃ W_, ((w.alloc (.cells #[.int .i64 0, .int .i64 q2, .int .i64 q3] 29)).alloc (.cells #[.int .i64 s2, .int .i64 1, .int .i64 p2, .int .i64 n2, .string t2] 33)).alloc (.cells #[.int .i64 0, .int .i64 0, .int .i64 0, .int .i64 0, .string ⟨#[]⟩] 33) = W_ := ⟨_, rfl⟩
 have HX : Hid (Bxs w [((w.heap.size + 1 + 1), #[.int .i64 0, .int .i64 0, .int .i64 0, .int .i64 0, .string ⟨#[]⟩], 33), ((w.heap.size + 1), #[.int .i64 s2, .int .i64 1, .int .i64 p2, .int .i64 n2, .string t2], 33), (w.heap.size, #[.int .i64 0, .int .i64 q2, .int .i64 q3], 29)] W1) := by
  rw [← hW1]
  simpa [Hid] using HB0.out
 rw [hW1]
 clear hW1 HB0
 obtain ⟨ad, rfl, e0, e1, e2, e3, e4⟩ := elt0 (x := x) hC (by omega) rfl
 have nad : ad.block ≠ w.heap.size + 1 + 1 := by have := World.block_lt_of_cell? w _ e0; omega
 have x0 := (HX.out.below.cell (World.block_lt_of_cell? w _ e0)).trans e0
 have x1 := (HX.out.below.cell (World.block_lt_of_cell? w _ e1)).trans e1
 have x2 := (HX.out.below.cell (World.block_lt_of_cell? w _ e2)).trans e2
 have x3 := (HX.out.below.cell (World.block_lt_of_cell? w _ e3)).trans e3
 have x4 := (HX.out.below.cell (World.block_lt_of_cell? w _ e4)).trans e4
 clear e0 e1 e2 e3 e4
 have g1 : decide (p2 < x.f2) = false := decide_eq_false (by omega)
 have g2 : decide (x.f2 > p2) = false := decide_eq_false (by omega)
 have g3 : (x.f2 == p2) = true := beq_iff_eq.2 h.1
 have g4 : (x.f1 == (2 : Int)) = true := beq_iff_eq.2 h.2
 have HH := Lib.hid h
 clear h
 have c2_0 : W1.cell? ⟨w.heap.size, 0, none⟩ = some (.int .i64 0) := (HX.out.cell 2 rfl 0).trans rfl
 have c1_1 : W1.cell? ⟨(w.heap.size + 1), 1, none⟩ = some (.int .i64 1) := (HX.out.cell 1 rfl 1).trans rfl
 have c1_2 : W1.cell? ⟨(w.heap.size + 1), 2, none⟩ = some (.int .i64 p2) := (HX.out.cell 1 rfl 2).trans rfl
 go_upto_region 9 with fail
 go_quiet (fail)
 obtain ⟨W2, hW2⟩ : ∃ x, W1.drewN nq = x := ⟨_, rfl⟩
 rw [hW2]
 have HY := Lib.hid (hW2 ▸ HX.out.drewN nq)
 have z0 : W2.cell? ad = some (.int .i64 x.f0) := hW2 ▸ x0
 have z1 : W2.cell? ⟨ad.block, ad.off + 1, none⟩ = some (.int .i64 x.f1) := hW2 ▸ x1
 have z2 : W2.cell? ⟨ad.block, ad.off + 2, none⟩ = some (.int .i64 x.f2) := hW2 ▸ x2
 have z3 : W2.cell? ⟨ad.block, ad.off + 3, none⟩ = some (.int .i64 x.f3) := hW2 ▸ x3
 have z4 : W2.cell? ⟨ad.block, ad.off + 4, none⟩ = some (.string x.f4) := hW2 ▸ x4
 clear HX x0 x1 x2 x3 x4 c2_0 c1_1 c1_2 g1 g2 g3 g4
 have HX := HY
 clear HY hW2
 go_upto_region 10 with fail
 have wr1 : IntKind.i64.wrap (x.f2 - z) = x.f2 - z := by rw [Go.Proofs.YtmkmpjkgpnahnaaDoorW.PrintLast.i64_w]; exact w64 (by omega) (by omega)
 have c1_0 : W2.cell? ⟨(w.heap.size + 1), 0, none⟩ = some (.int .i64 s2) := (HX.out.cell 1 rfl 0).trans rfl
 have c1_1 : W2.cell? ⟨(w.heap.size + 1), 1, none⟩ = some (.int .i64 1) := (HX.out.cell 1 rfl 1).trans rfl
 have c1_2 : W2.cell? ⟨(w.heap.size + 1), 2, none⟩ = some (.int .i64 p2) := (HX.out.cell 1 rfl 2).trans rfl
 have c1_3 : W2.cell? ⟨(w.heap.size + 1), 3, none⟩ = some (.int .i64 n2) := (HX.out.cell 1 rfl 3).trans rfl
 have c1_4 : W2.cell? ⟨(w.heap.size + 1), 4, none⟩ = some (.string t2) := (HX.out.cell 1 rfl 4).trans rfl
 have cr0_0 : W2.cell? ⟨(w.heap.size + 1 + 1), 0, none⟩ = some (.int .i64 0) := (HX.out.cell 0 rfl 0).trans rfl
 have fr0_0 : W2.frozen? ⟨(w.heap.size + 1 + 1), 0, none⟩ = false := HX.out.free 0 rfl 0
 have cr0_1 : W2.cell? ⟨(w.heap.size + 1 + 1), 1, none⟩ = some (.int .i64 0) := (HX.out.cell 0 rfl 1).trans rfl
 have fr0_1 : W2.frozen? ⟨(w.heap.size + 1 + 1), 1, none⟩ = false := HX.out.free 0 rfl 1
 have cr0_2 : W2.cell? ⟨(w.heap.size + 1 + 1), 2, none⟩ = some (.int .i64 0) := (HX.out.cell 0 rfl 2).trans rfl
 have fr0_2 : W2.frozen? ⟨(w.heap.size + 1 + 1), 2, none⟩ = false := HX.out.free 0 rfl 2
 have cr0_3 : W2.cell? ⟨(w.heap.size + 1 + 1), 3, none⟩ = some (.int .i64 0) := (HX.out.cell 0 rfl 3).trans rfl
 have fr0_3 : W2.frozen? ⟨(w.heap.size + 1 + 1), 3, none⟩ = false := HX.out.free 0 rfl 3
 have cr0_4 : W2.cell? ⟨(w.heap.size + 1 + 1), 4, none⟩ = some (.string ⟨#[]⟩) := (HX.out.cell 0 rfl 4).trans rfl
 have fr0_4 : W2.frozen? ⟨(w.heap.size + 1 + 1), 4, none⟩ = false := HX.out.free 0 rfl 4
 have lr : w.heap.size + 1 + 1 < W2.heap.size := HX.out.lt (x := ((w.heap.size + 1 + 1), #[.int .i64 0, .int .i64 0, .int .i64 0, .int .i64 0, .string ⟨#[]⟩], 33)) (by simp)
 have hS : ∀ (V : World) (i : Nat) (u : Value) (p : Addr), p.block ≠ w.heap.size + 1 + 1 → (V.setCell ⟨w.heap.size + 1 + 1, i, none⟩ u).cell? p = V.cell? p := fun V i u p h => World.cell?_setCell_other _ _ _ _ (fun e => h (by rw [← e]))
 have na : w.heap.size ≠ w.heap.size + 1 + 1 := by omega
 have nb : w.heap.size + 1 ≠ w.heap.size + 1 + 1 := by omega
 go_region_held3 (fun w' => w'.cell? ad = some (.int .i64 x.f0) ∧ w'.cell? ⟨ad.block, ad.off + 1, none⟩ = some (.int .i64 x.f1) ∧ w'.cell? ⟨ad.block, ad.off + 2, none⟩ = some (.int .i64 x.f2) ∧ w'.cell? ⟨ad.block, ad.off + 3, none⟩ = some (.int .i64 x.f3) ∧ w'.cell? ⟨ad.block, ad.off + 4, none⟩ = some (.string x.f4) ∧ w'.cell? ⟨(w.heap.size + 1), 0, none⟩ = some (.int .i64 s2) ∧ w'.cell? ⟨(w.heap.size + 1), 1, none⟩ = some (.int .i64 1) ∧ w'.cell? ⟨(w.heap.size + 1), 2, none⟩ = some (.int .i64 p2) ∧ w'.cell? ⟨(w.heap.size + 1), 3, none⟩ = some (.int .i64 n2) ∧ w'.cell? ⟨(w.heap.size + 1), 4, none⟩ = some (.string t2)) (go_keep) ((first | (go_at_call 37; refine (plain_Do_size.calls s2 1 p2 n2 t2 (z) _ (XAmb_step hT ?am) HSZ.out).mono ?_; (try (case am => repeat (first | exact HX.out.below | apply below_drew1 | apply pw_below_drewN | apply below_alloc))); rintro e w8 ⟨rfl, hb8⟩; have hE8 := below_step (Below.refl W2.heap.size W2).drew hb8; have hc8 := gcell hb8; obtain ⟨hd8, hf8⟩ := ecell hE8) | (go_at_call 36; refine (plain_Do_at.calls x.f0 x.f1 x.f2 x.f3 x.f4 (x.f2 - z) x.f0 x.f1 (x.f2 - z) x.f3 x.f4 _ rfl).mono ?_; rintro e w9 ⟨rfl, hb⟩; have hc_ := gcell hb; have hE := below_step hE8 hb; obtain ⟨hd_, hf_⟩ := ecell hE)))
 have HY := Lib.hid (((((((HX.out.drew.keep hb8).keep hb).put 0 rfl 0 (.int .i64 x.f0)).put 0 rfl 1 (.int .i64 x.f1)).put 0 rfl 2 (.int .i64 (x.f2 - z))).put 0 rfl 3 (.int .i64 x.f3)).put 0 rfl 4 (.string x.f4))
 clear HX
 obtain ⟨W9, hW_⟩ : ∃ W_, (((((w9.setCell ⟨(w.heap.size + 1 + 1), 0, none⟩ (.int .i64 x.f0)).setCell ⟨(w.heap.size + 1 + 1), 1, none⟩ (.int .i64 x.f1)).setCell ⟨(w.heap.size + 1 + 1), 2, none⟩ (.int .i64 (x.f2 - z))).setCell ⟨(w.heap.size + 1 + 1), 3, none⟩ (.int .i64 x.f3)).setCell ⟨(w.heap.size + 1 + 1), 4, none⟩ (.string x.f4)) = W_ := ⟨_, rfl⟩
 have HX : Hid (Bxs w [((w.heap.size + 1 + 1), #[.int .i64 x.f0, .int .i64 x.f1, .int .i64 (x.f2 - z), .int .i64 x.f3, .string x.f4], 33), ((w.heap.size + 1), #[.int .i64 s2, .int .i64 1, .int .i64 p2, .int .i64 n2, .string t2], 33), (w.heap.size, #[.int .i64 0, .int .i64 q2, .int .i64 q3], 29)] W9) := by rw [← hW_]; exact HY
 rw [hW_]
 clear HY hW_ lr c1_0 c1_1 c1_2 c1_3 c1_4 cr0_0 fr0_0 cr0_1 fr0_1 cr0_2 fr0_2 cr0_3 fr0_3 cr0_4 fr0_4
 go_wp2
 refine bodyPost_ret (results_cell_row rfl _ _ (w.heap.size + 1 + 1) 33 #[.int .i64 x.f0, .int .i64 x.f1, .int .i64 (x.f2 - z), .int .i64 x.f3, .string x.f4] (0, 0) _ rfl (HX.out.blk 0 rfl) Tryd.underlying33 rfl (by kernel_rfl)) rfl ?_
 exact ⟨rfl, HX.out.below⟩

set_option maxRecDepth 100000 in
set_option maxHeartbeats 4000000 in
theorem back_ins_ne (q2 q3 s2 p2 n2 : Int) (t2 : ByteArray) (w : World) (hT : Aside0 (XAmb w)) (b1 : 0 ≤ p2) (b2 : p2 ≤ 20000) (b3 : 0 ≤ q2) (b4 : q2 ≤ 20000) (b5 : 0 ≤ q3) (b6 : q3 ≤ 20000) (A : Option Addr) (c : Nat) (x : S33) (hC : Kd.C k33 w A 1 [x]) (b7 : 0 ≤ x.f2) (b8 : x.f2 ≤ 40000) (b9 : 0 ≤ x.f3) (b10 : x.f3 ≤ 20000) (h : x.f2 < p2) :
  Calls Tryd.prog 30 #[.slice A 1 c, .agg #[.int .i64 0, .int .i64 q2, .int .i64 q3], .agg #[.int .i64 s2, .int .i64 1, .int .i64 p2, .int .i64 n2, .string t2]] w fun e w' => e = .returned (.agg #[.int .i64 x.f0, .int .i64 x.f1, .int .i64 x.f2, .int .i64 x.f3, .string x.f4]) ∧ Below w.heap.size w w' := by
 have HB0 := Lib.hid ((((Bxs.start w).new #[.int .i64 0, .int .i64 q2, .int .i64 q3] 29).new #[.int .i64 s2, .int .i64 1, .int .i64 p2, .int .i64 n2, .string t2] 33).new #[.int .i64 0, .int .i64 0, .int .i64 0, .int .i64 0, .string ⟨#[]⟩] 33)
 have hu33 := Tryd.underlying33
 have hu29 := Tryd.underlying29
 go_enter Tryd.func30, Tryd.ntmps30
 go_upto_region 1 with fail
 obtain ⟨W1, hW1⟩ : ∃ W_, ((w.alloc (.cells #[.int .i64 0, .int .i64 q2, .int .i64 q3] 29)).alloc (.cells #[.int .i64 s2, .int .i64 1, .int .i64 p2, .int .i64 n2, .string t2] 33)).alloc (.cells #[.int .i64 0, .int .i64 0, .int .i64 0, .int .i64 0, .string ⟨#[]⟩] 33) = W_ := ⟨_, rfl⟩
 have HX : Hid (Bxs w [((w.heap.size + 1 + 1), #[.int .i64 0, .int .i64 0, .int .i64 0, .int .i64 0, .string ⟨#[]⟩], 33), ((w.heap.size + 1), #[.int .i64 s2, .int .i64 1, .int .i64 p2, .int .i64 n2, .string t2], 33), (w.heap.size, #[.int .i64 0, .int .i64 q2, .int .i64 q3], 29)] W1) := by
  rw [← hW1]
  simpa [Hid] using HB0.out
 rw [hW1]
 clear hW1 HB0
 obtain ⟨ad, rfl, e0, e1, e2, e3, e4⟩ := elt0 (x := x) hC (by omega) rfl
 have nad : ad.block ≠ w.heap.size + 1 + 1 := by have := World.block_lt_of_cell? w _ e0; omega
 have x0 := (HX.out.below.cell (World.block_lt_of_cell? w _ e0)).trans e0
 have x1 := (HX.out.below.cell (World.block_lt_of_cell? w _ e1)).trans e1
 have x2 := (HX.out.below.cell (World.block_lt_of_cell? w _ e2)).trans e2
 have x3 := (HX.out.below.cell (World.block_lt_of_cell? w _ e3)).trans e3
 have x4 := (HX.out.below.cell (World.block_lt_of_cell? w _ e4)).trans e4
 clear e0 e1 e2 e3 e4
 have g1 : decide (p2 < x.f2) = false := decide_eq_false (by omega)
 have g2 : decide (x.f2 > p2) = false := decide_eq_false (by omega)
 have g3 : (x.f2 == p2) = false := beq_eq_false_iff_ne.2 (by omega)
 have HH := Lib.hid h
 clear h
 have c2_0 : W1.cell? ⟨w.heap.size, 0, none⟩ = some (.int .i64 0) := (HX.out.cell 2 rfl 0).trans rfl
 have c1_1 : W1.cell? ⟨(w.heap.size + 1), 1, none⟩ = some (.int .i64 1) := (HX.out.cell 1 rfl 1).trans rfl
 have c1_2 : W1.cell? ⟨(w.heap.size + 1), 2, none⟩ = some (.int .i64 p2) := (HX.out.cell 1 rfl 2).trans rfl
 go_upto_region 9 with fail
 go_quiet (fail)
 obtain ⟨W2, hW2⟩ : ∃ x, W1.drewN nq = x := ⟨_, rfl⟩
 rw [hW2]
 have HY := Lib.hid (hW2 ▸ HX.out.drewN nq)
 have z0 : W2.cell? ad = some (.int .i64 x.f0) := hW2 ▸ x0
 have z1 : W2.cell? ⟨ad.block, ad.off + 1, none⟩ = some (.int .i64 x.f1) := hW2 ▸ x1
 have z2 : W2.cell? ⟨ad.block, ad.off + 2, none⟩ = some (.int .i64 x.f2) := hW2 ▸ x2
 have z3 : W2.cell? ⟨ad.block, ad.off + 3, none⟩ = some (.int .i64 x.f3) := hW2 ▸ x3
 have z4 : W2.cell? ⟨ad.block, ad.off + 4, none⟩ = some (.string x.f4) := hW2 ▸ x4
 clear HX x0 x1 x2 x3 x4 c2_0 c1_1 c1_2 g1 g2 g3
 have HX := HY
 clear HY hW2
 go_upto_region 11 with fail
 have cr0_0 : W2.cell? ⟨(w.heap.size + 1 + 1), 0, none⟩ = some (.int .i64 0) := (HX.out.cell 0 rfl 0).trans rfl
 have fr0_0 : W2.frozen? ⟨(w.heap.size + 1 + 1), 0, none⟩ = false := HX.out.free 0 rfl 0
 have cr0_1 : W2.cell? ⟨(w.heap.size + 1 + 1), 1, none⟩ = some (.int .i64 0) := (HX.out.cell 0 rfl 1).trans rfl
 have fr0_1 : W2.frozen? ⟨(w.heap.size + 1 + 1), 1, none⟩ = false := HX.out.free 0 rfl 1
 have cr0_2 : W2.cell? ⟨(w.heap.size + 1 + 1), 2, none⟩ = some (.int .i64 0) := (HX.out.cell 0 rfl 2).trans rfl
 have fr0_2 : W2.frozen? ⟨(w.heap.size + 1 + 1), 2, none⟩ = false := HX.out.free 0 rfl 2
 have cr0_3 : W2.cell? ⟨(w.heap.size + 1 + 1), 3, none⟩ = some (.int .i64 0) := (HX.out.cell 0 rfl 3).trans rfl
 have fr0_3 : W2.frozen? ⟨(w.heap.size + 1 + 1), 3, none⟩ = false := HX.out.free 0 rfl 3
 have cr0_4 : W2.cell? ⟨(w.heap.size + 1 + 1), 4, none⟩ = some (.string ⟨#[]⟩) := (HX.out.cell 0 rfl 4).trans rfl
 have fr0_4 : W2.frozen? ⟨(w.heap.size + 1 + 1), 4, none⟩ = false := HX.out.free 0 rfl 4
 go_wp2
 clear cr0_0 fr0_0 cr0_1 fr0_1 cr0_2 fr0_2 cr0_3 fr0_3 cr0_4 fr0_4
 have HY := Lib.hid (((((HX.out.put 0 rfl 0 (.int .i64 x.f0)).put 0 rfl 1 (.int .i64 x.f1)).put 0 rfl 2 (.int .i64 x.f2)).put 0 rfl 3 (.int .i64 x.f3)).put 0 rfl 4 (.string x.f4))
 clear HX
 obtain ⟨W9, hW_⟩ : ∃ W_, (((((W2.setCell ⟨(w.heap.size + 1 + 1), 0, none⟩ (.int .i64 x.f0)).setCell ⟨(w.heap.size + 1 + 1), 1, none⟩ (.int .i64 x.f1)).setCell ⟨(w.heap.size + 1 + 1), 2, none⟩ (.int .i64 x.f2)).setCell ⟨(w.heap.size + 1 + 1), 3, none⟩ (.int .i64 x.f3)).setCell ⟨(w.heap.size + 1 + 1), 4, none⟩ (.string x.f4)) = W_ := ⟨_, rfl⟩
 have HX : Hid (Bxs w [((w.heap.size + 1 + 1), #[.int .i64 x.f0, .int .i64 x.f1, .int .i64 x.f2, .int .i64 x.f3, .string x.f4], 33), ((w.heap.size + 1), #[.int .i64 s2, .int .i64 1, .int .i64 p2, .int .i64 n2, .string t2], 33), (w.heap.size, #[.int .i64 0, .int .i64 q2, .int .i64 q3], 29)] W9) := by rw [← hW_]; exact HY
 rw [hW_]
 clear HY hW_
 refine bodyPost_ret (results_cell_row rfl _ _ (w.heap.size + 1 + 1) 33 #[.int .i64 x.f0, .int .i64 x.f1, .int .i64 x.f2, .int .i64 x.f3, .string x.f4] (0, 0) _ rfl (HX.out.blk 0 rfl) Tryd.underlying33 rfl (by kernel_rfl)) rfl ?_
 exact ⟨rfl, HX.out.below⟩

set_option maxRecDepth 100000 in
set_option maxHeartbeats 4000000 in
theorem back_ins_n2 (q2 q3 s2 p2 n2 : Int) (t2 : ByteArray) (w : World) (hT : Aside0 (XAmb w)) (b1 : 0 ≤ p2) (b2 : p2 ≤ 20000) (b3 : 0 ≤ q2) (b4 : q2 ≤ 20000) (b5 : 0 ≤ q3) (b6 : q3 ≤ 20000) (A : Option Addr) (c : Nat) (x : S33) (hC : Kd.C k33 w A 1 [x]) (b7 : 0 ≤ x.f2) (b8 : x.f2 ≤ 40000) (b9 : 0 ≤ x.f3) (b10 : x.f3 ≤ 20000) (h : x.f2 = p2 ∧ ¬ x.f1 = 2) :
  Calls Tryd.prog 30 #[.slice A 1 c, .agg #[.int .i64 0, .int .i64 q2, .int .i64 q3], .agg #[.int .i64 s2, .int .i64 1, .int .i64 p2, .int .i64 n2, .string t2]] w fun e w' => e = .returned (.agg #[.int .i64 x.f0, .int .i64 x.f1, .int .i64 x.f2, .int .i64 x.f3, .string x.f4]) ∧ Below w.heap.size w w' := by
 have HB0 := Lib.hid ((((Bxs.start w).new #[.int .i64 0, .int .i64 q2, .int .i64 q3] 29).new #[.int .i64 s2, .int .i64 1, .int .i64 p2, .int .i64 n2, .string t2] 33).new #[.int .i64 0, .int .i64 0, .int .i64 0, .int .i64 0, .string ⟨#[]⟩] 33)
 have hu33 := Tryd.underlying33
 have hu29 := Tryd.underlying29
 go_enter Tryd.func30, Tryd.ntmps30
 go_upto_region 1 with fail
 obtain ⟨W1, hW1⟩ : ∃ W_, ((w.alloc (.cells #[.int .i64 0, .int .i64 q2, .int .i64 q3] 29)).alloc (.cells #[.int .i64 s2, .int .i64 1, .int .i64 p2, .int .i64 n2, .string t2] 33)).alloc (.cells #[.int .i64 0, .int .i64 0, .int .i64 0, .int .i64 0, .string ⟨#[]⟩] 33) = W_ := ⟨_, rfl⟩
 have HX : Hid (Bxs w [((w.heap.size + 1 + 1), #[.int .i64 0, .int .i64 0, .int .i64 0, .int .i64 0, .string ⟨#[]⟩], 33), ((w.heap.size + 1), #[.int .i64 s2, .int .i64 1, .int .i64 p2, .int .i64 n2, .string t2], 33), (w.heap.size, #[.int .i64 0, .int .i64 q2, .int .i64 q3], 29)] W1) := by
  rw [← hW1]
  simpa [Hid] using HB0.out
 rw [hW1]
 clear hW1 HB0
 obtain ⟨ad, rfl, e0, e1, e2, e3, e4⟩ := elt0 (x := x) hC (by omega) rfl
 have nad : ad.block ≠ w.heap.size + 1 + 1 := by have := World.block_lt_of_cell? w _ e0; omega
 have x0 := (HX.out.below.cell (World.block_lt_of_cell? w _ e0)).trans e0
 have x1 := (HX.out.below.cell (World.block_lt_of_cell? w _ e1)).trans e1
 have x2 := (HX.out.below.cell (World.block_lt_of_cell? w _ e2)).trans e2
 have x3 := (HX.out.below.cell (World.block_lt_of_cell? w _ e3)).trans e3
 have x4 := (HX.out.below.cell (World.block_lt_of_cell? w _ e4)).trans e4
 clear e0 e1 e2 e3 e4
 have g1 : decide (p2 < x.f2) = false := decide_eq_false (by omega)
 have g2 : decide (x.f2 > p2) = false := decide_eq_false (by omega)
 have g3 : (x.f2 == p2) = true := beq_iff_eq.2 h.1
 have g4 : (x.f1 == (2 : Int)) = false := beq_eq_false_iff_ne.2 h.2
 have HH := Lib.hid h
 clear h
 have c2_0 : W1.cell? ⟨w.heap.size, 0, none⟩ = some (.int .i64 0) := (HX.out.cell 2 rfl 0).trans rfl
 have c1_1 : W1.cell? ⟨(w.heap.size + 1), 1, none⟩ = some (.int .i64 1) := (HX.out.cell 1 rfl 1).trans rfl
 have c1_2 : W1.cell? ⟨(w.heap.size + 1), 2, none⟩ = some (.int .i64 p2) := (HX.out.cell 1 rfl 2).trans rfl
 go_upto_region 9 with fail
 go_quiet (fail)
 obtain ⟨W2, hW2⟩ : ∃ x, W1.drewN nq = x := ⟨_, rfl⟩
 rw [hW2]
 have HY := Lib.hid (hW2 ▸ HX.out.drewN nq)
 have z0 : W2.cell? ad = some (.int .i64 x.f0) := hW2 ▸ x0
 have z1 : W2.cell? ⟨ad.block, ad.off + 1, none⟩ = some (.int .i64 x.f1) := hW2 ▸ x1
 have z2 : W2.cell? ⟨ad.block, ad.off + 2, none⟩ = some (.int .i64 x.f2) := hW2 ▸ x2
 have z3 : W2.cell? ⟨ad.block, ad.off + 3, none⟩ = some (.int .i64 x.f3) := hW2 ▸ x3
 have z4 : W2.cell? ⟨ad.block, ad.off + 4, none⟩ = some (.string x.f4) := hW2 ▸ x4
 clear HX x0 x1 x2 x3 x4 c2_0 c1_1 c1_2 g1 g2 g3 g4
 have HX := HY
 clear HY hW2
 go_upto_region 11 with fail
 have cr0_0 : W2.cell? ⟨(w.heap.size + 1 + 1), 0, none⟩ = some (.int .i64 0) := (HX.out.cell 0 rfl 0).trans rfl
 have fr0_0 : W2.frozen? ⟨(w.heap.size + 1 + 1), 0, none⟩ = false := HX.out.free 0 rfl 0
 have cr0_1 : W2.cell? ⟨(w.heap.size + 1 + 1), 1, none⟩ = some (.int .i64 0) := (HX.out.cell 0 rfl 1).trans rfl
 have fr0_1 : W2.frozen? ⟨(w.heap.size + 1 + 1), 1, none⟩ = false := HX.out.free 0 rfl 1
 have cr0_2 : W2.cell? ⟨(w.heap.size + 1 + 1), 2, none⟩ = some (.int .i64 0) := (HX.out.cell 0 rfl 2).trans rfl
 have fr0_2 : W2.frozen? ⟨(w.heap.size + 1 + 1), 2, none⟩ = false := HX.out.free 0 rfl 2
 have cr0_3 : W2.cell? ⟨(w.heap.size + 1 + 1), 3, none⟩ = some (.int .i64 0) := (HX.out.cell 0 rfl 3).trans rfl
 have fr0_3 : W2.frozen? ⟨(w.heap.size + 1 + 1), 3, none⟩ = false := HX.out.free 0 rfl 3
 have cr0_4 : W2.cell? ⟨(w.heap.size + 1 + 1), 4, none⟩ = some (.string ⟨#[]⟩) := (HX.out.cell 0 rfl 4).trans rfl
 have fr0_4 : W2.frozen? ⟨(w.heap.size + 1 + 1), 4, none⟩ = false := HX.out.free 0 rfl 4
 go_wp2
 clear cr0_0 fr0_0 cr0_1 fr0_1 cr0_2 fr0_2 cr0_3 fr0_3 cr0_4 fr0_4
 have HY := Lib.hid (((((HX.out.put 0 rfl 0 (.int .i64 x.f0)).put 0 rfl 1 (.int .i64 x.f1)).put 0 rfl 2 (.int .i64 x.f2)).put 0 rfl 3 (.int .i64 x.f3)).put 0 rfl 4 (.string x.f4))
 clear HX
 obtain ⟨W9, hW_⟩ : ∃ W_, (((((W2.setCell ⟨(w.heap.size + 1 + 1), 0, none⟩ (.int .i64 x.f0)).setCell ⟨(w.heap.size + 1 + 1), 1, none⟩ (.int .i64 x.f1)).setCell ⟨(w.heap.size + 1 + 1), 2, none⟩ (.int .i64 x.f2)).setCell ⟨(w.heap.size + 1 + 1), 3, none⟩ (.int .i64 x.f3)).setCell ⟨(w.heap.size + 1 + 1), 4, none⟩ (.string x.f4)) = W_ := ⟨_, rfl⟩
 have HX : Hid (Bxs w [((w.heap.size + 1 + 1), #[.int .i64 x.f0, .int .i64 x.f1, .int .i64 x.f2, .int .i64 x.f3, .string x.f4], 33), ((w.heap.size + 1), #[.int .i64 s2, .int .i64 1, .int .i64 p2, .int .i64 n2, .string t2], 33), (w.heap.size, #[.int .i64 0, .int .i64 q2, .int .i64 q3], 29)] W9) := by rw [← hW_]; exact HY
 rw [hW_]
 clear HY hW_
 refine bodyPost_ret (results_cell_row rfl _ _ (w.heap.size + 1 + 1) 33 #[.int .i64 x.f0, .int .i64 x.f1, .int .i64 x.f2, .int .i64 x.f3, .string x.f4] (0, 0) _ rfl (HX.out.blk 0 rfl) Tryd.underlying33 rfl (by kernel_rfl)) rfl ?_
 exact ⟨rfl, HX.out.below⟩

set_option maxRecDepth 100000 in
set_option maxHeartbeats 4000000 in
theorem back_del_gt (q2 q3 s2 k2 p2 n2 : Int) (t2 : ByteArray) (w : World) (hT : Aside0 (XAmb w)) (b1 : 0 ≤ p2) (b2 : p2 ≤ 20000) (b3 : 0 ≤ q2) (b4 : q2 ≤ 20000) (b5 : 0 ≤ q3) (b6 : q3 ≤ 20000) (A : Option Addr) (c : Nat) (x : S33) (hC : Kd.C k33 w A 1 [x]) (b7 : 0 ≤ x.f2) (b8 : x.f2 ≤ 40000) (b9 : 0 ≤ x.f3) (b10 : x.f3 ≤ 20000) (b11 : 0 ≤ n2) (b12 : n2 ≤ 20000) (hk : ¬ k2 = 1)(h : p2 < x.f2) :
  Calls Tryd.prog 30 #[.slice A 1 c, .agg #[.int .i64 0, .int .i64 q2, .int .i64 q3], .agg #[.int .i64 s2, .int .i64 k2, .int .i64 p2, .int .i64 n2, .string t2]] w fun e w' => e = .returned (.agg #[.int .i64 x.f0, .int .i64 x.f1, .int .i64 (x.f2 + n2), .int .i64 x.f3, .string x.f4]) ∧ Below w.heap.size w w' := by
 have HB0 := Lib.hid ((((Bxs.start w).new #[.int .i64 0, .int .i64 q2, .int .i64 q3] 29).new #[.int .i64 s2, .int .i64 k2, .int .i64 p2, .int .i64 n2, .string t2] 33).new #[.int .i64 0, .int .i64 0, .int .i64 0, .int .i64 0, .string ⟨#[]⟩] 33)
 have hu33 := Tryd.underlying33
 have hu29 := Tryd.underlying29
 go_enter Tryd.func30, Tryd.ntmps30
 go_upto_region 1 with fail
 obtain ⟨W1, hW1⟩ : ∃ W_, ((w.alloc (.cells #[.int .i64 0, .int .i64 q2, .int .i64 q3] 29)).alloc (.cells #[.int .i64 s2, .int .i64 k2, .int .i64 p2, .int .i64 n2, .string t2] 33)).alloc (.cells #[.int .i64 0, .int .i64 0, .int .i64 0, .int .i64 0, .string ⟨#[]⟩] 33) = W_ := ⟨_, rfl⟩
 have HX : Hid (Bxs w [((w.heap.size + 1 + 1), #[.int .i64 0, .int .i64 0, .int .i64 0, .int .i64 0, .string ⟨#[]⟩], 33), ((w.heap.size + 1), #[.int .i64 s2, .int .i64 k2, .int .i64 p2, .int .i64 n2, .string t2], 33), (w.heap.size, #[.int .i64 0, .int .i64 q2, .int .i64 q3], 29)] W1) := by
  rw [← hW1]
  simpa [Hid] using HB0.out
 rw [hW1]
 clear hW1 HB0
 obtain ⟨ad, rfl, e0, e1, e2, e3, e4⟩ := elt0 (x := x) hC (by omega) rfl
 have nad : ad.block ≠ w.heap.size + 1 + 1 := by have := World.block_lt_of_cell? w _ e0; omega
 have x0 := (HX.out.below.cell (World.block_lt_of_cell? w _ e0)).trans e0
 have x1 := (HX.out.below.cell (World.block_lt_of_cell? w _ e1)).trans e1
 have x2 := (HX.out.below.cell (World.block_lt_of_cell? w _ e2)).trans e2
 have x3 := (HX.out.below.cell (World.block_lt_of_cell? w _ e3)).trans e3
 have x4 := (HX.out.below.cell (World.block_lt_of_cell? w _ e4)).trans e4
 clear e0 e1 e2 e3 e4
 have hkq : (k2 == (1 : Int)) = false := beq_eq_false_iff_ne.2 hk
 have g1 : decide (p2 < x.f2) = true := decide_eq_true h
 have g2 : decide (x.f2 > p2) = true := decide_eq_true h
 have HH := Lib.hid h
 clear h
 have c2_0 : W1.cell? ⟨w.heap.size, 0, none⟩ = some (.int .i64 0) := (HX.out.cell 2 rfl 0).trans rfl
 have c1_1 : W1.cell? ⟨(w.heap.size + 1), 1, none⟩ = some (.int .i64 k2) := (HX.out.cell 1 rfl 1).trans rfl
 have c1_2 : W1.cell? ⟨(w.heap.size + 1), 2, none⟩ = some (.int .i64 p2) := (HX.out.cell 1 rfl 2).trans rfl
 go_upto_region 13 with fail
 go_quiet (fail)
 obtain ⟨W2, hW2⟩ : ∃ x, W1.drewN nq = x := ⟨_, rfl⟩
 rw [hW2]
 have HY := Lib.hid (hW2 ▸ HX.out.drewN nq)
 have z0 : W2.cell? ad = some (.int .i64 x.f0) := hW2 ▸ x0
 have z1 : W2.cell? ⟨ad.block, ad.off + 1, none⟩ = some (.int .i64 x.f1) := hW2 ▸ x1
 have z2 : W2.cell? ⟨ad.block, ad.off + 2, none⟩ = some (.int .i64 x.f2) := hW2 ▸ x2
 have z3 : W2.cell? ⟨ad.block, ad.off + 3, none⟩ = some (.int .i64 x.f3) := hW2 ▸ x3
 have z4 : W2.cell? ⟨ad.block, ad.off + 4, none⟩ = some (.string x.f4) := hW2 ▸ x4
 clear HX x0 x1 x2 x3 x4 c2_0 c1_1 c1_2 g1 g2
 have HX := HY
 clear HY hW2
 clear hkq
 go_upto_region 14 with fail
 have wr1 : IntKind.i64.wrap (x.f2 + n2) = x.f2 + n2 := by rw [Go.Proofs.YtmkmpjkgpnahnaaDoorW.PrintLast.i64_w]; exact w64 (by omega) (by omega)
 have c1_3 : W2.cell? ⟨(w.heap.size + 1), 3, none⟩ = some (.int .i64 n2) := (HX.out.cell 1 rfl 3).trans rfl
 have cr0_0 : W2.cell? ⟨(w.heap.size + 1 + 1), 0, none⟩ = some (.int .i64 0) := (HX.out.cell 0 rfl 0).trans rfl
 have fr0_0 : W2.frozen? ⟨(w.heap.size + 1 + 1), 0, none⟩ = false := HX.out.free 0 rfl 0
 have cr0_1 : W2.cell? ⟨(w.heap.size + 1 + 1), 1, none⟩ = some (.int .i64 0) := (HX.out.cell 0 rfl 1).trans rfl
 have fr0_1 : W2.frozen? ⟨(w.heap.size + 1 + 1), 1, none⟩ = false := HX.out.free 0 rfl 1
 have cr0_2 : W2.cell? ⟨(w.heap.size + 1 + 1), 2, none⟩ = some (.int .i64 0) := (HX.out.cell 0 rfl 2).trans rfl
 have fr0_2 : W2.frozen? ⟨(w.heap.size + 1 + 1), 2, none⟩ = false := HX.out.free 0 rfl 2
 have cr0_3 : W2.cell? ⟨(w.heap.size + 1 + 1), 3, none⟩ = some (.int .i64 0) := (HX.out.cell 0 rfl 3).trans rfl
 have fr0_3 : W2.frozen? ⟨(w.heap.size + 1 + 1), 3, none⟩ = false := HX.out.free 0 rfl 3
 have cr0_4 : W2.cell? ⟨(w.heap.size + 1 + 1), 4, none⟩ = some (.string ⟨#[]⟩) := (HX.out.cell 0 rfl 4).trans rfl
 have fr0_4 : W2.frozen? ⟨(w.heap.size + 1 + 1), 4, none⟩ = false := HX.out.free 0 rfl 4
 have lr : w.heap.size + 1 + 1 < W2.heap.size := HX.out.lt (x := ((w.heap.size + 1 + 1), #[.int .i64 0, .int .i64 0, .int .i64 0, .int .i64 0, .string ⟨#[]⟩], 33)) (by simp)
 have hS : ∀ (V : World) (i : Nat) (u : Value) (p : Addr), p.block ≠ w.heap.size + 1 + 1 → (V.setCell ⟨w.heap.size + 1 + 1, i, none⟩ u).cell? p = V.cell? p := fun V i u p h => World.cell?_setCell_other _ _ _ _ (fun e => h (by rw [← e]))
 have na : w.heap.size ≠ w.heap.size + 1 + 1 := by omega
 have nb : w.heap.size + 1 ≠ w.heap.size + 1 + 1 := by omega
 go_region_held3 (fun w' => w'.cell? ad = some (.int .i64 x.f0) ∧ w'.cell? ⟨ad.block, ad.off + 1, none⟩ = some (.int .i64 x.f1) ∧ w'.cell? ⟨ad.block, ad.off + 2, none⟩ = some (.int .i64 x.f2) ∧ w'.cell? ⟨ad.block, ad.off + 3, none⟩ = some (.int .i64 x.f3) ∧ w'.cell? ⟨ad.block, ad.off + 4, none⟩ = some (.string x.f4) ∧ w'.cell? ⟨(w.heap.size + 1), 3, none⟩ = some (.int .i64 n2)) (go_keep) ((go_at_call 36; refine (plain_Do_at.calls x.f0 x.f1 x.f2 x.f3 x.f4 (x.f2 + n2) x.f0 x.f1 (x.f2 + n2) x.f3 x.f4 _ rfl).mono ?_; rintro e w9 ⟨rfl, hb⟩; have hc_ := gcell hb; have hE := below_step (Below.refl W2.heap.size W2).drew hb; obtain ⟨hd_, hf_⟩ := ecell hE))
 have HY := Lib.hid ((((((HX.out.drew.keep hb).put 0 rfl 0 (.int .i64 x.f0)).put 0 rfl 1 (.int .i64 x.f1)).put 0 rfl 2 (.int .i64 (x.f2 + n2))).put 0 rfl 3 (.int .i64 x.f3)).put 0 rfl 4 (.string x.f4))
 clear HX
 obtain ⟨W9, hW_⟩ : ∃ W_, (((((w9.setCell ⟨(w.heap.size + 1 + 1), 0, none⟩ (.int .i64 x.f0)).setCell ⟨(w.heap.size + 1 + 1), 1, none⟩ (.int .i64 x.f1)).setCell ⟨(w.heap.size + 1 + 1), 2, none⟩ (.int .i64 (x.f2 + n2))).setCell ⟨(w.heap.size + 1 + 1), 3, none⟩ (.int .i64 x.f3)).setCell ⟨(w.heap.size + 1 + 1), 4, none⟩ (.string x.f4)) = W_ := ⟨_, rfl⟩
 have HX : Hid (Bxs w [((w.heap.size + 1 + 1), #[.int .i64 x.f0, .int .i64 x.f1, .int .i64 (x.f2 + n2), .int .i64 x.f3, .string x.f4], 33), ((w.heap.size + 1), #[.int .i64 s2, .int .i64 k2, .int .i64 p2, .int .i64 n2, .string t2], 33), (w.heap.size, #[.int .i64 0, .int .i64 q2, .int .i64 q3], 29)] W9) := by rw [← hW_]; exact HY
 rw [hW_]
 clear HY hW_ lr c1_3 cr0_0 fr0_0 cr0_1 fr0_1 cr0_2 fr0_2 cr0_3 fr0_3 cr0_4 fr0_4
 go_wp2
 refine bodyPost_ret (results_cell_row rfl _ _ (w.heap.size + 1 + 1) 33 #[.int .i64 x.f0, .int .i64 x.f1, .int .i64 (x.f2 + n2), .int .i64 x.f3, .string x.f4] (0, 0) _ rfl (HX.out.blk 0 rfl) Tryd.underlying33 rfl (by kernel_rfl)) rfl ?_
 exact ⟨rfl, HX.out.below⟩

set_option maxRecDepth 100000 in
set_option maxHeartbeats 4000000 in
theorem back_del_eq (q2 q3 s2 k2 p2 n2 : Int) (t2 : ByteArray) (w : World) (hT : Aside0 (XAmb w)) (b1 : 0 ≤ p2) (b2 : p2 ≤ 20000) (b3 : 0 ≤ q2) (b4 : q2 ≤ 20000) (b5 : 0 ≤ q3) (b6 : q3 ≤ 20000) (A : Option Addr) (c : Nat) (x : S33) (hC : Kd.C k33 w A 1 [x]) (b7 : 0 ≤ x.f2) (b8 : x.f2 ≤ 40000) (b9 : 0 ≤ x.f3) (b10 : x.f3 ≤ 20000) (b11 : 0 ≤ n2) (b12 : n2 ≤ 20000) (hk : ¬ k2 = 1)(h : x.f2 = p2 ∧ x.f1 = 2) :
  Calls Tryd.prog 30 #[.slice A 1 c, .agg #[.int .i64 0, .int .i64 q2, .int .i64 q3], .agg #[.int .i64 s2, .int .i64 k2, .int .i64 p2, .int .i64 n2, .string t2]] w fun e w' => e = .returned (.agg #[.int .i64 x.f0, .int .i64 x.f1, .int .i64 (x.f2 + n2), .int .i64 x.f3, .string x.f4]) ∧ Below w.heap.size w w' := by
 have HB0 := Lib.hid ((((Bxs.start w).new #[.int .i64 0, .int .i64 q2, .int .i64 q3] 29).new #[.int .i64 s2, .int .i64 k2, .int .i64 p2, .int .i64 n2, .string t2] 33).new #[.int .i64 0, .int .i64 0, .int .i64 0, .int .i64 0, .string ⟨#[]⟩] 33)
 have hu33 := Tryd.underlying33
 have hu29 := Tryd.underlying29
 go_enter Tryd.func30, Tryd.ntmps30
 go_upto_region 1 with fail
 obtain ⟨W1, hW1⟩ : ∃ W_, ((w.alloc (.cells #[.int .i64 0, .int .i64 q2, .int .i64 q3] 29)).alloc (.cells #[.int .i64 s2, .int .i64 k2, .int .i64 p2, .int .i64 n2, .string t2] 33)).alloc (.cells #[.int .i64 0, .int .i64 0, .int .i64 0, .int .i64 0, .string ⟨#[]⟩] 33) = W_ := ⟨_, rfl⟩
 have HX : Hid (Bxs w [((w.heap.size + 1 + 1), #[.int .i64 0, .int .i64 0, .int .i64 0, .int .i64 0, .string ⟨#[]⟩], 33), ((w.heap.size + 1), #[.int .i64 s2, .int .i64 k2, .int .i64 p2, .int .i64 n2, .string t2], 33), (w.heap.size, #[.int .i64 0, .int .i64 q2, .int .i64 q3], 29)] W1) := by
  rw [← hW1]
  simpa [Hid] using HB0.out
 rw [hW1]
 clear hW1 HB0
 obtain ⟨ad, rfl, e0, e1, e2, e3, e4⟩ := elt0 (x := x) hC (by omega) rfl
 have nad : ad.block ≠ w.heap.size + 1 + 1 := by have := World.block_lt_of_cell? w _ e0; omega
 have x0 := (HX.out.below.cell (World.block_lt_of_cell? w _ e0)).trans e0
 have x1 := (HX.out.below.cell (World.block_lt_of_cell? w _ e1)).trans e1
 have x2 := (HX.out.below.cell (World.block_lt_of_cell? w _ e2)).trans e2
 have x3 := (HX.out.below.cell (World.block_lt_of_cell? w _ e3)).trans e3
 have x4 := (HX.out.below.cell (World.block_lt_of_cell? w _ e4)).trans e4
 clear e0 e1 e2 e3 e4
 have hkq : (k2 == (1 : Int)) = false := beq_eq_false_iff_ne.2 hk
 have g1 : decide (p2 < x.f2) = false := decide_eq_false (by omega)
 have g2 : decide (x.f2 > p2) = false := decide_eq_false (by omega)
 have g3 : (x.f2 == p2) = true := beq_iff_eq.2 h.1
 have g4 : (x.f1 == (2 : Int)) = true := beq_iff_eq.2 h.2
 have HH := Lib.hid h
 clear h
 have c2_0 : W1.cell? ⟨w.heap.size, 0, none⟩ = some (.int .i64 0) := (HX.out.cell 2 rfl 0).trans rfl
 have c1_1 : W1.cell? ⟨(w.heap.size + 1), 1, none⟩ = some (.int .i64 k2) := (HX.out.cell 1 rfl 1).trans rfl
 have c1_2 : W1.cell? ⟨(w.heap.size + 1), 2, none⟩ = some (.int .i64 p2) := (HX.out.cell 1 rfl 2).trans rfl
 go_upto_region 13 with fail
 go_quiet (fail)
 obtain ⟨W2, hW2⟩ : ∃ x, W1.drewN nq = x := ⟨_, rfl⟩
 rw [hW2]
 have HY := Lib.hid (hW2 ▸ HX.out.drewN nq)
 have z0 : W2.cell? ad = some (.int .i64 x.f0) := hW2 ▸ x0
 have z1 : W2.cell? ⟨ad.block, ad.off + 1, none⟩ = some (.int .i64 x.f1) := hW2 ▸ x1
 have z2 : W2.cell? ⟨ad.block, ad.off + 2, none⟩ = some (.int .i64 x.f2) := hW2 ▸ x2
 have z3 : W2.cell? ⟨ad.block, ad.off + 3, none⟩ = some (.int .i64 x.f3) := hW2 ▸ x3
 have z4 : W2.cell? ⟨ad.block, ad.off + 4, none⟩ = some (.string x.f4) := hW2 ▸ x4
 clear HX x0 x1 x2 x3 x4 c2_0 c1_1 c1_2 g1 g2 g3 g4
 have HX := HY
 clear HY hW2
 clear hkq
 go_upto_region 14 with fail
 have wr1 : IntKind.i64.wrap (x.f2 + n2) = x.f2 + n2 := by rw [Go.Proofs.YtmkmpjkgpnahnaaDoorW.PrintLast.i64_w]; exact w64 (by omega) (by omega)
 have c1_3 : W2.cell? ⟨(w.heap.size + 1), 3, none⟩ = some (.int .i64 n2) := (HX.out.cell 1 rfl 3).trans rfl
 have cr0_0 : W2.cell? ⟨(w.heap.size + 1 + 1), 0, none⟩ = some (.int .i64 0) := (HX.out.cell 0 rfl 0).trans rfl
 have fr0_0 : W2.frozen? ⟨(w.heap.size + 1 + 1), 0, none⟩ = false := HX.out.free 0 rfl 0
 have cr0_1 : W2.cell? ⟨(w.heap.size + 1 + 1), 1, none⟩ = some (.int .i64 0) := (HX.out.cell 0 rfl 1).trans rfl
 have fr0_1 : W2.frozen? ⟨(w.heap.size + 1 + 1), 1, none⟩ = false := HX.out.free 0 rfl 1
 have cr0_2 : W2.cell? ⟨(w.heap.size + 1 + 1), 2, none⟩ = some (.int .i64 0) := (HX.out.cell 0 rfl 2).trans rfl
 have fr0_2 : W2.frozen? ⟨(w.heap.size + 1 + 1), 2, none⟩ = false := HX.out.free 0 rfl 2
 have cr0_3 : W2.cell? ⟨(w.heap.size + 1 + 1), 3, none⟩ = some (.int .i64 0) := (HX.out.cell 0 rfl 3).trans rfl
 have fr0_3 : W2.frozen? ⟨(w.heap.size + 1 + 1), 3, none⟩ = false := HX.out.free 0 rfl 3
 have cr0_4 : W2.cell? ⟨(w.heap.size + 1 + 1), 4, none⟩ = some (.string ⟨#[]⟩) := (HX.out.cell 0 rfl 4).trans rfl
 have fr0_4 : W2.frozen? ⟨(w.heap.size + 1 + 1), 4, none⟩ = false := HX.out.free 0 rfl 4
 have lr : w.heap.size + 1 + 1 < W2.heap.size := HX.out.lt (x := ((w.heap.size + 1 + 1), #[.int .i64 0, .int .i64 0, .int .i64 0, .int .i64 0, .string ⟨#[]⟩], 33)) (by simp)
 have hS : ∀ (V : World) (i : Nat) (u : Value) (p : Addr), p.block ≠ w.heap.size + 1 + 1 → (V.setCell ⟨w.heap.size + 1 + 1, i, none⟩ u).cell? p = V.cell? p := fun V i u p h => World.cell?_setCell_other _ _ _ _ (fun e => h (by rw [← e]))
 have na : w.heap.size ≠ w.heap.size + 1 + 1 := by omega
 have nb : w.heap.size + 1 ≠ w.heap.size + 1 + 1 := by omega
 go_region_held3 (fun w' => w'.cell? ad = some (.int .i64 x.f0) ∧ w'.cell? ⟨ad.block, ad.off + 1, none⟩ = some (.int .i64 x.f1) ∧ w'.cell? ⟨ad.block, ad.off + 2, none⟩ = some (.int .i64 x.f2) ∧ w'.cell? ⟨ad.block, ad.off + 3, none⟩ = some (.int .i64 x.f3) ∧ w'.cell? ⟨ad.block, ad.off + 4, none⟩ = some (.string x.f4) ∧ w'.cell? ⟨(w.heap.size + 1), 3, none⟩ = some (.int .i64 n2)) (go_keep) ((go_at_call 36; refine (plain_Do_at.calls x.f0 x.f1 x.f2 x.f3 x.f4 (x.f2 + n2) x.f0 x.f1 (x.f2 + n2) x.f3 x.f4 _ rfl).mono ?_; rintro e w9 ⟨rfl, hb⟩; have hc_ := gcell hb; have hE := below_step (Below.refl W2.heap.size W2).drew hb; obtain ⟨hd_, hf_⟩ := ecell hE))
 have HY := Lib.hid ((((((HX.out.drew.keep hb).put 0 rfl 0 (.int .i64 x.f0)).put 0 rfl 1 (.int .i64 x.f1)).put 0 rfl 2 (.int .i64 (x.f2 + n2))).put 0 rfl 3 (.int .i64 x.f3)).put 0 rfl 4 (.string x.f4))
 clear HX
 obtain ⟨W9, hW_⟩ : ∃ W_, (((((w9.setCell ⟨(w.heap.size + 1 + 1), 0, none⟩ (.int .i64 x.f0)).setCell ⟨(w.heap.size + 1 + 1), 1, none⟩ (.int .i64 x.f1)).setCell ⟨(w.heap.size + 1 + 1), 2, none⟩ (.int .i64 (x.f2 + n2))).setCell ⟨(w.heap.size + 1 + 1), 3, none⟩ (.int .i64 x.f3)).setCell ⟨(w.heap.size + 1 + 1), 4, none⟩ (.string x.f4)) = W_ := ⟨_, rfl⟩
 have HX : Hid (Bxs w [((w.heap.size + 1 + 1), #[.int .i64 x.f0, .int .i64 x.f1, .int .i64 (x.f2 + n2), .int .i64 x.f3, .string x.f4], 33), ((w.heap.size + 1), #[.int .i64 s2, .int .i64 k2, .int .i64 p2, .int .i64 n2, .string t2], 33), (w.heap.size, #[.int .i64 0, .int .i64 q2, .int .i64 q3], 29)] W9) := by rw [← hW_]; exact HY
 rw [hW_]
 clear HY hW_ lr c1_3 cr0_0 fr0_0 cr0_1 fr0_1 cr0_2 fr0_2 cr0_3 fr0_3 cr0_4 fr0_4
 go_wp2
 refine bodyPost_ret (results_cell_row rfl _ _ (w.heap.size + 1 + 1) 33 #[.int .i64 x.f0, .int .i64 x.f1, .int .i64 (x.f2 + n2), .int .i64 x.f3, .string x.f4] (0, 0) _ rfl (HX.out.blk 0 rfl) Tryd.underlying33 rfl (by kernel_rfl)) rfl ?_
 exact ⟨rfl, HX.out.below⟩

set_option maxRecDepth 100000 in
set_option maxHeartbeats 4000000 in
theorem back_del_ne (q2 q3 s2 k2 p2 n2 : Int) (t2 : ByteArray) (w : World) (hT : Aside0 (XAmb w)) (b1 : 0 ≤ p2) (b2 : p2 ≤ 20000) (b3 : 0 ≤ q2) (b4 : q2 ≤ 20000) (b5 : 0 ≤ q3) (b6 : q3 ≤ 20000) (A : Option Addr) (c : Nat) (x : S33) (hC : Kd.C k33 w A 1 [x]) (b7 : 0 ≤ x.f2) (b8 : x.f2 ≤ 40000) (b9 : 0 ≤ x.f3) (b10 : x.f3 ≤ 20000) (hk : ¬ k2 = 1)(h : x.f2 < p2) :
  Calls Tryd.prog 30 #[.slice A 1 c, .agg #[.int .i64 0, .int .i64 q2, .int .i64 q3], .agg #[.int .i64 s2, .int .i64 k2, .int .i64 p2, .int .i64 n2, .string t2]] w fun e w' => e = .returned (.agg #[.int .i64 x.f0, .int .i64 x.f1, .int .i64 x.f2, .int .i64 x.f3, .string x.f4]) ∧ Below w.heap.size w w' := by
 have HB0 := Lib.hid ((((Bxs.start w).new #[.int .i64 0, .int .i64 q2, .int .i64 q3] 29).new #[.int .i64 s2, .int .i64 k2, .int .i64 p2, .int .i64 n2, .string t2] 33).new #[.int .i64 0, .int .i64 0, .int .i64 0, .int .i64 0, .string ⟨#[]⟩] 33)
 have hu33 := Tryd.underlying33
 have hu29 := Tryd.underlying29
 go_enter Tryd.func30, Tryd.ntmps30
 go_upto_region 1 with fail
 obtain ⟨W1, hW1⟩ : ∃ W_, ((w.alloc (.cells #[.int .i64 0, .int .i64 q2, .int .i64 q3] 29)).alloc (.cells #[.int .i64 s2, .int .i64 k2, .int .i64 p2, .int .i64 n2, .string t2] 33)).alloc (.cells #[.int .i64 0, .int .i64 0, .int .i64 0, .int .i64 0, .string ⟨#[]⟩] 33) = W_ := ⟨_, rfl⟩
 have HX : Hid (Bxs w [((w.heap.size + 1 + 1), #[.int .i64 0, .int .i64 0, .int .i64 0, .int .i64 0, .string ⟨#[]⟩], 33), ((w.heap.size + 1), #[.int .i64 s2, .int .i64 k2, .int .i64 p2, .int .i64 n2, .string t2], 33), (w.heap.size, #[.int .i64 0, .int .i64 q2, .int .i64 q3], 29)] W1) := by
  rw [← hW1]
  simpa [Hid] using HB0.out
 rw [hW1]
 clear hW1 HB0
 obtain ⟨ad, rfl, e0, e1, e2, e3, e4⟩ := elt0 (x := x) hC (by omega) rfl
 have nad : ad.block ≠ w.heap.size + 1 + 1 := by have := World.block_lt_of_cell? w _ e0; omega
 have x0 := (HX.out.below.cell (World.block_lt_of_cell? w _ e0)).trans e0
 have x1 := (HX.out.below.cell (World.block_lt_of_cell? w _ e1)).trans e1
 have x2 := (HX.out.below.cell (World.block_lt_of_cell? w _ e2)).trans e2
 have x3 := (HX.out.below.cell (World.block_lt_of_cell? w _ e3)).trans e3
 have x4 := (HX.out.below.cell (World.block_lt_of_cell? w _ e4)).trans e4
 clear e0 e1 e2 e3 e4
 have hkq : (k2 == (1 : Int)) = false := beq_eq_false_iff_ne.2 hk
 have g1 : decide (p2 < x.f2) = false := decide_eq_false (by omega)
 have g2 : decide (x.f2 > p2) = false := decide_eq_false (by omega)
 have g3 : (x.f2 == p2) = false := beq_eq_false_iff_ne.2 (by omega)
 have HH := Lib.hid h
 clear h
 have c2_0 : W1.cell? ⟨w.heap.size, 0, none⟩ = some (.int .i64 0) := (HX.out.cell 2 rfl 0).trans rfl
 have c1_1 : W1.cell? ⟨(w.heap.size + 1), 1, none⟩ = some (.int .i64 k2) := (HX.out.cell 1 rfl 1).trans rfl
 have c1_2 : W1.cell? ⟨(w.heap.size + 1), 2, none⟩ = some (.int .i64 p2) := (HX.out.cell 1 rfl 2).trans rfl
 go_upto_region 13 with fail
 go_quiet (fail)
 obtain ⟨W2, hW2⟩ : ∃ x, W1.drewN nq = x := ⟨_, rfl⟩
 rw [hW2]
 have HY := Lib.hid (hW2 ▸ HX.out.drewN nq)
 have z0 : W2.cell? ad = some (.int .i64 x.f0) := hW2 ▸ x0
 have z1 : W2.cell? ⟨ad.block, ad.off + 1, none⟩ = some (.int .i64 x.f1) := hW2 ▸ x1
 have z2 : W2.cell? ⟨ad.block, ad.off + 2, none⟩ = some (.int .i64 x.f2) := hW2 ▸ x2
 have z3 : W2.cell? ⟨ad.block, ad.off + 3, none⟩ = some (.int .i64 x.f3) := hW2 ▸ x3
 have z4 : W2.cell? ⟨ad.block, ad.off + 4, none⟩ = some (.string x.f4) := hW2 ▸ x4
 clear HX x0 x1 x2 x3 x4 c2_0 c1_1 c1_2 g1 g2 g3
 have HX := HY
 clear HY hW2
 clear hkq
 go_upto_region 15 with fail
 have cr0_0 : W2.cell? ⟨(w.heap.size + 1 + 1), 0, none⟩ = some (.int .i64 0) := (HX.out.cell 0 rfl 0).trans rfl
 have fr0_0 : W2.frozen? ⟨(w.heap.size + 1 + 1), 0, none⟩ = false := HX.out.free 0 rfl 0
 have cr0_1 : W2.cell? ⟨(w.heap.size + 1 + 1), 1, none⟩ = some (.int .i64 0) := (HX.out.cell 0 rfl 1).trans rfl
 have fr0_1 : W2.frozen? ⟨(w.heap.size + 1 + 1), 1, none⟩ = false := HX.out.free 0 rfl 1
 have cr0_2 : W2.cell? ⟨(w.heap.size + 1 + 1), 2, none⟩ = some (.int .i64 0) := (HX.out.cell 0 rfl 2).trans rfl
 have fr0_2 : W2.frozen? ⟨(w.heap.size + 1 + 1), 2, none⟩ = false := HX.out.free 0 rfl 2
 have cr0_3 : W2.cell? ⟨(w.heap.size + 1 + 1), 3, none⟩ = some (.int .i64 0) := (HX.out.cell 0 rfl 3).trans rfl
 have fr0_3 : W2.frozen? ⟨(w.heap.size + 1 + 1), 3, none⟩ = false := HX.out.free 0 rfl 3
 have cr0_4 : W2.cell? ⟨(w.heap.size + 1 + 1), 4, none⟩ = some (.string ⟨#[]⟩) := (HX.out.cell 0 rfl 4).trans rfl
 have fr0_4 : W2.frozen? ⟨(w.heap.size + 1 + 1), 4, none⟩ = false := HX.out.free 0 rfl 4
 go_wp2
 clear cr0_0 fr0_0 cr0_1 fr0_1 cr0_2 fr0_2 cr0_3 fr0_3 cr0_4 fr0_4
 have HY := Lib.hid (((((HX.out.put 0 rfl 0 (.int .i64 x.f0)).put 0 rfl 1 (.int .i64 x.f1)).put 0 rfl 2 (.int .i64 x.f2)).put 0 rfl 3 (.int .i64 x.f3)).put 0 rfl 4 (.string x.f4))
 clear HX
 obtain ⟨W9, hW_⟩ : ∃ W_, (((((W2.setCell ⟨(w.heap.size + 1 + 1), 0, none⟩ (.int .i64 x.f0)).setCell ⟨(w.heap.size + 1 + 1), 1, none⟩ (.int .i64 x.f1)).setCell ⟨(w.heap.size + 1 + 1), 2, none⟩ (.int .i64 x.f2)).setCell ⟨(w.heap.size + 1 + 1), 3, none⟩ (.int .i64 x.f3)).setCell ⟨(w.heap.size + 1 + 1), 4, none⟩ (.string x.f4)) = W_ := ⟨_, rfl⟩
 have HX : Hid (Bxs w [((w.heap.size + 1 + 1), #[.int .i64 x.f0, .int .i64 x.f1, .int .i64 x.f2, .int .i64 x.f3, .string x.f4], 33), ((w.heap.size + 1), #[.int .i64 s2, .int .i64 k2, .int .i64 p2, .int .i64 n2, .string t2], 33), (w.heap.size, #[.int .i64 0, .int .i64 q2, .int .i64 q3], 29)] W9) := by rw [← hW_]; exact HY
 rw [hW_]
 clear HY hW_
 refine bodyPost_ret (results_cell_row rfl _ _ (w.heap.size + 1 + 1) 33 #[.int .i64 x.f0, .int .i64 x.f1, .int .i64 x.f2, .int .i64 x.f3, .string x.f4] (0, 0) _ rfl (HX.out.blk 0 rfl) Tryd.underlying33 rfl (by kernel_rfl)) rfl ?_
 exact ⟨rfl, HX.out.below⟩

set_option maxRecDepth 100000 in
set_option maxHeartbeats 4000000 in
theorem back_del_n2 (q2 q3 s2 k2 p2 n2 : Int) (t2 : ByteArray) (w : World) (hT : Aside0 (XAmb w)) (b1 : 0 ≤ p2) (b2 : p2 ≤ 20000) (b3 : 0 ≤ q2) (b4 : q2 ≤ 20000) (b5 : 0 ≤ q3) (b6 : q3 ≤ 20000) (A : Option Addr) (c : Nat) (x : S33) (hC : Kd.C k33 w A 1 [x]) (b7 : 0 ≤ x.f2) (b8 : x.f2 ≤ 40000) (b9 : 0 ≤ x.f3) (b10 : x.f3 ≤ 20000) (hk : ¬ k2 = 1)(h : x.f2 = p2 ∧ ¬ x.f1 = 2) :
  Calls Tryd.prog 30 #[.slice A 1 c, .agg #[.int .i64 0, .int .i64 q2, .int .i64 q3], .agg #[.int .i64 s2, .int .i64 k2, .int .i64 p2, .int .i64 n2, .string t2]] w fun e w' => e = .returned (.agg #[.int .i64 x.f0, .int .i64 x.f1, .int .i64 x.f2, .int .i64 x.f3, .string x.f4]) ∧ Below w.heap.size w w' := by
 have HB0 := Lib.hid ((((Bxs.start w).new #[.int .i64 0, .int .i64 q2, .int .i64 q3] 29).new #[.int .i64 s2, .int .i64 k2, .int .i64 p2, .int .i64 n2, .string t2] 33).new #[.int .i64 0, .int .i64 0, .int .i64 0, .int .i64 0, .string ⟨#[]⟩] 33)
 have hu33 := Tryd.underlying33
 have hu29 := Tryd.underlying29
 go_enter Tryd.func30, Tryd.ntmps30
 go_upto_region 1 with fail
 obtain ⟨W1, hW1⟩ : ∃ W_, ((w.alloc (.cells #[.int .i64 0, .int .i64 q2, .int .i64 q3] 29)).alloc (.cells #[.int .i64 s2, .int .i64 k2, .int .i64 p2, .int .i64 n2, .string t2] 33)).alloc (.cells #[.int .i64 0, .int .i64 0, .int .i64 0, .int .i64 0, .string ⟨#[]⟩] 33) = W_ := ⟨_, rfl⟩
 have HX : Hid (Bxs w [((w.heap.size + 1 + 1), #[.int .i64 0, .int .i64 0, .int .i64 0, .int .i64 0, .string ⟨#[]⟩], 33), ((w.heap.size + 1), #[.int .i64 s2, .int .i64 k2, .int .i64 p2, .int .i64 n2, .string t2], 33), (w.heap.size, #[.int .i64 0, .int .i64 q2, .int .i64 q3], 29)] W1) := by
  rw [← hW1]
  simpa [Hid] using HB0.out
 rw [hW1]
 clear hW1 HB0
 obtain ⟨ad, rfl, e0, e1, e2, e3, e4⟩ := elt0 (x := x) hC (by omega) rfl
 have nad : ad.block ≠ w.heap.size + 1 + 1 := by have := World.block_lt_of_cell? w _ e0; omega
 have x0 := (HX.out.below.cell (World.block_lt_of_cell? w _ e0)).trans e0
 have x1 := (HX.out.below.cell (World.block_lt_of_cell? w _ e1)).trans e1
 have x2 := (HX.out.below.cell (World.block_lt_of_cell? w _ e2)).trans e2
 have x3 := (HX.out.below.cell (World.block_lt_of_cell? w _ e3)).trans e3
 have x4 := (HX.out.below.cell (World.block_lt_of_cell? w _ e4)).trans e4
 clear e0 e1 e2 e3 e4
 have hkq : (k2 == (1 : Int)) = false := beq_eq_false_iff_ne.2 hk
 have g1 : decide (p2 < x.f2) = false := decide_eq_false (by omega)
 have g2 : decide (x.f2 > p2) = false := decide_eq_false (by omega)
 have g3 : (x.f2 == p2) = true := beq_iff_eq.2 h.1
 have g4 : (x.f1 == (2 : Int)) = false := beq_eq_false_iff_ne.2 h.2
 have HH := Lib.hid h
 clear h
 have c2_0 : W1.cell? ⟨w.heap.size, 0, none⟩ = some (.int .i64 0) := (HX.out.cell 2 rfl 0).trans rfl
 have c1_1 : W1.cell? ⟨(w.heap.size + 1), 1, none⟩ = some (.int .i64 k2) := (HX.out.cell 1 rfl 1).trans rfl
 have c1_2 : W1.cell? ⟨(w.heap.size + 1), 2, none⟩ = some (.int .i64 p2) := (HX.out.cell 1 rfl 2).trans rfl
 go_upto_region 13 with fail
 go_quiet (fail)
 obtain ⟨W2, hW2⟩ : ∃ x, W1.drewN nq = x := ⟨_, rfl⟩
 rw [hW2]
 have HY := Lib.hid (hW2 ▸ HX.out.drewN nq)
 have z0 : W2.cell? ad = some (.int .i64 x.f0) := hW2 ▸ x0
 have z1 : W2.cell? ⟨ad.block, ad.off + 1, none⟩ = some (.int .i64 x.f1) := hW2 ▸ x1
 have z2 : W2.cell? ⟨ad.block, ad.off + 2, none⟩ = some (.int .i64 x.f2) := hW2 ▸ x2
 have z3 : W2.cell? ⟨ad.block, ad.off + 3, none⟩ = some (.int .i64 x.f3) := hW2 ▸ x3
 have z4 : W2.cell? ⟨ad.block, ad.off + 4, none⟩ = some (.string x.f4) := hW2 ▸ x4
 clear HX x0 x1 x2 x3 x4 c2_0 c1_1 c1_2 g1 g2 g3 g4
 have HX := HY
 clear HY hW2
 clear hkq
 go_upto_region 15 with fail
 have cr0_0 : W2.cell? ⟨(w.heap.size + 1 + 1), 0, none⟩ = some (.int .i64 0) := (HX.out.cell 0 rfl 0).trans rfl
 have fr0_0 : W2.frozen? ⟨(w.heap.size + 1 + 1), 0, none⟩ = false := HX.out.free 0 rfl 0
 have cr0_1 : W2.cell? ⟨(w.heap.size + 1 + 1), 1, none⟩ = some (.int .i64 0) := (HX.out.cell 0 rfl 1).trans rfl
 have fr0_1 : W2.frozen? ⟨(w.heap.size + 1 + 1), 1, none⟩ = false := HX.out.free 0 rfl 1
 have cr0_2 : W2.cell? ⟨(w.heap.size + 1 + 1), 2, none⟩ = some (.int .i64 0) := (HX.out.cell 0 rfl 2).trans rfl
 have fr0_2 : W2.frozen? ⟨(w.heap.size + 1 + 1), 2, none⟩ = false := HX.out.free 0 rfl 2
 have cr0_3 : W2.cell? ⟨(w.heap.size + 1 + 1), 3, none⟩ = some (.int .i64 0) := (HX.out.cell 0 rfl 3).trans rfl
 have fr0_3 : W2.frozen? ⟨(w.heap.size + 1 + 1), 3, none⟩ = false := HX.out.free 0 rfl 3
 have cr0_4 : W2.cell? ⟨(w.heap.size + 1 + 1), 4, none⟩ = some (.string ⟨#[]⟩) := (HX.out.cell 0 rfl 4).trans rfl
 have fr0_4 : W2.frozen? ⟨(w.heap.size + 1 + 1), 4, none⟩ = false := HX.out.free 0 rfl 4
 go_wp2
 clear cr0_0 fr0_0 cr0_1 fr0_1 cr0_2 fr0_2 cr0_3 fr0_3 cr0_4 fr0_4
 have HY := Lib.hid (((((HX.out.put 0 rfl 0 (.int .i64 x.f0)).put 0 rfl 1 (.int .i64 x.f1)).put 0 rfl 2 (.int .i64 x.f2)).put 0 rfl 3 (.int .i64 x.f3)).put 0 rfl 4 (.string x.f4))
 clear HX
 obtain ⟨W9, hW_⟩ : ∃ W_, (((((W2.setCell ⟨(w.heap.size + 1 + 1), 0, none⟩ (.int .i64 x.f0)).setCell ⟨(w.heap.size + 1 + 1), 1, none⟩ (.int .i64 x.f1)).setCell ⟨(w.heap.size + 1 + 1), 2, none⟩ (.int .i64 x.f2)).setCell ⟨(w.heap.size + 1 + 1), 3, none⟩ (.int .i64 x.f3)).setCell ⟨(w.heap.size + 1 + 1), 4, none⟩ (.string x.f4)) = W_ := ⟨_, rfl⟩
 have HX : Hid (Bxs w [((w.heap.size + 1 + 1), #[.int .i64 x.f0, .int .i64 x.f1, .int .i64 x.f2, .int .i64 x.f3, .string x.f4], 33), ((w.heap.size + 1), #[.int .i64 s2, .int .i64 k2, .int .i64 p2, .int .i64 n2, .string t2], 33), (w.heap.size, #[.int .i64 0, .int .i64 q2, .int .i64 q3], 29)] W9) := by rw [← hW_]; exact HY
 rw [hW_]
 clear HY hW_
 refine bodyPost_ret (results_cell_row rfl _ _ (w.heap.size + 1 + 1) 33 #[.int .i64 x.f0, .int .i64 x.f1, .int .i64 x.f2, .int .i64 x.f3, .string x.f4] (0, 0) _ rfl (HX.out.blk 0 rfl) Tryd.underlying33 rfl (by kernel_rfl)) rfl ?_
 exact ⟨rfl, HX.out.below⟩

set_option maxRecDepth 100000 in
set_option maxHeartbeats 4000000 in
theorem back_torn_none (q1 q2 q3 s2 k2 p2 n2 : Int) (t2 : ByteArray) (w : World) (hT : Aside0 (XAmb w)) (b1 : 0 ≤ p2) (b2 : p2 ≤ 20000) (b3 : 0 ≤ q2) (b4 : q2 ≤ 20000) (b5 : 0 ≤ q3) (b6 : q3 ≤ 20000) (A : Option Addr) (c : Nat) :
  Calls Tryd.prog 30 #[.slice A 0 c, .agg #[.int .i64 q1, .int .i64 q2, .int .i64 q3], .agg #[.int .i64 s2, .int .i64 k2, .int .i64 p2, .int .i64 n2, .string t2]] w fun e w' => e = .returned (.agg #[.int .i64 0, .int .i64 2, .int .i64 (p2 + q2), .int .i64 q3, .string ⟨#[]⟩]) ∧ Below w.heap.size w w' := by
 have HB0 := Lib.hid ((((Bxs.start w).new #[.int .i64 q1, .int .i64 q2, .int .i64 q3] 29).new #[.int .i64 s2, .int .i64 k2, .int .i64 p2, .int .i64 n2, .string t2] 33).new #[.int .i64 0, .int .i64 0, .int .i64 0, .int .i64 0, .string ⟨#[]⟩] 33)
 have hu33 := Tryd.underlying33
 have hu29 := Tryd.underlying29
 go_enter Tryd.func30, Tryd.ntmps30
 go_upto_region 1 with fail
 obtain ⟨W1, hW1⟩ : ∃ W_, ((w.alloc (.cells #[.int .i64 q1, .int .i64 q2, .int .i64 q3] 29)).alloc (.cells #[.int .i64 s2, .int .i64 k2, .int .i64 p2, .int .i64 n2, .string t2] 33)).alloc (.cells #[.int .i64 0, .int .i64 0, .int .i64 0, .int .i64 0, .string ⟨#[]⟩] 33) = W_ := ⟨_, rfl⟩
 have HX : Hid (Bxs w [((w.heap.size + 1 + 1), #[.int .i64 0, .int .i64 0, .int .i64 0, .int .i64 0, .string ⟨#[]⟩], 33), ((w.heap.size + 1), #[.int .i64 s2, .int .i64 k2, .int .i64 p2, .int .i64 n2, .string t2], 33), (w.heap.size, #[.int .i64 q1, .int .i64 q2, .int .i64 q3], 29)] W1) := by
  rw [← hW1]
  simpa [Hid] using HB0.out
 rw [hW1]
 clear hW1 HB0
 have c2_0 : W1.cell? ⟨w.heap.size, 0, none⟩ = some (.int .i64 q1) := (HX.out.cell 2 rfl 0).trans rfl
 have c2_1 : W1.cell? ⟨w.heap.size, 1, none⟩ = some (.int .i64 q2) := (HX.out.cell 2 rfl 1).trans rfl
 have c2_2 : W1.cell? ⟨w.heap.size, 2, none⟩ = some (.int .i64 q3) := (HX.out.cell 2 rfl 2).trans rfl
 have c1_0 : W1.cell? ⟨(w.heap.size + 1), 0, none⟩ = some (.int .i64 s2) := (HX.out.cell 1 rfl 0).trans rfl
 have c1_1 : W1.cell? ⟨(w.heap.size + 1), 1, none⟩ = some (.int .i64 k2) := (HX.out.cell 1 rfl 1).trans rfl
 have c1_2 : W1.cell? ⟨(w.heap.size + 1), 2, none⟩ = some (.int .i64 p2) := (HX.out.cell 1 rfl 2).trans rfl
 have c1_3 : W1.cell? ⟨(w.heap.size + 1), 3, none⟩ = some (.int .i64 n2) := (HX.out.cell 1 rfl 3).trans rfl
 have c1_4 : W1.cell? ⟨(w.heap.size + 1), 4, none⟩ = some (.string t2) := (HX.out.cell 1 rfl 4).trans rfl
 go_wp2_with (go_at_call 41; refine (torn_none q1 q2 q3 s2 k2 p2 n2 t2 _ b1 b2 b3 b4 b5 b6 A c).mono ?_; rintro e w9 ⟨rfl, hb⟩; have HY := Lib.hid (HX.out.keep hb); clear HX; have HX := HY; clear HY hb; have cr0_0 : w9.cell? ⟨(w.heap.size + 1 + 1), 0, none⟩ = some (.int .i64 0) := (HX.out.cell 0 rfl 0).trans rfl; have fr0_0 : w9.frozen? ⟨(w.heap.size + 1 + 1), 0, none⟩ = false := HX.out.free 0 rfl 0; have cr0_1 : w9.cell? ⟨(w.heap.size + 1 + 1), 1, none⟩ = some (.int .i64 0) := (HX.out.cell 0 rfl 1).trans rfl; have fr0_1 : w9.frozen? ⟨(w.heap.size + 1 + 1), 1, none⟩ = false := HX.out.free 0 rfl 1; have cr0_2 : w9.cell? ⟨(w.heap.size + 1 + 1), 2, none⟩ = some (.int .i64 0) := (HX.out.cell 0 rfl 2).trans rfl; have fr0_2 : w9.frozen? ⟨(w.heap.size + 1 + 1), 2, none⟩ = false := HX.out.free 0 rfl 2; have cr0_3 : w9.cell? ⟨(w.heap.size + 1 + 1), 3, none⟩ = some (.int .i64 0) := (HX.out.cell 0 rfl 3).trans rfl; have fr0_3 : w9.frozen? ⟨(w.heap.size + 1 + 1), 3, none⟩ = false := HX.out.free 0 rfl 3; have cr0_4 : w9.cell? ⟨(w.heap.size + 1 + 1), 4, none⟩ = some (.string ⟨#[]⟩) := (HX.out.cell 0 rfl 4).trans rfl; have fr0_4 : w9.frozen? ⟨(w.heap.size + 1 + 1), 4, none⟩ = false := HX.out.free 0 rfl 4)
 have HY := Lib.hid (((((HX.out.put 0 rfl 0 (.int .i64 0)).put 0 rfl 1 (.int .i64 2)).put 0 rfl 2 (.int .i64 (p2 + q2))).put 0 rfl 3 (.int .i64 q3)).put 0 rfl 4 (.string ⟨#[]⟩))
 clear HX
 obtain ⟨W9, hW_⟩ : ∃ W_, (((((w9.setCell ⟨(w.heap.size + 1 + 1), 0, none⟩ (.int .i64 0)).setCell ⟨(w.heap.size + 1 + 1), 1, none⟩ (.int .i64 2)).setCell ⟨(w.heap.size + 1 + 1), 2, none⟩ (.int .i64 (p2 + q2))).setCell ⟨(w.heap.size + 1 + 1), 3, none⟩ (.int .i64 q3)).setCell ⟨(w.heap.size + 1 + 1), 4, none⟩ (.string ⟨#[]⟩)) = W_ := ⟨_, rfl⟩
 have HX : Hid (Bxs w [((w.heap.size + 1 + 1), #[.int .i64 0, .int .i64 2, .int .i64 (p2 + q2), .int .i64 q3, .string ⟨#[]⟩], 33), ((w.heap.size + 1), #[.int .i64 s2, .int .i64 k2, .int .i64 p2, .int .i64 n2, .string t2], 33), (w.heap.size, #[.int .i64 q1, .int .i64 q2, .int .i64 q3], 29)] W9) := by rw [← hW_]; exact HY
 rw [hW_]
 clear HY hW_
 refine bodyPost_ret (results_cell_row rfl _ _ (w.heap.size + 1 + 1) 33 #[.int .i64 0, .int .i64 2, .int .i64 (p2 + q2), .int .i64 q3, .string ⟨#[]⟩] (0, 0) _ rfl (HX.out.blk 0 rfl) Tryd.underlying33 rfl (by kernel_rfl)) rfl ?_
 exact ⟨rfl, HX.out.below⟩

set_option maxRecDepth 100000 in
set_option maxHeartbeats 4000000 in
theorem back_torn_at (q1 q2 q3 s2 k2 p2 n2 : Int) (t2 : ByteArray) (w : World) (hT : Aside0 (XAmb w)) (b1 : 0 ≤ p2) (b2 : p2 ≤ 20000) (b3 : 0 ≤ q2) (b4 : q2 ≤ 20000) (b5 : 0 ≤ q3) (b6 : q3 ≤ 20000) (A : Option Addr) (c : Nat) (x : S33) (hC : Kd.C k33 w A 1 [x]) (b7 : 0 ≤ x.f2) (b8 : x.f2 ≤ 40000) (b9 : 0 ≤ x.f3) (b10 : x.f3 ≤ 20000) (h : 0 < q2) (h0 : ¬ q1 = 0) (h1 : ¬ q1 = 1) :
  Calls Tryd.prog 30 #[.slice A 1 c, .agg #[.int .i64 q1, .int .i64 q2, .int .i64 q3], .agg #[.int .i64 s2, .int .i64 k2, .int .i64 p2, .int .i64 n2, .string t2]] w fun e w' => e = .returned (.agg #[.int .i64 x.f0, .int .i64 2, .int .i64 (p2 + q2), .int .i64 (x.f3 + q3), .string x.f4]) ∧ Below w.heap.size w w' := by
 have HC := Lib.hid hC
 have g1 : (q1 == (0 : Int)) = false := beq_eq_false_iff_ne.2 h0
 have g2 : (q1 == (1 : Int)) = false := beq_eq_false_iff_ne.2 h1
 have HB0 := Lib.hid ((((Bxs.start w).new #[.int .i64 q1, .int .i64 q2, .int .i64 q3] 29).new #[.int .i64 s2, .int .i64 k2, .int .i64 p2, .int .i64 n2, .string t2] 33).new #[.int .i64 0, .int .i64 0, .int .i64 0, .int .i64 0, .string ⟨#[]⟩] 33)
 have hu33 := Tryd.underlying33
 have hu29 := Tryd.underlying29
 go_enter Tryd.func30, Tryd.ntmps30
 go_upto_region 1 with fail
 obtain ⟨W1, hW1⟩ : ∃ W_, ((w.alloc (.cells #[.int .i64 q1, .int .i64 q2, .int .i64 q3] 29)).alloc (.cells #[.int .i64 s2, .int .i64 k2, .int .i64 p2, .int .i64 n2, .string t2] 33)).alloc (.cells #[.int .i64 0, .int .i64 0, .int .i64 0, .int .i64 0, .string ⟨#[]⟩] 33) = W_ := ⟨_, rfl⟩
 have HX : Hid (Bxs w [((w.heap.size + 1 + 1), #[.int .i64 0, .int .i64 0, .int .i64 0, .int .i64 0, .string ⟨#[]⟩], 33), ((w.heap.size + 1), #[.int .i64 s2, .int .i64 k2, .int .i64 p2, .int .i64 n2, .string t2], 33), (w.heap.size, #[.int .i64 q1, .int .i64 q2, .int .i64 q3], 29)] W1) := by
  rw [← hW1]
  simpa [Hid] using HB0.out
 rw [hW1]
 clear hW1 HB0
 have c2_0 : W1.cell? ⟨w.heap.size, 0, none⟩ = some (.int .i64 q1) := (HX.out.cell 2 rfl 0).trans rfl
 have c2_1 : W1.cell? ⟨w.heap.size, 1, none⟩ = some (.int .i64 q2) := (HX.out.cell 2 rfl 1).trans rfl
 have c2_2 : W1.cell? ⟨w.heap.size, 2, none⟩ = some (.int .i64 q3) := (HX.out.cell 2 rfl 2).trans rfl
 have c1_0 : W1.cell? ⟨(w.heap.size + 1), 0, none⟩ = some (.int .i64 s2) := (HX.out.cell 1 rfl 0).trans rfl
 have c1_1 : W1.cell? ⟨(w.heap.size + 1), 1, none⟩ = some (.int .i64 k2) := (HX.out.cell 1 rfl 1).trans rfl
 have c1_2 : W1.cell? ⟨(w.heap.size + 1), 2, none⟩ = some (.int .i64 p2) := (HX.out.cell 1 rfl 2).trans rfl
 have c1_3 : W1.cell? ⟨(w.heap.size + 1), 3, none⟩ = some (.int .i64 n2) := (HX.out.cell 1 rfl 3).trans rfl
 have c1_4 : W1.cell? ⟨(w.heap.size + 1), 4, none⟩ = some (.string t2) := (HX.out.cell 1 rfl 4).trans rfl
 go_wp2_with (go_at_call 41; refine (torn_at q1 q2 q3 s2 k2 p2 n2 t2 _ b1 b2 b3 b4 b5 b6 A c x (Kd.C_below HC.out HX.out.below) b9 b10 h).mono ?_; rintro e w9 ⟨rfl, hb⟩; have HY := Lib.hid (HX.out.keep hb); clear HX; have HX := HY; clear HY hb; have cr0_0 : w9.cell? ⟨(w.heap.size + 1 + 1), 0, none⟩ = some (.int .i64 0) := (HX.out.cell 0 rfl 0).trans rfl; have fr0_0 : w9.frozen? ⟨(w.heap.size + 1 + 1), 0, none⟩ = false := HX.out.free 0 rfl 0; have cr0_1 : w9.cell? ⟨(w.heap.size + 1 + 1), 1, none⟩ = some (.int .i64 0) := (HX.out.cell 0 rfl 1).trans rfl; have fr0_1 : w9.frozen? ⟨(w.heap.size + 1 + 1), 1, none⟩ = false := HX.out.free 0 rfl 1; have cr0_2 : w9.cell? ⟨(w.heap.size + 1 + 1), 2, none⟩ = some (.int .i64 0) := (HX.out.cell 0 rfl 2).trans rfl; have fr0_2 : w9.frozen? ⟨(w.heap.size + 1 + 1), 2, none⟩ = false := HX.out.free 0 rfl 2; have cr0_3 : w9.cell? ⟨(w.heap.size + 1 + 1), 3, none⟩ = some (.int .i64 0) := (HX.out.cell 0 rfl 3).trans rfl; have fr0_3 : w9.frozen? ⟨(w.heap.size + 1 + 1), 3, none⟩ = false := HX.out.free 0 rfl 3; have cr0_4 : w9.cell? ⟨(w.heap.size + 1 + 1), 4, none⟩ = some (.string ⟨#[]⟩) := (HX.out.cell 0 rfl 4).trans rfl; have fr0_4 : w9.frozen? ⟨(w.heap.size + 1 + 1), 4, none⟩ = false := HX.out.free 0 rfl 4)
 have HY := Lib.hid (((((HX.out.put 0 rfl 0 (.int .i64 x.f0)).put 0 rfl 1 (.int .i64 2)).put 0 rfl 2 (.int .i64 (p2 + q2))).put 0 rfl 3 (.int .i64 (x.f3 + q3))).put 0 rfl 4 (.string x.f4))
 clear HX
 obtain ⟨W9, hW_⟩ : ∃ W_, (((((w9.setCell ⟨(w.heap.size + 1 + 1), 0, none⟩ (.int .i64 x.f0)).setCell ⟨(w.heap.size + 1 + 1), 1, none⟩ (.int .i64 2)).setCell ⟨(w.heap.size + 1 + 1), 2, none⟩ (.int .i64 (p2 + q2))).setCell ⟨(w.heap.size + 1 + 1), 3, none⟩ (.int .i64 (x.f3 + q3))).setCell ⟨(w.heap.size + 1 + 1), 4, none⟩ (.string x.f4)) = W_ := ⟨_, rfl⟩
 have HX : Hid (Bxs w [((w.heap.size + 1 + 1), #[.int .i64 x.f0, .int .i64 2, .int .i64 (p2 + q2), .int .i64 (x.f3 + q3), .string x.f4], 33), ((w.heap.size + 1), #[.int .i64 s2, .int .i64 k2, .int .i64 p2, .int .i64 n2, .string t2], 33), (w.heap.size, #[.int .i64 q1, .int .i64 q2, .int .i64 q3], 29)] W9) := by rw [← hW_]; exact HY
 rw [hW_]
 clear HY hW_
 refine bodyPost_ret (results_cell_row rfl _ _ (w.heap.size + 1 + 1) 33 #[.int .i64 x.f0, .int .i64 2, .int .i64 (p2 + q2), .int .i64 (x.f3 + q3), .string x.f4] (0, 0) _ rfl (HX.out.blk 0 rfl) Tryd.underlying33 rfl (by kernel_rfl)) rfl ?_
 exact ⟨rfl, HX.out.below⟩

set_option maxRecDepth 100000 in
set_option maxHeartbeats 4000000 in
theorem back_torn_in (q1 q2 q3 s2 k2 p2 n2 : Int) (t2 : ByteArray) (w : World) (hT : Aside0 (XAmb w)) (b1 : 0 ≤ p2) (b2 : p2 ≤ 20000) (b3 : 0 ≤ q2) (b4 : q2 ≤ 20000) (b5 : 0 ≤ q3) (b6 : q3 ≤ 20000) (A : Option Addr) (c : Nat) (x : S33) (hC : Kd.C k33 w A 1 [x]) (b7 : 0 ≤ x.f2) (b8 : x.f2 ≤ 40000) (b9 : 0 ≤ x.f3) (b10 : x.f3 ≤ 20000) (h : ¬ 0 < q2) (h0 : ¬ q1 = 0) (h1 : ¬ q1 = 1) :
  Calls Tryd.prog 30 #[.slice A 1 c, .agg #[.int .i64 q1, .int .i64 q2, .int .i64 q3], .agg #[.int .i64 s2, .int .i64 k2, .int .i64 p2, .int .i64 n2, .string t2]] w fun e w' => e = .returned (.agg #[.int .i64 x.f0, .int .i64 2, .int .i64 x.f2, .int .i64 (x.f3 + q3), .string x.f4]) ∧ Below w.heap.size w w' := by
 have HC := Lib.hid hC
 have g1 : (q1 == (0 : Int)) = false := beq_eq_false_iff_ne.2 h0
 have g2 : (q1 == (1 : Int)) = false := beq_eq_false_iff_ne.2 h1
 have HB0 := Lib.hid ((((Bxs.start w).new #[.int .i64 q1, .int .i64 q2, .int .i64 q3] 29).new #[.int .i64 s2, .int .i64 k2, .int .i64 p2, .int .i64 n2, .string t2] 33).new #[.int .i64 0, .int .i64 0, .int .i64 0, .int .i64 0, .string ⟨#[]⟩] 33)
 have hu33 := Tryd.underlying33
 have hu29 := Tryd.underlying29
 go_enter Tryd.func30, Tryd.ntmps30
 go_upto_region 1 with fail
 obtain ⟨W1, hW1⟩ : ∃ W_, ((w.alloc (.cells #[.int .i64 q1, .int .i64 q2, .int .i64 q3] 29)).alloc (.cells #[.int .i64 s2, .int .i64 k2, .int .i64 p2, .int .i64 n2, .string t2] 33)).alloc (.cells #[.int .i64 0, .int .i64 0, .int .i64 0, .int .i64 0, .string ⟨#[]⟩] 33) = W_ := ⟨_, rfl⟩
 have HX : Hid (Bxs w [((w.heap.size + 1 + 1), #[.int .i64 0, .int .i64 0, .int .i64 0, .int .i64 0, .string ⟨#[]⟩], 33), ((w.heap.size + 1), #[.int .i64 s2, .int .i64 k2, .int .i64 p2, .int .i64 n2, .string t2], 33), (w.heap.size, #[.int .i64 q1, .int .i64 q2, .int .i64 q3], 29)] W1) := by
  rw [← hW1]
  simpa [Hid] using HB0.out
 rw [hW1]
 clear hW1 HB0
 have c2_0 : W1.cell? ⟨w.heap.size, 0, none⟩ = some (.int .i64 q1) := (HX.out.cell 2 rfl 0).trans rfl
 have c2_1 : W1.cell? ⟨w.heap.size, 1, none⟩ = some (.int .i64 q2) := (HX.out.cell 2 rfl 1).trans rfl
 have c2_2 : W1.cell? ⟨w.heap.size, 2, none⟩ = some (.int .i64 q3) := (HX.out.cell 2 rfl 2).trans rfl
 have c1_0 : W1.cell? ⟨(w.heap.size + 1), 0, none⟩ = some (.int .i64 s2) := (HX.out.cell 1 rfl 0).trans rfl
 have c1_1 : W1.cell? ⟨(w.heap.size + 1), 1, none⟩ = some (.int .i64 k2) := (HX.out.cell 1 rfl 1).trans rfl
 have c1_2 : W1.cell? ⟨(w.heap.size + 1), 2, none⟩ = some (.int .i64 p2) := (HX.out.cell 1 rfl 2).trans rfl
 have c1_3 : W1.cell? ⟨(w.heap.size + 1), 3, none⟩ = some (.int .i64 n2) := (HX.out.cell 1 rfl 3).trans rfl
 have c1_4 : W1.cell? ⟨(w.heap.size + 1), 4, none⟩ = some (.string t2) := (HX.out.cell 1 rfl 4).trans rfl
 go_wp2_with (go_at_call 41; refine (torn_in q1 q2 q3 s2 k2 p2 n2 t2 _ b1 b2 b3 b4 b5 b6 A c x (Kd.C_below HC.out HX.out.below) b9 b10 h).mono ?_; rintro e w9 ⟨rfl, hb⟩; have HY := Lib.hid (HX.out.keep hb); clear HX; have HX := HY; clear HY hb; have cr0_0 : w9.cell? ⟨(w.heap.size + 1 + 1), 0, none⟩ = some (.int .i64 0) := (HX.out.cell 0 rfl 0).trans rfl; have fr0_0 : w9.frozen? ⟨(w.heap.size + 1 + 1), 0, none⟩ = false := HX.out.free 0 rfl 0; have cr0_1 : w9.cell? ⟨(w.heap.size + 1 + 1), 1, none⟩ = some (.int .i64 0) := (HX.out.cell 0 rfl 1).trans rfl; have fr0_1 : w9.frozen? ⟨(w.heap.size + 1 + 1), 1, none⟩ = false := HX.out.free 0 rfl 1; have cr0_2 : w9.cell? ⟨(w.heap.size + 1 + 1), 2, none⟩ = some (.int .i64 0) := (HX.out.cell 0 rfl 2).trans rfl; have fr0_2 : w9.frozen? ⟨(w.heap.size + 1 + 1), 2, none⟩ = false := HX.out.free 0 rfl 2; have cr0_3 : w9.cell? ⟨(w.heap.size + 1 + 1), 3, none⟩ = some (.int .i64 0) := (HX.out.cell 0 rfl 3).trans rfl; have fr0_3 : w9.frozen? ⟨(w.heap.size + 1 + 1), 3, none⟩ = false := HX.out.free 0 rfl 3; have cr0_4 : w9.cell? ⟨(w.heap.size + 1 + 1), 4, none⟩ = some (.string ⟨#[]⟩) := (HX.out.cell 0 rfl 4).trans rfl; have fr0_4 : w9.frozen? ⟨(w.heap.size + 1 + 1), 4, none⟩ = false := HX.out.free 0 rfl 4)
 have HY := Lib.hid (((((HX.out.put 0 rfl 0 (.int .i64 x.f0)).put 0 rfl 1 (.int .i64 2)).put 0 rfl 2 (.int .i64 x.f2)).put 0 rfl 3 (.int .i64 (x.f3 + q3))).put 0 rfl 4 (.string x.f4))
 clear HX
 obtain ⟨W9, hW_⟩ : ∃ W_, (((((w9.setCell ⟨(w.heap.size + 1 + 1), 0, none⟩ (.int .i64 x.f0)).setCell ⟨(w.heap.size + 1 + 1), 1, none⟩ (.int .i64 2)).setCell ⟨(w.heap.size + 1 + 1), 2, none⟩ (.int .i64 x.f2)).setCell ⟨(w.heap.size + 1 + 1), 3, none⟩ (.int .i64 (x.f3 + q3))).setCell ⟨(w.heap.size + 1 + 1), 4, none⟩ (.string x.f4)) = W_ := ⟨_, rfl⟩
 have HX : Hid (Bxs w [((w.heap.size + 1 + 1), #[.int .i64 x.f0, .int .i64 2, .int .i64 x.f2, .int .i64 (x.f3 + q3), .string x.f4], 33), ((w.heap.size + 1), #[.int .i64 s2, .int .i64 k2, .int .i64 p2, .int .i64 n2, .string t2], 33), (w.heap.size, #[.int .i64 q1, .int .i64 q2, .int .i64 q3], 29)] W9) := by rw [← hW_]; exact HY
 rw [hW_]
 clear HY hW_
 refine bodyPost_ret (results_cell_row rfl _ _ (w.heap.size + 1 + 1) 33 #[.int .i64 x.f0, .int .i64 2, .int .i64 x.f2, .int .i64 (x.f3 + q3), .string x.f4] (0, 0) _ rfl (HX.out.blk 0 rfl) Tryd.underlying33 rfl (by kernel_rfl)) rfl ?_
 exact ⟨rfl, HX.out.below⟩

/-- What a deed may have been, of its parts behind another one. -/
def backP (l : List S33) (q1 q2 q3 k2 p2 n2 : Int) (t2 : ByteArray) : S33 :=
 match l with
 | [] => ⟨0, 2, p2 + q2, q3, ⟨#[]⟩⟩
 | [x] => if q1 = 1 then ⟨x.f0, x.f1, p2 + q2, x.f3, x.f4⟩ else if q1 = 0 then
   (if p2 < x.f2 ∨ x.f2 = p2 ∧ x.f1 = 2 then ⟨x.f0, x.f1, if k2 = 1 then x.f2 - szU t2 else x.f2 + n2, x.f3, x.f4⟩ else x)
   else ⟨x.f0, 2, if 0 < q2 then p2 + q2 else x.f2, x.f3 + q3, x.f4⟩
 | y :: x :: _ => ⟨x.f0, x.f1, x.f2, x.f3 + y.f3, x.f4⟩
def backOk (l : List S33) (q2 q3 p2 n2 : Int) (t2 : ByteArray) : Bool :=
 decide (l.length ≤ 2 ∧ (0 ≤ p2 ∧ p2 ≤ 20000) ∧ (0 ≤ q2 ∧ q2 ≤ 20000) ∧ (0 ≤ q3 ∧ q3 ≤ 20000) ∧ (0 ≤ n2 ∧ n2 ≤ 20000) ∧ t2.size ≤ 800 ∧ lenU t2 ≤ 200) && l.all (fun x => decide (0 ≤ x.f2 ∧ x.f2 ≤ 40000 ∧ 0 ≤ x.f3 ∧ x.f3 ≤ 20000))
def plain_back.f (l : List S33) (q1 q2 q3 s2 k2 p2 n2 : Int) (t2 : ByteArray) : Option (Int × Int × Int × Int × ByteArray) :=
 if backOk l q2 q3 p2 n2 t2 = true then some ((backP l q1 q2 q3 k2 p2 n2 t2).f0, (backP l q1 q2 q3 k2 p2 n2 t2).f1, (backP l q1 q2 q3 k2 p2 n2 t2).f2, (backP l q1 q2 q3 k2 p2 n2 t2).f3, (backP l q1 q2 q3 k2 p2 n2 t2).f4) else none
theorem plain_back.calls (A : Option Addr) (c : Nat) (l : List S33) (q1 q2 q3 s2 k2 p2 n2 : Int) (t2 : ByteArray) (r1 r2 r3 r4 : Int) (r5 : ByteArray) (w : World) (hT : Aside0 (XAmb w)) (hC : Kd.C k33 w A l.length l) (hc : l.length ≤ c) (h : plain_back.f l q1 q2 q3 s2 k2 p2 n2 t2 = some (r1, r2, r3, r4, r5)) :
  Calls Tryd.prog 30 #[.slice A l.length c, .agg #[.int .i64 q1, .int .i64 q2, .int .i64 q3], .agg #[.int .i64 s2, .int .i64 k2, .int .i64 p2, .int .i64 n2, .string t2]] w fun e w' => e = .returned (.agg #[.int .i64 r1, .int .i64 r2, .int .i64 r3, .int .i64 r4, .string r5]) ∧ Below w.heap.size w w' := by
 unfold plain_back.f at h
 by_cases hok : backOk l q2 q3 p2 n2 t2 = true
 ·rw [if_pos hok] at h
  simp only [Option.some.injEq, Prod.mk.injEq] at h
  obtain ⟨rfl, rfl, rfl, rfl, rfl⟩ := h
  unfold backOk at hok
  rw [Bool.and_eq_true, decide_eq_true_eq] at hok
  obtain ⟨⟨hl, ⟨b1, b2⟩, ⟨b3, b4⟩, ⟨b5, b6⟩, ⟨b7, b8⟩, hz, hz2⟩, hall⟩ := hok
  rcases l with _ | ⟨x, _ | ⟨y, _ | ⟨z, l⟩⟩⟩
  ·exact back_torn_none q1 q2 q3 s2 k2 p2 n2 t2 w hT b1 b2 b3 b4 b5 b6 A c
  ·simp only [List.all_cons, List.all_nil, Bool.and_true, decide_eq_true_eq] at hall
   obtain ⟨x1, x2, x3, x4⟩ := hall
   unfold backP
   by_cases c1 : q1 = 1
   ·simp only [if_pos c1]
    subst c1
    exact back_place q2 q3 s2 k2 p2 n2 t2 w hT b1 b2 b3 b4 b5 b6 A c x hC x1 x2 x3 x4
   ·simp only [if_neg c1]
    by_cases c0 : q1 = 0
    ·simp only [if_pos c0]
     subst c0
     by_cases k : k2 = 1
     ·simp only [if_pos k]
      subst k
      by_cases g : p2 < x.f2
      ·simp only [if_pos (show p2 < x.f2 ∨ x.f2 = p2 ∧ x.f1 = 2 from .inl g)]
       exact back_ins_gt q2 q3 s2 p2 n2 t2 w hT b1 b2 b3 b4 b5 b6 A c x hC x1 x2 x3 x4 hz hz2 g
      ·by_cases g2 : x.f2 = p2
       ·by_cases g3 : x.f1 = 2
        ·simp only [if_pos (show p2 < x.f2 ∨ x.f2 = p2 ∧ x.f1 = 2 from .inr ⟨g2, g3⟩)]
         exact back_ins_eq q2 q3 s2 p2 n2 t2 w hT b1 b2 b3 b4 b5 b6 A c x hC x1 x2 x3 x4 hz hz2 ⟨g2, g3⟩
        ·simp only [if_neg (show ¬ (p2 < x.f2 ∨ x.f2 = p2 ∧ x.f1 = 2) from fun h => h.elim g (fun h => g3 h.2))]
         exact back_ins_n2 q2 q3 s2 p2 n2 t2 w hT b1 b2 b3 b4 b5 b6 A c x hC x1 x2 x3 x4 ⟨g2, g3⟩
       ·simp only [if_neg (show ¬ (p2 < x.f2 ∨ x.f2 = p2 ∧ x.f1 = 2) from fun h => h.elim g (fun h => g2 h.1))]
        exact back_ins_ne q2 q3 s2 p2 n2 t2 w hT b1 b2 b3 b4 b5 b6 A c x hC x1 x2 x3 x4 (by omega)
     ·simp only [if_neg k]
      by_cases g : p2 < x.f2
      ·simp only [if_pos (show p2 < x.f2 ∨ x.f2 = p2 ∧ x.f1 = 2 from .inl g)]
       exact back_del_gt q2 q3 s2 k2 p2 n2 t2 w hT b1 b2 b3 b4 b5 b6 A c x hC x1 x2 x3 x4 b7 b8 k g
      ·by_cases g2 : x.f2 = p2
       ·by_cases g3 : x.f1 = 2
        ·simp only [if_pos (show p2 < x.f2 ∨ x.f2 = p2 ∧ x.f1 = 2 from .inr ⟨g2, g3⟩)]
         exact back_del_eq q2 q3 s2 k2 p2 n2 t2 w hT b1 b2 b3 b4 b5 b6 A c x hC x1 x2 x3 x4 b7 b8 k ⟨g2, g3⟩
        ·simp only [if_neg (show ¬ (p2 < x.f2 ∨ x.f2 = p2 ∧ x.f1 = 2) from fun h => h.elim g (fun h => g3 h.2))]
         exact back_del_n2 q2 q3 s2 k2 p2 n2 t2 w hT b1 b2 b3 b4 b5 b6 A c x hC x1 x2 x3 x4 k ⟨g2, g3⟩
       ·simp only [if_neg (show ¬ (p2 < x.f2 ∨ x.f2 = p2 ∧ x.f1 = 2) from fun h => h.elim g (fun h => g2 h.1))]
        exact back_del_ne q2 q3 s2 k2 p2 n2 t2 w hT b1 b2 b3 b4 b5 b6 A c x hC x1 x2 x3 x4 k (by omega)
    ·simp only [if_neg c0]
     by_cases g : 0 < q2
     ·simp only [if_pos g]
      exact back_torn_at q1 q2 q3 s2 k2 p2 n2 t2 w hT b1 b2 b3 b4 b5 b6 A c x hC x1 x2 x3 x4 g c0 c1
     ·simp only [if_neg g]
      exact back_torn_in q1 q2 q3 s2 k2 p2 n2 t2 w hT b1 b2 b3 b4 b5 b6 A c x hC x1 x2 x3 x4 g c0 c1
  ·simp only [List.all_cons, List.all_nil, Bool.and_true, Bool.and_eq_true, decide_eq_true_eq] at hall
   exact back_two q1 q2 q3 s2 k2 p2 n2 t2 w b1 b2 b3 b4 b5 b6 A c x y hC hall.2.2.2.1 hall.2.2.2.2 hall.1.2.2.1 hall.1.2.2.2
  ·simp only [List.length_cons] at hl
   omega
 ·rw [if_neg hok] at h
  cases h
end Go.Proofs.YtmkmpjkgpnahnaaDoor.X
