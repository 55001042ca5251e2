/-
  The walk of the law PlainMeets: it returns true (printed by wip/gen29m.py). Conditions: the two tables of unicode/utf8 as they are laid.
-/
import Derived.Test.YtmkmpjkgpnahnaaDoorAlive
import Derived.Test.YtmkmpjkgpnahnaaDoorMeet29
import Derived.Test.YtmkmpjkgpnahnaaDoorPx4
import Derived.Deep.DeepCutAuto
import Derived.Deep.CutBlock
import Derived.Deep.LoopGhost
namespace Go.Proofs.YtmkmpjkgpnahnaaDoor.X
open Go Go.RowKit Go.Shelf Go.Proofs.YtmkmpjkgpnahnaaDoorW.PrintWords Go.Proofs.YtmkmpjkgpnahnaaDoor.P
set_option linter.unusedVariables false
theorem one_calls (s k p n : Int) (t : ByteArray) (w : World) : Calls Tryd.prog 11 #[.agg #[.int .i64 s, .int .i64 k, .int .i64 p, .int .i64 n, .string t]] w fun e w' =>
    e = .returned (.agg #[.int .i64 s, .int .i64 k, .int .i64 p, .int .i64 n, .string t]) ∧ Below w.heap.size w w' := foolscaplaw29_one.calls s k p n t s k p n t w rfl
theorem World.new_at {W W' : World} {b : Nat} (h : W.heap.size ≤ W'.heap.size) (hl : b < W.heap.size) : b ≠ W'.heap.size ∧ W'.heap.size ≠ b := ⟨by omega, by omega⟩
theorem amb_drew {W : World} (h : Aside0 (XAmb W)) : Aside0 (XAmb W.drew) := XAmb_step h (Below.refl _ _).drew
theorem amb_alloc {W : World} (o : Obj) (h : Aside0 (XAmb W)) : Aside0 (XAmb (W.alloc o)) := XAmb_step h (below_alloc (Below.refl _ _) o)
theorem Bxs.tail {W0 W : World} {x : Nat × Array Value × TypeId} {l : List (Nat × Array Value × TypeId)} (h : Bxs W0 (x :: l) W) : Bxs W0 l W :=
  ⟨fun y hy => h.at_ y (List.mem_cons_of_mem _ hy), (List.nodup_cons.1 (by simpa using h.nd)).2, fun y hy => h.lo y (List.mem_cons_of_mem _ hy), h.below⟩

set_option maxRecDepth 100000 in
set_option maxHeartbeats 8000000 in
theorem meets_great (k : Nat) (t0 : ByteArray) (s1 k1 p1 n1 : Int) (t1 : ByteArray) (s2 k2 p2 n2 : Int) (t2 : ByteArray) (w : World) (hT : Aside0 (XAmb w)) (L2 : List S23) (hL2 : [(⟨s1, k1, p1, n1, t1⟩ : S23), ⟨s2, k2, p2, n2, t2⟩] = L2) (hg : foolscaplaw29_great.f k t0 L2 = some true) :
    Calls Tryd.prog 4 #[.string t0, .agg #[.int .i64 s1, .int .i64 k1, .int .i64 p1, .int .i64 n1, .string t1], .agg #[.int .i64 s2, .int .i64 k2, .int .i64 p2, .int .i64 n2, .string t2]] w fun e w' => e = .returned (.bool true) ∧ Below w.heap.size w w' := by
  have HG := Lib.hid hg
  clear hg
  have HL2 := Lib.hid hL2
  clear hL2
  have HB0 := Lib.hid (((Bxs.start w).new #[.int .i64 s1, .int .i64 k1, .int .i64 p1, .int .i64 n1, .string t1] 23).new #[.int .i64 s2, .int .i64 k2, .int .i64 p2, .int .i64 n2, .string t2] 23)
  have hu23 := Tryd.underlying23
  have hu33 := Tryd.underlying33
  have hu29 := Tryd.underlying29
  go_enter Tryd.func4, Tryd.ntmps4
  go_upto_region 1 with fail
  obtain ⟨W1, hW1⟩ : ∃ x, (w.alloc (.cells #[.int .i64 s1, .int .i64 k1, .int .i64 p1, .int .i64 n1, .string t1] 23)).alloc (.cells #[.int .i64 s2, .int .i64 k2, .int .i64 p2, .int .i64 n2, .string t2] 23) = x := ⟨_, rfl⟩
  have HX : Hid (Bxs w [((w.heap.size + 1), #[.int .i64 s2, .int .i64 k2, .int .i64 p2, .int .i64 n2, .string t2], 23), (w.heap.size, #[.int .i64 s1, .int .i64 k1, .int .i64 p1, .int .i64 n1, .string t1], 23)] W1) := by
    rw [← hW1]
    simpa [Hid] using HB0.out
  rw [hW1]
  clear hW1 HB0
  go_wp2_with fail
  refine (foolscaplaw29_alive.calls true _ (XAmb_step hT HX.out.below) rfl).mono ?_
  rintro e W2 ⟨rfl, hb⟩
  have HY := Lib.hid (HX.out.keep hb)
  clear HX
  have HX := HY
  clear HY hb
  have c1_0 : W2.cell? ⟨w.heap.size, 0, none⟩ = some (.int .i64 s1) := (HX.out.cell 1 rfl 0).trans rfl
  have c1_1 : W2.cell? ⟨w.heap.size, 1, none⟩ = some (.int .i64 k1) := (HX.out.cell 1 rfl 1).trans rfl
  have c1_2 : W2.cell? ⟨w.heap.size, 2, none⟩ = some (.int .i64 p1) := (HX.out.cell 1 rfl 2).trans rfl
  have c1_3 : W2.cell? ⟨w.heap.size, 3, none⟩ = some (.int .i64 n1) := (HX.out.cell 1 rfl 3).trans rfl
  have c1_4 : W2.cell? ⟨w.heap.size, 4, none⟩ = some (.string t1) := (HX.out.cell 1 rfl 4).trans rfl
  have c0_0 : W2.cell? ⟨(w.heap.size + 1), 0, none⟩ = some (.int .i64 s2) := (HX.out.cell 0 rfl 0).trans rfl
  have c0_1 : W2.cell? ⟨(w.heap.size + 1), 1, none⟩ = some (.int .i64 k2) := (HX.out.cell 0 rfl 1).trans rfl
  have c0_2 : W2.cell? ⟨(w.heap.size + 1), 2, none⟩ = some (.int .i64 p2) := (HX.out.cell 0 rfl 2).trans rfl
  have c0_3 : W2.cell? ⟨(w.heap.size + 1), 3, none⟩ = some (.int .i64 n2) := (HX.out.cell 0 rfl 3).trans rfl
  have c0_4 : W2.cell? ⟨(w.heap.size + 1), 4, none⟩ = some (.string t2) := (HX.out.cell 0 rfl 4).trans rfl
  go_wp2_with ((with_reducible refine gate_dst (N := 23) rfl ?_); refine Kd.R_lit k23 _ 23 ?hg (N := 23) ?hd (xs := [(⟨s1, k1, p1, n1, t1⟩ : S23), (⟨s2, k2, p2, n2, t2⟩ : S23)]) (inner := [.int .i64 s1, .int .i64 k1, .int .i64 p1, .int .i64 n1, .string t1, .int .i64 s2, .int .i64 k2, .int .i64 p2, .int .i64 n2, .string t2]) (ok := fun _ => True) (okp := fun _ => True) ?hr ?hp (fun _ hk => hk) trivial (Below.refl _ _) (Nat.le_refl _) (by simp) ?_; (case hd => rfl); (case hg => rfl); (case hr => first | (go_simp; done) | (go_simp; rfl)); (case hp => exact (Reps.c5 (k23_mkM _ _ _ (⟨s1, k1, p1, n1, t1⟩ : S23)) (Reps.c5 (k23_mkM _ _ _ (⟨s2, k2, p2, n2, t2⟩ : S23)) (Reps.none _ _)))); intro v9 W9 ho hb _ _; rw [HL2.out] at ho; obtain ⟨A9, c9, rfl, hl9, hC9⟩ := Kd.R_reads ho; have HC9 := Lib.hid (And.intro hl9 hC9); clear ho hl9 hC9; have HY := Lib.hid (HX.out.keep hb); clear HX; have HX := HY; clear HY hb)
  clear c1_0 c1_1 c1_2 c1_3 c1_4 c0_0 c0_1 c0_2 c0_3 c0_4
  refine (foolscaplaw29_great.calls k _ _ _ L2 true _ HC9.out.2 HC9.out.1 HG.out).mono ?_
  rintro e W3 ⟨rfl, hb⟩
  have hb := hb.below
  have HY := Lib.hid (HX.out.keep hb)
  clear HX
  have HX := HY
  clear HY hb
  clear HC9
  go_wp2
  go_ret
  exact ⟨rfl, HX.out.below⟩

set_option maxRecDepth 100000 in
set_option maxHeartbeats 8000000 in
theorem meets_yes (k : Nat) (t0 : ByteArray) (s1 k1 p1 n1 : Int) (t1 : ByteArray) (s2 k2 p2 n2 : Int) (t2 : ByteArray) (w : World) (hT : Aside0 (XAmb w)) (L2 : List S23) (hL2 : [(⟨s1, k1, p1, n1, t1⟩ : S23), ⟨s2, k2, p2, n2, t2⟩] = L2) (n : Int) (hn : foolscapref01_Len.f k t0 = some n) (hg : foolscaplaw29_great.f k t0 L2 = some false) (La Lb : List S33) (a1 a2 a3 b1 b2 b3 : Int) (ha : plain_Incl.f s1 k1 p1 n1 t1 s2 k2 p2 n2 t2 n = some (La, a1, a2, a3, 0)) (hb : plain_Incl.f s2 k2 p2 n2 t2 s1 k1 p1 n1 t1 n = some (Lb, b1, b2, b3, 0)) (SS : ByteArray) (MA MB LA LB : List S23) (ma : MA.length ≤ 2) (mb : MB.length ≤ 2) (pa : foolscaplaw29_Plain.f k La = some MA) (pb : foolscaplaw29_Plain.f k Lb = some MB) (ea : [(⟨s1, k1, p1, n1, t1⟩ : S23)] ++ MB = LA) (eb : [(⟨s2, k2, p2, n2, t2⟩ : S23)] ++ MA = LB) (ra : foolscapref29_Run.f k t0 LA = some (SS, 0)) (rb : foolscapref29_Run.f k t0 LB = some (SS, 0)) :
    Calls Tryd.prog 4 #[.string t0, .agg #[.int .i64 s1, .int .i64 k1, .int .i64 p1, .int .i64 n1, .string t1], .agg #[.int .i64 s2, .int .i64 k2, .int .i64 p2, .int .i64 n2, .string t2]] w fun e w' => e = .returned (.bool true) ∧ Below w.heap.size w w' := by
  have HN := Lib.hid hn
  have HG := Lib.hid hg
  have HIa := Lib.hid ha
  have HIb := Lib.hid hb
  clear hn hg ha hb
  have HPa := Lib.hid pa
  have HPb := Lib.hid pb
  have HEa := Lib.hid ea
  have HEb := Lib.hid eb
  have HRa := Lib.hid ra
  have HRb := Lib.hid rb
  clear pa pb ea eb ra rb
  have HL2 := Lib.hid hL2
  clear hL2
  have HB0 := Lib.hid (((Bxs.start w).new #[.int .i64 s1, .int .i64 k1, .int .i64 p1, .int .i64 n1, .string t1] 23).new #[.int .i64 s2, .int .i64 k2, .int .i64 p2, .int .i64 n2, .string t2] 23)
  have hu23 := Tryd.underlying23
  have hu33 := Tryd.underlying33
  have hu29 := Tryd.underlying29
  go_enter Tryd.func4, Tryd.ntmps4
  go_upto_region 1 with fail
  obtain ⟨W1, hW1⟩ : ∃ x, (w.alloc (.cells #[.int .i64 s1, .int .i64 k1, .int .i64 p1, .int .i64 n1, .string t1] 23)).alloc (.cells #[.int .i64 s2, .int .i64 k2, .int .i64 p2, .int .i64 n2, .string t2] 23) = x := ⟨_, rfl⟩
  have HX : Hid (Bxs w [((w.heap.size + 1), #[.int .i64 s2, .int .i64 k2, .int .i64 p2, .int .i64 n2, .string t2], 23), (w.heap.size, #[.int .i64 s1, .int .i64 k1, .int .i64 p1, .int .i64 n1, .string t1], 23)] W1) := by
    rw [← hW1]
    simpa [Hid] using HB0.out
  rw [hW1]
  clear hW1 HB0
  go_wp2_with fail
  refine (foolscaplaw29_alive.calls true _ (XAmb_step hT HX.out.below) rfl).mono ?_
  rintro e W2 ⟨rfl, hb⟩
  have HY := Lib.hid (HX.out.keep hb)
  clear HX
  have HX := HY
  clear HY hb
  have c1_0 : W2.cell? ⟨w.heap.size, 0, none⟩ = some (.int .i64 s1) := (HX.out.cell 1 rfl 0).trans rfl
  have c1_1 : W2.cell? ⟨w.heap.size, 1, none⟩ = some (.int .i64 k1) := (HX.out.cell 1 rfl 1).trans rfl
  have c1_2 : W2.cell? ⟨w.heap.size, 2, none⟩ = some (.int .i64 p1) := (HX.out.cell 1 rfl 2).trans rfl
  have c1_3 : W2.cell? ⟨w.heap.size, 3, none⟩ = some (.int .i64 n1) := (HX.out.cell 1 rfl 3).trans rfl
  have c1_4 : W2.cell? ⟨w.heap.size, 4, none⟩ = some (.string t1) := (HX.out.cell 1 rfl 4).trans rfl
  have c0_0 : W2.cell? ⟨(w.heap.size + 1), 0, none⟩ = some (.int .i64 s2) := (HX.out.cell 0 rfl 0).trans rfl
  have c0_1 : W2.cell? ⟨(w.heap.size + 1), 1, none⟩ = some (.int .i64 k2) := (HX.out.cell 0 rfl 1).trans rfl
  have c0_2 : W2.cell? ⟨(w.heap.size + 1), 2, none⟩ = some (.int .i64 p2) := (HX.out.cell 0 rfl 2).trans rfl
  have c0_3 : W2.cell? ⟨(w.heap.size + 1), 3, none⟩ = some (.int .i64 n2) := (HX.out.cell 0 rfl 3).trans rfl
  have c0_4 : W2.cell? ⟨(w.heap.size + 1), 4, none⟩ = some (.string t2) := (HX.out.cell 0 rfl 4).trans rfl
  go_wp2_with ((with_reducible refine gate_dst (N := 23) rfl ?_); refine Kd.R_lit k23 _ 23 ?hg (N := 23) ?hd (xs := [(⟨s1, k1, p1, n1, t1⟩ : S23), (⟨s2, k2, p2, n2, t2⟩ : S23)]) (inner := [.int .i64 s1, .int .i64 k1, .int .i64 p1, .int .i64 n1, .string t1, .int .i64 s2, .int .i64 k2, .int .i64 p2, .int .i64 n2, .string t2]) (ok := fun _ => True) (okp := fun _ => True) ?hr ?hp (fun _ hk => hk) trivial (Below.refl _ _) (Nat.le_refl _) (by simp) ?_; (case hd => rfl); (case hg => rfl); (case hr => first | (go_simp; done) | (go_simp; rfl)); (case hp => exact (Reps.c5 (k23_mkM _ _ _ (⟨s1, k1, p1, n1, t1⟩ : S23)) (Reps.c5 (k23_mkM _ _ _ (⟨s2, k2, p2, n2, t2⟩ : S23)) (Reps.none _ _)))); intro v9 W9 ho hb _ _; rw [HL2.out] at ho; obtain ⟨A9, c9, rfl, hl9, hC9⟩ := Kd.R_reads ho; have HC9 := Lib.hid (And.intro hl9 hC9); clear ho hl9 hC9; have HY := Lib.hid (HX.out.keep hb); clear HX; have HX := HY; clear HY hb)
  clear c1_0 c1_1 c1_2 c1_3 c1_4 c0_0 c0_1 c0_2 c0_3 c0_4
  refine (foolscaplaw29_great.calls k _ _ _ L2 false _ HC9.out.2 HC9.out.1 HG.out).mono ?_
  rintro e W3 ⟨rfl, hb⟩
  have hb := hb.below
  have HY := Lib.hid (HX.out.keep hb)
  clear HX
  have HX := HY
  clear HY hb
  clear HC9
  go_wp2_with fail
  refine (foolscapref01_Len.calls k t0 n _ HN.out).mono ?_
  rintro e W4 ⟨rfl, hb⟩
  have HY := Lib.hid (HX.out.keep hb)
  clear HX
  have HX := HY
  clear HY hb
  go_upto_region 6 with fail
  go_cut [8, 10] (fun u8 u9 wc => ∃ v, u8 = v ∧ u9 = .int .i64 0 ∧ Aside0 (Kd.R k33 33 wc W4.heap.size (fun _ => True) v La) ∧ Aside0 (Below W4.heap.size W4 wc))
  case first =>
    have hA0 := XAmb_step hT HX.out.below
    have l1 : w.heap.size < W4.heap.size := HX.out.lt (x := (w.heap.size, #[.int .i64 s1, .int .i64 k1, .int .i64 p1, .int .i64 n1, .string t1], 23)) (by simp)
    have l2 : w.heap.size + 1 < W4.heap.size := HX.out.lt (x := ((w.heap.size + 1), #[.int .i64 s2, .int .i64 k2, .int .i64 p2, .int .i64 n2, .string t2], 23)) (by simp)
    have c1_0 : W4.cell? ⟨w.heap.size, 0, none⟩ = some (.int .i64 s1) := (HX.out.cell 1 rfl 0).trans rfl
    have c1_1 : W4.cell? ⟨w.heap.size, 1, none⟩ = some (.int .i64 k1) := (HX.out.cell 1 rfl 1).trans rfl
    have c1_2 : W4.cell? ⟨w.heap.size, 2, none⟩ = some (.int .i64 p1) := (HX.out.cell 1 rfl 2).trans rfl
    have c1_3 : W4.cell? ⟨w.heap.size, 3, none⟩ = some (.int .i64 n1) := (HX.out.cell 1 rfl 3).trans rfl
    have c1_4 : W4.cell? ⟨w.heap.size, 4, none⟩ = some (.string t1) := (HX.out.cell 1 rfl 4).trans rfl
    have c0_0 : W4.cell? ⟨(w.heap.size + 1), 0, none⟩ = some (.int .i64 s2) := (HX.out.cell 0 rfl 0).trans rfl
    have c0_1 : W4.cell? ⟨(w.heap.size + 1), 1, none⟩ = some (.int .i64 k2) := (HX.out.cell 0 rfl 1).trans rfl
    have c0_2 : W4.cell? ⟨(w.heap.size + 1), 2, none⟩ = some (.int .i64 p2) := (HX.out.cell 0 rfl 2).trans rfl
    have c0_3 : W4.cell? ⟨(w.heap.size + 1), 3, none⟩ = some (.int .i64 n2) := (HX.out.cell 0 rfl 3).trans rfl
    have c0_4 : W4.cell? ⟨(w.heap.size + 1), 4, none⟩ = some (.string t2) := (HX.out.cell 0 rfl 4).trans rfl
    have vc1_0 := World.new_ne W4 _ c1_0
    have vc1_1 := World.new_ne W4 _ c1_1
    have vc1_2 := World.new_ne W4 _ c1_2
    have vc1_3 := World.new_ne W4 _ c1_3
    have vc1_4 := World.new_ne W4 _ c1_4
    have vc0_0 := World.new_ne W4 _ c0_0
    have vc0_1 := World.new_ne W4 _ c0_1
    have vc0_2 := World.new_ne W4 _ c0_2
    have vc0_3 := World.new_ne W4 _ c0_3
    have vc0_4 := World.new_ne W4 _ c0_4
    go_region_held3 (fun w' => w'.cell? ⟨w.heap.size, 0, none⟩ = some (.int .i64 s1) ∧ w'.cell? ⟨w.heap.size, 1, none⟩ = some (.int .i64 k1) ∧ w'.cell? ⟨w.heap.size, 2, none⟩ = some (.int .i64 p1) ∧ w'.cell? ⟨w.heap.size, 3, none⟩ = some (.int .i64 n1) ∧ w'.cell? ⟨w.heap.size, 4, none⟩ = some (.string t1) ∧ w'.cell? ⟨(w.heap.size + 1), 0, none⟩ = some (.int .i64 s2) ∧ w'.cell? ⟨(w.heap.size + 1), 1, none⟩ = some (.int .i64 k2) ∧ w'.cell? ⟨(w.heap.size + 1), 2, none⟩ = some (.int .i64 p2) ∧ w'.cell? ⟨(w.heap.size + 1), 3, none⟩ = some (.int .i64 n2) ∧ w'.cell? ⟨(w.heap.size + 1), 4, none⟩ = some (.string t2)) (go_keep) ((first | (go_at_call 11; refine (one_calls _ _ _ _ _ _).mono ?_; rintro e w9 ⟨rfl, hb⟩; (try clear hd_ hf_); have hE : Below W4.heap.size W4 w9 := below_step (by repeat (first | assumption | exact Below.refl _ _ | apply below_drew1 | apply pw_below_drewN | apply below_alloc)) hb; have hS := hE.size; obtain ⟨hn1, hn2⟩ := World.new_at hS l1; obtain ⟨hn3, hn4⟩ := World.new_at hS l2; have hTn : Aside0 (XAmb w9) := XAmb_step (by repeat (first | assumption | apply amb_drew | apply amb_alloc)) hb; (first | (have hG := blk_below (blk_new _ _) hb; have hg0 := (blk_cell hG 0).trans rfl; have hg1 := (blk_cell hG 1).trans rfl; have hg2 := (blk_cell hG 2).trans rfl; have hh0 := blk_frozen hG 0; have hh1 := blk_frozen hG 1; have hh2 := blk_frozen hG 2) | (have hG := blk_below (blk_drew (blk_new _ _)) hb; have hg0 := (blk_cell hG 0).trans rfl; have hg1 := (blk_cell hG 1).trans rfl; have hg2 := (blk_cell hG 2).trans rfl; have hh0 := blk_frozen hG 0; have hh1 := blk_frozen hG 1; have hh2 := blk_frozen hG 2) | (have hG2 := blk_below hG hb; clear hG hg0 hg1 hg2 hh0 hh1 hh2; have hG := hG2; clear hG2; have hg0 := (blk_cell hG 0).trans rfl; have hg1 := (blk_cell hG 1).trans rfl; have hg2 := (blk_cell hG 2).trans rfl; have hh0 := blk_frozen hG 0; have hh1 := blk_frozen hG 1; have hh2 := blk_frozen hG 2) | skip); obtain ⟨hd_, hf_⟩ := bcell hE) | (go_at_call 10; refine (plain_Incl.calls _ _ _ _ _ _ _ _ _ _ _ La a1 a2 a3 0 _ (by repeat (first | assumption | apply amb_drew | apply amb_alloc)) HIa.out).mono ?_; rintro e w9 ⟨v9, rfl, hR, hb⟩; (try clear hd_ hf_); have hE : Below W4.heap.size W4 w9 := below_step (by repeat (first | assumption | exact Below.refl _ _ | apply below_drew1 | apply pw_below_drewN | apply below_alloc)) hb; have hS := hE.size; obtain ⟨hn1, hn2⟩ := World.new_at hS l1; obtain ⟨hn3, hn4⟩ := World.new_at hS l2; have hTn : Aside0 (XAmb w9) := XAmb_step (by repeat (first | assumption | apply amb_drew | apply amb_alloc)) hb; (first | (have hG := blk_below (blk_new _ _) hb; have hg0 := (blk_cell hG 0).trans rfl; have hg1 := (blk_cell hG 1).trans rfl; have hg2 := (blk_cell hG 2).trans rfl; have hh0 := blk_frozen hG 0; have hh1 := blk_frozen hG 1; have hh2 := blk_frozen hG 2) | (have hG := blk_below (blk_drew (blk_new _ _)) hb; have hg0 := (blk_cell hG 0).trans rfl; have hg1 := (blk_cell hG 1).trans rfl; have hg2 := (blk_cell hG 2).trans rfl; have hh0 := blk_frozen hG 0; have hh1 := blk_frozen hG 1; have hh2 := blk_frozen hG 2) | (have hG2 := blk_below hG hb; clear hG hg0 hg1 hg2 hh0 hh1 hh2; have hG := hG2; clear hG2; have hg0 := (blk_cell hG 0).trans rfl; have hg1 := (blk_cell hG 1).trans rfl; have hg2 := (blk_cell hG 2).trans rfl; have hh0 := blk_frozen hG 0; have hh1 := blk_frozen hG 1; have hh2 := blk_frozen hG 2) | skip); obtain ⟨hd_, hf_⟩ := bcell hE)))
    all_goals
      go_wp2
      go_meet
      case rel => first
        | exact ⟨_, rfl, rfl, ⟨Kd.R_lower (Kd.R_alloc hR _) (by first | assumption | (simp; omega))⟩, ⟨below_alloc hE _⟩⟩
        | exact ⟨_, rfl, rfl, ⟨R_three hR (by first | assumption | (simp; omega)) hG (by decide) _ _ _⟩, ⟨below_set (below_set (below_set hE (by first | assumption | exact Nat.le_refl _)) (by first | assumption | exact Nat.le_refl _)) (by first | assumption | exact Nat.le_refl _)⟩⟩
  case rest =>
    obtain ⟨v, rfl, rfl, hR, hB⟩ := hcut
    obtain ⟨Aa, ca, rfl, hl, hC⟩ := Kd.R_reads hR.out
    have HCa := Lib.hid (And.intro hl hC)
    have hb := hB.out
    have HY := Lib.hid (HX.out.keep hb)
    clear HX
    have HX := HY
    clear HY hb hB hR hl hC
    obtain ⟨W5, rfl⟩ : ∃ x, x = wc := ⟨_, rfl⟩
    go_upto_region 7 with fail
    go_cut [11, 13] (fun u8 u9 wc => ∃ v, u8 = v ∧ u9 = .int .i64 0 ∧ Aside0 (Kd.R k33 33 wc W5.heap.size (fun _ => True) v Lb) ∧ Aside0 (Below W5.heap.size W5 wc))
    case first =>
      have hA0 := XAmb_step hT HX.out.below
      have l1 : w.heap.size < W5.heap.size := HX.out.lt (x := (w.heap.size, #[.int .i64 s1, .int .i64 k1, .int .i64 p1, .int .i64 n1, .string t1], 23)) (by simp)
      have l2 : w.heap.size + 1 < W5.heap.size := HX.out.lt (x := ((w.heap.size + 1), #[.int .i64 s2, .int .i64 k2, .int .i64 p2, .int .i64 n2, .string t2], 23)) (by simp)
      have c1_0 : W5.cell? ⟨w.heap.size, 0, none⟩ = some (.int .i64 s1) := (HX.out.cell 1 rfl 0).trans rfl
      have c1_1 : W5.cell? ⟨w.heap.size, 1, none⟩ = some (.int .i64 k1) := (HX.out.cell 1 rfl 1).trans rfl
      have c1_2 : W5.cell? ⟨w.heap.size, 2, none⟩ = some (.int .i64 p1) := (HX.out.cell 1 rfl 2).trans rfl
      have c1_3 : W5.cell? ⟨w.heap.size, 3, none⟩ = some (.int .i64 n1) := (HX.out.cell 1 rfl 3).trans rfl
      have c1_4 : W5.cell? ⟨w.heap.size, 4, none⟩ = some (.string t1) := (HX.out.cell 1 rfl 4).trans rfl
      have c0_0 : W5.cell? ⟨(w.heap.size + 1), 0, none⟩ = some (.int .i64 s2) := (HX.out.cell 0 rfl 0).trans rfl
      have c0_1 : W5.cell? ⟨(w.heap.size + 1), 1, none⟩ = some (.int .i64 k2) := (HX.out.cell 0 rfl 1).trans rfl
      have c0_2 : W5.cell? ⟨(w.heap.size + 1), 2, none⟩ = some (.int .i64 p2) := (HX.out.cell 0 rfl 2).trans rfl
      have c0_3 : W5.cell? ⟨(w.heap.size + 1), 3, none⟩ = some (.int .i64 n2) := (HX.out.cell 0 rfl 3).trans rfl
      have c0_4 : W5.cell? ⟨(w.heap.size + 1), 4, none⟩ = some (.string t2) := (HX.out.cell 0 rfl 4).trans rfl
      have vc1_0 := World.new_ne W5 _ c1_0
      have vc1_1 := World.new_ne W5 _ c1_1
      have vc1_2 := World.new_ne W5 _ c1_2
      have vc1_3 := World.new_ne W5 _ c1_3
      have vc1_4 := World.new_ne W5 _ c1_4
      have vc0_0 := World.new_ne W5 _ c0_0
      have vc0_1 := World.new_ne W5 _ c0_1
      have vc0_2 := World.new_ne W5 _ c0_2
      have vc0_3 := World.new_ne W5 _ c0_3
      have vc0_4 := World.new_ne W5 _ c0_4
      go_region_held3 (fun w' => w'.cell? ⟨w.heap.size, 0, none⟩ = some (.int .i64 s1) ∧ w'.cell? ⟨w.heap.size, 1, none⟩ = some (.int .i64 k1) ∧ w'.cell? ⟨w.heap.size, 2, none⟩ = some (.int .i64 p1) ∧ w'.cell? ⟨w.heap.size, 3, none⟩ = some (.int .i64 n1) ∧ w'.cell? ⟨w.heap.size, 4, none⟩ = some (.string t1) ∧ w'.cell? ⟨(w.heap.size + 1), 0, none⟩ = some (.int .i64 s2) ∧ w'.cell? ⟨(w.heap.size + 1), 1, none⟩ = some (.int .i64 k2) ∧ w'.cell? ⟨(w.heap.size + 1), 2, none⟩ = some (.int .i64 p2) ∧ w'.cell? ⟨(w.heap.size + 1), 3, none⟩ = some (.int .i64 n2) ∧ w'.cell? ⟨(w.heap.size + 1), 4, none⟩ = some (.string t2)) (go_keep) ((first | (go_at_call 11; refine (one_calls _ _ _ _ _ _).mono ?_; rintro e w9 ⟨rfl, hb⟩; (try clear hd_ hf_); have hE : Below W5.heap.size W5 w9 := below_step (by repeat (first | assumption | exact Below.refl _ _ | apply below_drew1 | apply pw_below_drewN | apply below_alloc)) hb; have hS := hE.size; obtain ⟨hn1, hn2⟩ := World.new_at hS l1; obtain ⟨hn3, hn4⟩ := World.new_at hS l2; have hTn : Aside0 (XAmb w9) := XAmb_step (by repeat (first | assumption | apply amb_drew | apply amb_alloc)) hb; (first | (have hG := blk_below (blk_new _ _) hb; have hg0 := (blk_cell hG 0).trans rfl; have hg1 := (blk_cell hG 1).trans rfl; have hg2 := (blk_cell hG 2).trans rfl; have hh0 := blk_frozen hG 0; have hh1 := blk_frozen hG 1; have hh2 := blk_frozen hG 2) | (have hG := blk_below (blk_drew (blk_new _ _)) hb; have hg0 := (blk_cell hG 0).trans rfl; have hg1 := (blk_cell hG 1).trans rfl; have hg2 := (blk_cell hG 2).trans rfl; have hh0 := blk_frozen hG 0; have hh1 := blk_frozen hG 1; have hh2 := blk_frozen hG 2) | (have hG2 := blk_below hG hb; clear hG hg0 hg1 hg2 hh0 hh1 hh2; have hG := hG2; clear hG2; have hg0 := (blk_cell hG 0).trans rfl; have hg1 := (blk_cell hG 1).trans rfl; have hg2 := (blk_cell hG 2).trans rfl; have hh0 := blk_frozen hG 0; have hh1 := blk_frozen hG 1; have hh2 := blk_frozen hG 2) | skip); obtain ⟨hd_, hf_⟩ := bcell hE) | (go_at_call 10; refine (plain_Incl.calls _ _ _ _ _ _ _ _ _ _ _ Lb b1 b2 b3 0 _ (by repeat (first | assumption | apply amb_drew | apply amb_alloc)) HIb.out).mono ?_; rintro e w9 ⟨v9, rfl, hR, hb⟩; (try clear hd_ hf_); have hE : Below W5.heap.size W5 w9 := below_step (by repeat (first | assumption | exact Below.refl _ _ | apply below_drew1 | apply pw_below_drewN | apply below_alloc)) hb; have hS := hE.size; obtain ⟨hn1, hn2⟩ := World.new_at hS l1; obtain ⟨hn3, hn4⟩ := World.new_at hS l2; have hTn : Aside0 (XAmb w9) := XAmb_step (by repeat (first | assumption | apply amb_drew | apply amb_alloc)) hb; (first | (have hG := blk_below (blk_new _ _) hb; have hg0 := (blk_cell hG 0).trans rfl; have hg1 := (blk_cell hG 1).trans rfl; have hg2 := (blk_cell hG 2).trans rfl; have hh0 := blk_frozen hG 0; have hh1 := blk_frozen hG 1; have hh2 := blk_frozen hG 2) | (have hG := blk_below (blk_drew (blk_new _ _)) hb; have hg0 := (blk_cell hG 0).trans rfl; have hg1 := (blk_cell hG 1).trans rfl; have hg2 := (blk_cell hG 2).trans rfl; have hh0 := blk_frozen hG 0; have hh1 := blk_frozen hG 1; have hh2 := blk_frozen hG 2) | (have hG2 := blk_below hG hb; clear hG hg0 hg1 hg2 hh0 hh1 hh2; have hG := hG2; clear hG2; have hg0 := (blk_cell hG 0).trans rfl; have hg1 := (blk_cell hG 1).trans rfl; have hg2 := (blk_cell hG 2).trans rfl; have hh0 := blk_frozen hG 0; have hh1 := blk_frozen hG 1; have hh2 := blk_frozen hG 2) | skip); obtain ⟨hd_, hf_⟩ := bcell hE)))
      all_goals
        go_wp2
        go_meet
        case rel => first
          | exact ⟨_, rfl, rfl, ⟨Kd.R_lower (Kd.R_alloc hR _) (by first | assumption | (simp; omega))⟩, ⟨below_alloc hE _⟩⟩
          | exact ⟨_, rfl, rfl, ⟨R_three hR (by first | assumption | (simp; omega)) hG (by decide) _ _ _⟩, ⟨below_set (below_set (below_set hE (by first | assumption | exact Nat.le_refl _)) (by first | assumption | exact Nat.le_refl _)) (by first | assumption | exact Nat.le_refl _)⟩⟩
    case rest =>
      obtain ⟨v, rfl, rfl, hR, hB⟩ := hcut
      obtain ⟨Ab, cb, rfl, hl, hC⟩ := Kd.R_reads hR.out
      have HCb := Lib.hid (And.intro hl hC)
      have hb := hB.out
      have HY := Lib.hid (HX.out.keep hb)
      have HZ := Lib.hid (And.intro HCa.out.1 (Kd.C_below HCa.out.2 hb))
      clear HCa
      have HCa := HZ
      clear HZ
      clear HX
      have HX := HY
      clear HY hb hB hR hl hC
      obtain ⟨W6, rfl⟩ : ∃ x, x = wc := ⟨_, rfl⟩
      go_upto_region 10 with fail
      go_cut [14, 15] (fun u8 u9 wc => u8 = .string SS ∧ u9 = .int .i64 0 ∧ Aside0 (Below W6.heap.size W6 wc))
      case first =>
        have c1_0 : W6.cell? ⟨w.heap.size, 0, none⟩ = some (.int .i64 s1) := (HX.out.cell 1 rfl 0).trans rfl
        have c1_1 : W6.cell? ⟨w.heap.size, 1, none⟩ = some (.int .i64 k1) := (HX.out.cell 1 rfl 1).trans rfl
        have c1_2 : W6.cell? ⟨w.heap.size, 2, none⟩ = some (.int .i64 p1) := (HX.out.cell 1 rfl 2).trans rfl
        have c1_3 : W6.cell? ⟨w.heap.size, 3, none⟩ = some (.int .i64 n1) := (HX.out.cell 1 rfl 3).trans rfl
        have c1_4 : W6.cell? ⟨w.heap.size, 4, none⟩ = some (.string t1) := (HX.out.cell 1 rfl 4).trans rfl
        have vc1_0 := World.new_ne W6 _ c1_0
        have vc1_1 := World.new_ne W6 _ c1_1
        have vc1_2 := World.new_ne W6 _ c1_2
        have vc1_3 := World.new_ne W6 _ c1_3
        have vc1_4 := World.new_ne W6 _ c1_4
        have l1 : w.heap.size < W6.heap.size := HX.out.lt (x := (w.heap.size, #[.int .i64 s1, .int .i64 k1, .int .i64 p1, .int .i64 n1, .string t1], 23)) (by simp)
        have l2 : w.heap.size + 1 < W6.heap.size := HX.out.lt (x := ((w.heap.size + 1), #[.int .i64 s2, .int .i64 k2, .int .i64 p2, .int .i64 n2, .string t2], 23)) (by simp)
        go_region_held3 (fun w' => w'.cell? ⟨w.heap.size, 0, none⟩ = some (.int .i64 s1) ∧ w'.cell? ⟨w.heap.size, 1, none⟩ = some (.int .i64 k1) ∧ w'.cell? ⟨w.heap.size, 2, none⟩ = some (.int .i64 p1) ∧ w'.cell? ⟨w.heap.size, 3, none⟩ = some (.int .i64 n1) ∧ w'.cell? ⟨w.heap.size, 4, none⟩ = some (.string t1)) (go_keep) ((first | (go_at_call 14; refine (foolscaplaw29_Plain.calls k _ _ Lb MB _ (Kd.C_below HCb.out.2 (by repeat (first | assumption | exact Below.refl _ _ | apply below_drew1 | apply pw_below_drewN | apply below_alloc))) HCb.out.1 HPb.out).mono ?_; rintro e w9 ⟨v9, rfl, hR, hb⟩; obtain ⟨A9, c9, rfl, hl9, hC9⟩ := Kd.R_reads hR; have hE : Below W6.heap.size W6 w9 := below_step (by repeat (first | assumption | exact Below.refl _ _ | apply below_drew1 | apply pw_below_drewN | apply below_alloc)) hb; have hS := hE.size; obtain ⟨hn1, hn2⟩ := World.new_at hS l1; obtain ⟨hn3, hn4⟩ := World.new_at hS l2; obtain ⟨hd_, hf_⟩ := bcell hE) | (go_at_call 16; refine (foolscapref29_Run.calls k t0 _ _ LA SS 0 _ hC8 hl8 HRa.out).mono ?_; rintro e w7 ⟨rfl, hb⟩; have hE : Below W6.heap.size W6 w7 := below_step (by repeat (first | assumption | exact Below.refl _ _ | apply below_drew1 | apply pw_below_drewN | apply below_alloc)) hb; have hS := hE.size; obtain ⟨hn1, hn2⟩ := World.new_at hS l1; obtain ⟨hn3, hn4⟩ := World.new_at hS l2; obtain ⟨hd_, hf_⟩ := bcell hE) | (refine Kd.R_append_rows_step k23 (Rr := k23.K _) (w0 := W6) W6.heap.size (by rfl) (.tmp 59) (.tmp 61) 26 23 (.agg #[(.int .i64 0), (.int .i64 0), (.int .i64 0), (.int .i64 0), (.string ⟨#[]⟩)]) 48 rfl Tryd.underlying26 info23 rfl (by decide) (by omega) _ [(⟨s1, k1, p1, n1, t1⟩ : S23)] MB A9 MB.length c9 (fun _ => True) (fun _ => False) (by rfl) (by rfl) (by first | exact R_new k23 (base := W6.heap.size) (e := 23) (xs := [(⟨s1, k1, p1, n1, t1⟩ : S23)]) (inner := [.int .i64 s1, .int .i64 k1, .int .i64 p1, .int .i64 n1, .string t1]) (by first | assumption | exact Nat.le_refl _ | (simp; omega)) (Reps.c5 (k23_mkM _ _ _ (⟨s1, k1, p1, n1, t1⟩ : S23)) (Reps.none _ _)) (by simp) | exact Kd.R_below (Kd.R_drew (R_new k23 (base := W6.heap.size) (e := 23) (xs := [(⟨s1, k1, p1, n1, t1⟩ : S23)]) (inner := [.int .i64 s1, .int .i64 k1, .int .i64 p1, .int .i64 n1, .string t1]) (by first | assumption | exact Nat.le_refl _ | (simp; omega)) (Reps.c5 (k23_mkM _ _ _ (⟨s1, k1, p1, n1, t1⟩ : S23)) (Reps.none _ _)) (by simp))) hb | exact Kd.R_below (R_new k23 (base := W6.heap.size) (e := 23) (xs := [(⟨s1, k1, p1, n1, t1⟩ : S23)]) (inner := [.int .i64 s1, .int .i64 k1, .int .i64 p1, .int .i64 n1, .string t1]) (by first | assumption | exact Nat.le_refl _ | (simp; omega)) (Reps.c5 (k23_mkM _ _ _ (⟨s1, k1, p1, n1, t1⟩ : S23)) (Reps.none _ _)) (by simp)) hb) (by first | exact hC9 | exact Kd.C_below hC9 (below_alloc (Below.refl _ _) _)) (fun _ _ h => h) (fun _ h => h.elim) (fun _ _ => trivial) (by repeat (first | assumption | exact Below.refl _ _ | apply below_drew1 | apply pw_below_drewN | apply below_alloc)) (by first | assumption | (simp; omega)) (by have := mb; simp only [List.length_cons, List.length_nil]; omega) ?_; intro v8 w8 ho hE _ _; rw [HEa.out] at ho; obtain ⟨A8, c8, rfl, hl8, hC8⟩ := Kd.R_reads ho; have hS := hE.size; obtain ⟨hn1, hn2⟩ := World.new_at hS l1; obtain ⟨hn3, hn4⟩ := World.new_at hS l2; obtain ⟨hd_, hf_⟩ := bcell hE)))
        all_goals
          clear hd_ hf_
          go_wp2
          go_meet
          case rel => exact ⟨rfl, rfl, ⟨hE⟩⟩
      case rest =>
        obtain ⟨rfl, rfl, hB⟩ := hcut
        have hb := hB.out
        have HY := Lib.hid (HX.out.keep hb)
        have HZ := Lib.hid (And.intro HCa.out.1 (Kd.C_below HCa.out.2 hb))
        clear HX HCa
        have HX := HY
        have HCa := HZ
        clear HY HZ hb hB
        obtain ⟨W8, rfl⟩ : ∃ x, x = wc := ⟨_, rfl⟩
        go_upto_region 11 with fail
        go_cut [16, 17] (fun u8 u9 wc => u8 = .string SS ∧ u9 = .int .i64 0 ∧ Aside0 (Below W8.heap.size W8 wc))
        case first =>
          have c0_0 : W8.cell? ⟨(w.heap.size + 1), 0, none⟩ = some (.int .i64 s2) := (HX.out.cell 0 rfl 0).trans rfl
          have c0_1 : W8.cell? ⟨(w.heap.size + 1), 1, none⟩ = some (.int .i64 k2) := (HX.out.cell 0 rfl 1).trans rfl
          have c0_2 : W8.cell? ⟨(w.heap.size + 1), 2, none⟩ = some (.int .i64 p2) := (HX.out.cell 0 rfl 2).trans rfl
          have c0_3 : W8.cell? ⟨(w.heap.size + 1), 3, none⟩ = some (.int .i64 n2) := (HX.out.cell 0 rfl 3).trans rfl
          have c0_4 : W8.cell? ⟨(w.heap.size + 1), 4, none⟩ = some (.string t2) := (HX.out.cell 0 rfl 4).trans rfl
          have vc0_0 := World.new_ne W8 _ c0_0
          have vc0_1 := World.new_ne W8 _ c0_1
          have vc0_2 := World.new_ne W8 _ c0_2
          have vc0_3 := World.new_ne W8 _ c0_3
          have vc0_4 := World.new_ne W8 _ c0_4
          have l1 : w.heap.size < W8.heap.size := HX.out.lt (x := (w.heap.size, #[.int .i64 s1, .int .i64 k1, .int .i64 p1, .int .i64 n1, .string t1], 23)) (by simp)
          have l2 : w.heap.size + 1 < W8.heap.size := HX.out.lt (x := ((w.heap.size + 1), #[.int .i64 s2, .int .i64 k2, .int .i64 p2, .int .i64 n2, .string t2], 23)) (by simp)
          go_region_held3 (fun w' => w'.cell? ⟨(w.heap.size + 1), 0, none⟩ = some (.int .i64 s2) ∧ w'.cell? ⟨(w.heap.size + 1), 1, none⟩ = some (.int .i64 k2) ∧ w'.cell? ⟨(w.heap.size + 1), 2, none⟩ = some (.int .i64 p2) ∧ w'.cell? ⟨(w.heap.size + 1), 3, none⟩ = some (.int .i64 n2) ∧ w'.cell? ⟨(w.heap.size + 1), 4, none⟩ = some (.string t2)) (go_keep) ((first | (go_at_call 14; refine (foolscaplaw29_Plain.calls k _ _ La MA _ (Kd.C_below HCa.out.2 (by repeat (first | assumption | exact Below.refl _ _ | apply below_drew1 | apply pw_below_drewN | apply below_alloc))) HCa.out.1 HPa.out).mono ?_; rintro e w9 ⟨v9, rfl, hR, hb⟩; obtain ⟨A9, c9, rfl, hl9, hC9⟩ := Kd.R_reads hR; have hE : Below W8.heap.size W8 w9 := below_step (by repeat (first | assumption | exact Below.refl _ _ | apply below_drew1 | apply pw_below_drewN | apply below_alloc)) hb; have hS := hE.size; obtain ⟨hn1, hn2⟩ := World.new_at hS l1; obtain ⟨hn3, hn4⟩ := World.new_at hS l2; obtain ⟨hd_, hf_⟩ := bcell hE) | (go_at_call 16; refine (foolscapref29_Run.calls k t0 _ _ LB SS 0 _ hC8 hl8 HRb.out).mono ?_; rintro e w7 ⟨rfl, hb⟩; have hE : Below W8.heap.size W8 w7 := below_step (by repeat (first | assumption | exact Below.refl _ _ | apply below_drew1 | apply pw_below_drewN | apply below_alloc)) hb; have hS := hE.size; obtain ⟨hn1, hn2⟩ := World.new_at hS l1; obtain ⟨hn3, hn4⟩ := World.new_at hS l2; obtain ⟨hd_, hf_⟩ := bcell hE) | (refine Kd.R_append_rows_step k23 (Rr := k23.K _) (w0 := W8) W8.heap.size (by rfl) (.tmp 69) (.tmp 71) 26 23 (.agg #[(.int .i64 0), (.int .i64 0), (.int .i64 0), (.int .i64 0), (.string ⟨#[]⟩)]) 48 rfl Tryd.underlying26 info23 rfl (by decide) (by omega) _ [(⟨s2, k2, p2, n2, t2⟩ : S23)] MA A9 MA.length c9 (fun _ => True) (fun _ => False) (by rfl) (by rfl) (by first | exact R_new k23 (base := W8.heap.size) (e := 23) (xs := [(⟨s2, k2, p2, n2, t2⟩ : S23)]) (inner := [.int .i64 s2, .int .i64 k2, .int .i64 p2, .int .i64 n2, .string t2]) (by first | assumption | exact Nat.le_refl _ | (simp; omega)) (Reps.c5 (k23_mkM _ _ _ (⟨s2, k2, p2, n2, t2⟩ : S23)) (Reps.none _ _)) (by simp) | exact Kd.R_below (Kd.R_drew (R_new k23 (base := W8.heap.size) (e := 23) (xs := [(⟨s2, k2, p2, n2, t2⟩ : S23)]) (inner := [.int .i64 s2, .int .i64 k2, .int .i64 p2, .int .i64 n2, .string t2]) (by first | assumption | exact Nat.le_refl _ | (simp; omega)) (Reps.c5 (k23_mkM _ _ _ (⟨s2, k2, p2, n2, t2⟩ : S23)) (Reps.none _ _)) (by simp))) hb | exact Kd.R_below (R_new k23 (base := W8.heap.size) (e := 23) (xs := [(⟨s2, k2, p2, n2, t2⟩ : S23)]) (inner := [.int .i64 s2, .int .i64 k2, .int .i64 p2, .int .i64 n2, .string t2]) (by first | assumption | exact Nat.le_refl _ | (simp; omega)) (Reps.c5 (k23_mkM _ _ _ (⟨s2, k2, p2, n2, t2⟩ : S23)) (Reps.none _ _)) (by simp)) hb) (by first | exact hC9 | exact Kd.C_below hC9 (below_alloc (Below.refl _ _) _)) (fun _ _ h => h) (fun _ h => h.elim) (fun _ _ => trivial) (by repeat (first | assumption | exact Below.refl _ _ | apply below_drew1 | apply pw_below_drewN | apply below_alloc)) (by first | assumption | (simp; omega)) (by have := ma; simp only [List.length_cons, List.length_nil]; omega) ?_; intro v8 w8 ho hE _ _; rw [HEb.out] at ho; obtain ⟨A8, c8, rfl, hl8, hC8⟩ := Kd.R_reads ho; have hS := hE.size; obtain ⟨hn1, hn2⟩ := World.new_at hS l1; obtain ⟨hn3, hn4⟩ := World.new_at hS l2; obtain ⟨hd_, hf_⟩ := bcell hE)))
          all_goals
            clear hd_ hf_
            go_wp2
            go_meet
            case rel => exact ⟨rfl, rfl, ⟨hE⟩⟩
        case rest =>
          obtain ⟨rfl, rfl, hB⟩ := hcut
          have hb := hB.out
          have HY := Lib.hid (HX.out.keep hb)
          have HZ := Lib.hid (And.intro HCa.out.1 (Kd.C_below HCa.out.2 hb))
          clear HX HCa
          have HX := HY
          have HCa := HZ
          clear HY HZ hb hB
          obtain ⟨W9, rfl⟩ : ∃ x, x = wc := ⟨_, rfl⟩
          go_wp2
          go_ret
          exact ⟨by simp, HX.out.below⟩

set_option maxRecDepth 100000 in
set_option maxHeartbeats 8000000 in
theorem meets_no (k : Nat) (t0 : ByteArray) (s1 k1 p1 n1 : Int) (t1 : ByteArray) (s2 k2 p2 n2 : Int) (t2 : ByteArray) (w : World) (hT : Aside0 (XAmb w)) (L2 : List S23) (hL2 : [(⟨s1, k1, p1, n1, t1⟩ : S23), ⟨s2, k2, p2, n2, t2⟩] = L2) (n : Int) (hn : foolscapref01_Len.f k t0 = some n) (hg : foolscaplaw29_great.f k t0 L2 = some false) (La Lb : List S33) (a1 a2 a3 b1 b2 b3 : Int) (ha : plain_Incl.f s1 k1 p1 n1 t1 s2 k2 p2 n2 t2 n = some (La, a1, a2, a3, 1)) (hb : plain_Incl.f s2 k2 p2 n2 t2 s1 k1 p1 n1 t1 n = some (Lb, b1, b2, b3, 1)) :
    Calls Tryd.prog 4 #[.string t0, .agg #[.int .i64 s1, .int .i64 k1, .int .i64 p1, .int .i64 n1, .string t1], .agg #[.int .i64 s2, .int .i64 k2, .int .i64 p2, .int .i64 n2, .string t2]] w fun e w' => e = .returned (.bool true) ∧ Below w.heap.size w w' := by
  have HN := Lib.hid hn
  have HG := Lib.hid hg
  have HIa := Lib.hid ha
  have HIb := Lib.hid hb
  clear hn hg ha hb
  have HL2 := Lib.hid hL2
  clear hL2
  have HB0 := Lib.hid (((Bxs.start w).new #[.int .i64 s1, .int .i64 k1, .int .i64 p1, .int .i64 n1, .string t1] 23).new #[.int .i64 s2, .int .i64 k2, .int .i64 p2, .int .i64 n2, .string t2] 23)
  have hu23 := Tryd.underlying23
  have hu33 := Tryd.underlying33
  have hu29 := Tryd.underlying29
  go_enter Tryd.func4, Tryd.ntmps4
  go_upto_region 1 with fail
  obtain ⟨W1, hW1⟩ : ∃ x, (w.alloc (.cells #[.int .i64 s1, .int .i64 k1, .int .i64 p1, .int .i64 n1, .string t1] 23)).alloc (.cells #[.int .i64 s2, .int .i64 k2, .int .i64 p2, .int .i64 n2, .string t2] 23) = x := ⟨_, rfl⟩
  have HX : Hid (Bxs w [((w.heap.size + 1), #[.int .i64 s2, .int .i64 k2, .int .i64 p2, .int .i64 n2, .string t2], 23), (w.heap.size, #[.int .i64 s1, .int .i64 k1, .int .i64 p1, .int .i64 n1, .string t1], 23)] W1) := by
    rw [← hW1]
    simpa [Hid] using HB0.out
  rw [hW1]
  clear hW1 HB0
  go_wp2_with fail
  refine (foolscaplaw29_alive.calls true _ (XAmb_step hT HX.out.below) rfl).mono ?_
  rintro e W2 ⟨rfl, hb⟩
  have HY := Lib.hid (HX.out.keep hb)
  clear HX
  have HX := HY
  clear HY hb
  have c1_0 : W2.cell? ⟨w.heap.size, 0, none⟩ = some (.int .i64 s1) := (HX.out.cell 1 rfl 0).trans rfl
  have c1_1 : W2.cell? ⟨w.heap.size, 1, none⟩ = some (.int .i64 k1) := (HX.out.cell 1 rfl 1).trans rfl
  have c1_2 : W2.cell? ⟨w.heap.size, 2, none⟩ = some (.int .i64 p1) := (HX.out.cell 1 rfl 2).trans rfl
  have c1_3 : W2.cell? ⟨w.heap.size, 3, none⟩ = some (.int .i64 n1) := (HX.out.cell 1 rfl 3).trans rfl
  have c1_4 : W2.cell? ⟨w.heap.size, 4, none⟩ = some (.string t1) := (HX.out.cell 1 rfl 4).trans rfl
  have c0_0 : W2.cell? ⟨(w.heap.size + 1), 0, none⟩ = some (.int .i64 s2) := (HX.out.cell 0 rfl 0).trans rfl
  have c0_1 : W2.cell? ⟨(w.heap.size + 1), 1, none⟩ = some (.int .i64 k2) := (HX.out.cell 0 rfl 1).trans rfl
  have c0_2 : W2.cell? ⟨(w.heap.size + 1), 2, none⟩ = some (.int .i64 p2) := (HX.out.cell 0 rfl 2).trans rfl
  have c0_3 : W2.cell? ⟨(w.heap.size + 1), 3, none⟩ = some (.int .i64 n2) := (HX.out.cell 0 rfl 3).trans rfl
  have c0_4 : W2.cell? ⟨(w.heap.size + 1), 4, none⟩ = some (.string t2) := (HX.out.cell 0 rfl 4).trans rfl
  go_wp2_with ((with_reducible refine gate_dst (N := 23) rfl ?_); refine Kd.R_lit k23 _ 23 ?hg (N := 23) ?hd (xs := [(⟨s1, k1, p1, n1, t1⟩ : S23), (⟨s2, k2, p2, n2, t2⟩ : S23)]) (inner := [.int .i64 s1, .int .i64 k1, .int .i64 p1, .int .i64 n1, .string t1, .int .i64 s2, .int .i64 k2, .int .i64 p2, .int .i64 n2, .string t2]) (ok := fun _ => True) (okp := fun _ => True) ?hr ?hp (fun _ hk => hk) trivial (Below.refl _ _) (Nat.le_refl _) (by simp) ?_; (case hd => rfl); (case hg => rfl); (case hr => first | (go_simp; done) | (go_simp; rfl)); (case hp => exact (Reps.c5 (k23_mkM _ _ _ (⟨s1, k1, p1, n1, t1⟩ : S23)) (Reps.c5 (k23_mkM _ _ _ (⟨s2, k2, p2, n2, t2⟩ : S23)) (Reps.none _ _)))); intro v9 W9 ho hb _ _; rw [HL2.out] at ho; obtain ⟨A9, c9, rfl, hl9, hC9⟩ := Kd.R_reads ho; have HC9 := Lib.hid (And.intro hl9 hC9); clear ho hl9 hC9; have HY := Lib.hid (HX.out.keep hb); clear HX; have HX := HY; clear HY hb)
  clear c1_0 c1_1 c1_2 c1_3 c1_4 c0_0 c0_1 c0_2 c0_3 c0_4
  refine (foolscaplaw29_great.calls k _ _ _ L2 false _ HC9.out.2 HC9.out.1 HG.out).mono ?_
  rintro e W3 ⟨rfl, hb⟩
  have hb := hb.below
  have HY := Lib.hid (HX.out.keep hb)
  clear HX
  have HX := HY
  clear HY hb
  clear HC9
  go_wp2_with fail
  refine (foolscapref01_Len.calls k t0 n _ HN.out).mono ?_
  rintro e W4 ⟨rfl, hb⟩
  have HY := Lib.hid (HX.out.keep hb)
  clear HX
  have HX := HY
  clear HY hb
  go_upto_region 6 with fail
  go_cut [8, 10] (fun u8 u9 wc => ∃ v, u8 = v ∧ u9 = .int .i64 1 ∧ Aside0 (Kd.R k33 33 wc W4.heap.size (fun _ => True) v La) ∧ Aside0 (Below W4.heap.size W4 wc))
  case first =>
    have hA0 := XAmb_step hT HX.out.below
    have l1 : w.heap.size < W4.heap.size := HX.out.lt (x := (w.heap.size, #[.int .i64 s1, .int .i64 k1, .int .i64 p1, .int .i64 n1, .string t1], 23)) (by simp)
    have l2 : w.heap.size + 1 < W4.heap.size := HX.out.lt (x := ((w.heap.size + 1), #[.int .i64 s2, .int .i64 k2, .int .i64 p2, .int .i64 n2, .string t2], 23)) (by simp)
    have c1_0 : W4.cell? ⟨w.heap.size, 0, none⟩ = some (.int .i64 s1) := (HX.out.cell 1 rfl 0).trans rfl
    have c1_1 : W4.cell? ⟨w.heap.size, 1, none⟩ = some (.int .i64 k1) := (HX.out.cell 1 rfl 1).trans rfl
    have c1_2 : W4.cell? ⟨w.heap.size, 2, none⟩ = some (.int .i64 p1) := (HX.out.cell 1 rfl 2).trans rfl
    have c1_3 : W4.cell? ⟨w.heap.size, 3, none⟩ = some (.int .i64 n1) := (HX.out.cell 1 rfl 3).trans rfl
    have c1_4 : W4.cell? ⟨w.heap.size, 4, none⟩ = some (.string t1) := (HX.out.cell 1 rfl 4).trans rfl
    have c0_0 : W4.cell? ⟨(w.heap.size + 1), 0, none⟩ = some (.int .i64 s2) := (HX.out.cell 0 rfl 0).trans rfl
    have c0_1 : W4.cell? ⟨(w.heap.size + 1), 1, none⟩ = some (.int .i64 k2) := (HX.out.cell 0 rfl 1).trans rfl
    have c0_2 : W4.cell? ⟨(w.heap.size + 1), 2, none⟩ = some (.int .i64 p2) := (HX.out.cell 0 rfl 2).trans rfl
    have c0_3 : W4.cell? ⟨(w.heap.size + 1), 3, none⟩ = some (.int .i64 n2) := (HX.out.cell 0 rfl 3).trans rfl
    have c0_4 : W4.cell? ⟨(w.heap.size + 1), 4, none⟩ = some (.string t2) := (HX.out.cell 0 rfl 4).trans rfl
    have vc1_0 := World.new_ne W4 _ c1_0
    have vc1_1 := World.new_ne W4 _ c1_1
    have vc1_2 := World.new_ne W4 _ c1_2
    have vc1_3 := World.new_ne W4 _ c1_3
    have vc1_4 := World.new_ne W4 _ c1_4
    have vc0_0 := World.new_ne W4 _ c0_0
    have vc0_1 := World.new_ne W4 _ c0_1
    have vc0_2 := World.new_ne W4 _ c0_2
    have vc0_3 := World.new_ne W4 _ c0_3
    have vc0_4 := World.new_ne W4 _ c0_4
    go_region_held3 (fun w' => w'.cell? ⟨w.heap.size, 0, none⟩ = some (.int .i64 s1) ∧ w'.cell? ⟨w.heap.size, 1, none⟩ = some (.int .i64 k1) ∧ w'.cell? ⟨w.heap.size, 2, none⟩ = some (.int .i64 p1) ∧ w'.cell? ⟨w.heap.size, 3, none⟩ = some (.int .i64 n1) ∧ w'.cell? ⟨w.heap.size, 4, none⟩ = some (.string t1) ∧ w'.cell? ⟨(w.heap.size + 1), 0, none⟩ = some (.int .i64 s2) ∧ w'.cell? ⟨(w.heap.size + 1), 1, none⟩ = some (.int .i64 k2) ∧ w'.cell? ⟨(w.heap.size + 1), 2, none⟩ = some (.int .i64 p2) ∧ w'.cell? ⟨(w.heap.size + 1), 3, none⟩ = some (.int .i64 n2) ∧ w'.cell? ⟨(w.heap.size + 1), 4, none⟩ = some (.string t2)) (go_keep) ((first | (go_at_call 11; refine (one_calls _ _ _ _ _ _).mono ?_; rintro e w9 ⟨rfl, hb⟩; (try clear hd_ hf_); have hE : Below W4.heap.size W4 w9 := below_step (by repeat (first | assumption | exact Below.refl _ _ | apply below_drew1 | apply pw_below_drewN | apply below_alloc)) hb; have hS := hE.size; obtain ⟨hn1, hn2⟩ := World.new_at hS l1; obtain ⟨hn3, hn4⟩ := World.new_at hS l2; have hTn : Aside0 (XAmb w9) := XAmb_step (by repeat (first | assumption | apply amb_drew | apply amb_alloc)) hb; (first | (have hG := blk_below (blk_new _ _) hb; have hg0 := (blk_cell hG 0).trans rfl; have hg1 := (blk_cell hG 1).trans rfl; have hg2 := (blk_cell hG 2).trans rfl; have hh0 := blk_frozen hG 0; have hh1 := blk_frozen hG 1; have hh2 := blk_frozen hG 2) | (have hG := blk_below (blk_drew (blk_new _ _)) hb; have hg0 := (blk_cell hG 0).trans rfl; have hg1 := (blk_cell hG 1).trans rfl; have hg2 := (blk_cell hG 2).trans rfl; have hh0 := blk_frozen hG 0; have hh1 := blk_frozen hG 1; have hh2 := blk_frozen hG 2) | (have hG2 := blk_below hG hb; clear hG hg0 hg1 hg2 hh0 hh1 hh2; have hG := hG2; clear hG2; have hg0 := (blk_cell hG 0).trans rfl; have hg1 := (blk_cell hG 1).trans rfl; have hg2 := (blk_cell hG 2).trans rfl; have hh0 := blk_frozen hG 0; have hh1 := blk_frozen hG 1; have hh2 := blk_frozen hG 2) | skip); obtain ⟨hd_, hf_⟩ := bcell hE) | (go_at_call 10; refine (plain_Incl.calls _ _ _ _ _ _ _ _ _ _ _ La a1 a2 a3 1 _ (by repeat (first | assumption | apply amb_drew | apply amb_alloc)) HIa.out).mono ?_; rintro e w9 ⟨v9, rfl, hR, hb⟩; (try clear hd_ hf_); have hE : Below W4.heap.size W4 w9 := below_step (by repeat (first | assumption | exact Below.refl _ _ | apply below_drew1 | apply pw_below_drewN | apply below_alloc)) hb; have hS := hE.size; obtain ⟨hn1, hn2⟩ := World.new_at hS l1; obtain ⟨hn3, hn4⟩ := World.new_at hS l2; have hTn : Aside0 (XAmb w9) := XAmb_step (by repeat (first | assumption | apply amb_drew | apply amb_alloc)) hb; (first | (have hG := blk_below (blk_new _ _) hb; have hg0 := (blk_cell hG 0).trans rfl; have hg1 := (blk_cell hG 1).trans rfl; have hg2 := (blk_cell hG 2).trans rfl; have hh0 := blk_frozen hG 0; have hh1 := blk_frozen hG 1; have hh2 := blk_frozen hG 2) | (have hG := blk_below (blk_drew (blk_new _ _)) hb; have hg0 := (blk_cell hG 0).trans rfl; have hg1 := (blk_cell hG 1).trans rfl; have hg2 := (blk_cell hG 2).trans rfl; have hh0 := blk_frozen hG 0; have hh1 := blk_frozen hG 1; have hh2 := blk_frozen hG 2) | (have hG2 := blk_below hG hb; clear hG hg0 hg1 hg2 hh0 hh1 hh2; have hG := hG2; clear hG2; have hg0 := (blk_cell hG 0).trans rfl; have hg1 := (blk_cell hG 1).trans rfl; have hg2 := (blk_cell hG 2).trans rfl; have hh0 := blk_frozen hG 0; have hh1 := blk_frozen hG 1; have hh2 := blk_frozen hG 2) | skip); obtain ⟨hd_, hf_⟩ := bcell hE)))
    all_goals
      go_wp2
      go_meet
      case rel => first
        | exact ⟨_, rfl, rfl, ⟨Kd.R_lower (Kd.R_alloc hR _) (by first | assumption | (simp; omega))⟩, ⟨below_alloc hE _⟩⟩
        | exact ⟨_, rfl, rfl, ⟨R_three hR (by first | assumption | (simp; omega)) hG (by decide) _ _ _⟩, ⟨below_set (below_set (below_set hE (by first | assumption | exact Nat.le_refl _)) (by first | assumption | exact Nat.le_refl _)) (by first | assumption | exact Nat.le_refl _)⟩⟩
  case rest =>
    obtain ⟨v, rfl, rfl, hR, hB⟩ := hcut
    obtain ⟨Aa, ca, rfl, hl, hC⟩ := Kd.R_reads hR.out
    have HCa := Lib.hid (And.intro hl hC)
    have hb := hB.out
    have HY := Lib.hid (HX.out.keep hb)
    clear HX
    have HX := HY
    clear HY hb hB hR hl hC
    obtain ⟨W5, rfl⟩ : ∃ x, x = wc := ⟨_, rfl⟩
    go_upto_region 7 with fail
    go_cut [11, 13] (fun u8 u9 wc => ∃ v, u8 = v ∧ u9 = .int .i64 1 ∧ Aside0 (Kd.R k33 33 wc W5.heap.size (fun _ => True) v Lb) ∧ Aside0 (Below W5.heap.size W5 wc))
    case first =>
      have hA0 := XAmb_step hT HX.out.below
      have l1 : w.heap.size < W5.heap.size := HX.out.lt (x := (w.heap.size, #[.int .i64 s1, .int .i64 k1, .int .i64 p1, .int .i64 n1, .string t1], 23)) (by simp)
      have l2 : w.heap.size + 1 < W5.heap.size := HX.out.lt (x := ((w.heap.size + 1), #[.int .i64 s2, .int .i64 k2, .int .i64 p2, .int .i64 n2, .string t2], 23)) (by simp)
      have c1_0 : W5.cell? ⟨w.heap.size, 0, none⟩ = some (.int .i64 s1) := (HX.out.cell 1 rfl 0).trans rfl
      have c1_1 : W5.cell? ⟨w.heap.size, 1, none⟩ = some (.int .i64 k1) := (HX.out.cell 1 rfl 1).trans rfl
      have c1_2 : W5.cell? ⟨w.heap.size, 2, none⟩ = some (.int .i64 p1) := (HX.out.cell 1 rfl 2).trans rfl
      have c1_3 : W5.cell? ⟨w.heap.size, 3, none⟩ = some (.int .i64 n1) := (HX.out.cell 1 rfl 3).trans rfl
      have c1_4 : W5.cell? ⟨w.heap.size, 4, none⟩ = some (.string t1) := (HX.out.cell 1 rfl 4).trans rfl
      have c0_0 : W5.cell? ⟨(w.heap.size + 1), 0, none⟩ = some (.int .i64 s2) := (HX.out.cell 0 rfl 0).trans rfl
      have c0_1 : W5.cell? ⟨(w.heap.size + 1), 1, none⟩ = some (.int .i64 k2) := (HX.out.cell 0 rfl 1).trans rfl
      have c0_2 : W5.cell? ⟨(w.heap.size + 1), 2, none⟩ = some (.int .i64 p2) := (HX.out.cell 0 rfl 2).trans rfl
      have c0_3 : W5.cell? ⟨(w.heap.size + 1), 3, none⟩ = some (.int .i64 n2) := (HX.out.cell 0 rfl 3).trans rfl
      have c0_4 : W5.cell? ⟨(w.heap.size + 1), 4, none⟩ = some (.string t2) := (HX.out.cell 0 rfl 4).trans rfl
      have vc1_0 := World.new_ne W5 _ c1_0
      have vc1_1 := World.new_ne W5 _ c1_1
      have vc1_2 := World.new_ne W5 _ c1_2
      have vc1_3 := World.new_ne W5 _ c1_3
      have vc1_4 := World.new_ne W5 _ c1_4
      have vc0_0 := World.new_ne W5 _ c0_0
      have vc0_1 := World.new_ne W5 _ c0_1
      have vc0_2 := World.new_ne W5 _ c0_2
      have vc0_3 := World.new_ne W5 _ c0_3
      have vc0_4 := World.new_ne W5 _ c0_4
      go_region_held3 (fun w' => w'.cell? ⟨w.heap.size, 0, none⟩ = some (.int .i64 s1) ∧ w'.cell? ⟨w.heap.size, 1, none⟩ = some (.int .i64 k1) ∧ w'.cell? ⟨w.heap.size, 2, none⟩ = some (.int .i64 p1) ∧ w'.cell? ⟨w.heap.size, 3, none⟩ = some (.int .i64 n1) ∧ w'.cell? ⟨w.heap.size, 4, none⟩ = some (.string t1) ∧ w'.cell? ⟨(w.heap.size + 1), 0, none⟩ = some (.int .i64 s2) ∧ w'.cell? ⟨(w.heap.size + 1), 1, none⟩ = some (.int .i64 k2) ∧ w'.cell? ⟨(w.heap.size + 1), 2, none⟩ = some (.int .i64 p2) ∧ w'.cell? ⟨(w.heap.size + 1), 3, none⟩ = some (.int .i64 n2) ∧ w'.cell? ⟨(w.heap.size + 1), 4, none⟩ = some (.string t2)) (go_keep) ((first | (go_at_call 11; refine (one_calls _ _ _ _ _ _).mono ?_; rintro e w9 ⟨rfl, hb⟩; (try clear hd_ hf_); have hE : Below W5.heap.size W5 w9 := below_step (by repeat (first | assumption | exact Below.refl _ _ | apply below_drew1 | apply pw_below_drewN | apply below_alloc)) hb; have hS := hE.size; obtain ⟨hn1, hn2⟩ := World.new_at hS l1; obtain ⟨hn3, hn4⟩ := World.new_at hS l2; have hTn : Aside0 (XAmb w9) := XAmb_step (by repeat (first | assumption | apply amb_drew | apply amb_alloc)) hb; (first | (have hG := blk_below (blk_new _ _) hb; have hg0 := (blk_cell hG 0).trans rfl; have hg1 := (blk_cell hG 1).trans rfl; have hg2 := (blk_cell hG 2).trans rfl; have hh0 := blk_frozen hG 0; have hh1 := blk_frozen hG 1; have hh2 := blk_frozen hG 2) | (have hG := blk_below (blk_drew (blk_new _ _)) hb; have hg0 := (blk_cell hG 0).trans rfl; have hg1 := (blk_cell hG 1).trans rfl; have hg2 := (blk_cell hG 2).trans rfl; have hh0 := blk_frozen hG 0; have hh1 := blk_frozen hG 1; have hh2 := blk_frozen hG 2) | (have hG2 := blk_below hG hb; clear hG hg0 hg1 hg2 hh0 hh1 hh2; have hG := hG2; clear hG2; have hg0 := (blk_cell hG 0).trans rfl; have hg1 := (blk_cell hG 1).trans rfl; have hg2 := (blk_cell hG 2).trans rfl; have hh0 := blk_frozen hG 0; have hh1 := blk_frozen hG 1; have hh2 := blk_frozen hG 2) | skip); obtain ⟨hd_, hf_⟩ := bcell hE) | (go_at_call 10; refine (plain_Incl.calls _ _ _ _ _ _ _ _ _ _ _ Lb b1 b2 b3 1 _ (by repeat (first | assumption | apply amb_drew | apply amb_alloc)) HIb.out).mono ?_; rintro e w9 ⟨v9, rfl, hR, hb⟩; (try clear hd_ hf_); have hE : Below W5.heap.size W5 w9 := below_step (by repeat (first | assumption | exact Below.refl _ _ | apply below_drew1 | apply pw_below_drewN | apply below_alloc)) hb; have hS := hE.size; obtain ⟨hn1, hn2⟩ := World.new_at hS l1; obtain ⟨hn3, hn4⟩ := World.new_at hS l2; have hTn : Aside0 (XAmb w9) := XAmb_step (by repeat (first | assumption | apply amb_drew | apply amb_alloc)) hb; (first | (have hG := blk_below (blk_new _ _) hb; have hg0 := (blk_cell hG 0).trans rfl; have hg1 := (blk_cell hG 1).trans rfl; have hg2 := (blk_cell hG 2).trans rfl; have hh0 := blk_frozen hG 0; have hh1 := blk_frozen hG 1; have hh2 := blk_frozen hG 2) | (have hG := blk_below (blk_drew (blk_new _ _)) hb; have hg0 := (blk_cell hG 0).trans rfl; have hg1 := (blk_cell hG 1).trans rfl; have hg2 := (blk_cell hG 2).trans rfl; have hh0 := blk_frozen hG 0; have hh1 := blk_frozen hG 1; have hh2 := blk_frozen hG 2) | (have hG2 := blk_below hG hb; clear hG hg0 hg1 hg2 hh0 hh1 hh2; have hG := hG2; clear hG2; have hg0 := (blk_cell hG 0).trans rfl; have hg1 := (blk_cell hG 1).trans rfl; have hg2 := (blk_cell hG 2).trans rfl; have hh0 := blk_frozen hG 0; have hh1 := blk_frozen hG 1; have hh2 := blk_frozen hG 2) | skip); obtain ⟨hd_, hf_⟩ := bcell hE)))
      all_goals
        go_wp2
        go_meet
        case rel => first
          | exact ⟨_, rfl, rfl, ⟨Kd.R_lower (Kd.R_alloc hR _) (by first | assumption | (simp; omega))⟩, ⟨below_alloc hE _⟩⟩
          | exact ⟨_, rfl, rfl, ⟨R_three hR (by first | assumption | (simp; omega)) hG (by decide) _ _ _⟩, ⟨below_set (below_set (below_set hE (by first | assumption | exact Nat.le_refl _)) (by first | assumption | exact Nat.le_refl _)) (by first | assumption | exact Nat.le_refl _)⟩⟩
    case rest =>
      obtain ⟨v, rfl, rfl, hR, hB⟩ := hcut
      obtain ⟨Ab, cb, rfl, hl, hC⟩ := Kd.R_reads hR.out
      have HCb := Lib.hid (And.intro hl hC)
      have hb := hB.out
      have HY := Lib.hid (HX.out.keep hb)
      have HZ := Lib.hid (And.intro HCa.out.1 (Kd.C_below HCa.out.2 hb))
      clear HCa
      have HCa := HZ
      clear HZ
      clear HX
      have HX := HY
      clear HY hb hB hR hl hC
      obtain ⟨W6, rfl⟩ : ∃ x, x = wc := ⟨_, rfl⟩
      go_wp2
      go_ret
      exact ⟨by simp, HX.out.below⟩

theorem inclP_len (s1 k1 p1 n1 : Int) (t1 : ByteArray) (s2 k2 p2 n2 : Int) (t2 : ByteArray) : (inclP s1 k1 p1 n1 t1 s2 k2 p2 n2 t2).1.length ≤ 2 := by
  unfold inclP
  repeat' split
  all_goals simp
theorem great_no {t : ByteArray} {a b : S23} (h : ¬ greatB t [a, b] = true) : t.size ≤ 600 ∧ a.f4.size ≤ 1000 ∧ b.f4.size ≤ 1000 := by
  unfold greatB at h
  simp at h
  omega
/-- THE LAW PlainMeets RETURNS true. -/
theorem meets_true (t0 : ByteArray) (s1 k1 p1 n1 : Int) (t1 : ByteArray) (s2 k2 p2 n2 : Int) (t2 : ByteArray) (w : World) (hT : Aside0 (XAmb w)) :
    Calls Tryd.prog 4 #[.string t0, .agg #[.int .i64 s1, .int .i64 k1, .int .i64 p1, .int .i64 n1, .string t1], .agg #[.int .i64 s2, .int .i64 k2, .int .i64 p2, .int .i64 n2, .string t2]] w fun e w' => e = .returned (.bool true) ∧ Below w.heap.size w w' := by
  obtain ⟨K1, h1⟩ := great_ev t0 [(⟨s1, k1, p1, n1, t1⟩ : S23), ⟨s2, k2, p2, n2, t2⟩]
  by_cases hg : greatB t0 [(⟨s1, k1, p1, n1, t1⟩ : S23), ⟨s2, k2, p2, n2, t2⟩] = true
  · exact meets_great K1 t0 s1 k1 p1 n1 t1 s2 k2 p2 n2 t2 w hT _ rfl (by have := h1 K1 (Nat.le_refl _); rw [hg] at this; exact this)
  · obtain ⟨z0, z1, z2⟩ := great_no hg
    rw [Bool.not_eq_true] at hg
    rw [hg] at h1
    obtain ⟨K2, h2⟩ := len_ev t0 (by omega)
    by_cases hs : s1 = s2
    · exact meets_no (K1 + K2) t0 s1 k1 p1 n1 t1 s2 k2 p2 n2 t2 w hT _ rfl (lenU t0) (h2 _ (by omega)) (h1 _ (by omega)) [] [] 0 0 0 0 0 0 (by unfold plain_Incl.f; rw [if_pos hs]) (by unfold plain_Incl.f; rw [if_pos hs.symm])
    · by_cases ha : mayB s1 k1 p1 n1 t1 (lenU t0) = true
      · by_cases hb : mayB s2 k2 p2 n2 t2 (lenU t0) = true
        · have hA : plain_Incl.f s1 k1 p1 n1 t1 s2 k2 p2 n2 t2 (lenU t0) = some ((inclP s1 k1 p1 n1 t1 s2 k2 p2 n2 t2).1, (inclP s1 k1 p1 n1 t1 s2 k2 p2 n2 t2).2.1, (inclP s1 k1 p1 n1 t1 s2 k2 p2 n2 t2).2.2.1, (inclP s1 k1 p1 n1 t1 s2 k2 p2 n2 t2).2.2.2, 0) := by
            unfold plain_Incl.f
            rw [if_neg hs, if_pos ha, if_pos hb]
          have hB : plain_Incl.f s2 k2 p2 n2 t2 s1 k1 p1 n1 t1 (lenU t0) = some ((inclP s2 k2 p2 n2 t2 s1 k1 p1 n1 t1).1, (inclP s2 k2 p2 n2 t2 s1 k1 p1 n1 t1).2.1, (inclP s2 k2 p2 n2 t2 s1 k1 p1 n1 t1).2.2.1, (inclP s2 k2 p2 n2 t2 s1 k1 p1 n1 t1).2.2.2, 0) := by
            unfold plain_Incl.f
            rw [if_neg (Ne.symm hs), if_pos hb, if_pos ha]
          cases hx : textOf t0 with
          | none =>
            exfalso
            have := mayB_of ha
            rw [lenU_of_none hx] at this
            omega
          | some r =>
            have hr := text_len hx
            have hn := lenU_of_some hx
            have ma : mayD (⟨s1, k1, p1, n1, t1⟩ : S23) r.length = true := by rw [hn] at ha; exact ha
            have mb : mayD (⟨s2, k2, p2, n2, t2⟩ : S23) r.length = true := by rw [hn] at hb; exact hb
            obtain ⟨S, e1, e2⟩ := meets r ⟨s1, k1, p1, n1, t1⟩ ⟨s2, k2, p2, n2, t2⟩ hs ma mb (by omega)
            have l1 := inclP_len s1 k1 p1 n1 t1 s2 k2 p2 n2 t2
            have l2 := inclP_len s2 k2 p2 n2 t2 s1 k1 p1 n1 t1
            obtain ⟨K3, h3⟩ := plain_ev (inclP s1 k1 p1 n1 t1 s2 k2 p2 n2 t2).1 (by omega)
            obtain ⟨K4, h4⟩ := plain_ev (inclP s2 k2 p2 n2 t2 s1 k1 p1 n1 t1).1 (by omega)
            have m1 : (inclD ⟨s1, k1, p1, n1, t1⟩ ⟨s2, k2, p2, n2, t2⟩).length ≤ 2 := by unfold inclD; rw [List.length_map]; exact l1
            have m2 : (inclD ⟨s2, k2, p2, n2, t2⟩ ⟨s1, k1, p1, n1, t1⟩).length ≤ 2 := by unfold inclD; rw [List.length_map]; exact l2
            obtain ⟨K5, h5⟩ := run29_ev t0 ((⟨s1, k1, p1, n1, t1⟩ : S23) :: inclD ⟨s2, k2, p2, n2, t2⟩ ⟨s1, k1, p1, n1, t1⟩) (by omega) (by rw [List.length_cons]; omega)
            obtain ⟨K6, h6⟩ := run29_ev t0 ((⟨s2, k2, p2, n2, t2⟩ : S23) :: inclD ⟨s1, k1, p1, n1, t1⟩ ⟨s2, k2, p2, n2, t2⟩) (by omega) (by rw [List.length_cons]; omega)
            have r1 : runR t0 ((⟨s1, k1, p1, n1, t1⟩ : S23) :: inclD ⟨s2, k2, p2, n2, t2⟩ ⟨s1, k1, p1, n1, t1⟩) = (strOf S, 0) := by
              unfold runR
              rw [hx]
              simp only [e1]
            have r2 : runR t0 ((⟨s2, k2, p2, n2, t2⟩ : S23) :: inclD ⟨s1, k1, p1, n1, t1⟩ ⟨s2, k2, p2, n2, t2⟩) = (strOf S, 0) := by
              unfold runR
              rw [hx]
              simp only [e2]
            rw [r1] at h5
            rw [r2] at h6
            exact meets_yes (K1 + K2 + K3 + K4 + K5 + K6) t0 s1 k1 p1 n1 t1 s2 k2 p2 n2 t2 w hT _ rfl (lenU t0) (h2 _ (by omega)) (h1 _ (by omega)) _ _ _ _ _ _ _ _ hA hB (strOf S)
              (inclD ⟨s1, k1, p1, n1, t1⟩ ⟨s2, k2, p2, n2, t2⟩) (inclD ⟨s2, k2, p2, n2, t2⟩ ⟨s1, k1, p1, n1, t1⟩) _ _ m1 m2 (h3 _ (by omega)) (h4 _ (by omega)) rfl rfl (h5 _ (by omega)) (h6 _ (by omega))
        · exact meets_no (K1 + K2) t0 s1 k1 p1 n1 t1 s2 k2 p2 n2 t2 w hT _ rfl (lenU t0) (h2 _ (by omega)) (h1 _ (by omega)) [] [] 0 0 0 0 0 0 (by unfold plain_Incl.f; rw [if_neg hs, if_pos ha, if_neg hb]) (by unfold plain_Incl.f; rw [if_neg (Ne.symm hs), if_neg hb])
      · by_cases hb : mayB s2 k2 p2 n2 t2 (lenU t0) = true
        · exact meets_no (K1 + K2) t0 s1 k1 p1 n1 t1 s2 k2 p2 n2 t2 w hT _ rfl (lenU t0) (h2 _ (by omega)) (h1 _ (by omega)) [] [] 0 0 0 0 0 0 (by unfold plain_Incl.f; rw [if_neg hs, if_neg ha]) (by unfold plain_Incl.f; rw [if_neg (Ne.symm hs), if_pos hb, if_neg ha])
        · exact meets_no (K1 + K2) t0 s1 k1 p1 n1 t1 s2 k2 p2 n2 t2 w hT _ rfl (lenU t0) (h2 _ (by omega)) (h1 _ (by omega)) [] [] 0 0 0 0 0 0 (by unfold plain_Incl.f; rw [if_neg hs, if_neg ha]) (by unfold plain_Incl.f; rw [if_neg (Ne.symm hs), if_neg hb])

end Go.Proofs.YtmkmpjkgpnahnaaDoor.X
