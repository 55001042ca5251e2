/-
  The walk of the law PlainBack: it returns true (printed by wip/gen29q.py). Conditions: the two tables of unicode/utf8 as they are laid.
-/
import Derived.Test.YtmkmpjkgpnahnaaDoorAlive
import Derived.Test.YtmkmpjkgpnahnaaDoorBackP
import Derived.Test.YtmkmpjkgpnahnaaDoorPx4
import Derived.Deep.RegionHeld3
import Derived.Laws.EntriesVeiled
import Derived.Deep.DeepCutAuto
import Derived.Deep.CutBlock
import Derived.Deep.LoopGhost
namespace Go.Proofs.YtmkmpjkgpnahnaaDoor.X
open Go Go.RowKit Go.Shelf Go.Proofs.YtmkmpjkgpnahnaaDoorW.PrintWords Go.Proofs.YtmkmpjkgpnahnaaDoor.P
set_option linter.unusedVariables false
theorem one_calls (s k p n : Int) (t : ByteArray) (w : World) : Calls Tryd.prog 11 #[.agg #[.int .i64 s, .int .i64 k, .int .i64 p, .int .i64 n, .string t]] w fun e w' =>
    e = .returned (.agg #[.int .i64 s, .int .i64 k, .int .i64 p, .int .i64 n, .string t]) ∧ Below w.heap.size w w' := foolscaplaw29_one.calls s k p n t s k p n t w rfl
theorem World.new_at {W W' : World} {b : Nat} (h : W.heap.size ≤ W'.heap.size) (hl : b < W.heap.size) : b ≠ W'.heap.size ∧ W'.heap.size ≠ b := ⟨by omega, by omega⟩
theorem amb_drew {W : World} (h : Aside0 (XAmb W)) : Aside0 (XAmb W.drew) := XAmb_step h (Below.refl _ _).drew
theorem amb_alloc {W : World} (o : Obj) (h : Aside0 (XAmb W)) : Aside0 (XAmb (W.alloc o)) := XAmb_step h (below_alloc (Below.refl _ _) o)
theorem Bxs.join {W0 W W' : World} {l : List (Nat × Array Value × TypeId)} {x : Nat × Array Value × TypeId} (h : Bxs W0 l W) (h' : Bxs W [x] W') : Bxs W0 (x :: l) W' := by
  have hk := h.keep h'.below
  have hx := h'.lo x (List.mem_singleton.2 rfl)
  refine ⟨fun y hy => ?_, ?_, fun y hy => ?_, hk.below⟩
  · rcases List.mem_cons.1 hy with rfl | hy
    · exact h'.at_ _ (List.mem_singleton.2 rfl)
    · exact hk.at_ y hy
  · simp only [List.map_cons, List.nodup_cons]
    refine ⟨fun hm => ?_, h.nd⟩
    obtain ⟨y, hy, he⟩ := List.mem_map.1 hm
    have := h.lt hy
    omega
  · rcases List.mem_cons.1 hy with rfl | hy
    · exact Nat.le_trans h.below.size hx
    · exact h.lo y hy
theorem Bxs.made {W W' : World} (h : Below W.heap.size W W') (cs : Array Value) (t : TypeId) : Bxs W [(W'.heap.size, cs, t)] (W'.alloc (.cells cs t (0, 0))) :=
  ⟨fun y hy => by rw [List.mem_singleton.1 hy]; exact blk_new W' _, by simp, fun y hy => by rw [List.mem_singleton.1 hy]; exact h.size, below_alloc h _⟩
theorem Bxs.one {W W' : World} {g : Nat} {cs : Array Value} {t : TypeId} (h : Below W.heap.size W W') (hg : W.heap.size ≤ g) (hb : W'.heap[g]? = some (.cells cs t (0, 0))) : Bxs W [(g, cs, t)] W' :=
  ⟨fun y hy => by rw [List.mem_singleton.1 hy]; exact hb, by simp, fun y hy => by rw [List.mem_singleton.1 hy]; exact hg, h⟩

set_option maxRecDepth 100000 in
set_option maxHeartbeats 8000000 in
theorem backw_great (k : Nat) (s1 k1 p1 n1 : Int) (t1 : ByteArray) (s2 k2 p2 n2 : Int) (t2 : ByteArray) (n : Int) (w : World) (hT : Aside0 (XAmb w)) (L2 : List S23) (hL2 : [(⟨s1, k1, p1, n1, t1⟩ : S23), ⟨s2, k2, p2, n2, t2⟩] = L2) (hg : foolscaplaw29_great.f k ⟨#[]⟩ L2 = some true) :
    Calls Tryd.prog 5 #[.agg #[.int .i64 s1, .int .i64 k1, .int .i64 p1, .int .i64 n1, .string t1], .agg #[.int .i64 s2, .int .i64 k2, .int .i64 p2, .int .i64 n2, .string t2], .int .i64 n] w fun e w' => e = .returned (.bool true) ∧ Below w.heap.size w w' := by
  have HG := Lib.hid hg
  clear hg
  have HL2 := Lib.hid hL2
  clear hL2
  have HB0 := Lib.hid (((Bxs.start w).new #[.int .i64 s1, .int .i64 k1, .int .i64 p1, .int .i64 n1, .string t1] 23).new #[.int .i64 s2, .int .i64 k2, .int .i64 p2, .int .i64 n2, .string t2] 23)
  have hu23 := Tryd.underlying23
  have hu33 := Tryd.underlying33
  have hu29 := Tryd.underlying29
  go_enter Tryd.func5, Tryd.ntmps5
  go_upto_region 1 with fail
  obtain ⟨W1, hW1⟩ : ∃ x, (w.alloc (.cells #[.int .i64 s1, .int .i64 k1, .int .i64 p1, .int .i64 n1, .string t1] 23)).alloc (.cells #[.int .i64 s2, .int .i64 k2, .int .i64 p2, .int .i64 n2, .string t2] 23) = x := ⟨_, rfl⟩
  have HX : Hid (Bxs w [((w.heap.size + 1), #[.int .i64 s2, .int .i64 k2, .int .i64 p2, .int .i64 n2, .string t2], 23), (w.heap.size, #[.int .i64 s1, .int .i64 k1, .int .i64 p1, .int .i64 n1, .string t1], 23)] W1) := by
    rw [← hW1]
    simpa [Hid] using HB0.out
  rw [hW1]
  clear hW1 HB0
  go_wp2_with fail
  refine (foolscaplaw29_alive.calls true _ (XAmb_step hT HX.out.below) rfl).mono ?_
  rintro e W2 ⟨rfl, hb⟩
  have HY := Lib.hid (HX.out.keep hb)
  clear HX
  have HX := HY
  clear HY hb
  have c1_0 : W2.cell? ⟨w.heap.size, 0, none⟩ = some (.int .i64 s1) := (HX.out.cell 1 rfl 0).trans rfl
  have c1_1 : W2.cell? ⟨w.heap.size, 1, none⟩ = some (.int .i64 k1) := (HX.out.cell 1 rfl 1).trans rfl
  have c1_2 : W2.cell? ⟨w.heap.size, 2, none⟩ = some (.int .i64 p1) := (HX.out.cell 1 rfl 2).trans rfl
  have c1_3 : W2.cell? ⟨w.heap.size, 3, none⟩ = some (.int .i64 n1) := (HX.out.cell 1 rfl 3).trans rfl
  have c1_4 : W2.cell? ⟨w.heap.size, 4, none⟩ = some (.string t1) := (HX.out.cell 1 rfl 4).trans rfl
  have c0_0 : W2.cell? ⟨(w.heap.size + 1), 0, none⟩ = some (.int .i64 s2) := (HX.out.cell 0 rfl 0).trans rfl
  have c0_1 : W2.cell? ⟨(w.heap.size + 1), 1, none⟩ = some (.int .i64 k2) := (HX.out.cell 0 rfl 1).trans rfl
  have c0_2 : W2.cell? ⟨(w.heap.size + 1), 2, none⟩ = some (.int .i64 p2) := (HX.out.cell 0 rfl 2).trans rfl
  have c0_3 : W2.cell? ⟨(w.heap.size + 1), 3, none⟩ = some (.int .i64 n2) := (HX.out.cell 0 rfl 3).trans rfl
  have c0_4 : W2.cell? ⟨(w.heap.size + 1), 4, none⟩ = some (.string t2) := (HX.out.cell 0 rfl 4).trans rfl
  go_wp2_with ((with_reducible refine gate_dst (N := 16) rfl ?_); refine Kd.R_lit k23 _ 23 ?hg (N := 16) ?hd (xs := [(⟨s1, k1, p1, n1, t1⟩ : S23), (⟨s2, k2, p2, n2, t2⟩ : S23)]) (inner := [.int .i64 s1, .int .i64 k1, .int .i64 p1, .int .i64 n1, .string t1, .int .i64 s2, .int .i64 k2, .int .i64 p2, .int .i64 n2, .string t2]) (ok := fun _ => True) (okp := fun _ => True) ?hr ?hp (fun _ hk => hk) trivial (Below.refl _ _) (Nat.le_refl _) (by simp) ?_; (case hd => rfl); (case hg => rfl); (case hr => first | (go_simp; done) | (go_simp; rfl)); (case hp => exact (Reps.c5 (k23_mkM _ _ _ (⟨s1, k1, p1, n1, t1⟩ : S23)) (Reps.c5 (k23_mkM _ _ _ (⟨s2, k2, p2, n2, t2⟩ : S23)) (Reps.none _ _)))); intro v9 W9 ho hb _ _; rw [HL2.out] at ho; obtain ⟨A9, c9, rfl, hl9, hC9⟩ := Kd.R_reads ho; have HC9 := Lib.hid (And.intro hl9 hC9); clear ho hl9 hC9; have HY := Lib.hid (HX.out.keep hb); clear HX; have HX := HY; clear HY hb)
  clear c1_0 c1_1 c1_2 c1_3 c1_4 c0_0 c0_1 c0_2 c0_3 c0_4
  refine (foolscaplaw29_great.calls k _ _ _ L2 true _ HC9.out.2 HC9.out.1 HG.out).mono ?_
  rintro e W3 ⟨rfl, hb⟩
  have hb := hb.below
  have HY := Lib.hid (HX.out.keep hb)
  clear HX
  have HX := HY
  clear HY hb
  clear HC9
  go_wp2
  go_ret
  exact ⟨rfl, HX.out.below⟩

set_option maxRecDepth 100000 in
set_option maxHeartbeats 8000000 in
theorem backw_err (k : Nat) (s1 k1 p1 n1 : Int) (t1 : ByteArray) (s2 k2 p2 n2 : Int) (t2 : ByteArray) (n : Int) (w : World) (hT : Aside0 (XAmb w)) (L2 : List S23) (hL2 : [(⟨s1, k1, p1, n1, t1⟩ : S23), ⟨s2, k2, p2, n2, t2⟩] = L2) (hg : foolscaplaw29_great.f k ⟨#[]⟩ L2 = some false) (L : List S33) (q1 q2 q3 E : Int) (hE0 : ¬ E = 0) (ha : plain_Incl.f s1 k1 p1 n1 t1 s2 k2 p2 n2 t2 n = some (L, q1, q2, q3, E))  :
    Calls Tryd.prog 5 #[.agg #[.int .i64 s1, .int .i64 k1, .int .i64 p1, .int .i64 n1, .string t1], .agg #[.int .i64 s2, .int .i64 k2, .int .i64 p2, .int .i64 n2, .string t2], .int .i64 n] w fun e w' => e = .returned (.bool true) ∧ Below w.heap.size w w' := by
  have HI := Lib.hid ha
  have ge : (E == (0 : Int)) = false := beq_eq_false_iff_ne.2 hE0
  have gn : (E != (0 : Int)) = true := bne_iff_ne.2 hE0
  clear ha hE0
  have HG := Lib.hid hg
  clear hg
  have HL2 := Lib.hid hL2
  clear hL2
  have HB0 := Lib.hid (((Bxs.start w).new #[.int .i64 s1, .int .i64 k1, .int .i64 p1, .int .i64 n1, .string t1] 23).new #[.int .i64 s2, .int .i64 k2, .int .i64 p2, .int .i64 n2, .string t2] 23)
  have hu23 := Tryd.underlying23
  have hu33 := Tryd.underlying33
  have hu29 := Tryd.underlying29
  go_enter Tryd.func5, Tryd.ntmps5
  go_upto_region 1 with fail
  obtain ⟨W1, hW1⟩ : ∃ x, (w.alloc (.cells #[.int .i64 s1, .int .i64 k1, .int .i64 p1, .int .i64 n1, .string t1] 23)).alloc (.cells #[.int .i64 s2, .int .i64 k2, .int .i64 p2, .int .i64 n2, .string t2] 23) = x := ⟨_, rfl⟩
  have HX : Hid (Bxs w [((w.heap.size + 1), #[.int .i64 s2, .int .i64 k2, .int .i64 p2, .int .i64 n2, .string t2], 23), (w.heap.size, #[.int .i64 s1, .int .i64 k1, .int .i64 p1, .int .i64 n1, .string t1], 23)] W1) := by
    rw [← hW1]
    simpa [Hid] using HB0.out
  rw [hW1]
  clear hW1 HB0
  go_wp2_with fail
  refine (foolscaplaw29_alive.calls true _ (XAmb_step hT HX.out.below) rfl).mono ?_
  rintro e W2 ⟨rfl, hb⟩
  have HY := Lib.hid (HX.out.keep hb)
  clear HX
  have HX := HY
  clear HY hb
  have c1_0 : W2.cell? ⟨w.heap.size, 0, none⟩ = some (.int .i64 s1) := (HX.out.cell 1 rfl 0).trans rfl
  have c1_1 : W2.cell? ⟨w.heap.size, 1, none⟩ = some (.int .i64 k1) := (HX.out.cell 1 rfl 1).trans rfl
  have c1_2 : W2.cell? ⟨w.heap.size, 2, none⟩ = some (.int .i64 p1) := (HX.out.cell 1 rfl 2).trans rfl
  have c1_3 : W2.cell? ⟨w.heap.size, 3, none⟩ = some (.int .i64 n1) := (HX.out.cell 1 rfl 3).trans rfl
  have c1_4 : W2.cell? ⟨w.heap.size, 4, none⟩ = some (.string t1) := (HX.out.cell 1 rfl 4).trans rfl
  have c0_0 : W2.cell? ⟨(w.heap.size + 1), 0, none⟩ = some (.int .i64 s2) := (HX.out.cell 0 rfl 0).trans rfl
  have c0_1 : W2.cell? ⟨(w.heap.size + 1), 1, none⟩ = some (.int .i64 k2) := (HX.out.cell 0 rfl 1).trans rfl
  have c0_2 : W2.cell? ⟨(w.heap.size + 1), 2, none⟩ = some (.int .i64 p2) := (HX.out.cell 0 rfl 2).trans rfl
  have c0_3 : W2.cell? ⟨(w.heap.size + 1), 3, none⟩ = some (.int .i64 n2) := (HX.out.cell 0 rfl 3).trans rfl
  have c0_4 : W2.cell? ⟨(w.heap.size + 1), 4, none⟩ = some (.string t2) := (HX.out.cell 0 rfl 4).trans rfl
  go_wp2_with ((with_reducible refine gate_dst (N := 16) rfl ?_); refine Kd.R_lit k23 _ 23 ?hg (N := 16) ?hd (xs := [(⟨s1, k1, p1, n1, t1⟩ : S23), (⟨s2, k2, p2, n2, t2⟩ : S23)]) (inner := [.int .i64 s1, .int .i64 k1, .int .i64 p1, .int .i64 n1, .string t1, .int .i64 s2, .int .i64 k2, .int .i64 p2, .int .i64 n2, .string t2]) (ok := fun _ => True) (okp := fun _ => True) ?hr ?hp (fun _ hk => hk) trivial (Below.refl _ _) (Nat.le_refl _) (by simp) ?_; (case hd => rfl); (case hg => rfl); (case hr => first | (go_simp; done) | (go_simp; rfl)); (case hp => exact (Reps.c5 (k23_mkM _ _ _ (⟨s1, k1, p1, n1, t1⟩ : S23)) (Reps.c5 (k23_mkM _ _ _ (⟨s2, k2, p2, n2, t2⟩ : S23)) (Reps.none _ _)))); intro v9 W9 ho hb _ _; rw [HL2.out] at ho; obtain ⟨A9, c9, rfl, hl9, hC9⟩ := Kd.R_reads ho; have HC9 := Lib.hid (And.intro hl9 hC9); clear ho hl9 hC9; have HY := Lib.hid (HX.out.keep hb); clear HX; have HX := HY; clear HY hb)
  clear c1_0 c1_1 c1_2 c1_3 c1_4 c0_0 c0_1 c0_2 c0_3 c0_4
  refine (foolscaplaw29_great.calls k _ _ _ L2 false _ HC9.out.2 HC9.out.1 HG.out).mono ?_
  rintro e W3 ⟨rfl, hb⟩
  have hb := hb.below
  have HY := Lib.hid (HX.out.keep hb)
  clear HX
  have HX := HY
  clear HY hb
  clear HC9
  go_upto_region 5 with fail
  go_cut [7, 8, 9] (fun u7 u8 u9 wc => ∃ (v : Value) (g : Nat), u7 = v ∧ u8 = .pointer (some ⟨g, 0, none⟩) ∧ u9 = .int .i64 E ∧ Aside0 (Kd.R k33 33 wc W3.heap.size (fun _ => True) v L) ∧ Aside0 (Bxs W3 [(g, #[.int .i64 q1, .int .i64 q2, .int .i64 q3], 29)] wc))
  case first =>
    have hA0 := XAmb_step hT HX.out.below
    have l1 : w.heap.size < W3.heap.size := HX.out.lt (x := (w.heap.size, #[.int .i64 s1, .int .i64 k1, .int .i64 p1, .int .i64 n1, .string t1], 23)) (by simp)
    have l2 : w.heap.size + 1 < W3.heap.size := HX.out.lt (x := ((w.heap.size + 1), #[.int .i64 s2, .int .i64 k2, .int .i64 p2, .int .i64 n2, .string t2], 23)) (by simp)
    have c1_0 : W3.cell? ⟨w.heap.size, 0, none⟩ = some (.int .i64 s1) := (HX.out.cell 1 rfl 0).trans rfl
    have c1_1 : W3.cell? ⟨w.heap.size, 1, none⟩ = some (.int .i64 k1) := (HX.out.cell 1 rfl 1).trans rfl
    have c1_2 : W3.cell? ⟨w.heap.size, 2, none⟩ = some (.int .i64 p1) := (HX.out.cell 1 rfl 2).trans rfl
    have c1_3 : W3.cell? ⟨w.heap.size, 3, none⟩ = some (.int .i64 n1) := (HX.out.cell 1 rfl 3).trans rfl
    have c1_4 : W3.cell? ⟨w.heap.size, 4, none⟩ = some (.string t1) := (HX.out.cell 1 rfl 4).trans rfl
    have c0_0 : W3.cell? ⟨(w.heap.size + 1), 0, none⟩ = some (.int .i64 s2) := (HX.out.cell 0 rfl 0).trans rfl
    have c0_1 : W3.cell? ⟨(w.heap.size + 1), 1, none⟩ = some (.int .i64 k2) := (HX.out.cell 0 rfl 1).trans rfl
    have c0_2 : W3.cell? ⟨(w.heap.size + 1), 2, none⟩ = some (.int .i64 p2) := (HX.out.cell 0 rfl 2).trans rfl
    have c0_3 : W3.cell? ⟨(w.heap.size + 1), 3, none⟩ = some (.int .i64 n2) := (HX.out.cell 0 rfl 3).trans rfl
    have c0_4 : W3.cell? ⟨(w.heap.size + 1), 4, none⟩ = some (.string t2) := (HX.out.cell 0 rfl 4).trans rfl
    have vc1_0 := World.new_ne W3 _ c1_0
    have vc1_1 := World.new_ne W3 _ c1_1
    have vc1_2 := World.new_ne W3 _ c1_2
    have vc1_3 := World.new_ne W3 _ c1_3
    have vc1_4 := World.new_ne W3 _ c1_4
    have vc0_0 := World.new_ne W3 _ c0_0
    have vc0_1 := World.new_ne W3 _ c0_1
    have vc0_2 := World.new_ne W3 _ c0_2
    have vc0_3 := World.new_ne W3 _ c0_3
    have vc0_4 := World.new_ne W3 _ c0_4
    go_region_held3 (fun w' => w'.cell? ⟨w.heap.size, 0, none⟩ = some (.int .i64 s1) ∧ w'.cell? ⟨w.heap.size, 1, none⟩ = some (.int .i64 k1) ∧ w'.cell? ⟨w.heap.size, 2, none⟩ = some (.int .i64 p1) ∧ w'.cell? ⟨w.heap.size, 3, none⟩ = some (.int .i64 n1) ∧ w'.cell? ⟨w.heap.size, 4, none⟩ = some (.string t1) ∧ w'.cell? ⟨(w.heap.size + 1), 0, none⟩ = some (.int .i64 s2) ∧ w'.cell? ⟨(w.heap.size + 1), 1, none⟩ = some (.int .i64 k2) ∧ w'.cell? ⟨(w.heap.size + 1), 2, none⟩ = some (.int .i64 p2) ∧ w'.cell? ⟨(w.heap.size + 1), 3, none⟩ = some (.int .i64 n2) ∧ w'.cell? ⟨(w.heap.size + 1), 4, none⟩ = some (.string t2)) (go_keep) ((first | (go_at_call 11; refine (one_calls _ _ _ _ _ _).mono ?_; rintro e w9 ⟨rfl, hb⟩; (try clear hd_ hf_); have hE : Below W3.heap.size W3 w9 := below_step (by repeat (first | assumption | exact Below.refl _ _ | apply below_drew1 | apply pw_below_drewN | apply below_alloc)) hb; have hS := hE.size; obtain ⟨hn1, hn2⟩ := World.new_at hS l1; obtain ⟨hn3, hn4⟩ := World.new_at hS l2; have hTn : Aside0 (XAmb w9) := XAmb_step (by repeat (first | assumption | apply amb_drew | apply amb_alloc)) hb; (first | (have hG := blk_below (blk_new _ _) hb; have hg0 := (blk_cell hG 0).trans rfl; have hg1 := (blk_cell hG 1).trans rfl; have hg2 := (blk_cell hG 2).trans rfl; have hh0 := blk_frozen hG 0; have hh1 := blk_frozen hG 1; have hh2 := blk_frozen hG 2) | (have hG := blk_below (blk_drew (blk_new _ _)) hb; have hg0 := (blk_cell hG 0).trans rfl; have hg1 := (blk_cell hG 1).trans rfl; have hg2 := (blk_cell hG 2).trans rfl; have hh0 := blk_frozen hG 0; have hh1 := blk_frozen hG 1; have hh2 := blk_frozen hG 2) | (have hG2 := blk_below hG hb; clear hG hg0 hg1 hg2 hh0 hh1 hh2; have hG := hG2; clear hG2; have hg0 := (blk_cell hG 0).trans rfl; have hg1 := (blk_cell hG 1).trans rfl; have hg2 := (blk_cell hG 2).trans rfl; have hh0 := blk_frozen hG 0; have hh1 := blk_frozen hG 1; have hh2 := blk_frozen hG 2) | skip); obtain ⟨hd_, hf_⟩ := bcell hE) | (go_at_call 10; refine (plain_Incl.calls _ _ _ _ _ _ _ _ _ _ _ L q1 q2 q3 E _ (by repeat (first | assumption | apply amb_drew | apply amb_alloc)) HI.out).mono ?_; rintro e w9 ⟨v9, rfl, hR, hb⟩; (try clear hd_ hf_); have hE : Below W3.heap.size W3 w9 := below_step (by repeat (first | assumption | exact Below.refl _ _ | apply below_drew1 | apply pw_below_drewN | apply below_alloc)) hb; have hS := hE.size; obtain ⟨hn1, hn2⟩ := World.new_at hS l1; obtain ⟨hn3, hn4⟩ := World.new_at hS l2; have hTn : Aside0 (XAmb w9) := XAmb_step (by repeat (first | assumption | apply amb_drew | apply amb_alloc)) hb; (first | (have hG := blk_below (blk_new _ _) hb; have hg0 := (blk_cell hG 0).trans rfl; have hg1 := (blk_cell hG 1).trans rfl; have hg2 := (blk_cell hG 2).trans rfl; have hh0 := blk_frozen hG 0; have hh1 := blk_frozen hG 1; have hh2 := blk_frozen hG 2) | (have hG := blk_below (blk_drew (blk_new _ _)) hb; have hg0 := (blk_cell hG 0).trans rfl; have hg1 := (blk_cell hG 1).trans rfl; have hg2 := (blk_cell hG 2).trans rfl; have hh0 := blk_frozen hG 0; have hh1 := blk_frozen hG 1; have hh2 := blk_frozen hG 2) | (have hG2 := blk_below hG hb; clear hG hg0 hg1 hg2 hh0 hh1 hh2; have hG := hG2; clear hG2; have hg0 := (blk_cell hG 0).trans rfl; have hg1 := (blk_cell hG 1).trans rfl; have hg2 := (blk_cell hG 2).trans rfl; have hh0 := blk_frozen hG 0; have hh1 := blk_frozen hG 1; have hh2 := blk_frozen hG 2) | skip); obtain ⟨hd_, hf_⟩ := bcell hE)))
    all_goals
      go_wp2
      go_meet
      case rel => first
        | exact ⟨_, _, rfl, rfl, rfl, ⟨Kd.R_lower (Kd.R_alloc hR _) (by first | assumption | (simp; omega))⟩, ⟨Bxs.made hE _ _⟩⟩
        | exact ⟨_, _, rfl, rfl, rfl, ⟨R_three hR (by first | assumption | (simp; omega)) hG (by decide) _ _ _⟩, ⟨(((Bxs.one hE (by first | assumption | exact Nat.le_refl _) hG).put 0 rfl 0 (.int .i64 q1)).put 0 rfl 1 (.int .i64 q2)).put 0 rfl 2 (.int .i64 q3)⟩⟩
  case rest =>
    obtain ⟨v, g, rfl, rfl, rfl, hR, hB⟩ := hcut
    obtain ⟨A5, c5, rfl, hl, hC⟩ := Kd.R_reads hR.out
    have HC5 := Lib.hid (And.intro hl hC)
    have HY := Lib.hid (HX.out.join hB.out)
    clear HX hR hB hl hC
    have HX := HY
    clear HY
    obtain ⟨W5, rfl⟩ : ∃ x, x = wc := ⟨_, rfl⟩
    go_wp2
    go_ret
    exact ⟨rfl, HX.out.below⟩

set_option maxRecDepth 100000 in
set_option maxHeartbeats 8000000 in
theorem backw_some (k : Nat) (s1 k1 p1 n1 : Int) (t1 : ByteArray) (s2 k2 p2 n2 : Int) (t2 : ByteArray) (n : Int) (w : World) (hT : Aside0 (XAmb w)) (L2 : List S23) (hL2 : [(⟨s1, k1, p1, n1, t1⟩ : S23), ⟨s2, k2, p2, n2, t2⟩] = L2) (hg : foolscaplaw29_great.f k ⟨#[]⟩ L2 = some false) (L : List S33) (q1 q2 q3 : Int) (ha : plain_Incl.f s1 k1 p1 n1 t1 s2 k2 p2 n2 t2 n = some (L, q1, q2, q3, 0)) (hx : plain_Excl.f k L q1 q2 q3 s2 k2 p2 n2 t2 n = some (s1, k1, p1, n1, t1, 0)) (hne : L ≠ []) :
    Calls Tryd.prog 5 #[.agg #[.int .i64 s1, .int .i64 k1, .int .i64 p1, .int .i64 n1, .string t1], .agg #[.int .i64 s2, .int .i64 k2, .int .i64 p2, .int .i64 n2, .string t2], .int .i64 n] w fun e w' => e = .returned (.bool true) ∧ Below w.heap.size w w' := by
  have HI := Lib.hid ha
  have HEX := Lib.hid hx
  clear ha hx
  have hlp := List.length_pos_iff.2 hne
  have ge : (((L.length : Nat) : Int) == (0 : Int)) = false := beq_eq_false_iff_ne.2 (by omega)
  have ge2 : (L.length == 0) = false := beq_eq_false_iff_ne.2 (by omega)
  clear hne
  have HG := Lib.hid hg
  clear hg
  have HL2 := Lib.hid hL2
  clear hL2
  have HB0 := Lib.hid (((Bxs.start w).new #[.int .i64 s1, .int .i64 k1, .int .i64 p1, .int .i64 n1, .string t1] 23).new #[.int .i64 s2, .int .i64 k2, .int .i64 p2, .int .i64 n2, .string t2] 23)
  have hu23 := Tryd.underlying23
  have hu33 := Tryd.underlying33
  have hu29 := Tryd.underlying29
  go_enter Tryd.func5, Tryd.ntmps5
  go_upto_region 1 with fail
  obtain ⟨W1, hW1⟩ : ∃ x, (w.alloc (.cells #[.int .i64 s1, .int .i64 k1, .int .i64 p1, .int .i64 n1, .string t1] 23)).alloc (.cells #[.int .i64 s2, .int .i64 k2, .int .i64 p2, .int .i64 n2, .string t2] 23) = x := ⟨_, rfl⟩
  have HX : Hid (Bxs w [((w.heap.size + 1), #[.int .i64 s2, .int .i64 k2, .int .i64 p2, .int .i64 n2, .string t2], 23), (w.heap.size, #[.int .i64 s1, .int .i64 k1, .int .i64 p1, .int .i64 n1, .string t1], 23)] W1) := by
    rw [← hW1]
    simpa [Hid] using HB0.out
  rw [hW1]
  clear hW1 HB0
  go_wp2_with fail
  refine (foolscaplaw29_alive.calls true _ (XAmb_step hT HX.out.below) rfl).mono ?_
  rintro e W2 ⟨rfl, hb⟩
  have HY := Lib.hid (HX.out.keep hb)
  clear HX
  have HX := HY
  clear HY hb
  have c1_0 : W2.cell? ⟨w.heap.size, 0, none⟩ = some (.int .i64 s1) := (HX.out.cell 1 rfl 0).trans rfl
  have c1_1 : W2.cell? ⟨w.heap.size, 1, none⟩ = some (.int .i64 k1) := (HX.out.cell 1 rfl 1).trans rfl
  have c1_2 : W2.cell? ⟨w.heap.size, 2, none⟩ = some (.int .i64 p1) := (HX.out.cell 1 rfl 2).trans rfl
  have c1_3 : W2.cell? ⟨w.heap.size, 3, none⟩ = some (.int .i64 n1) := (HX.out.cell 1 rfl 3).trans rfl
  have c1_4 : W2.cell? ⟨w.heap.size, 4, none⟩ = some (.string t1) := (HX.out.cell 1 rfl 4).trans rfl
  have c0_0 : W2.cell? ⟨(w.heap.size + 1), 0, none⟩ = some (.int .i64 s2) := (HX.out.cell 0 rfl 0).trans rfl
  have c0_1 : W2.cell? ⟨(w.heap.size + 1), 1, none⟩ = some (.int .i64 k2) := (HX.out.cell 0 rfl 1).trans rfl
  have c0_2 : W2.cell? ⟨(w.heap.size + 1), 2, none⟩ = some (.int .i64 p2) := (HX.out.cell 0 rfl 2).trans rfl
  have c0_3 : W2.cell? ⟨(w.heap.size + 1), 3, none⟩ = some (.int .i64 n2) := (HX.out.cell 0 rfl 3).trans rfl
  have c0_4 : W2.cell? ⟨(w.heap.size + 1), 4, none⟩ = some (.string t2) := (HX.out.cell 0 rfl 4).trans rfl
  go_wp2_with ((with_reducible refine gate_dst (N := 16) rfl ?_); refine Kd.R_lit k23 _ 23 ?hg (N := 16) ?hd (xs := [(⟨s1, k1, p1, n1, t1⟩ : S23), (⟨s2, k2, p2, n2, t2⟩ : S23)]) (inner := [.int .i64 s1, .int .i64 k1, .int .i64 p1, .int .i64 n1, .string t1, .int .i64 s2, .int .i64 k2, .int .i64 p2, .int .i64 n2, .string t2]) (ok := fun _ => True) (okp := fun _ => True) ?hr ?hp (fun _ hk => hk) trivial (Below.refl _ _) (Nat.le_refl _) (by simp) ?_; (case hd => rfl); (case hg => rfl); (case hr => first | (go_simp; done) | (go_simp; rfl)); (case hp => exact (Reps.c5 (k23_mkM _ _ _ (⟨s1, k1, p1, n1, t1⟩ : S23)) (Reps.c5 (k23_mkM _ _ _ (⟨s2, k2, p2, n2, t2⟩ : S23)) (Reps.none _ _)))); intro v9 W9 ho hb _ _; rw [HL2.out] at ho; obtain ⟨A9, c9, rfl, hl9, hC9⟩ := Kd.R_reads ho; have HC9 := Lib.hid (And.intro hl9 hC9); clear ho hl9 hC9; have HY := Lib.hid (HX.out.keep hb); clear HX; have HX := HY; clear HY hb)
  clear c1_0 c1_1 c1_2 c1_3 c1_4 c0_0 c0_1 c0_2 c0_3 c0_4
  refine (foolscaplaw29_great.calls k _ _ _ L2 false _ HC9.out.2 HC9.out.1 HG.out).mono ?_
  rintro e W3 ⟨rfl, hb⟩
  have hb := hb.below
  have HY := Lib.hid (HX.out.keep hb)
  clear HX
  have HX := HY
  clear HY hb
  clear HC9
  go_upto_region 5 with fail
  go_cut [7, 8, 9] (fun u7 u8 u9 wc => ∃ (v : Value) (g : Nat), u7 = v ∧ u8 = .pointer (some ⟨g, 0, none⟩) ∧ u9 = .int .i64 0 ∧ Aside0 (Kd.R k33 33 wc W3.heap.size (fun _ => True) v L) ∧ Aside0 (Bxs W3 [(g, #[.int .i64 q1, .int .i64 q2, .int .i64 q3], 29)] wc))
  case first =>
    have hA0 := XAmb_step hT HX.out.below
    have l1 : w.heap.size < W3.heap.size := HX.out.lt (x := (w.heap.size, #[.int .i64 s1, .int .i64 k1, .int .i64 p1, .int .i64 n1, .string t1], 23)) (by simp)
    have l2 : w.heap.size + 1 < W3.heap.size := HX.out.lt (x := ((w.heap.size + 1), #[.int .i64 s2, .int .i64 k2, .int .i64 p2, .int .i64 n2, .string t2], 23)) (by simp)
    have c1_0 : W3.cell? ⟨w.heap.size, 0, none⟩ = some (.int .i64 s1) := (HX.out.cell 1 rfl 0).trans rfl
    have c1_1 : W3.cell? ⟨w.heap.size, 1, none⟩ = some (.int .i64 k1) := (HX.out.cell 1 rfl 1).trans rfl
    have c1_2 : W3.cell? ⟨w.heap.size, 2, none⟩ = some (.int .i64 p1) := (HX.out.cell 1 rfl 2).trans rfl
    have c1_3 : W3.cell? ⟨w.heap.size, 3, none⟩ = some (.int .i64 n1) := (HX.out.cell 1 rfl 3).trans rfl
    have c1_4 : W3.cell? ⟨w.heap.size, 4, none⟩ = some (.string t1) := (HX.out.cell 1 rfl 4).trans rfl
    have c0_0 : W3.cell? ⟨(w.heap.size + 1), 0, none⟩ = some (.int .i64 s2) := (HX.out.cell 0 rfl 0).trans rfl
    have c0_1 : W3.cell? ⟨(w.heap.size + 1), 1, none⟩ = some (.int .i64 k2) := (HX.out.cell 0 rfl 1).trans rfl
    have c0_2 : W3.cell? ⟨(w.heap.size + 1), 2, none⟩ = some (.int .i64 p2) := (HX.out.cell 0 rfl 2).trans rfl
    have c0_3 : W3.cell? ⟨(w.heap.size + 1), 3, none⟩ = some (.int .i64 n2) := (HX.out.cell 0 rfl 3).trans rfl
    have c0_4 : W3.cell? ⟨(w.heap.size + 1), 4, none⟩ = some (.string t2) := (HX.out.cell 0 rfl 4).trans rfl
    have vc1_0 := World.new_ne W3 _ c1_0
    have vc1_1 := World.new_ne W3 _ c1_1
    have vc1_2 := World.new_ne W3 _ c1_2
    have vc1_3 := World.new_ne W3 _ c1_3
    have vc1_4 := World.new_ne W3 _ c1_4
    have vc0_0 := World.new_ne W3 _ c0_0
    have vc0_1 := World.new_ne W3 _ c0_1
    have vc0_2 := World.new_ne W3 _ c0_2
    have vc0_3 := World.new_ne W3 _ c0_3
    have vc0_4 := World.new_ne W3 _ c0_4
    go_region_held3 (fun w' => w'.cell? ⟨w.heap.size, 0, none⟩ = some (.int .i64 s1) ∧ w'.cell? ⟨w.heap.size, 1, none⟩ = some (.int .i64 k1) ∧ w'.cell? ⟨w.heap.size, 2, none⟩ = some (.int .i64 p1) ∧ w'.cell? ⟨w.heap.size, 3, none⟩ = some (.int .i64 n1) ∧ w'.cell? ⟨w.heap.size, 4, none⟩ = some (.string t1) ∧ w'.cell? ⟨(w.heap.size + 1), 0, none⟩ = some (.int .i64 s2) ∧ w'.cell? ⟨(w.heap.size + 1), 1, none⟩ = some (.int .i64 k2) ∧ w'.cell? ⟨(w.heap.size + 1), 2, none⟩ = some (.int .i64 p2) ∧ w'.cell? ⟨(w.heap.size + 1), 3, none⟩ = some (.int .i64 n2) ∧ w'.cell? ⟨(w.heap.size + 1), 4, none⟩ = some (.string t2)) (go_keep) ((first | (go_at_call 11; refine (one_calls _ _ _ _ _ _).mono ?_; rintro e w9 ⟨rfl, hb⟩; (try clear hd_ hf_); have hE : Below W3.heap.size W3 w9 := below_step (by repeat (first | assumption | exact Below.refl _ _ | apply below_drew1 | apply pw_below_drewN | apply below_alloc)) hb; have hS := hE.size; obtain ⟨hn1, hn2⟩ := World.new_at hS l1; obtain ⟨hn3, hn4⟩ := World.new_at hS l2; have hTn : Aside0 (XAmb w9) := XAmb_step (by repeat (first | assumption | apply amb_drew | apply amb_alloc)) hb; (first | (have hG := blk_below (blk_new _ _) hb; have hg0 := (blk_cell hG 0).trans rfl; have hg1 := (blk_cell hG 1).trans rfl; have hg2 := (blk_cell hG 2).trans rfl; have hh0 := blk_frozen hG 0; have hh1 := blk_frozen hG 1; have hh2 := blk_frozen hG 2) | (have hG := blk_below (blk_drew (blk_new _ _)) hb; have hg0 := (blk_cell hG 0).trans rfl; have hg1 := (blk_cell hG 1).trans rfl; have hg2 := (blk_cell hG 2).trans rfl; have hh0 := blk_frozen hG 0; have hh1 := blk_frozen hG 1; have hh2 := blk_frozen hG 2) | (have hG2 := blk_below hG hb; clear hG hg0 hg1 hg2 hh0 hh1 hh2; have hG := hG2; clear hG2; have hg0 := (blk_cell hG 0).trans rfl; have hg1 := (blk_cell hG 1).trans rfl; have hg2 := (blk_cell hG 2).trans rfl; have hh0 := blk_frozen hG 0; have hh1 := blk_frozen hG 1; have hh2 := blk_frozen hG 2) | skip); obtain ⟨hd_, hf_⟩ := bcell hE) | (go_at_call 10; refine (plain_Incl.calls _ _ _ _ _ _ _ _ _ _ _ L q1 q2 q3 0 _ (by repeat (first | assumption | apply amb_drew | apply amb_alloc)) HI.out).mono ?_; rintro e w9 ⟨v9, rfl, hR, hb⟩; (try clear hd_ hf_); have hE : Below W3.heap.size W3 w9 := below_step (by repeat (first | assumption | exact Below.refl _ _ | apply below_drew1 | apply pw_below_drewN | apply below_alloc)) hb; have hS := hE.size; obtain ⟨hn1, hn2⟩ := World.new_at hS l1; obtain ⟨hn3, hn4⟩ := World.new_at hS l2; have hTn : Aside0 (XAmb w9) := XAmb_step (by repeat (first | assumption | apply amb_drew | apply amb_alloc)) hb; (first | (have hG := blk_below (blk_new _ _) hb; have hg0 := (blk_cell hG 0).trans rfl; have hg1 := (blk_cell hG 1).trans rfl; have hg2 := (blk_cell hG 2).trans rfl; have hh0 := blk_frozen hG 0; have hh1 := blk_frozen hG 1; have hh2 := blk_frozen hG 2) | (have hG := blk_below (blk_drew (blk_new _ _)) hb; have hg0 := (blk_cell hG 0).trans rfl; have hg1 := (blk_cell hG 1).trans rfl; have hg2 := (blk_cell hG 2).trans rfl; have hh0 := blk_frozen hG 0; have hh1 := blk_frozen hG 1; have hh2 := blk_frozen hG 2) | (have hG2 := blk_below hG hb; clear hG hg0 hg1 hg2 hh0 hh1 hh2; have hG := hG2; clear hG2; have hg0 := (blk_cell hG 0).trans rfl; have hg1 := (blk_cell hG 1).trans rfl; have hg2 := (blk_cell hG 2).trans rfl; have hh0 := blk_frozen hG 0; have hh1 := blk_frozen hG 1; have hh2 := blk_frozen hG 2) | skip); obtain ⟨hd_, hf_⟩ := bcell hE)))
    all_goals
      go_wp2
      go_meet
      case rel => first
        | exact ⟨_, _, rfl, rfl, rfl, ⟨Kd.R_lower (Kd.R_alloc hR _) (by first | assumption | (simp; omega))⟩, ⟨Bxs.made hE _ _⟩⟩
        | exact ⟨_, _, rfl, rfl, rfl, ⟨R_three hR (by first | assumption | (simp; omega)) hG (by decide) _ _ _⟩, ⟨(((Bxs.one hE (by first | assumption | exact Nat.le_refl _) hG).put 0 rfl 0 (.int .i64 q1)).put 0 rfl 1 (.int .i64 q2)).put 0 rfl 2 (.int .i64 q3)⟩⟩
  case rest =>
    obtain ⟨v, g, rfl, rfl, rfl, hR, hB⟩ := hcut
    obtain ⟨A5, c5, rfl, hl, hC⟩ := Kd.R_reads hR.out
    have HC5 := Lib.hid (And.intro hl hC)
    have HY := Lib.hid (HX.out.join hB.out)
    clear HX hR hB hl hC
    have HX := HY
    clear HY
    obtain ⟨W5, rfl⟩ : ∃ x, x = wc := ⟨_, rfl⟩
    go_upto_region 8 with fail
    go_cut [10, 11] (fun u10 u11 wc => ∃ h : Nat, u10 = .pointer (some ⟨h, 0, none⟩) ∧ u11 = .int .i64 0 ∧ Aside0 (Bxs W5 [(h, #[.int .i64 s1, .int .i64 k1, .int .i64 p1, .int .i64 n1, .string t1], 33)] wc))
    case first =>
      have hA0 := XAmb_step hT HX.out.below
      have l1 : g < W5.heap.size := HX.out.lt (x := (g, #[.int .i64 q1, .int .i64 q2, .int .i64 q3], 29)) (by simp)
      have l2 : w.heap.size + 1 < W5.heap.size := HX.out.lt (x := ((w.heap.size + 1), #[.int .i64 s2, .int .i64 k2, .int .i64 p2, .int .i64 n2, .string t2], 23)) (by simp)
      have c1_0 : W5.cell? ⟨(w.heap.size + 1), 0, none⟩ = some (.int .i64 s2) := (HX.out.cell 1 rfl 0).trans rfl
      have c1_1 : W5.cell? ⟨(w.heap.size + 1), 1, none⟩ = some (.int .i64 k2) := (HX.out.cell 1 rfl 1).trans rfl
      have c1_2 : W5.cell? ⟨(w.heap.size + 1), 2, none⟩ = some (.int .i64 p2) := (HX.out.cell 1 rfl 2).trans rfl
      have c1_3 : W5.cell? ⟨(w.heap.size + 1), 3, none⟩ = some (.int .i64 n2) := (HX.out.cell 1 rfl 3).trans rfl
      have c1_4 : W5.cell? ⟨(w.heap.size + 1), 4, none⟩ = some (.string t2) := (HX.out.cell 1 rfl 4).trans rfl
      have cq0_0 : W5.cell? ⟨g, 0, none⟩ = some (.int .i64 q1) := (HX.out.cell 0 rfl 0).trans rfl
      have cq0_1 : W5.cell? ⟨g, 1, none⟩ = some (.int .i64 q2) := (HX.out.cell 0 rfl 1).trans rfl
      have cq0_2 : W5.cell? ⟨g, 2, none⟩ = some (.int .i64 q3) := (HX.out.cell 0 rfl 2).trans rfl
      have vc1_0 := World.new_ne W5 _ c1_0
      have vc1_1 := World.new_ne W5 _ c1_1
      have vc1_2 := World.new_ne W5 _ c1_2
      have vc1_3 := World.new_ne W5 _ c1_3
      have vc1_4 := World.new_ne W5 _ c1_4
      have vcq0_0 := World.new_ne W5 _ cq0_0
      have vcq0_1 := World.new_ne W5 _ cq0_1
      have vcq0_2 := World.new_ne W5 _ cq0_2
      go_region_held3 (fun w' => w'.cell? ⟨(w.heap.size + 1), 0, none⟩ = some (.int .i64 s2) ∧ w'.cell? ⟨(w.heap.size + 1), 1, none⟩ = some (.int .i64 k2) ∧ w'.cell? ⟨(w.heap.size + 1), 2, none⟩ = some (.int .i64 p2) ∧ w'.cell? ⟨(w.heap.size + 1), 3, none⟩ = some (.int .i64 n2) ∧ w'.cell? ⟨(w.heap.size + 1), 4, none⟩ = some (.string t2) ∧ w'.cell? ⟨g, 0, none⟩ = some (.int .i64 q1) ∧ w'.cell? ⟨g, 1, none⟩ = some (.int .i64 q2) ∧ w'.cell? ⟨g, 2, none⟩ = some (.int .i64 q3)) (go_keep) ((first | (go_at_call 11; refine (one_calls _ _ _ _ _ _).mono ?_; rintro e w9 ⟨rfl, hb⟩; (try clear hd_ hf_); have hE : Below W5.heap.size W5 w9 := below_step (by repeat (first | assumption | exact Below.refl _ _ | apply below_drew1 | apply pw_below_drewN | apply below_alloc)) hb; have hS := hE.size; obtain ⟨hn1, hn2⟩ := World.new_at hS l1; obtain ⟨hn3, hn4⟩ := World.new_at hS l2; have hTn : Aside0 (XAmb w9) := XAmb_step (by repeat (first | assumption | apply amb_drew | apply amb_alloc)) hb; (first | (have hG := blk_below (blk_new _ _) hb; have hg0 := (blk_cell hG 0).trans rfl; have hg1 := (blk_cell hG 1).trans rfl; have hg2 := (blk_cell hG 2).trans rfl; have hg3 := (blk_cell hG 3).trans rfl; have hg4 := (blk_cell hG 4).trans rfl; have hh0 := blk_frozen hG 0; have hh1 := blk_frozen hG 1; have hh2 := blk_frozen hG 2; have hh3 := blk_frozen hG 3; have hh4 := blk_frozen hG 4) | (have hG := blk_below (blk_drew (blk_new _ _)) hb; have hg0 := (blk_cell hG 0).trans rfl; have hg1 := (blk_cell hG 1).trans rfl; have hg2 := (blk_cell hG 2).trans rfl; have hg3 := (blk_cell hG 3).trans rfl; have hg4 := (blk_cell hG 4).trans rfl; have hh0 := blk_frozen hG 0; have hh1 := blk_frozen hG 1; have hh2 := blk_frozen hG 2; have hh3 := blk_frozen hG 3; have hh4 := blk_frozen hG 4) | (have hG2 := blk_below hG hb; clear hG hg0 hg1 hg2 hg3 hg4 hh0 hh1 hh2 hh3 hh4; have hG := hG2; clear hG2; have hg0 := (blk_cell hG 0).trans rfl; have hg1 := (blk_cell hG 1).trans rfl; have hg2 := (blk_cell hG 2).trans rfl; have hg3 := (blk_cell hG 3).trans rfl; have hg4 := (blk_cell hG 4).trans rfl; have hh0 := blk_frozen hG 0; have hh1 := blk_frozen hG 1; have hh2 := blk_frozen hG 2; have hh3 := blk_frozen hG 3; have hh4 := blk_frozen hG 4) | skip); obtain ⟨hd_, hf_⟩ := bcell hE) | (go_at_call 17; refine (plain_Excl.calls k _ _ L q1 q2 q3 s2 k2 p2 n2 t2 n s1 k1 p1 n1 t1 0 _ (by repeat (first | assumption | apply amb_drew | apply amb_alloc)) (Kd.C_below HC5.out.2 (by repeat (first | assumption | exact Below.refl _ _ | apply below_drew1 | apply pw_below_drewN | apply below_alloc))) HC5.out.1 HEX.out).mono ?_; rintro e w9 ⟨rfl, hb⟩; (try clear hd_ hf_); have hE : Below W5.heap.size W5 w9 := below_step (by repeat (first | assumption | exact Below.refl _ _ | apply below_drew1 | apply pw_below_drewN | apply below_alloc)) hb; have hS := hE.size; obtain ⟨hn1, hn2⟩ := World.new_at hS l1; obtain ⟨hn3, hn4⟩ := World.new_at hS l2; have hTn : Aside0 (XAmb w9) := XAmb_step (by repeat (first | assumption | apply amb_drew | apply amb_alloc)) hb; (first | (have hG := blk_below (blk_new _ _) hb; have hg0 := (blk_cell hG 0).trans rfl; have hg1 := (blk_cell hG 1).trans rfl; have hg2 := (blk_cell hG 2).trans rfl; have hg3 := (blk_cell hG 3).trans rfl; have hg4 := (blk_cell hG 4).trans rfl; have hh0 := blk_frozen hG 0; have hh1 := blk_frozen hG 1; have hh2 := blk_frozen hG 2; have hh3 := blk_frozen hG 3; have hh4 := blk_frozen hG 4) | (have hG := blk_below (blk_drew (blk_new _ _)) hb; have hg0 := (blk_cell hG 0).trans rfl; have hg1 := (blk_cell hG 1).trans rfl; have hg2 := (blk_cell hG 2).trans rfl; have hg3 := (blk_cell hG 3).trans rfl; have hg4 := (blk_cell hG 4).trans rfl; have hh0 := blk_frozen hG 0; have hh1 := blk_frozen hG 1; have hh2 := blk_frozen hG 2; have hh3 := blk_frozen hG 3; have hh4 := blk_frozen hG 4) | (have hG2 := blk_below hG hb; clear hG hg0 hg1 hg2 hg3 hg4 hh0 hh1 hh2 hh3 hh4; have hG := hG2; clear hG2; have hg0 := (blk_cell hG 0).trans rfl; have hg1 := (blk_cell hG 1).trans rfl; have hg2 := (blk_cell hG 2).trans rfl; have hg3 := (blk_cell hG 3).trans rfl; have hg4 := (blk_cell hG 4).trans rfl; have hh0 := blk_frozen hG 0; have hh1 := blk_frozen hG 1; have hh2 := blk_frozen hG 2; have hh3 := blk_frozen hG 3; have hh4 := blk_frozen hG 4) | skip); obtain ⟨hd_, hf_⟩ := bcell hE)))
      all_goals
        go_wp2
        go_meet
        case rel => first
          | exact ⟨_, rfl, rfl, ⟨Bxs.made hE _ _⟩⟩
          | exact ⟨_, rfl, rfl, ⟨((((((Bxs.one hE (by first | assumption | exact Nat.le_refl _) hG).put 0 rfl 0 (.int .i64 s1)).put 0 rfl 1 (.int .i64 k1)).put 0 rfl 2 (.int .i64 p1)).put 0 rfl 3 (.int .i64 n1)).put 0 rfl 4 (.string t1))⟩⟩
    case rest =>
      obtain ⟨h, rfl, rfl, hB⟩ := hcut
      have HY := Lib.hid (HX.out.join hB.out)
      clear HX hB
      have HX := HY
      clear HY
      obtain ⟨W6, rfl⟩ : ∃ x, x = wc := ⟨_, rfl⟩
      have l1 : h < W6.heap.size := HX.out.lt (x := (h, #[.int .i64 s1, .int .i64 k1, .int .i64 p1, .int .i64 n1, .string t1], 33)) (by simp)
      have l2 : w.heap.size < W6.heap.size := HX.out.lt (x := (w.heap.size, #[.int .i64 s1, .int .i64 k1, .int .i64 p1, .int .i64 n1, .string t1], 23)) (by simp)
      have cd0_0 : W6.cell? ⟨h, 0, none⟩ = some (.int .i64 s1) := (HX.out.cell 0 rfl 0).trans rfl
      have cd0_1 : W6.cell? ⟨h, 1, none⟩ = some (.int .i64 k1) := (HX.out.cell 0 rfl 1).trans rfl
      have cd0_2 : W6.cell? ⟨h, 2, none⟩ = some (.int .i64 p1) := (HX.out.cell 0 rfl 2).trans rfl
      have cd0_3 : W6.cell? ⟨h, 3, none⟩ = some (.int .i64 n1) := (HX.out.cell 0 rfl 3).trans rfl
      have cd0_4 : W6.cell? ⟨h, 4, none⟩ = some (.string t1) := (HX.out.cell 0 rfl 4).trans rfl
      have c3_0 : W6.cell? ⟨w.heap.size, 0, none⟩ = some (.int .i64 s1) := (HX.out.cell 3 rfl 0).trans rfl
      have c3_1 : W6.cell? ⟨w.heap.size, 1, none⟩ = some (.int .i64 k1) := (HX.out.cell 3 rfl 1).trans rfl
      have c3_2 : W6.cell? ⟨w.heap.size, 2, none⟩ = some (.int .i64 p1) := (HX.out.cell 3 rfl 2).trans rfl
      have c3_3 : W6.cell? ⟨w.heap.size, 3, none⟩ = some (.int .i64 n1) := (HX.out.cell 3 rfl 3).trans rfl
      have c3_4 : W6.cell? ⟨w.heap.size, 4, none⟩ = some (.string t1) := (HX.out.cell 3 rfl 4).trans rfl
      go_upto_region 11 with fail
      go_region_held3 (fun w' => w'.cell? ⟨h, 0, none⟩ = some (.int .i64 s1) ∧ w'.cell? ⟨h, 1, none⟩ = some (.int .i64 k1) ∧ w'.cell? ⟨h, 2, none⟩ = some (.int .i64 p1) ∧ w'.cell? ⟨h, 3, none⟩ = some (.int .i64 n1) ∧ w'.cell? ⟨h, 4, none⟩ = some (.string t1) ∧ w'.cell? ⟨w.heap.size, 0, none⟩ = some (.int .i64 s1) ∧ w'.cell? ⟨w.heap.size, 1, none⟩ = some (.int .i64 k1) ∧ w'.cell? ⟨w.heap.size, 2, none⟩ = some (.int .i64 p1) ∧ w'.cell? ⟨w.heap.size, 3, none⟩ = some (.int .i64 n1) ∧ w'.cell? ⟨w.heap.size, 4, none⟩ = some (.string t1)) (go_keep) ((go_at_call 11; refine (one_calls _ _ _ _ _ _).mono ?_; rintro e w9 ⟨rfl, hb⟩; have hc_ := kcell hb; have hE := below_step (Below.refl W6.heap.size W6).drew hb; obtain ⟨hd_, hf_⟩ := bcell hE))
      have HZ := Lib.hid ((HX.out.drew.keep hb).below)
      go_wp2
      go_ret
      exact ⟨by simp, HZ.out⟩

set_option maxRecDepth 100000 in
set_option maxHeartbeats 8000000 in
theorem backw_none (k : Nat) (s1 k1 p1 n1 : Int) (t1 : ByteArray) (s2 k2 p2 n2 : Int) (t2 : ByteArray) (n : Int) (w : World) (hT : Aside0 (XAmb w)) (L2 : List S23) (hL2 : [(⟨s1, k1, p1, n1, t1⟩ : S23), ⟨s2, k2, p2, n2, t2⟩] = L2) (d1 : Int) (hg : foolscaplaw29_great.f k ⟨#[]⟩ L2 = some false) (q1 q2 q3 : Int) (ha : plain_Incl.f s1 k1 p1 n1 t1 s2 k2 p2 n2 t2 n = some (([] : List S33), q1, q2, q3, 0)) (hx : plain_Excl.f k ([] : List S33) q1 q2 q3 s2 k2 p2 n2 t2 n = some (d1, k1, p1, n1, t1, 0)) :
    Calls Tryd.prog 5 #[.agg #[.int .i64 s1, .int .i64 k1, .int .i64 p1, .int .i64 n1, .string t1], .agg #[.int .i64 s2, .int .i64 k2, .int .i64 p2, .int .i64 n2, .string t2], .int .i64 n] w fun e w' => e = .returned (.bool true) ∧ Below w.heap.size w w' := by
  have HI := Lib.hid ha
  have HEX := Lib.hid hx
  clear ha hx
  have HG := Lib.hid hg
  clear hg
  have HL2 := Lib.hid hL2
  clear hL2
  have HB0 := Lib.hid (((Bxs.start w).new #[.int .i64 s1, .int .i64 k1, .int .i64 p1, .int .i64 n1, .string t1] 23).new #[.int .i64 s2, .int .i64 k2, .int .i64 p2, .int .i64 n2, .string t2] 23)
  have hu23 := Tryd.underlying23
  have hu33 := Tryd.underlying33
  have hu29 := Tryd.underlying29
  go_enter Tryd.func5, Tryd.ntmps5
  go_upto_region 1 with fail
  obtain ⟨W1, hW1⟩ : ∃ x, (w.alloc (.cells #[.int .i64 s1, .int .i64 k1, .int .i64 p1, .int .i64 n1, .string t1] 23)).alloc (.cells #[.int .i64 s2, .int .i64 k2, .int .i64 p2, .int .i64 n2, .string t2] 23) = x := ⟨_, rfl⟩
  have HX : Hid (Bxs w [((w.heap.size + 1), #[.int .i64 s2, .int .i64 k2, .int .i64 p2, .int .i64 n2, .string t2], 23), (w.heap.size, #[.int .i64 s1, .int .i64 k1, .int .i64 p1, .int .i64 n1, .string t1], 23)] W1) := by
    rw [← hW1]
    simpa [Hid] using HB0.out
  rw [hW1]
  clear hW1 HB0
  go_wp2_with fail
  refine (foolscaplaw29_alive.calls true _ (XAmb_step hT HX.out.below) rfl).mono ?_
  rintro e W2 ⟨rfl, hb⟩
  have HY := Lib.hid (HX.out.keep hb)
  clear HX
  have HX := HY
  clear HY hb
  have c1_0 : W2.cell? ⟨w.heap.size, 0, none⟩ = some (.int .i64 s1) := (HX.out.cell 1 rfl 0).trans rfl
  have c1_1 : W2.cell? ⟨w.heap.size, 1, none⟩ = some (.int .i64 k1) := (HX.out.cell 1 rfl 1).trans rfl
  have c1_2 : W2.cell? ⟨w.heap.size, 2, none⟩ = some (.int .i64 p1) := (HX.out.cell 1 rfl 2).trans rfl
  have c1_3 : W2.cell? ⟨w.heap.size, 3, none⟩ = some (.int .i64 n1) := (HX.out.cell 1 rfl 3).trans rfl
  have c1_4 : W2.cell? ⟨w.heap.size, 4, none⟩ = some (.string t1) := (HX.out.cell 1 rfl 4).trans rfl
  have c0_0 : W2.cell? ⟨(w.heap.size + 1), 0, none⟩ = some (.int .i64 s2) := (HX.out.cell 0 rfl 0).trans rfl
  have c0_1 : W2.cell? ⟨(w.heap.size + 1), 1, none⟩ = some (.int .i64 k2) := (HX.out.cell 0 rfl 1).trans rfl
  have c0_2 : W2.cell? ⟨(w.heap.size + 1), 2, none⟩ = some (.int .i64 p2) := (HX.out.cell 0 rfl 2).trans rfl
  have c0_3 : W2.cell? ⟨(w.heap.size + 1), 3, none⟩ = some (.int .i64 n2) := (HX.out.cell 0 rfl 3).trans rfl
  have c0_4 : W2.cell? ⟨(w.heap.size + 1), 4, none⟩ = some (.string t2) := (HX.out.cell 0 rfl 4).trans rfl
  go_wp2_with ((with_reducible refine gate_dst (N := 16) rfl ?_); refine Kd.R_lit k23 _ 23 ?hg (N := 16) ?hd (xs := [(⟨s1, k1, p1, n1, t1⟩ : S23), (⟨s2, k2, p2, n2, t2⟩ : S23)]) (inner := [.int .i64 s1, .int .i64 k1, .int .i64 p1, .int .i64 n1, .string t1, .int .i64 s2, .int .i64 k2, .int .i64 p2, .int .i64 n2, .string t2]) (ok := fun _ => True) (okp := fun _ => True) ?hr ?hp (fun _ hk => hk) trivial (Below.refl _ _) (Nat.le_refl _) (by simp) ?_; (case hd => rfl); (case hg => rfl); (case hr => first | (go_simp; done) | (go_simp; rfl)); (case hp => exact (Reps.c5 (k23_mkM _ _ _ (⟨s1, k1, p1, n1, t1⟩ : S23)) (Reps.c5 (k23_mkM _ _ _ (⟨s2, k2, p2, n2, t2⟩ : S23)) (Reps.none _ _)))); intro v9 W9 ho hb _ _; rw [HL2.out] at ho; obtain ⟨A9, c9, rfl, hl9, hC9⟩ := Kd.R_reads ho; have HC9 := Lib.hid (And.intro hl9 hC9); clear ho hl9 hC9; have HY := Lib.hid (HX.out.keep hb); clear HX; have HX := HY; clear HY hb)
  clear c1_0 c1_1 c1_2 c1_3 c1_4 c0_0 c0_1 c0_2 c0_3 c0_4
  refine (foolscaplaw29_great.calls k _ _ _ L2 false _ HC9.out.2 HC9.out.1 HG.out).mono ?_
  rintro e W3 ⟨rfl, hb⟩
  have hb := hb.below
  have HY := Lib.hid (HX.out.keep hb)
  clear HX
  have HX := HY
  clear HY hb
  clear HC9
  go_upto_region 5 with fail
  go_cut [7, 8, 9] (fun u7 u8 u9 wc => ∃ (v : Value) (g : Nat), u7 = v ∧ u8 = .pointer (some ⟨g, 0, none⟩) ∧ u9 = .int .i64 0 ∧ Aside0 (Kd.R k33 33 wc W3.heap.size (fun _ => True) v ([] : List S33)) ∧ Aside0 (Bxs W3 [(g, #[.int .i64 q1, .int .i64 q2, .int .i64 q3], 29)] wc))
  case first =>
    have hA0 := XAmb_step hT HX.out.below
    have l1 : w.heap.size < W3.heap.size := HX.out.lt (x := (w.heap.size, #[.int .i64 s1, .int .i64 k1, .int .i64 p1, .int .i64 n1, .string t1], 23)) (by simp)
    have l2 : w.heap.size + 1 < W3.heap.size := HX.out.lt (x := ((w.heap.size + 1), #[.int .i64 s2, .int .i64 k2, .int .i64 p2, .int .i64 n2, .string t2], 23)) (by simp)
    have c1_0 : W3.cell? ⟨w.heap.size, 0, none⟩ = some (.int .i64 s1) := (HX.out.cell 1 rfl 0).trans rfl
    have c1_1 : W3.cell? ⟨w.heap.size, 1, none⟩ = some (.int .i64 k1) := (HX.out.cell 1 rfl 1).trans rfl
    have c1_2 : W3.cell? ⟨w.heap.size, 2, none⟩ = some (.int .i64 p1) := (HX.out.cell 1 rfl 2).trans rfl
    have c1_3 : W3.cell? ⟨w.heap.size, 3, none⟩ = some (.int .i64 n1) := (HX.out.cell 1 rfl 3).trans rfl
    have c1_4 : W3.cell? ⟨w.heap.size, 4, none⟩ = some (.string t1) := (HX.out.cell 1 rfl 4).trans rfl
    have c0_0 : W3.cell? ⟨(w.heap.size + 1), 0, none⟩ = some (.int .i64 s2) := (HX.out.cell 0 rfl 0).trans rfl
    have c0_1 : W3.cell? ⟨(w.heap.size + 1), 1, none⟩ = some (.int .i64 k2) := (HX.out.cell 0 rfl 1).trans rfl
    have c0_2 : W3.cell? ⟨(w.heap.size + 1), 2, none⟩ = some (.int .i64 p2) := (HX.out.cell 0 rfl 2).trans rfl
    have c0_3 : W3.cell? ⟨(w.heap.size + 1), 3, none⟩ = some (.int .i64 n2) := (HX.out.cell 0 rfl 3).trans rfl
    have c0_4 : W3.cell? ⟨(w.heap.size + 1), 4, none⟩ = some (.string t2) := (HX.out.cell 0 rfl 4).trans rfl
    have vc1_0 := World.new_ne W3 _ c1_0
    have vc1_1 := World.new_ne W3 _ c1_1
    have vc1_2 := World.new_ne W3 _ c1_2
    have vc1_3 := World.new_ne W3 _ c1_3
    have vc1_4 := World.new_ne W3 _ c1_4
    have vc0_0 := World.new_ne W3 _ c0_0
    have vc0_1 := World.new_ne W3 _ c0_1
    have vc0_2 := World.new_ne W3 _ c0_2
    have vc0_3 := World.new_ne W3 _ c0_3
    have vc0_4 := World.new_ne W3 _ c0_4
    go_region_held3 (fun w' => w'.cell? ⟨w.heap.size, 0, none⟩ = some (.int .i64 s1) ∧ w'.cell? ⟨w.heap.size, 1, none⟩ = some (.int .i64 k1) ∧ w'.cell? ⟨w.heap.size, 2, none⟩ = some (.int .i64 p1) ∧ w'.cell? ⟨w.heap.size, 3, none⟩ = some (.int .i64 n1) ∧ w'.cell? ⟨w.heap.size, 4, none⟩ = some (.string t1) ∧ w'.cell? ⟨(w.heap.size + 1), 0, none⟩ = some (.int .i64 s2) ∧ w'.cell? ⟨(w.heap.size + 1), 1, none⟩ = some (.int .i64 k2) ∧ w'.cell? ⟨(w.heap.size + 1), 2, none⟩ = some (.int .i64 p2) ∧ w'.cell? ⟨(w.heap.size + 1), 3, none⟩ = some (.int .i64 n2) ∧ w'.cell? ⟨(w.heap.size + 1), 4, none⟩ = some (.string t2)) (go_keep) ((first | (go_at_call 11; refine (one_calls _ _ _ _ _ _).mono ?_; rintro e w9 ⟨rfl, hb⟩; (try clear hd_ hf_); have hE : Below W3.heap.size W3 w9 := below_step (by repeat (first | assumption | exact Below.refl _ _ | apply below_drew1 | apply pw_below_drewN | apply below_alloc)) hb; have hS := hE.size; obtain ⟨hn1, hn2⟩ := World.new_at hS l1; obtain ⟨hn3, hn4⟩ := World.new_at hS l2; have hTn : Aside0 (XAmb w9) := XAmb_step (by repeat (first | assumption | apply amb_drew | apply amb_alloc)) hb; (first | (have hG := blk_below (blk_new _ _) hb; have hg0 := (blk_cell hG 0).trans rfl; have hg1 := (blk_cell hG 1).trans rfl; have hg2 := (blk_cell hG 2).trans rfl; have hh0 := blk_frozen hG 0; have hh1 := blk_frozen hG 1; have hh2 := blk_frozen hG 2) | (have hG := blk_below (blk_drew (blk_new _ _)) hb; have hg0 := (blk_cell hG 0).trans rfl; have hg1 := (blk_cell hG 1).trans rfl; have hg2 := (blk_cell hG 2).trans rfl; have hh0 := blk_frozen hG 0; have hh1 := blk_frozen hG 1; have hh2 := blk_frozen hG 2) | (have hG2 := blk_below hG hb; clear hG hg0 hg1 hg2 hh0 hh1 hh2; have hG := hG2; clear hG2; have hg0 := (blk_cell hG 0).trans rfl; have hg1 := (blk_cell hG 1).trans rfl; have hg2 := (blk_cell hG 2).trans rfl; have hh0 := blk_frozen hG 0; have hh1 := blk_frozen hG 1; have hh2 := blk_frozen hG 2) | skip); obtain ⟨hd_, hf_⟩ := bcell hE) | (go_at_call 10; refine (plain_Incl.calls _ _ _ _ _ _ _ _ _ _ _ ([] : List S33) q1 q2 q3 0 _ (by repeat (first | assumption | apply amb_drew | apply amb_alloc)) HI.out).mono ?_; rintro e w9 ⟨v9, rfl, hR, hb⟩; (try clear hd_ hf_); have hE : Below W3.heap.size W3 w9 := below_step (by repeat (first | assumption | exact Below.refl _ _ | apply below_drew1 | apply pw_below_drewN | apply below_alloc)) hb; have hS := hE.size; obtain ⟨hn1, hn2⟩ := World.new_at hS l1; obtain ⟨hn3, hn4⟩ := World.new_at hS l2; have hTn : Aside0 (XAmb w9) := XAmb_step (by repeat (first | assumption | apply amb_drew | apply amb_alloc)) hb; (first | (have hG := blk_below (blk_new _ _) hb; have hg0 := (blk_cell hG 0).trans rfl; have hg1 := (blk_cell hG 1).trans rfl; have hg2 := (blk_cell hG 2).trans rfl; have hh0 := blk_frozen hG 0; have hh1 := blk_frozen hG 1; have hh2 := blk_frozen hG 2) | (have hG := blk_below (blk_drew (blk_new _ _)) hb; have hg0 := (blk_cell hG 0).trans rfl; have hg1 := (blk_cell hG 1).trans rfl; have hg2 := (blk_cell hG 2).trans rfl; have hh0 := blk_frozen hG 0; have hh1 := blk_frozen hG 1; have hh2 := blk_frozen hG 2) | (have hG2 := blk_below hG hb; clear hG hg0 hg1 hg2 hh0 hh1 hh2; have hG := hG2; clear hG2; have hg0 := (blk_cell hG 0).trans rfl; have hg1 := (blk_cell hG 1).trans rfl; have hg2 := (blk_cell hG 2).trans rfl; have hh0 := blk_frozen hG 0; have hh1 := blk_frozen hG 1; have hh2 := blk_frozen hG 2) | skip); obtain ⟨hd_, hf_⟩ := bcell hE)))
    all_goals
      go_wp2
      go_meet
      case rel => first
        | exact ⟨_, _, rfl, rfl, rfl, ⟨Kd.R_lower (Kd.R_alloc hR _) (by first | assumption | (simp; omega))⟩, ⟨Bxs.made hE _ _⟩⟩
        | exact ⟨_, _, rfl, rfl, rfl, ⟨R_three hR (by first | assumption | (simp; omega)) hG (by decide) _ _ _⟩, ⟨(((Bxs.one hE (by first | assumption | exact Nat.le_refl _) hG).put 0 rfl 0 (.int .i64 q1)).put 0 rfl 1 (.int .i64 q2)).put 0 rfl 2 (.int .i64 q3)⟩⟩
  case rest =>
    obtain ⟨v, g, rfl, rfl, rfl, hR, hB⟩ := hcut
    obtain ⟨A5, c5, rfl, hl, hC⟩ := Kd.R_reads hR.out
    have HC5 := Lib.hid (And.intro hl hC)
    have HY := Lib.hid (HX.out.join hB.out)
    clear HX hR hB hl hC
    have HX := HY
    clear HY
    obtain ⟨W5, rfl⟩ : ∃ x, x = wc := ⟨_, rfl⟩
    go_upto_region 8 with fail
    go_cut [10, 11] (fun u10 u11 wc => ∃ h : Nat, u10 = .pointer (some ⟨h, 0, none⟩) ∧ u11 = .int .i64 0 ∧ Aside0 (Bxs W5 [(h, #[.int .i64 d1, .int .i64 k1, .int .i64 p1, .int .i64 n1, .string t1], 33)] wc))
    case first =>
      have hA0 := XAmb_step hT HX.out.below
      have l1 : g < W5.heap.size := HX.out.lt (x := (g, #[.int .i64 q1, .int .i64 q2, .int .i64 q3], 29)) (by simp)
      have l2 : w.heap.size + 1 < W5.heap.size := HX.out.lt (x := ((w.heap.size + 1), #[.int .i64 s2, .int .i64 k2, .int .i64 p2, .int .i64 n2, .string t2], 23)) (by simp)
      have c1_0 : W5.cell? ⟨(w.heap.size + 1), 0, none⟩ = some (.int .i64 s2) := (HX.out.cell 1 rfl 0).trans rfl
      have c1_1 : W5.cell? ⟨(w.heap.size + 1), 1, none⟩ = some (.int .i64 k2) := (HX.out.cell 1 rfl 1).trans rfl
      have c1_2 : W5.cell? ⟨(w.heap.size + 1), 2, none⟩ = some (.int .i64 p2) := (HX.out.cell 1 rfl 2).trans rfl
      have c1_3 : W5.cell? ⟨(w.heap.size + 1), 3, none⟩ = some (.int .i64 n2) := (HX.out.cell 1 rfl 3).trans rfl
      have c1_4 : W5.cell? ⟨(w.heap.size + 1), 4, none⟩ = some (.string t2) := (HX.out.cell 1 rfl 4).trans rfl
      have cq0_0 : W5.cell? ⟨g, 0, none⟩ = some (.int .i64 q1) := (HX.out.cell 0 rfl 0).trans rfl
      have cq0_1 : W5.cell? ⟨g, 1, none⟩ = some (.int .i64 q2) := (HX.out.cell 0 rfl 1).trans rfl
      have cq0_2 : W5.cell? ⟨g, 2, none⟩ = some (.int .i64 q3) := (HX.out.cell 0 rfl 2).trans rfl
      have vc1_0 := World.new_ne W5 _ c1_0
      have vc1_1 := World.new_ne W5 _ c1_1
      have vc1_2 := World.new_ne W5 _ c1_2
      have vc1_3 := World.new_ne W5 _ c1_3
      have vc1_4 := World.new_ne W5 _ c1_4
      have vcq0_0 := World.new_ne W5 _ cq0_0
      have vcq0_1 := World.new_ne W5 _ cq0_1
      have vcq0_2 := World.new_ne W5 _ cq0_2
      go_region_held3 (fun w' => w'.cell? ⟨(w.heap.size + 1), 0, none⟩ = some (.int .i64 s2) ∧ w'.cell? ⟨(w.heap.size + 1), 1, none⟩ = some (.int .i64 k2) ∧ w'.cell? ⟨(w.heap.size + 1), 2, none⟩ = some (.int .i64 p2) ∧ w'.cell? ⟨(w.heap.size + 1), 3, none⟩ = some (.int .i64 n2) ∧ w'.cell? ⟨(w.heap.size + 1), 4, none⟩ = some (.string t2) ∧ w'.cell? ⟨g, 0, none⟩ = some (.int .i64 q1) ∧ w'.cell? ⟨g, 1, none⟩ = some (.int .i64 q2) ∧ w'.cell? ⟨g, 2, none⟩ = some (.int .i64 q3)) (go_keep) ((first | (go_at_call 11; refine (one_calls _ _ _ _ _ _).mono ?_; rintro e w9 ⟨rfl, hb⟩; (try clear hd_ hf_); have hE : Below W5.heap.size W5 w9 := below_step (by repeat (first | assumption | exact Below.refl _ _ | apply below_drew1 | apply pw_below_drewN | apply below_alloc)) hb; have hS := hE.size; obtain ⟨hn1, hn2⟩ := World.new_at hS l1; obtain ⟨hn3, hn4⟩ := World.new_at hS l2; have hTn : Aside0 (XAmb w9) := XAmb_step (by repeat (first | assumption | apply amb_drew | apply amb_alloc)) hb; (first | (have hG := blk_below (blk_new _ _) hb; have hg0 := (blk_cell hG 0).trans rfl; have hg1 := (blk_cell hG 1).trans rfl; have hg2 := (blk_cell hG 2).trans rfl; have hg3 := (blk_cell hG 3).trans rfl; have hg4 := (blk_cell hG 4).trans rfl; have hh0 := blk_frozen hG 0; have hh1 := blk_frozen hG 1; have hh2 := blk_frozen hG 2; have hh3 := blk_frozen hG 3; have hh4 := blk_frozen hG 4) | (have hG := blk_below (blk_drew (blk_new _ _)) hb; have hg0 := (blk_cell hG 0).trans rfl; have hg1 := (blk_cell hG 1).trans rfl; have hg2 := (blk_cell hG 2).trans rfl; have hg3 := (blk_cell hG 3).trans rfl; have hg4 := (blk_cell hG 4).trans rfl; have hh0 := blk_frozen hG 0; have hh1 := blk_frozen hG 1; have hh2 := blk_frozen hG 2; have hh3 := blk_frozen hG 3; have hh4 := blk_frozen hG 4) | (have hG2 := blk_below hG hb; clear hG hg0 hg1 hg2 hg3 hg4 hh0 hh1 hh2 hh3 hh4; have hG := hG2; clear hG2; have hg0 := (blk_cell hG 0).trans rfl; have hg1 := (blk_cell hG 1).trans rfl; have hg2 := (blk_cell hG 2).trans rfl; have hg3 := (blk_cell hG 3).trans rfl; have hg4 := (blk_cell hG 4).trans rfl; have hh0 := blk_frozen hG 0; have hh1 := blk_frozen hG 1; have hh2 := blk_frozen hG 2; have hh3 := blk_frozen hG 3; have hh4 := blk_frozen hG 4) | skip); obtain ⟨hd_, hf_⟩ := bcell hE) | (go_at_call 17; refine (plain_Excl.calls k _ _ ([] : List S33) q1 q2 q3 s2 k2 p2 n2 t2 n d1 k1 p1 n1 t1 0 _ (by repeat (first | assumption | apply amb_drew | apply amb_alloc)) (Kd.C_below HC5.out.2 (by repeat (first | assumption | exact Below.refl _ _ | apply below_drew1 | apply pw_below_drewN | apply below_alloc))) HC5.out.1 HEX.out).mono ?_; rintro e w9 ⟨rfl, hb⟩; (try clear hd_ hf_); have hE : Below W5.heap.size W5 w9 := below_step (by repeat (first | assumption | exact Below.refl _ _ | apply below_drew1 | apply pw_below_drewN | apply below_alloc)) hb; have hS := hE.size; obtain ⟨hn1, hn2⟩ := World.new_at hS l1; obtain ⟨hn3, hn4⟩ := World.new_at hS l2; have hTn : Aside0 (XAmb w9) := XAmb_step (by repeat (first | assumption | apply amb_drew | apply amb_alloc)) hb; (first | (have hG := blk_below (blk_new _ _) hb; have hg0 := (blk_cell hG 0).trans rfl; have hg1 := (blk_cell hG 1).trans rfl; have hg2 := (blk_cell hG 2).trans rfl; have hg3 := (blk_cell hG 3).trans rfl; have hg4 := (blk_cell hG 4).trans rfl; have hh0 := blk_frozen hG 0; have hh1 := blk_frozen hG 1; have hh2 := blk_frozen hG 2; have hh3 := blk_frozen hG 3; have hh4 := blk_frozen hG 4) | (have hG := blk_below (blk_drew (blk_new _ _)) hb; have hg0 := (blk_cell hG 0).trans rfl; have hg1 := (blk_cell hG 1).trans rfl; have hg2 := (blk_cell hG 2).trans rfl; have hg3 := (blk_cell hG 3).trans rfl; have hg4 := (blk_cell hG 4).trans rfl; have hh0 := blk_frozen hG 0; have hh1 := blk_frozen hG 1; have hh2 := blk_frozen hG 2; have hh3 := blk_frozen hG 3; have hh4 := blk_frozen hG 4) | (have hG2 := blk_below hG hb; clear hG hg0 hg1 hg2 hg3 hg4 hh0 hh1 hh2 hh3 hh4; have hG := hG2; clear hG2; have hg0 := (blk_cell hG 0).trans rfl; have hg1 := (blk_cell hG 1).trans rfl; have hg2 := (blk_cell hG 2).trans rfl; have hg3 := (blk_cell hG 3).trans rfl; have hg4 := (blk_cell hG 4).trans rfl; have hh0 := blk_frozen hG 0; have hh1 := blk_frozen hG 1; have hh2 := blk_frozen hG 2; have hh3 := blk_frozen hG 3; have hh4 := blk_frozen hG 4) | skip); obtain ⟨hd_, hf_⟩ := bcell hE)))
      all_goals
        go_wp2
        go_meet
        case rel => first
          | exact ⟨_, rfl, rfl, ⟨Bxs.made hE _ _⟩⟩
          | exact ⟨_, rfl, rfl, ⟨((((((Bxs.one hE (by first | assumption | exact Nat.le_refl _) hG).put 0 rfl 0 (.int .i64 d1)).put 0 rfl 1 (.int .i64 k1)).put 0 rfl 2 (.int .i64 p1)).put 0 rfl 3 (.int .i64 n1)).put 0 rfl 4 (.string t1))⟩⟩
    case rest =>
      obtain ⟨h, rfl, rfl, hB⟩ := hcut
      have HY := Lib.hid (HX.out.join hB.out)
      clear HX hB
      have HX := HY
      clear HY
      obtain ⟨W6, rfl⟩ : ∃ x, x = wc := ⟨_, rfl⟩
      have cz0_0 : W6.cell? ⟨h, 0, none⟩ = some (.int .i64 d1) := (HX.out.cell 0 rfl 0).trans rfl
      have fz0_0 : W6.frozen? ⟨h, 0, none⟩ = false := HX.out.free 0 rfl 0
      have cy3_0 : W6.cell? ⟨w.heap.size, 0, none⟩ = some (.int .i64 s1) := (HX.out.cell 3 rfl 0).trans rfl
      go_upto_region 11 with fail
      have HY := Lib.hid (HX.out.put 0 rfl 0 (.int .i64 s1))
      clear HX
      obtain ⟨W7, hW7⟩ : ∃ x, W6.setCell ⟨h, 0, none⟩ (.int .i64 s1) = x := ⟨_, rfl⟩
      have HX : Hid (Bxs w [(h, #[.int .i64 s1, .int .i64 k1, .int .i64 p1, .int .i64 n1, .string t1], 33), (g, #[.int .i64 q1, .int .i64 q2, .int .i64 q3], 29), ((w.heap.size + 1), #[.int .i64 s2, .int .i64 k2, .int .i64 p2, .int .i64 n2, .string t2], 23), (w.heap.size, #[.int .i64 s1, .int .i64 k1, .int .i64 p1, .int .i64 n1, .string t1], 23)] W7) := hW7 ▸ HY
      rw [hW7]
      clear HY hW7
      clear cz0_0 fz0_0 cy3_0
      have l1 : h < W7.heap.size := HX.out.lt (x := (h, #[.int .i64 s1, .int .i64 k1, .int .i64 p1, .int .i64 n1, .string t1], 33)) (by simp)
      have l2 : w.heap.size < W7.heap.size := HX.out.lt (x := (w.heap.size, #[.int .i64 s1, .int .i64 k1, .int .i64 p1, .int .i64 n1, .string t1], 23)) (by simp)
      have cd0_0 : W7.cell? ⟨h, 0, none⟩ = some (.int .i64 s1) := (HX.out.cell 0 rfl 0).trans rfl
      have cd0_1 : W7.cell? ⟨h, 1, none⟩ = some (.int .i64 k1) := (HX.out.cell 0 rfl 1).trans rfl
      have cd0_2 : W7.cell? ⟨h, 2, none⟩ = some (.int .i64 p1) := (HX.out.cell 0 rfl 2).trans rfl
      have cd0_3 : W7.cell? ⟨h, 3, none⟩ = some (.int .i64 n1) := (HX.out.cell 0 rfl 3).trans rfl
      have cd0_4 : W7.cell? ⟨h, 4, none⟩ = some (.string t1) := (HX.out.cell 0 rfl 4).trans rfl
      have c3_0 : W7.cell? ⟨w.heap.size, 0, none⟩ = some (.int .i64 s1) := (HX.out.cell 3 rfl 0).trans rfl
      have c3_1 : W7.cell? ⟨w.heap.size, 1, none⟩ = some (.int .i64 k1) := (HX.out.cell 3 rfl 1).trans rfl
      have c3_2 : W7.cell? ⟨w.heap.size, 2, none⟩ = some (.int .i64 p1) := (HX.out.cell 3 rfl 2).trans rfl
      have c3_3 : W7.cell? ⟨w.heap.size, 3, none⟩ = some (.int .i64 n1) := (HX.out.cell 3 rfl 3).trans rfl
      have c3_4 : W7.cell? ⟨w.heap.size, 4, none⟩ = some (.string t1) := (HX.out.cell 3 rfl 4).trans rfl
      go_upto_region 11 with fail
      go_region_held3 (fun w' => w'.cell? ⟨h, 0, none⟩ = some (.int .i64 s1) ∧ w'.cell? ⟨h, 1, none⟩ = some (.int .i64 k1) ∧ w'.cell? ⟨h, 2, none⟩ = some (.int .i64 p1) ∧ w'.cell? ⟨h, 3, none⟩ = some (.int .i64 n1) ∧ w'.cell? ⟨h, 4, none⟩ = some (.string t1) ∧ w'.cell? ⟨w.heap.size, 0, none⟩ = some (.int .i64 s1) ∧ w'.cell? ⟨w.heap.size, 1, none⟩ = some (.int .i64 k1) ∧ w'.cell? ⟨w.heap.size, 2, none⟩ = some (.int .i64 p1) ∧ w'.cell? ⟨w.heap.size, 3, none⟩ = some (.int .i64 n1) ∧ w'.cell? ⟨w.heap.size, 4, none⟩ = some (.string t1)) (go_keep) ((go_at_call 11; refine (one_calls _ _ _ _ _ _).mono ?_; rintro e w9 ⟨rfl, hb⟩; have hc_ := kcell hb; have hE := below_step (Below.refl W7.heap.size W7).drew hb; obtain ⟨hd_, hf_⟩ := bcell hE))
      have HZ := Lib.hid ((HX.out.drew.keep hb).below)
      go_wp2
      go_ret
      exact ⟨by simp, HZ.out⟩

end Go.Proofs.YtmkmpjkgpnahnaaDoor.X
