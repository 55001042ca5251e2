/-
  The walk of the law PlainPairs: it returns true (printed by wip/gen29p.py). Conditions: the two tables of unicode/utf8 as they are laid.
-/
import Derived.Test.YtmkmpjkgpnahnaaDoorAlive
import Derived.Test.YtmkmpjkgpnahnaaDoorRInclC
import Derived.Test.YtmkmpjkgpnahnaaDoorPx4
import Derived.Deep.DeepCutAuto
import Derived.Deep.CutBlock
import Derived.Deep.LoopGhost
namespace Go.Proofs.YtmkmpjkgpnahnaaDoor.X
open Go Go.RowKit Go.Shelf Go.Proofs.YtmkmpjkgpnahnaaDoorW.PrintWords Go.Proofs.YtmkmpjkgpnahnaaDoor.P
set_option linter.unusedVariables false
theorem one_calls (s k p n : Int) (t : ByteArray) (w : World) : Calls Tryd.prog 11 #[.agg #[.int .i64 s, .int .i64 k, .int .i64 p, .int .i64 n, .string t]] w fun e w' =>
    e = .returned (.agg #[.int .i64 s, .int .i64 k, .int .i64 p, .int .i64 n, .string t]) ∧ Below w.heap.size w w' := foolscaplaw29_one.calls s k p n t s k p n t w rfl
theorem World.new_at {W W' : World} {b : Nat} (h : W.heap.size ≤ W'.heap.size) (hl : b < W.heap.size) : b ≠ W'.heap.size ∧ W'.heap.size ≠ b := ⟨by omega, by omega⟩
theorem amb_drew {W : World} (h : Aside0 (XAmb W)) : Aside0 (XAmb W.drew) := XAmb_step h (Below.refl _ _).drew
theorem amb_alloc {W : World} (o : Obj) (h : Aside0 (XAmb W)) : Aside0 (XAmb (W.alloc o)) := XAmb_step h (below_alloc (Below.refl _ _) o)
theorem Bxs.join {W0 W W' : World} {l : List (Nat × Array Value × TypeId)} {x : Nat × Array Value × TypeId} (h : Bxs W0 l W) (h' : Bxs W [x] W') : Bxs W0 (x :: l) W' := by
  have hk := h.keep h'.below
  have hx := h'.lo x (List.mem_singleton.2 rfl)
  refine ⟨fun y hy => ?_, ?_, fun y hy => ?_, hk.below⟩
  · rcases List.mem_cons.1 hy with rfl | hy
    · exact h'.at_ _ (List.mem_singleton.2 rfl)
    · exact hk.at_ y hy
  · simp only [List.map_cons, List.nodup_cons]
    refine ⟨fun hm => ?_, h.nd⟩
    obtain ⟨y, hy, he⟩ := List.mem_map.1 hm
    have := h.lt hy
    omega
  · rcases List.mem_cons.1 hy with rfl | hy
    · exact Nat.le_trans h.below.size hx
    · exact h.lo y hy
theorem Bxs.made {W W' : World} (h : Below W.heap.size W W') (cs : Array Value) (t : TypeId) : Bxs W [(W'.heap.size, cs, t)] (W'.alloc (.cells cs t (0, 0))) :=
  ⟨fun y hy => by rw [List.mem_singleton.1 hy]; exact blk_new W' _, by simp, fun y hy => by rw [List.mem_singleton.1 hy]; exact h.size, below_alloc h _⟩
theorem Bxs.one {W W' : World} {g : Nat} {cs : Array Value} {t : TypeId} (h : Below W.heap.size W W') (hg : W.heap.size ≤ g) (hb : W'.heap[g]? = some (.cells cs t (0, 0))) : Bxs W [(g, cs, t)] W' :=
  ⟨fun y hy => by rw [List.mem_singleton.1 hy]; exact hb, by simp, fun y hy => by rw [List.mem_singleton.1 hy]; exact hg, h⟩
theorem same_l0 (l : List S23) (hl : l.length ≤ 1000) : ∀ (f k i : Nat), l.length = i + f → foolscapref29_Same.l0 (k + f + 1) l l (i : Int) = some true := by
  intro f
  induction f with
  | zero =>
    intro k i hi
    simp only [foolscapref29_Same.l0]
    rw [if_neg (by omega)]
  | succ f ih =>
    intro k i hi
    rw [show k + (f + 1) + 1 = (k + f + 1) + 1 by omega]
    rw [foolscapref29_Same.l0, if_pos (by omega), if_pos (by omega), if_pos (by omega)]
    simp only [beq_self_eq_true, Bool.not_true, Bool.or_false]
    rw [if_neg (by decide), show wrap64 ((i : Int) + 1) = ((i + 1 : Nat) : Int) by unfold wrap64; omega, ih k (i + 1) (by omega)]
theorem same_ev (l : List S23) (hl : l.length ≤ 1000) : Ev (fun k => foolscapref29_Same.f k l l) true := by
  refine ⟨l.length + 2, fun k hk => ?_⟩
  show (if (l.length : Int) = (l.length : Int) then foolscapref29_Same.l0 k l l 0 else some false) = some true
  rw [if_pos rfl]
  have := same_l0 l hl l.length (k - l.length - 1) 0 (by omega)
  rw [show k - l.length - 1 + l.length + 1 = k by omega] at this
  simpa using this

set_option maxRecDepth 100000 in
set_option maxHeartbeats 8000000 in
theorem pairs_great (k : Nat) (s1 k1 p1 n1 : Int) (t1 : ByteArray) (s2 k2 p2 n2 : Int) (t2 : ByteArray) (n : Int) (w : World) (hT : Aside0 (XAmb w)) (L2 : List S23) (hL2 : [(⟨s1, k1, p1, n1, t1⟩ : S23), ⟨s2, k2, p2, n2, t2⟩] = L2) (hg : foolscaplaw29_great.f k ⟨#[]⟩ L2 = some true) :
    Calls Tryd.prog 3 #[.agg #[.int .i64 s1, .int .i64 k1, .int .i64 p1, .int .i64 n1, .string t1], .agg #[.int .i64 s2, .int .i64 k2, .int .i64 p2, .int .i64 n2, .string t2], .int .i64 n] w fun e w' => e = .returned (.bool true) ∧ Below w.heap.size w w' := by
  have HG := Lib.hid hg
  clear hg
  have HL2 := Lib.hid hL2
  clear hL2
  have HB0 := Lib.hid (((Bxs.start w).new #[.int .i64 s1, .int .i64 k1, .int .i64 p1, .int .i64 n1, .string t1] 23).new #[.int .i64 s2, .int .i64 k2, .int .i64 p2, .int .i64 n2, .string t2] 23)
  have hu23 := Tryd.underlying23
  have hu33 := Tryd.underlying33
  have hu29 := Tryd.underlying29
  go_enter Tryd.func3, Tryd.ntmps3
  go_upto_region 1 with fail
  obtain ⟨W1, hW1⟩ : ∃ x, (w.alloc (.cells #[.int .i64 s1, .int .i64 k1, .int .i64 p1, .int .i64 n1, .string t1] 23)).alloc (.cells #[.int .i64 s2, .int .i64 k2, .int .i64 p2, .int .i64 n2, .string t2] 23) = x := ⟨_, rfl⟩
  have HX : Hid (Bxs w [((w.heap.size + 1), #[.int .i64 s2, .int .i64 k2, .int .i64 p2, .int .i64 n2, .string t2], 23), (w.heap.size, #[.int .i64 s1, .int .i64 k1, .int .i64 p1, .int .i64 n1, .string t1], 23)] W1) := by
    rw [← hW1]
    simpa [Hid] using HB0.out
  rw [hW1]
  clear hW1 HB0
  go_wp2_with fail
  refine (foolscaplaw29_alive.calls true _ (XAmb_step hT HX.out.below) rfl).mono ?_
  rintro e W2 ⟨rfl, hb⟩
  have HY := Lib.hid (HX.out.keep hb)
  clear HX
  have HX := HY
  clear HY hb
  have c1_0 : W2.cell? ⟨w.heap.size, 0, none⟩ = some (.int .i64 s1) := (HX.out.cell 1 rfl 0).trans rfl
  have c1_1 : W2.cell? ⟨w.heap.size, 1, none⟩ = some (.int .i64 k1) := (HX.out.cell 1 rfl 1).trans rfl
  have c1_2 : W2.cell? ⟨w.heap.size, 2, none⟩ = some (.int .i64 p1) := (HX.out.cell 1 rfl 2).trans rfl
  have c1_3 : W2.cell? ⟨w.heap.size, 3, none⟩ = some (.int .i64 n1) := (HX.out.cell 1 rfl 3).trans rfl
  have c1_4 : W2.cell? ⟨w.heap.size, 4, none⟩ = some (.string t1) := (HX.out.cell 1 rfl 4).trans rfl
  have c0_0 : W2.cell? ⟨(w.heap.size + 1), 0, none⟩ = some (.int .i64 s2) := (HX.out.cell 0 rfl 0).trans rfl
  have c0_1 : W2.cell? ⟨(w.heap.size + 1), 1, none⟩ = some (.int .i64 k2) := (HX.out.cell 0 rfl 1).trans rfl
  have c0_2 : W2.cell? ⟨(w.heap.size + 1), 2, none⟩ = some (.int .i64 p2) := (HX.out.cell 0 rfl 2).trans rfl
  have c0_3 : W2.cell? ⟨(w.heap.size + 1), 3, none⟩ = some (.int .i64 n2) := (HX.out.cell 0 rfl 3).trans rfl
  have c0_4 : W2.cell? ⟨(w.heap.size + 1), 4, none⟩ = some (.string t2) := (HX.out.cell 0 rfl 4).trans rfl
  go_wp2_with ((with_reducible refine gate_dst (N := 17) rfl ?_); refine Kd.R_lit k23 _ 23 ?hg (N := 17) ?hd (xs := [(⟨s1, k1, p1, n1, t1⟩ : S23), (⟨s2, k2, p2, n2, t2⟩ : S23)]) (inner := [.int .i64 s1, .int .i64 k1, .int .i64 p1, .int .i64 n1, .string t1, .int .i64 s2, .int .i64 k2, .int .i64 p2, .int .i64 n2, .string t2]) (ok := fun _ => True) (okp := fun _ => True) ?hr ?hp (fun _ hk => hk) trivial (Below.refl _ _) (Nat.le_refl _) (by simp) ?_; (case hd => rfl); (case hg => rfl); (case hr => first | (go_simp; done) | (go_simp; rfl)); (case hp => exact (Reps.c5 (k23_mkM _ _ _ (⟨s1, k1, p1, n1, t1⟩ : S23)) (Reps.c5 (k23_mkM _ _ _ (⟨s2, k2, p2, n2, t2⟩ : S23)) (Reps.none _ _)))); intro v9 W9 ho hb _ _; rw [HL2.out] at ho; obtain ⟨A9, c9, rfl, hl9, hC9⟩ := Kd.R_reads ho; have HC9 := Lib.hid (And.intro hl9 hC9); clear ho hl9 hC9; have HY := Lib.hid (HX.out.keep hb); clear HX; have HX := HY; clear HY hb)
  clear c1_0 c1_1 c1_2 c1_3 c1_4 c0_0 c0_1 c0_2 c0_3 c0_4
  refine (foolscaplaw29_great.calls k _ _ _ L2 true _ HC9.out.2 HC9.out.1 HG.out).mono ?_
  rintro e W3 ⟨rfl, hb⟩
  have hb := hb.below
  have HY := Lib.hid (HX.out.keep hb)
  clear HX
  have HX := HY
  clear HY hb
  clear HC9
  go_wp2
  go_ret
  exact ⟨rfl, HX.out.below⟩

set_option maxRecDepth 100000 in
set_option maxHeartbeats 8000000 in
theorem pairs_far (k : Nat) (s1 k1 p1 n1 : Int) (t1 : ByteArray) (s2 k2 p2 n2 : Int) (t2 : ByteArray) (n : Int) (w : World) (hT : Aside0 (XAmb w)) (L2 : List S23) (hL2 : [(⟨s1, k1, p1, n1, t1⟩ : S23), ⟨s2, k2, p2, n2, t2⟩] = L2) (hg : foolscaplaw29_great.f k ⟨#[]⟩ L2 = some false) (hn : 1000 < n) :
    Calls Tryd.prog 3 #[.agg #[.int .i64 s1, .int .i64 k1, .int .i64 p1, .int .i64 n1, .string t1], .agg #[.int .i64 s2, .int .i64 k2, .int .i64 p2, .int .i64 n2, .string t2], .int .i64 n] w fun e w' => e = .returned (.bool true) ∧ Below w.heap.size w w' := by
  have hn1 : n > 1000 := hn
  have HG := Lib.hid hg
  clear hg
  have HL2 := Lib.hid hL2
  clear hL2
  have HB0 := Lib.hid (((Bxs.start w).new #[.int .i64 s1, .int .i64 k1, .int .i64 p1, .int .i64 n1, .string t1] 23).new #[.int .i64 s2, .int .i64 k2, .int .i64 p2, .int .i64 n2, .string t2] 23)
  have hu23 := Tryd.underlying23
  have hu33 := Tryd.underlying33
  have hu29 := Tryd.underlying29
  go_enter Tryd.func3, Tryd.ntmps3
  go_upto_region 1 with fail
  obtain ⟨W1, hW1⟩ : ∃ x, (w.alloc (.cells #[.int .i64 s1, .int .i64 k1, .int .i64 p1, .int .i64 n1, .string t1] 23)).alloc (.cells #[.int .i64 s2, .int .i64 k2, .int .i64 p2, .int .i64 n2, .string t2] 23) = x := ⟨_, rfl⟩
  have HX : Hid (Bxs w [((w.heap.size + 1), #[.int .i64 s2, .int .i64 k2, .int .i64 p2, .int .i64 n2, .string t2], 23), (w.heap.size, #[.int .i64 s1, .int .i64 k1, .int .i64 p1, .int .i64 n1, .string t1], 23)] W1) := by
    rw [← hW1]
    simpa [Hid] using HB0.out
  rw [hW1]
  clear hW1 HB0
  go_wp2_with fail
  refine (foolscaplaw29_alive.calls true _ (XAmb_step hT HX.out.below) rfl).mono ?_
  rintro e W2 ⟨rfl, hb⟩
  have HY := Lib.hid (HX.out.keep hb)
  clear HX
  have HX := HY
  clear HY hb
  have c1_0 : W2.cell? ⟨w.heap.size, 0, none⟩ = some (.int .i64 s1) := (HX.out.cell 1 rfl 0).trans rfl
  have c1_1 : W2.cell? ⟨w.heap.size, 1, none⟩ = some (.int .i64 k1) := (HX.out.cell 1 rfl 1).trans rfl
  have c1_2 : W2.cell? ⟨w.heap.size, 2, none⟩ = some (.int .i64 p1) := (HX.out.cell 1 rfl 2).trans rfl
  have c1_3 : W2.cell? ⟨w.heap.size, 3, none⟩ = some (.int .i64 n1) := (HX.out.cell 1 rfl 3).trans rfl
  have c1_4 : W2.cell? ⟨w.heap.size, 4, none⟩ = some (.string t1) := (HX.out.cell 1 rfl 4).trans rfl
  have c0_0 : W2.cell? ⟨(w.heap.size + 1), 0, none⟩ = some (.int .i64 s2) := (HX.out.cell 0 rfl 0).trans rfl
  have c0_1 : W2.cell? ⟨(w.heap.size + 1), 1, none⟩ = some (.int .i64 k2) := (HX.out.cell 0 rfl 1).trans rfl
  have c0_2 : W2.cell? ⟨(w.heap.size + 1), 2, none⟩ = some (.int .i64 p2) := (HX.out.cell 0 rfl 2).trans rfl
  have c0_3 : W2.cell? ⟨(w.heap.size + 1), 3, none⟩ = some (.int .i64 n2) := (HX.out.cell 0 rfl 3).trans rfl
  have c0_4 : W2.cell? ⟨(w.heap.size + 1), 4, none⟩ = some (.string t2) := (HX.out.cell 0 rfl 4).trans rfl
  go_wp2_with ((with_reducible refine gate_dst (N := 17) rfl ?_); refine Kd.R_lit k23 _ 23 ?hg (N := 17) ?hd (xs := [(⟨s1, k1, p1, n1, t1⟩ : S23), (⟨s2, k2, p2, n2, t2⟩ : S23)]) (inner := [.int .i64 s1, .int .i64 k1, .int .i64 p1, .int .i64 n1, .string t1, .int .i64 s2, .int .i64 k2, .int .i64 p2, .int .i64 n2, .string t2]) (ok := fun _ => True) (okp := fun _ => True) ?hr ?hp (fun _ hk => hk) trivial (Below.refl _ _) (Nat.le_refl _) (by simp) ?_; (case hd => rfl); (case hg => rfl); (case hr => first | (go_simp; done) | (go_simp; rfl)); (case hp => exact (Reps.c5 (k23_mkM _ _ _ (⟨s1, k1, p1, n1, t1⟩ : S23)) (Reps.c5 (k23_mkM _ _ _ (⟨s2, k2, p2, n2, t2⟩ : S23)) (Reps.none _ _)))); intro v9 W9 ho hb _ _; rw [HL2.out] at ho; obtain ⟨A9, c9, rfl, hl9, hC9⟩ := Kd.R_reads ho; have HC9 := Lib.hid (And.intro hl9 hC9); clear ho hl9 hC9; have HY := Lib.hid (HX.out.keep hb); clear HX; have HX := HY; clear HY hb)
  clear c1_0 c1_1 c1_2 c1_3 c1_4 c0_0 c0_1 c0_2 c0_3 c0_4
  refine (foolscaplaw29_great.calls k _ _ _ L2 false _ HC9.out.2 HC9.out.1 HG.out).mono ?_
  rintro e W3 ⟨rfl, hb⟩
  have hb := hb.below
  have HY := Lib.hid (HX.out.keep hb)
  clear HX
  have HX := HY
  clear HY hb
  clear HC9
  go_wp2
  go_ret
  exact ⟨rfl, HX.out.below⟩

set_option maxRecDepth 100000 in
set_option maxHeartbeats 8000000 in
theorem pairs_rest (k : Nat) (s1 k1 p1 n1 : Int) (t1 : ByteArray) (s2 k2 p2 n2 : Int) (t2 : ByteArray) (n : Int) (w : World) (hT : Aside0 (XAmb w)) (L2 : List S23) (hL2 : [(⟨s1, k1, p1, n1, t1⟩ : S23), ⟨s2, k2, p2, n2, t2⟩] = L2) (hg : foolscaplaw29_great.f k ⟨#[]⟩ L2 = some false) (hn : ¬ 1000 < n) (L : List S33) (M : List S23) (q1 q2 q3 E : Int) (ha : plain_Incl.f s1 k1 p1 n1 t1 s2 k2 p2 n2 t2 n = some (L, q1, q2, q3, E)) (hr : ∀ w : World, Calls Tryd.prog 12 #[.agg #[.int .i64 s1, .int .i64 k1, .int .i64 p1, .int .i64 n1, .string t1], .agg #[.int .i64 s2, .int .i64 k2, .int .i64 p2, .int .i64 n2, .string t2], .int .i64 n] w fun e w' => ∃ v0_ : Value, e = .returned (.tuple #[v0_, .agg #[.int .i64 q1, .int .i64 q2, .int .i64 q3], .int .i64 E]) ∧ Kd.R k23 23 w' w.heap.size (fun _ => True) v0_ M ∧ Below w.heap.size w w') (pa : foolscaplaw29_Plain.f k L = some M) (sa : foolscapref29_Same.f k M M = some true) :
    Calls Tryd.prog 3 #[.agg #[.int .i64 s1, .int .i64 k1, .int .i64 p1, .int .i64 n1, .string t1], .agg #[.int .i64 s2, .int .i64 k2, .int .i64 p2, .int .i64 n2, .string t2], .int .i64 n] w fun e w' => e = .returned (.bool true) ∧ Below w.heap.size w w' := by
  have HI := Lib.hid ha
  have HR := Lib.hid hr
  have HP := Lib.hid pa
  have HS := Lib.hid sa
  clear ha hr pa sa
  have hu35 := Tryd.underlying35
  have HG := Lib.hid hg
  clear hg
  have HL2 := Lib.hid hL2
  clear hL2
  have HB0 := Lib.hid (((Bxs.start w).new #[.int .i64 s1, .int .i64 k1, .int .i64 p1, .int .i64 n1, .string t1] 23).new #[.int .i64 s2, .int .i64 k2, .int .i64 p2, .int .i64 n2, .string t2] 23)
  have hu23 := Tryd.underlying23
  have hu33 := Tryd.underlying33
  have hu29 := Tryd.underlying29
  go_enter Tryd.func3, Tryd.ntmps3
  go_upto_region 1 with fail
  obtain ⟨W1, hW1⟩ : ∃ x, (w.alloc (.cells #[.int .i64 s1, .int .i64 k1, .int .i64 p1, .int .i64 n1, .string t1] 23)).alloc (.cells #[.int .i64 s2, .int .i64 k2, .int .i64 p2, .int .i64 n2, .string t2] 23) = x := ⟨_, rfl⟩
  have HX : Hid (Bxs w [((w.heap.size + 1), #[.int .i64 s2, .int .i64 k2, .int .i64 p2, .int .i64 n2, .string t2], 23), (w.heap.size, #[.int .i64 s1, .int .i64 k1, .int .i64 p1, .int .i64 n1, .string t1], 23)] W1) := by
    rw [← hW1]
    simpa [Hid] using HB0.out
  rw [hW1]
  clear hW1 HB0
  go_wp2_with fail
  refine (foolscaplaw29_alive.calls true _ (XAmb_step hT HX.out.below) rfl).mono ?_
  rintro e W2 ⟨rfl, hb⟩
  have HY := Lib.hid (HX.out.keep hb)
  clear HX
  have HX := HY
  clear HY hb
  have c1_0 : W2.cell? ⟨w.heap.size, 0, none⟩ = some (.int .i64 s1) := (HX.out.cell 1 rfl 0).trans rfl
  have c1_1 : W2.cell? ⟨w.heap.size, 1, none⟩ = some (.int .i64 k1) := (HX.out.cell 1 rfl 1).trans rfl
  have c1_2 : W2.cell? ⟨w.heap.size, 2, none⟩ = some (.int .i64 p1) := (HX.out.cell 1 rfl 2).trans rfl
  have c1_3 : W2.cell? ⟨w.heap.size, 3, none⟩ = some (.int .i64 n1) := (HX.out.cell 1 rfl 3).trans rfl
  have c1_4 : W2.cell? ⟨w.heap.size, 4, none⟩ = some (.string t1) := (HX.out.cell 1 rfl 4).trans rfl
  have c0_0 : W2.cell? ⟨(w.heap.size + 1), 0, none⟩ = some (.int .i64 s2) := (HX.out.cell 0 rfl 0).trans rfl
  have c0_1 : W2.cell? ⟨(w.heap.size + 1), 1, none⟩ = some (.int .i64 k2) := (HX.out.cell 0 rfl 1).trans rfl
  have c0_2 : W2.cell? ⟨(w.heap.size + 1), 2, none⟩ = some (.int .i64 p2) := (HX.out.cell 0 rfl 2).trans rfl
  have c0_3 : W2.cell? ⟨(w.heap.size + 1), 3, none⟩ = some (.int .i64 n2) := (HX.out.cell 0 rfl 3).trans rfl
  have c0_4 : W2.cell? ⟨(w.heap.size + 1), 4, none⟩ = some (.string t2) := (HX.out.cell 0 rfl 4).trans rfl
  go_wp2_with ((with_reducible refine gate_dst (N := 17) rfl ?_); refine Kd.R_lit k23 _ 23 ?hg (N := 17) ?hd (xs := [(⟨s1, k1, p1, n1, t1⟩ : S23), (⟨s2, k2, p2, n2, t2⟩ : S23)]) (inner := [.int .i64 s1, .int .i64 k1, .int .i64 p1, .int .i64 n1, .string t1, .int .i64 s2, .int .i64 k2, .int .i64 p2, .int .i64 n2, .string t2]) (ok := fun _ => True) (okp := fun _ => True) ?hr ?hp (fun _ hk => hk) trivial (Below.refl _ _) (Nat.le_refl _) (by simp) ?_; (case hd => rfl); (case hg => rfl); (case hr => first | (go_simp; done) | (go_simp; rfl)); (case hp => exact (Reps.c5 (k23_mkM _ _ _ (⟨s1, k1, p1, n1, t1⟩ : S23)) (Reps.c5 (k23_mkM _ _ _ (⟨s2, k2, p2, n2, t2⟩ : S23)) (Reps.none _ _)))); intro v9 W9 ho hb _ _; rw [HL2.out] at ho; obtain ⟨A9, c9, rfl, hl9, hC9⟩ := Kd.R_reads ho; have HC9 := Lib.hid (And.intro hl9 hC9); clear ho hl9 hC9; have HY := Lib.hid (HX.out.keep hb); clear HX; have HX := HY; clear HY hb)
  clear c1_0 c1_1 c1_2 c1_3 c1_4 c0_0 c0_1 c0_2 c0_3 c0_4
  refine (foolscaplaw29_great.calls k _ _ _ L2 false _ HC9.out.2 HC9.out.1 HG.out).mono ?_
  rintro e W3 ⟨rfl, hb⟩
  have hb := hb.below
  have HY := Lib.hid (HX.out.keep hb)
  clear HX
  have HX := HY
  clear HY hb
  clear HC9
  go_upto_region 5 with fail
  go_cut [7, 8, 9] (fun u7 u8 u9 wc => ∃ (v : Value) (g : Nat), u7 = v ∧ u8 = .pointer (some ⟨g, 0, none⟩) ∧ u9 = .int .i64 E ∧ Aside0 (Kd.R k33 33 wc W3.heap.size (fun _ => True) v L) ∧ Aside0 (Bxs W3 [(g, #[.int .i64 q1, .int .i64 q2, .int .i64 q3], 29)] wc))
  case first =>
    have hA0 := XAmb_step hT HX.out.below
    have l1 : w.heap.size < W3.heap.size := HX.out.lt (x := (w.heap.size, #[.int .i64 s1, .int .i64 k1, .int .i64 p1, .int .i64 n1, .string t1], 23)) (by simp)
    have l2 : w.heap.size + 1 < W3.heap.size := HX.out.lt (x := ((w.heap.size + 1), #[.int .i64 s2, .int .i64 k2, .int .i64 p2, .int .i64 n2, .string t2], 23)) (by simp)
    have c1_0 : W3.cell? ⟨w.heap.size, 0, none⟩ = some (.int .i64 s1) := (HX.out.cell 1 rfl 0).trans rfl
    have c1_1 : W3.cell? ⟨w.heap.size, 1, none⟩ = some (.int .i64 k1) := (HX.out.cell 1 rfl 1).trans rfl
    have c1_2 : W3.cell? ⟨w.heap.size, 2, none⟩ = some (.int .i64 p1) := (HX.out.cell 1 rfl 2).trans rfl
    have c1_3 : W3.cell? ⟨w.heap.size, 3, none⟩ = some (.int .i64 n1) := (HX.out.cell 1 rfl 3).trans rfl
    have c1_4 : W3.cell? ⟨w.heap.size, 4, none⟩ = some (.string t1) := (HX.out.cell 1 rfl 4).trans rfl
    have c0_0 : W3.cell? ⟨(w.heap.size + 1), 0, none⟩ = some (.int .i64 s2) := (HX.out.cell 0 rfl 0).trans rfl
    have c0_1 : W3.cell? ⟨(w.heap.size + 1), 1, none⟩ = some (.int .i64 k2) := (HX.out.cell 0 rfl 1).trans rfl
    have c0_2 : W3.cell? ⟨(w.heap.size + 1), 2, none⟩ = some (.int .i64 p2) := (HX.out.cell 0 rfl 2).trans rfl
    have c0_3 : W3.cell? ⟨(w.heap.size + 1), 3, none⟩ = some (.int .i64 n2) := (HX.out.cell 0 rfl 3).trans rfl
    have c0_4 : W3.cell? ⟨(w.heap.size + 1), 4, none⟩ = some (.string t2) := (HX.out.cell 0 rfl 4).trans rfl
    have vc1_0 := World.new_ne W3 _ c1_0
    have vc1_1 := World.new_ne W3 _ c1_1
    have vc1_2 := World.new_ne W3 _ c1_2
    have vc1_3 := World.new_ne W3 _ c1_3
    have vc1_4 := World.new_ne W3 _ c1_4
    have vc0_0 := World.new_ne W3 _ c0_0
    have vc0_1 := World.new_ne W3 _ c0_1
    have vc0_2 := World.new_ne W3 _ c0_2
    have vc0_3 := World.new_ne W3 _ c0_3
    have vc0_4 := World.new_ne W3 _ c0_4
    go_region_held3 (fun w' => w'.cell? ⟨w.heap.size, 0, none⟩ = some (.int .i64 s1) ∧ w'.cell? ⟨w.heap.size, 1, none⟩ = some (.int .i64 k1) ∧ w'.cell? ⟨w.heap.size, 2, none⟩ = some (.int .i64 p1) ∧ w'.cell? ⟨w.heap.size, 3, none⟩ = some (.int .i64 n1) ∧ w'.cell? ⟨w.heap.size, 4, none⟩ = some (.string t1) ∧ w'.cell? ⟨(w.heap.size + 1), 0, none⟩ = some (.int .i64 s2) ∧ w'.cell? ⟨(w.heap.size + 1), 1, none⟩ = some (.int .i64 k2) ∧ w'.cell? ⟨(w.heap.size + 1), 2, none⟩ = some (.int .i64 p2) ∧ w'.cell? ⟨(w.heap.size + 1), 3, none⟩ = some (.int .i64 n2) ∧ w'.cell? ⟨(w.heap.size + 1), 4, none⟩ = some (.string t2)) (go_keep) ((first | (go_at_call 11; refine (one_calls _ _ _ _ _ _).mono ?_; rintro e w9 ⟨rfl, hb⟩; (try clear hd_ hf_); have hE : Below W3.heap.size W3 w9 := below_step (by repeat (first | assumption | exact Below.refl _ _ | apply below_drew1 | apply pw_below_drewN | apply below_alloc)) hb; have hS := hE.size; obtain ⟨hn1, hn2⟩ := World.new_at hS l1; obtain ⟨hn3, hn4⟩ := World.new_at hS l2; have hTn : Aside0 (XAmb w9) := XAmb_step (by repeat (first | assumption | apply amb_drew | apply amb_alloc)) hb; (first | (have hG := blk_below (blk_new _ _) hb; have hg0 := (blk_cell hG 0).trans rfl; have hg1 := (blk_cell hG 1).trans rfl; have hg2 := (blk_cell hG 2).trans rfl; have hh0 := blk_frozen hG 0; have hh1 := blk_frozen hG 1; have hh2 := blk_frozen hG 2) | (have hG := blk_below (blk_drew (blk_new _ _)) hb; have hg0 := (blk_cell hG 0).trans rfl; have hg1 := (blk_cell hG 1).trans rfl; have hg2 := (blk_cell hG 2).trans rfl; have hh0 := blk_frozen hG 0; have hh1 := blk_frozen hG 1; have hh2 := blk_frozen hG 2) | (have hG2 := blk_below hG hb; clear hG hg0 hg1 hg2 hh0 hh1 hh2; have hG := hG2; clear hG2; have hg0 := (blk_cell hG 0).trans rfl; have hg1 := (blk_cell hG 1).trans rfl; have hg2 := (blk_cell hG 2).trans rfl; have hh0 := blk_frozen hG 0; have hh1 := blk_frozen hG 1; have hh2 := blk_frozen hG 2) | skip); obtain ⟨hd_, hf_⟩ := bcell hE) | (go_at_call 10; refine (plain_Incl.calls _ _ _ _ _ _ _ _ _ _ _ L q1 q2 q3 E _ (by repeat (first | assumption | apply amb_drew | apply amb_alloc)) HI.out).mono ?_; rintro e w9 ⟨v9, rfl, hR, hb⟩; (try clear hd_ hf_); have hE : Below W3.heap.size W3 w9 := below_step (by repeat (first | assumption | exact Below.refl _ _ | apply below_drew1 | apply pw_below_drewN | apply below_alloc)) hb; have hS := hE.size; obtain ⟨hn1, hn2⟩ := World.new_at hS l1; obtain ⟨hn3, hn4⟩ := World.new_at hS l2; have hTn : Aside0 (XAmb w9) := XAmb_step (by repeat (first | assumption | apply amb_drew | apply amb_alloc)) hb; (first | (have hG := blk_below (blk_new _ _) hb; have hg0 := (blk_cell hG 0).trans rfl; have hg1 := (blk_cell hG 1).trans rfl; have hg2 := (blk_cell hG 2).trans rfl; have hh0 := blk_frozen hG 0; have hh1 := blk_frozen hG 1; have hh2 := blk_frozen hG 2) | (have hG := blk_below (blk_drew (blk_new _ _)) hb; have hg0 := (blk_cell hG 0).trans rfl; have hg1 := (blk_cell hG 1).trans rfl; have hg2 := (blk_cell hG 2).trans rfl; have hh0 := blk_frozen hG 0; have hh1 := blk_frozen hG 1; have hh2 := blk_frozen hG 2) | (have hG2 := blk_below hG hb; clear hG hg0 hg1 hg2 hh0 hh1 hh2; have hG := hG2; clear hG2; have hg0 := (blk_cell hG 0).trans rfl; have hg1 := (blk_cell hG 1).trans rfl; have hg2 := (blk_cell hG 2).trans rfl; have hh0 := blk_frozen hG 0; have hh1 := blk_frozen hG 1; have hh2 := blk_frozen hG 2) | skip); obtain ⟨hd_, hf_⟩ := bcell hE)))
    all_goals
      go_wp2
      go_meet
      case rel => first
        | exact ⟨_, _, rfl, rfl, rfl, ⟨Kd.R_lower (Kd.R_alloc hR _) (by first | assumption | (simp; omega))⟩, ⟨Bxs.made hE _ _⟩⟩
        | exact ⟨_, _, rfl, rfl, rfl, ⟨R_three hR (by first | assumption | (simp; omega)) hG (by decide) _ _ _⟩, ⟨(((Bxs.one hE (by first | assumption | exact Nat.le_refl _) hG).put 0 rfl 0 (.int .i64 q1)).put 0 rfl 1 (.int .i64 q2)).put 0 rfl 2 (.int .i64 q3)⟩⟩
  case rest =>
    obtain ⟨v, g, rfl, rfl, rfl, hR, hB⟩ := hcut
    obtain ⟨A5, c5, rfl, hl, hC⟩ := Kd.R_reads hR.out
    have HC5 := Lib.hid (And.intro hl hC)
    have HY := Lib.hid (HX.out.join hB.out)
    clear HX hR hB hl hC
    have HX := HY
    clear HY
    obtain ⟨W5, rfl⟩ : ∃ x, x = wc := ⟨_, rfl⟩
    have c2_0 : W5.cell? ⟨w.heap.size, 0, none⟩ = some (.int .i64 s1) := (HX.out.cell 2 rfl 0).trans rfl
    have c2_1 : W5.cell? ⟨w.heap.size, 1, none⟩ = some (.int .i64 k1) := (HX.out.cell 2 rfl 1).trans rfl
    have c2_2 : W5.cell? ⟨w.heap.size, 2, none⟩ = some (.int .i64 p1) := (HX.out.cell 2 rfl 2).trans rfl
    have c2_3 : W5.cell? ⟨w.heap.size, 3, none⟩ = some (.int .i64 n1) := (HX.out.cell 2 rfl 3).trans rfl
    have c2_4 : W5.cell? ⟨w.heap.size, 4, none⟩ = some (.string t1) := (HX.out.cell 2 rfl 4).trans rfl
    have c1_0 : W5.cell? ⟨(w.heap.size + 1), 0, none⟩ = some (.int .i64 s2) := (HX.out.cell 1 rfl 0).trans rfl
    have c1_1 : W5.cell? ⟨(w.heap.size + 1), 1, none⟩ = some (.int .i64 k2) := (HX.out.cell 1 rfl 1).trans rfl
    have c1_2 : W5.cell? ⟨(w.heap.size + 1), 2, none⟩ = some (.int .i64 p2) := (HX.out.cell 1 rfl 2).trans rfl
    have c1_3 : W5.cell? ⟨(w.heap.size + 1), 3, none⟩ = some (.int .i64 n2) := (HX.out.cell 1 rfl 3).trans rfl
    have c1_4 : W5.cell? ⟨(w.heap.size + 1), 4, none⟩ = some (.string t2) := (HX.out.cell 1 rfl 4).trans rfl
    go_wp2_with fail
    refine (HR.out _).mono ?_
    rintro e W6 ⟨v6, rfl, hR, hb⟩
    obtain ⟨A6, c6, rfl, hl, hC⟩ := Kd.R_reads hR
    have HC6 := Lib.hid (And.intro hl hC)
    have HZ := Lib.hid (And.intro HC5.out.1 (Kd.C_below HC5.out.2 hb))
    clear HC5
    have HC5 := HZ
    clear HZ
    have HY := Lib.hid (HX.out.keep hb)
    clear HX
    have HX := HY
    clear HY hb
    clear hR hl hC c2_0 c2_1 c2_2 c2_3 c2_4 c1_0 c1_1 c1_2 c1_3 c1_4
    go_upto_region 7 with fail
    have HY := Lib.hid (HX.out.new #[.int .i64 q1, .int .i64 q2, .int .i64 q3] 35)
    have HZ5 := Lib.hid (And.intro HC5.out.1 (Kd.C_below HC5.out.2 (below_alloc (Below.refl W6.heap.size W6) (.cells #[.int .i64 q1, .int .i64 q2, .int .i64 q3] 35 (0, 0)))))
    have HZ6 := Lib.hid (And.intro HC6.out.1 (Kd.C_below HC6.out.2 (below_alloc (Below.refl W6.heap.size W6) (.cells #[.int .i64 q1, .int .i64 q2, .int .i64 q3] 35 (0, 0)))))
    obtain ⟨g7, hg7⟩ : ∃ x, W6.heap.size = x := ⟨_, rfl⟩
    obtain ⟨W7, hW7⟩ : ∃ x, W6.alloc (.cells #[.int .i64 q1, .int .i64 q2, .int .i64 q3] 35) = x := ⟨_, rfl⟩
    rw [hW7] at HY HZ5 HZ6 ⊢
    rw [hg7] at HY ⊢
    clear HX HC5 HC6 hW7 hg7
    have HX := HY
    have HC5 := HZ5
    have HC6 := HZ6
    clear HY HZ5 HZ6
    go_wp2_with fail
    refine (foolscaplaw29_Plain.calls k _ _ L M _ HC5.out.2 HC5.out.1 HP.out).mono ?_
    rintro e W8 ⟨v8, rfl, hR, hb⟩
    obtain ⟨A8, c8, rfl, hl, hC⟩ := Kd.R_reads hR
    have HC8 := Lib.hid (And.intro hl hC)
    have HZ := Lib.hid (And.intro HC6.out.1 (Kd.C_below HC6.out.2 hb))
    clear HC6 HC5
    have HC6 := HZ
    clear HZ
    have HY := Lib.hid (HX.out.keep hb)
    clear HX
    have HX := HY
    clear HY hb
    clear hR hl hC
    go_wp2_with fail
    refine (foolscapref29_Same.calls k _ _ M _ _ M true _ HC8.out.2 HC8.out.1 HC6.out.2 HC6.out.1 HS.out).mono ?_
    rintro e W9 ⟨rfl, hd⟩
    have hb := hd.below
    have HY := Lib.hid (HX.out.keep hb)
    clear HX
    have HX := HY
    clear HY hb
    clear HC6 HC8 hd
    have c1_0 : W9.cell? ⟨g, 0, none⟩ = some (.int .i64 q1) := (HX.out.cell 1 rfl 0).trans rfl
    have c1_1 : W9.cell? ⟨g, 1, none⟩ = some (.int .i64 q2) := (HX.out.cell 1 rfl 1).trans rfl
    have c1_2 : W9.cell? ⟨g, 2, none⟩ = some (.int .i64 q3) := (HX.out.cell 1 rfl 2).trans rfl
    have cz0_0 : W9.cell? ⟨g7, 0, none⟩ = some (.int .i64 q1) := (HX.out.cell 0 rfl 0).trans rfl
    have cz0_1 : W9.cell? ⟨g7, 1, none⟩ = some (.int .i64 q2) := (HX.out.cell 0 rfl 1).trans rfl
    have cz0_2 : W9.cell? ⟨g7, 2, none⟩ = some (.int .i64 q3) := (HX.out.cell 0 rfl 2).trans rfl
    go_wp2
    go_ret
    exact ⟨by simp, HX.out.below⟩

theorem inclP_len (s1 k1 p1 n1 : Int) (t1 : ByteArray) (s2 k2 p2 n2 : Int) (t2 : ByteArray) : (inclP s1 k1 p1 n1 t1 s2 k2 p2 n2 t2).1.length ≤ 2 := by
  unfold inclP
  repeat' split
  all_goals simp
/-- THE LAW PlainPairs RETURNS true. -/
theorem pairs_true (s1 k1 p1 n1 : Int) (t1 : ByteArray) (s2 k2 p2 n2 : Int) (t2 : ByteArray) (n : Int) (w : World) (hT : Aside0 (XAmb w)) :
    Calls Tryd.prog 3 #[.agg #[.int .i64 s1, .int .i64 k1, .int .i64 p1, .int .i64 n1, .string t1], .agg #[.int .i64 s2, .int .i64 k2, .int .i64 p2, .int .i64 n2, .string t2], .int .i64 n] w fun e w' => e = .returned (.bool true) ∧ Below w.heap.size w w' := by
  obtain ⟨K1, h1⟩ := great_ev ⟨#[]⟩ [(⟨s1, k1, p1, n1, t1⟩ : S23), ⟨s2, k2, p2, n2, t2⟩]
  cases hg : greatB ⟨#[]⟩ [(⟨s1, k1, p1, n1, t1⟩ : S23), ⟨s2, k2, p2, n2, t2⟩] with
  | true => exact pairs_great K1 s1 k1 p1 n1 t1 s2 k2 p2 n2 t2 n w hT _ rfl (by have := h1 K1 (Nat.le_refl _); rw [hg] at this; exact this)
  | false =>
    rw [hg] at h1
    by_cases hn : 1000 < n
    · exact pairs_far K1 s1 k1 p1 n1 t1 s2 k2 p2 n2 t2 n w hT _ rfl (h1 K1 (Nat.le_refl _)) hn
    · have hno : (s1 = s2 ∨ mayB s1 k1 p1 n1 t1 n = false ∨ mayB s2 k2 p2 n2 t2 n = false) → plain_Incl.f s1 k1 p1 n1 t1 s2 k2 p2 n2 t2 n = some ([], 0, 0, 0, 1) → Calls Tryd.prog 3 #[.agg #[.int .i64 s1, .int .i64 k1, .int .i64 p1, .int .i64 n1, .string t1], .agg #[.int .i64 s2, .int .i64 k2, .int .i64 p2, .int .i64 n2, .string t2], .int .i64 n] w fun e w' => e = .returned (.bool true) ∧ Below w.heap.size w w' := by
        intro hc hf
        obtain ⟨K2, h2⟩ := plain_ev [] (by simp)
        obtain ⟨K3, h3⟩ := same_ev [] (by simp)
        exact pairs_rest (K1 + K2 + K3) s1 k1 p1 n1 t1 s2 k2 p2 n2 t2 n w hT _ rfl (h1 _ (by omega)) hn [] [] 0 0 0 1 hf (fun W => rincl_not s1 k1 p1 n1 t1 s2 k2 p2 n2 t2 n W hc) (h2 _ (by omega)) (h3 _ (by omega))
      by_cases hs : s1 = s2
      · exact hno (.inl hs) (by unfold plain_Incl.f; rw [if_pos hs])
      · cases ha : mayB s1 k1 p1 n1 t1 n with
        | false => exact hno (.inr (.inl ha)) (by unfold plain_Incl.f; rw [if_neg hs, if_neg (by rw [ha]; decide)])
        | true =>
          cases hb : mayB s2 k2 p2 n2 t2 n with
          | false => exact hno (.inr (.inr hb)) (by unfold plain_Incl.f; rw [if_neg hs, if_pos ha, if_neg (by rw [hb]; decide)])
          | true =>
            obtain ⟨L, q1, q2, q3, hP⟩ : ∃ L q1 q2 q3, inclP s1 k1 p1 n1 t1 s2 k2 p2 n2 t2 = (L, q1, q2, q3) := ⟨_, _, _, _, rfl⟩
            have hl := inclP_len s1 k1 p1 n1 t1 s2 k2 p2 n2 t2
            have hR := pairs_eq (two_of ha hb)
            rw [hP] at hl hR
            simp only at hl hR
            obtain ⟨K2, h2⟩ := plain_ev L (by omega)
            obtain ⟨K3, h3⟩ := same_ev (L.map toR) (by rw [List.length_map]; omega)
            exact pairs_rest (K1 + K2 + K3) s1 k1 p1 n1 t1 s2 k2 p2 n2 t2 n w hT _ rfl (h1 _ (by omega)) hn L (L.map toR) q1 q2 q3 0 (by unfold plain_Incl.f; rw [if_neg hs, if_pos ha, if_pos hb, hP]) (fun W => rincl_yes s1 k1 p1 n1 t1 s2 k2 p2 n2 t2 n W hs ha hb _ q1 q2 q3 hR) (h2 _ (by omega)) (h3 _ (by omega))

end Go.Proofs.YtmkmpjkgpnahnaaDoor.X
