/-
 foolscapref29.Incl, walked by hand (printed by wip/gen29r.py). Conditions: none beyond what the numbers say.
-/
import Derived.Test.YtmkmpjkgpnahnaaDoorRInclP
import Derived.Test.YtmkmpjkgpnahnaaDoorRow29
import Derived.Deep.LoopGhost
import Derived.Deep.QuietTactic
import Derived.BigQuiet
import Derived.IntWalk
namespace Go.Proofs.YtmkmpjkgpnahnaaDoor.X
open Go Go.RowKit Go.Shelf Go.Proofs.YtmkmpjkgpnahnaaDoorW.PrintWords Go.Proofs.YtmkmpjkgpnahnaaDoor.P
set_option linter.unusedVariables false
theorem Bxs.keepB {W0 W W' : World} {l : List (Nat × Array Value × TypeId)} (h : Bxs W0 l W) {B : Nat} (hb : Below B W W') (hl : ∀ x, x ∈ l → x.1 < B) (h0 : W0.heap.size ≤ B) : Bxs W0 l W' :=
 ⟨fun x hx => (hb.block x.1 (hl x hx)).trans (h.at_ x hx), h.nd, h.lo, h.below.trans (hb.mono h0)⟩
theorem info_i64 : (Tryd.prog.info? 3).map (fun i => (i.zero, i.size, i.bytes)) = some (some (.int .i64 0), 1, 8) := by kernel_rfl
theorem info_s23 : (Tryd.prog.info? 23).map (fun i => (i.zero, i.size, i.bytes)) = some (some (.agg #[.int .i64 0, .int .i64 0, .int .i64 0, .int .i64 0, .string ⟨#[]⟩]), 5, 48) := by kernel_rfl
theorem below_none {w w' : World} (h : w.grownBy w' none) : Below w.heap.size w w' := ⟨h.os, h.tape, h.output, h.size, fun i hi => h.block i hi (by simp)⟩
/-- The cells of a row of ints. -/
theorem row_ints {W : World} {base : Nat} {ok : Nat → Prop} {A : Option Addr} {n c : Nat} {xs : List Int} (h : Kd.R (Kd.int .i64) 3 W base ok (.slice A n c) xs) (h0 : 0 < xs.length) : ∃ g, A = some ⟨g, 0, none⟩ ∧ ∀ j : Nat, j < xs.length → W.cell? ⟨g, j, none⟩ = some (.int .i64 (xs.getD j 0)) := by
 obtain ⟨hn, hc, hC⟩ := Kd.R_reads' h
 have hget : ∀ j : Nat, j < xs.length → ∃ ad, A = some ad ∧ W.cell? (ad.add j) = some (.int .i64 (xs.getD j 0)) := fun j hj => by
  obtain ⟨ad, cs, e, _, hK, hc⟩ := Kd.C_get hC 0 (j : Int) (by omega) (by omega)
  rw [Int.toNat_natCast] at hK hc
  have e1 : (Kd.int .i64).sz = 1 := rfl
  have h3 := hc 0 (.int .i64 (xs.getD j 0)) (by rw [show cs = [.int .i64 (xs.getD j 0)] from hK]; rfl)
  rw [e1, Nat.mul_one, Nat.add_zero] at h3
  exact ⟨ad, e, h3⟩
 obtain ⟨ad, e, _⟩ := hget 0 h0
 subst e
 obtain ⟨g, rfl⟩ := Kd.R_head h
 refine ⟨g, rfl, fun j hj => ?_⟩
 obtain ⟨ad, e, hc⟩ := hget j hj
 injection e with e
 subst e
 rw [add_head] at hc
 exact hc
theorem lost_bd {k2 p2 n2 p1 : Int} {m : Nat} {a b c : Int} (hm : m ≤ 20000) (h : lostR k2 p2 n2 p1 m = (a, b, c)) : 0 ≤ c ∧ c ≤ 20000 := by
 have : ∀ m, 0 ≤ (lostR k2 p2 n2 p1 m).2.2 ∧ (lostR k2 p2 n2 p1 m).2.2 ≤ (m : Int) := by
  intro m
  induction m with
  | zero => simp [lostR]
  | succ m ih =>
   simp only [lostR]
   split
   ·omega
   ·split <;> simp only <;> omega
 have := this m
 rw [h] at this
 simp only at this
 omega
theorem ats_bdk (k2 p2 n2 kk p1 : Int) (hp1 : 0 ≤ p1) (hp1' : p1 ≤ 20000) (hn : 0 ≤ n2) (hp2 : 0 ≤ p2) (hk : -1 ≤ kk) (hk' : kk ≤ 20000) (hkk : k2 = 1 → 0 ≤ kk) (m : Nat) (hm : m ≤ 20000) : ∀ x ∈ atsR k2 p2 n2 kk p1 m, 0 ≤ x ∧ x ≤ 60000 := by
 by_cases h : k2 = 1
 ·exact ats_bd k2 p2 n2 kk p1 hp1 hp1' hn hp2 (hkk h) hk' m hm
 ·have e : ∀ m, atsR k2 p2 n2 kk p1 m = atsR k2 p2 n2 0 p1 m := by
   intro m
   induction m with
   | zero => rfl
   | succ m ih => simp only [atsR, posR]; rw [ih, if_neg h, if_neg h]
  rw [e]
  exact ats_bd k2 p2 n2 0 p1 hp1 hp1' hn hp2 (by omega) (by omega) m hm
theorem row23_cc {W : World} {g i : Nat} {e : S23} (h : W.cell? ⟨g, i * 5, none⟩ = some (.int .i64 e.f0) ∧ W.cell? ⟨g, i * 5 + 1, none⟩ = some (.int .i64 e.f1) ∧ W.cell? ⟨g, i * 5 + 2, none⟩ = some (.int .i64 e.f2) ∧ W.cell? ⟨g, i * 5 + 3, none⟩ = some (.int .i64 e.f3) ∧ W.cell? ⟨g, i * 5 + 4, none⟩ = some (.string e.f4)) :
  ∀ (j : Nat) (u : Value), [Value.int .i64 e.f0, .int .i64 e.f1, .int .i64 e.f2, .int .i64 e.f3, .string e.f4][j]? = some u → W.cell? ⟨g, i * 5 + j, none⟩ = some u := by
 intro j u hj
 obtain ⟨h0, h1, h2, h3, h4⟩ := h
 match j, hj with
 | 0, hj => injection hj with hj; subst hj; exact h0
 | 1, hj => injection hj with hj; subst hj; exact h1
 | 2, hj => injection hj with hj; subst hj; exact h2
 | 3, hj => injection hj with hj; subst hj; exact h3
 | 4, hj => injection hj with hj; subst hj; exact h4
 | j + 5, hj => simp at hj
theorem vi {a b : Int} (h : a = b) : Value.int .i64 a = Value.int .i64 b := by rw [h]

set_option maxRecDepth 100000 in
set_option maxHeartbeats 8000000 in
theorem rincl_ii_far (k : Nat) (s1 p1 n1 : Int) (t1 : ByteArray) (s2 p2 n2 : Int) (t2 : ByteArray) (n : Int) (w : World) (kk : Int) (hk : foolscapref01_Len.f k t2 = some kk) (hs : ¬ s1 = s2) (ha : foolscapref29_May.f k s1 1 p1 n1 t1 n = some true) (hb : foolscapref29_May.f k s2 1 p2 n2 t2 n = some true) (b1 : 0 ≤ p1) (b2 : p1 ≤ 20000) (b3 : 0 ≤ n1) (b4 : n1 ≤ 20000) (b5 : 0 ≤ p2) (b6 : p2 ≤ 20000) (b7 : 0 ≤ n2) (b8 : n2 ≤ 20000) (b9 : -1 ≤ kk) (b10 : kk ≤ 20000) (hc : p2 < p1) :
  Calls Tryd.prog 12 #[.agg #[.int .i64 s1, .int .i64 1, .int .i64 p1, .int .i64 n1, .string t1], .agg #[.int .i64 s2, .int .i64 1, .int .i64 p2, .int .i64 n2, .string t2], .int .i64 n] w fun e w' => ∃ v0_ : Value, e = .returned (.tuple #[v0_, .agg #[.int .i64 0, .int .i64 0, .int .i64 0], .int .i64 0]) ∧ Kd.R k23 23 w' w.heap.size (fun _ => True) v0_ [(⟨s1, 1, p1 + kk, n1, t1⟩ : S23)] ∧ Below w.heap.size w w' := by
 have hq : (s1 == s2) = false := beq_eq_false_iff_ne.2 hs
 have HA := Lib.hid ha
 have HB := Lib.hid hb
 have HK := Lib.hid hk
 have HS := Lib.hid hs
 clear ha hb hs hk
 have HB0 := Lib.hid ((((Bxs.start w).new #[.int .i64 s1, .int .i64 1, .int .i64 p1, .int .i64 n1, .string t1] 23).new #[.int .i64 s2, .int .i64 1, .int .i64 p2, .int .i64 n2, .string t2] 23).new #[.int .i64 0, .int .i64 0, .int .i64 0] 35)
 have hu23 := Tryd.underlying23
 have hu35 := Tryd.underlying35
 go_enter Tryd.func12, Tryd.ntmps12
 go_upto_region 1 with fail
 obtain ⟨W1, hW1⟩ : ∃ x, ((w.alloc (.cells #[.int .i64 s1, .int .i64 1, .int .i64 p1, .int .i64 n1, .string t1] 23)).alloc (.cells #[.int .i64 s2, .int .i64 1, .int .i64 p2, .int .i64 n2, .string t2] 23)).alloc (.cells #[.int .i64 0, .int .i64 0, .int .i64 0] 35) = x := ⟨_, rfl⟩
 have HX : Hid (Bxs w [((w.heap.size + 1 + 1), #[.int .i64 0, .int .i64 0, .int .i64 0], 35), ((w.heap.size + 1), #[.int .i64 s2, .int .i64 1, .int .i64 p2, .int .i64 n2, .string t2], 23), (w.heap.size, #[.int .i64 s1, .int .i64 1, .int .i64 p1, .int .i64 n1, .string t1], 23)] W1) := by
  rw [← hW1]
  simpa [Hid] using HB0.out
 rw [hW1]
 clear hW1 HB0
 have c2_0 : W1.cell? ⟨w.heap.size, 0, none⟩ = some (.int .i64 s1) := (HX.out.cell 2 rfl 0).trans rfl
 have c2_1 : W1.cell? ⟨w.heap.size, 1, none⟩ = some (.int .i64 1) := (HX.out.cell 2 rfl 1).trans rfl
 have c2_2 : W1.cell? ⟨w.heap.size, 2, none⟩ = some (.int .i64 p1) := (HX.out.cell 2 rfl 2).trans rfl
 have c2_3 : W1.cell? ⟨w.heap.size, 3, none⟩ = some (.int .i64 n1) := (HX.out.cell 2 rfl 3).trans rfl
 have c2_4 : W1.cell? ⟨w.heap.size, 4, none⟩ = some (.string t1) := (HX.out.cell 2 rfl 4).trans rfl
 go_wp2_with fail
 refine (foolscapref29_May.calls k s1 1 p1 n1 t1 n true _ HA.out).mono ?_
 rintro e W2 ⟨rfl, hb⟩
 have HY := Lib.hid (HX.out.keep hb)
 clear HX
 have HX := HY
 clear HY hb
 clear c2_0 c2_1 c2_2 c2_3 c2_4
 have c1_0 : W2.cell? ⟨(w.heap.size + 1), 0, none⟩ = some (.int .i64 s2) := (HX.out.cell 1 rfl 0).trans rfl
 have c1_1 : W2.cell? ⟨(w.heap.size + 1), 1, none⟩ = some (.int .i64 1) := (HX.out.cell 1 rfl 1).trans rfl
 have c1_2 : W2.cell? ⟨(w.heap.size + 1), 2, none⟩ = some (.int .i64 p2) := (HX.out.cell 1 rfl 2).trans rfl
 have c1_3 : W2.cell? ⟨(w.heap.size + 1), 3, none⟩ = some (.int .i64 n2) := (HX.out.cell 1 rfl 3).trans rfl
 have c1_4 : W2.cell? ⟨(w.heap.size + 1), 4, none⟩ = some (.string t2) := (HX.out.cell 1 rfl 4).trans rfl
 go_wp2_with fail
 refine (foolscapref29_May.calls k s2 1 p2 n2 t2 n true _ HB.out).mono ?_
 rintro e W3 ⟨rfl, hb⟩
 have HY := Lib.hid (HX.out.keep hb)
 clear HX
 have HX := HY
 clear HY hb
 clear c1_0 c1_1 c1_2 c1_3 c1_4
 have cs2_0 : W3.cell? ⟨w.heap.size, 0, none⟩ = some (.int .i64 s1) := (HX.out.cell 2 rfl 0).trans rfl
 have cs1_0 : W3.cell? ⟨(w.heap.size + 1), 0, none⟩ = some (.int .i64 s2) := (HX.out.cell 1 rfl 0).trans rfl
 have c1_4 : W3.cell? ⟨(w.heap.size + 1), 4, none⟩ = some (.string t2) := (HX.out.cell 1 rfl 4).trans rfl
 go_wp2_with fail
 refine (foolscapref01_Len.calls k t2 kk _ HK.out).mono ?_
 rintro e W4 ⟨rfl, hb⟩
 have HY := Lib.hid (HX.out.keep hb)
 clear HX
 have HX := HY
 clear HY hb
 clear cs2_0 cs1_0 c1_4
 have c2_0 : W4.cell? ⟨w.heap.size, 0, none⟩ = some (.int .i64 s1) := (HX.out.cell 2 rfl 0).trans rfl
 have c2_1 : W4.cell? ⟨w.heap.size, 1, none⟩ = some (.int .i64 1) := (HX.out.cell 2 rfl 1).trans rfl
 have c2_2 : W4.cell? ⟨w.heap.size, 2, none⟩ = some (.int .i64 p1) := (HX.out.cell 2 rfl 2).trans rfl
 have c2_3 : W4.cell? ⟨w.heap.size, 3, none⟩ = some (.int .i64 n1) := (HX.out.cell 2 rfl 3).trans rfl
 have c2_4 : W4.cell? ⟨w.heap.size, 4, none⟩ = some (.string t1) := (HX.out.cell 2 rfl 4).trans rfl
 go_upto_region 6 with fail
 clear c2_0 c2_1 c2_2 c2_3 c2_4
 have hgd : w.heap.size + 1 + 1 < W4.heap.size := HX.out.lt (List.mem_cons_self ..)
 obtain ⟨W5, hW_⟩ : ∃ x, W4.alloc (.cells #[.int .i64 s1, .int .i64 1, .int .i64 p1, .int .i64 n1, .string t1] 23) = x := ⟨_, rfl⟩
 have HY := Lib.hid (HX.out.new #[.int .i64 s1, .int .i64 1, .int .i64 p1, .int .i64 n1, .string t1] 23)
 rw [hW_] at HY
 rw [hW_]
 clear HX
 have HX := HY
 clear HY hW_
 obtain ⟨gd, hgd_⟩ : ∃ x, W4.heap.size = x := ⟨_, rfl⟩
 rw [hgd_] at HX hgd ⊢
 clear hgd_
 have c3_0 : W5.cell? ⟨w.heap.size, 0, none⟩ = some (.int .i64 s1) := (HX.out.cell 3 rfl 0).trans rfl
 have c3_2 : W5.cell? ⟨w.heap.size, 2, none⟩ = some (.int .i64 p1) := (HX.out.cell 3 rfl 2).trans rfl
 have c2_0 : W5.cell? ⟨(w.heap.size + 1), 0, none⟩ = some (.int .i64 s2) := (HX.out.cell 2 rfl 0).trans rfl
 have c2_1 : W5.cell? ⟨(w.heap.size + 1), 1, none⟩ = some (.int .i64 1) := (HX.out.cell 2 rfl 1).trans rfl
 have c2_2 : W5.cell? ⟨(w.heap.size + 1), 2, none⟩ = some (.int .i64 p2) := (HX.out.cell 2 rfl 2).trans rfl
 go_upto_region 8 with fail
 have cd0_2 : W5.cell? ⟨gd, 2, none⟩ = some (.int .i64 p1) := (HX.out.cell 0 rfl 2).trans rfl
 have fd0_2 : W5.frozen? ⟨gd, 2, none⟩ = false := HX.out.free 0 rfl 2
 go_upto_region 9 with fail
 clear c3_0 c3_2 c2_0 c2_1 c2_2 cd0_2 fd0_2
 obtain ⟨W6, hW_⟩ : ∃ x, W5.setCell ⟨gd, 2, none⟩ (.int .i64 (p1 + kk)) = x := ⟨_, rfl⟩
 have HY := Lib.hid (HX.out.put 0 rfl 2 (.int .i64 (p1 + kk)))
 rw [hW_] at HY
 rw [hW_]
 clear HX
 have HX := HY
 clear HY hW_
 have cd0_0 : W6.cell? ⟨gd, 0, none⟩ = some (.int .i64 s1) := (HX.out.cell 0 rfl 0).trans rfl
 have cd0_1 : W6.cell? ⟨gd, 1, none⟩ = some (.int .i64 1) := (HX.out.cell 0 rfl 1).trans rfl
 have cd0_2 : W6.cell? ⟨gd, 2, none⟩ = some (.int .i64 (p1 + kk)) := (HX.out.cell 0 rfl 2).trans rfl
 have cd0_3 : W6.cell? ⟨gd, 3, none⟩ = some (.int .i64 n1) := (HX.out.cell 0 rfl 3).trans rfl
 have cd0_4 : W6.cell? ⟨gd, 4, none⟩ = some (.string t1) := (HX.out.cell 0 rfl 4).trans rfl
 go_wp2_with ((with_reducible refine gate_dst (N := 73) rfl ?_); refine Kd.R_lit k23 _ 23 ?hg (N := 73) ?hd (xs := [(⟨s1, 1, p1 + kk, n1, t1⟩ : S23)]) (inner := [.int .i64 s1, .int .i64 1, .int .i64 (p1 + kk), .int .i64 n1, .string t1]) (ok := fun _ => True) (okp := fun _ => True) ?hr ?hp (fun _ hk => hk) trivial (Below.refl _ _) (Nat.le_refl _) (by simp) ?_; (case hd => rfl); (case hg => rfl); (case hr => first | (go_simp; done) | (go_simp; rfl)); (case hp => exact (Reps.c5 (k23_mkM _ _ _ (⟨s1, 1, p1 + kk, n1, t1⟩ : S23)) (Reps.none _ _))); intro v9 W9 ho hb9 hg_ hnew_; clear hg_ hnew_; have HX0 := Lib.hid HX.out.below.size; have HY := Lib.hid (HX.out.keep hb9); clear HX; have HX := HY; clear HY; have HO := Lib.hid ho; clear ho hb9; have cz1_0 : W9.cell? ⟨(w.heap.size + 1 + 1), 0, none⟩ = some (.int .i64 0) := (HX.out.cell 1 rfl 0).trans rfl; have fz1_0 : W9.frozen? ⟨(w.heap.size + 1 + 1), 0, none⟩ = false := HX.out.free 1 rfl 0; have cz1_1 : W9.cell? ⟨(w.heap.size + 1 + 1), 1, none⟩ = some (.int .i64 0) := (HX.out.cell 1 rfl 1).trans rfl; have fz1_1 : W9.frozen? ⟨(w.heap.size + 1 + 1), 1, none⟩ = false := HX.out.free 1 rfl 1; have cz1_2 : W9.cell? ⟨(w.heap.size + 1 + 1), 2, none⟩ = some (.int .i64 0) := (HX.out.cell 1 rfl 2).trans rfl; have fz1_2 : W9.frozen? ⟨(w.heap.size + 1 + 1), 2, none⟩ = false := HX.out.free 1 rfl 2)
 have HR := Lib.hid (R_three HO.out HX0.out (HX.out.blk 1 rfl) (by decide) (.int .i64 0) (.int .i64 0) (.int .i64 0))
 obtain ⟨W10, hW_⟩ : ∃ x, (((W9.setCell ⟨w.heap.size + 1 + 1, 0, none⟩ (.int .i64 0)).setCell ⟨w.heap.size + 1 + 1, 1, none⟩ (.int .i64 0)).setCell ⟨w.heap.size + 1 + 1, 2, none⟩ (.int .i64 0)) = x := ⟨_, rfl⟩
 have HY := Lib.hid ((((HX.out.put 1 rfl 0 (.int .i64 0)).put 1 rfl 1 (.int .i64 0)).put 1 rfl 2 (.int .i64 0)))
 rw [hW_] at HY HR
 rw [hW_]
 clear HX
 have HX := HY
 clear HY hW_
 refine bodyPost_ret (results_list (rs := [.tmp 6, .cell 7 35, .tmp 8]) rfl (by simp) (.tmp (.cell (w.heap.size + 1 + 1) 35 #[.int .i64 0, .int .i64 0, .int .i64 0] (0, 0) _ rfl (HX.out.blk 1 rfl) hu35 rfl (by kernel_rfl) (.tmp .nil)))) rfl ?_
 exact ⟨_, rfl, HR.out, HX.out.below⟩

set_option maxRecDepth 100000 in
set_option maxHeartbeats 8000000 in
theorem rincl_ii_at (k : Nat) (s1 p1 n1 : Int) (t1 : ByteArray) (s2 p2 n2 : Int) (t2 : ByteArray) (n : Int) (w : World) (kk : Int) (hk : foolscapref01_Len.f k t2 = some kk) (hs : ¬ s1 = s2) (ha : foolscapref29_May.f k s1 1 p1 n1 t1 n = some true) (hb : foolscapref29_May.f k s2 1 p2 n2 t2 n = some true) (b1 : 0 ≤ p1) (b2 : p1 ≤ 20000) (b3 : 0 ≤ n1) (b4 : n1 ≤ 20000) (b5 : 0 ≤ p2) (b6 : p2 ≤ 20000) (b7 : 0 ≤ n2) (b8 : n2 ≤ 20000) (b9 : -1 ≤ kk) (b10 : kk ≤ 20000) (hc : p1 = p2) (hd : s2 < s1) :
  Calls Tryd.prog 12 #[.agg #[.int .i64 s1, .int .i64 1, .int .i64 p1, .int .i64 n1, .string t1], .agg #[.int .i64 s2, .int .i64 1, .int .i64 p2, .int .i64 n2, .string t2], .int .i64 n] w fun e w' => ∃ v0_ : Value, e = .returned (.tuple #[v0_, .agg #[.int .i64 0, .int .i64 0, .int .i64 0], .int .i64 0]) ∧ Kd.R k23 23 w' w.heap.size (fun _ => True) v0_ [(⟨s1, 1, p1 + kk, n1, t1⟩ : S23)] ∧ Below w.heap.size w w' := by
 have hcq : (p1 == p2) = true := beq_iff_eq.2 hc
 have hce : p1 ≤ p2 := by omega
 have HCC := Lib.hid hc
 clear hc
 have hq : (s1 == s2) = false := beq_eq_false_iff_ne.2 hs
 have HA := Lib.hid ha
 have HB := Lib.hid hb
 have HK := Lib.hid hk
 have HS := Lib.hid hs
 clear ha hb hs hk
 have HB0 := Lib.hid ((((Bxs.start w).new #[.int .i64 s1, .int .i64 1, .int .i64 p1, .int .i64 n1, .string t1] 23).new #[.int .i64 s2, .int .i64 1, .int .i64 p2, .int .i64 n2, .string t2] 23).new #[.int .i64 0, .int .i64 0, .int .i64 0] 35)
 have hu23 := Tryd.underlying23
 have hu35 := Tryd.underlying35
 go_enter Tryd.func12, Tryd.ntmps12
 go_upto_region 1 with fail
 obtain ⟨W1, hW1⟩ : ∃ x, ((w.alloc (.cells #[.int .i64 s1, .int .i64 1, .int .i64 p1, .int .i64 n1, .string t1] 23)).alloc (.cells #[.int .i64 s2, .int .i64 1, .int .i64 p2, .int .i64 n2, .string t2] 23)).alloc (.cells #[.int .i64 0, .int .i64 0, .int .i64 0] 35) = x := ⟨_, rfl⟩
 have HX : Hid (Bxs w [((w.heap.size + 1 + 1), #[.int .i64 0, .int .i64 0, .int .i64 0], 35), ((w.heap.size + 1), #[.int .i64 s2, .int .i64 1, .int .i64 p2, .int .i64 n2, .string t2], 23), (w.heap.size, #[.int .i64 s1, .int .i64 1, .int .i64 p1, .int .i64 n1, .string t1], 23)] W1) := by
  rw [← hW1]
  simpa [Hid] using HB0.out
 rw [hW1]
 clear hW1 HB0
 have c2_0 : W1.cell? ⟨w.heap.size, 0, none⟩ = some (.int .i64 s1) := (HX.out.cell 2 rfl 0).trans rfl
 have c2_1 : W1.cell? ⟨w.heap.size, 1, none⟩ = some (.int .i64 1) := (HX.out.cell 2 rfl 1).trans rfl
 have c2_2 : W1.cell? ⟨w.heap.size, 2, none⟩ = some (.int .i64 p1) := (HX.out.cell 2 rfl 2).trans rfl
 have c2_3 : W1.cell? ⟨w.heap.size, 3, none⟩ = some (.int .i64 n1) := (HX.out.cell 2 rfl 3).trans rfl
 have c2_4 : W1.cell? ⟨w.heap.size, 4, none⟩ = some (.string t1) := (HX.out.cell 2 rfl 4).trans rfl
 go_wp2_with fail
 refine (foolscapref29_May.calls k s1 1 p1 n1 t1 n true _ HA.out).mono ?_
 rintro e W2 ⟨rfl, hb⟩
 have HY := Lib.hid (HX.out.keep hb)
 clear HX
 have HX := HY
 clear HY hb
 clear c2_0 c2_1 c2_2 c2_3 c2_4
 have c1_0 : W2.cell? ⟨(w.heap.size + 1), 0, none⟩ = some (.int .i64 s2) := (HX.out.cell 1 rfl 0).trans rfl
 have c1_1 : W2.cell? ⟨(w.heap.size + 1), 1, none⟩ = some (.int .i64 1) := (HX.out.cell 1 rfl 1).trans rfl
 have c1_2 : W2.cell? ⟨(w.heap.size + 1), 2, none⟩ = some (.int .i64 p2) := (HX.out.cell 1 rfl 2).trans rfl
 have c1_3 : W2.cell? ⟨(w.heap.size + 1), 3, none⟩ = some (.int .i64 n2) := (HX.out.cell 1 rfl 3).trans rfl
 have c1_4 : W2.cell? ⟨(w.heap.size + 1), 4, none⟩ = some (.string t2) := (HX.out.cell 1 rfl 4).trans rfl
 go_wp2_with fail
 refine (foolscapref29_May.calls k s2 1 p2 n2 t2 n true _ HB.out).mono ?_
 rintro e W3 ⟨rfl, hb⟩
 have HY := Lib.hid (HX.out.keep hb)
 clear HX
 have HX := HY
 clear HY hb
 clear c1_0 c1_1 c1_2 c1_3 c1_4
 have cs2_0 : W3.cell? ⟨w.heap.size, 0, none⟩ = some (.int .i64 s1) := (HX.out.cell 2 rfl 0).trans rfl
 have cs1_0 : W3.cell? ⟨(w.heap.size + 1), 0, none⟩ = some (.int .i64 s2) := (HX.out.cell 1 rfl 0).trans rfl
 have c1_4 : W3.cell? ⟨(w.heap.size + 1), 4, none⟩ = some (.string t2) := (HX.out.cell 1 rfl 4).trans rfl
 go_wp2_with fail
 refine (foolscapref01_Len.calls k t2 kk _ HK.out).mono ?_
 rintro e W4 ⟨rfl, hb⟩
 have HY := Lib.hid (HX.out.keep hb)
 clear HX
 have HX := HY
 clear HY hb
 clear cs2_0 cs1_0 c1_4
 have c2_0 : W4.cell? ⟨w.heap.size, 0, none⟩ = some (.int .i64 s1) := (HX.out.cell 2 rfl 0).trans rfl
 have c2_1 : W4.cell? ⟨w.heap.size, 1, none⟩ = some (.int .i64 1) := (HX.out.cell 2 rfl 1).trans rfl
 have c2_2 : W4.cell? ⟨w.heap.size, 2, none⟩ = some (.int .i64 p1) := (HX.out.cell 2 rfl 2).trans rfl
 have c2_3 : W4.cell? ⟨w.heap.size, 3, none⟩ = some (.int .i64 n1) := (HX.out.cell 2 rfl 3).trans rfl
 have c2_4 : W4.cell? ⟨w.heap.size, 4, none⟩ = some (.string t1) := (HX.out.cell 2 rfl 4).trans rfl
 go_upto_region 6 with fail
 clear c2_0 c2_1 c2_2 c2_3 c2_4
 have hgd : w.heap.size + 1 + 1 < W4.heap.size := HX.out.lt (List.mem_cons_self ..)
 obtain ⟨W5, hW_⟩ : ∃ x, W4.alloc (.cells #[.int .i64 s1, .int .i64 1, .int .i64 p1, .int .i64 n1, .string t1] 23) = x := ⟨_, rfl⟩
 have HY := Lib.hid (HX.out.new #[.int .i64 s1, .int .i64 1, .int .i64 p1, .int .i64 n1, .string t1] 23)
 rw [hW_] at HY
 rw [hW_]
 clear HX
 have HX := HY
 clear HY hW_
 obtain ⟨gd, hgd_⟩ : ∃ x, W4.heap.size = x := ⟨_, rfl⟩
 rw [hgd_] at HX hgd ⊢
 clear hgd_
 have c3_0 : W5.cell? ⟨w.heap.size, 0, none⟩ = some (.int .i64 s1) := (HX.out.cell 3 rfl 0).trans rfl
 have c3_2 : W5.cell? ⟨w.heap.size, 2, none⟩ = some (.int .i64 p1) := (HX.out.cell 3 rfl 2).trans rfl
 have c2_0 : W5.cell? ⟨(w.heap.size + 1), 0, none⟩ = some (.int .i64 s2) := (HX.out.cell 2 rfl 0).trans rfl
 have c2_1 : W5.cell? ⟨(w.heap.size + 1), 1, none⟩ = some (.int .i64 1) := (HX.out.cell 2 rfl 1).trans rfl
 have c2_2 : W5.cell? ⟨(w.heap.size + 1), 2, none⟩ = some (.int .i64 p2) := (HX.out.cell 2 rfl 2).trans rfl
 go_upto_region 8 with fail
 have cd0_2 : W5.cell? ⟨gd, 2, none⟩ = some (.int .i64 p1) := (HX.out.cell 0 rfl 2).trans rfl
 have fd0_2 : W5.frozen? ⟨gd, 2, none⟩ = false := HX.out.free 0 rfl 2
 go_upto_region 9 with fail
 clear c3_0 c3_2 c2_0 c2_1 c2_2 cd0_2 fd0_2
 obtain ⟨W6, hW_⟩ : ∃ x, W5.setCell ⟨gd, 2, none⟩ (.int .i64 (p1 + kk)) = x := ⟨_, rfl⟩
 have HY := Lib.hid (HX.out.put 0 rfl 2 (.int .i64 (p1 + kk)))
 rw [hW_] at HY
 rw [hW_]
 clear HX
 have HX := HY
 clear HY hW_
 have cd0_0 : W6.cell? ⟨gd, 0, none⟩ = some (.int .i64 s1) := (HX.out.cell 0 rfl 0).trans rfl
 have cd0_1 : W6.cell? ⟨gd, 1, none⟩ = some (.int .i64 1) := (HX.out.cell 0 rfl 1).trans rfl
 have cd0_2 : W6.cell? ⟨gd, 2, none⟩ = some (.int .i64 (p1 + kk)) := (HX.out.cell 0 rfl 2).trans rfl
 have cd0_3 : W6.cell? ⟨gd, 3, none⟩ = some (.int .i64 n1) := (HX.out.cell 0 rfl 3).trans rfl
 have cd0_4 : W6.cell? ⟨gd, 4, none⟩ = some (.string t1) := (HX.out.cell 0 rfl 4).trans rfl
 go_wp2_with ((with_reducible refine gate_dst (N := 73) rfl ?_); refine Kd.R_lit k23 _ 23 ?hg (N := 73) ?hd (xs := [(⟨s1, 1, p1 + kk, n1, t1⟩ : S23)]) (inner := [.int .i64 s1, .int .i64 1, .int .i64 (p1 + kk), .int .i64 n1, .string t1]) (ok := fun _ => True) (okp := fun _ => True) ?hr ?hp (fun _ hk => hk) trivial (Below.refl _ _) (Nat.le_refl _) (by simp) ?_; (case hd => rfl); (case hg => rfl); (case hr => first | (go_simp; done) | (go_simp; rfl)); (case hp => exact (Reps.c5 (k23_mkM _ _ _ (⟨s1, 1, p1 + kk, n1, t1⟩ : S23)) (Reps.none _ _))); intro v9 W9 ho hb9 hg_ hnew_; clear hg_ hnew_; have HX0 := Lib.hid HX.out.below.size; have HY := Lib.hid (HX.out.keep hb9); clear HX; have HX := HY; clear HY; have HO := Lib.hid ho; clear ho hb9; have cz1_0 : W9.cell? ⟨(w.heap.size + 1 + 1), 0, none⟩ = some (.int .i64 0) := (HX.out.cell 1 rfl 0).trans rfl; have fz1_0 : W9.frozen? ⟨(w.heap.size + 1 + 1), 0, none⟩ = false := HX.out.free 1 rfl 0; have cz1_1 : W9.cell? ⟨(w.heap.size + 1 + 1), 1, none⟩ = some (.int .i64 0) := (HX.out.cell 1 rfl 1).trans rfl; have fz1_1 : W9.frozen? ⟨(w.heap.size + 1 + 1), 1, none⟩ = false := HX.out.free 1 rfl 1; have cz1_2 : W9.cell? ⟨(w.heap.size + 1 + 1), 2, none⟩ = some (.int .i64 0) := (HX.out.cell 1 rfl 2).trans rfl; have fz1_2 : W9.frozen? ⟨(w.heap.size + 1 + 1), 2, none⟩ = false := HX.out.free 1 rfl 2)
 have HR := Lib.hid (R_three HO.out HX0.out (HX.out.blk 1 rfl) (by decide) (.int .i64 0) (.int .i64 0) (.int .i64 0))
 obtain ⟨W10, hW_⟩ : ∃ x, (((W9.setCell ⟨w.heap.size + 1 + 1, 0, none⟩ (.int .i64 0)).setCell ⟨w.heap.size + 1 + 1, 1, none⟩ (.int .i64 0)).setCell ⟨w.heap.size + 1 + 1, 2, none⟩ (.int .i64 0)) = x := ⟨_, rfl⟩
 have HY := Lib.hid ((((HX.out.put 1 rfl 0 (.int .i64 0)).put 1 rfl 1 (.int .i64 0)).put 1 rfl 2 (.int .i64 0)))
 rw [hW_] at HY HR
 rw [hW_]
 clear HX
 have HX := HY
 clear HY hW_
 refine bodyPost_ret (results_list (rs := [.tmp 6, .cell 7 35, .tmp 8]) rfl (by simp) (.tmp (.cell (w.heap.size + 1 + 1) 35 #[.int .i64 0, .int .i64 0, .int .i64 0] (0, 0) _ rfl (HX.out.blk 1 rfl) hu35 rfl (by kernel_rfl) (.tmp .nil)))) rfl ?_
 exact ⟨_, rfl, HR.out, HX.out.below⟩

set_option maxRecDepth 100000 in
set_option maxHeartbeats 8000000 in
theorem rincl_ii_no (k : Nat) (s1 p1 n1 : Int) (t1 : ByteArray) (s2 p2 n2 : Int) (t2 : ByteArray) (n : Int) (w : World) (kk : Int) (hk : foolscapref01_Len.f k t2 = some kk) (hs : ¬ s1 = s2) (ha : foolscapref29_May.f k s1 1 p1 n1 t1 n = some true) (hb : foolscapref29_May.f k s2 1 p2 n2 t2 n = some true) (b1 : 0 ≤ p1) (b2 : p1 ≤ 20000) (b3 : 0 ≤ n1) (b4 : n1 ≤ 20000) (b5 : 0 ≤ p2) (b6 : p2 ≤ 20000) (b7 : 0 ≤ n2) (b8 : n2 ≤ 20000) (b9 : -1 ≤ kk) (b10 : kk ≤ 20000) (hc : ¬ (p2 < p1 ∨ p1 = p2 ∧ s2 < s1)) :
  Calls Tryd.prog 12 #[.agg #[.int .i64 s1, .int .i64 1, .int .i64 p1, .int .i64 n1, .string t1], .agg #[.int .i64 s2, .int .i64 1, .int .i64 p2, .int .i64 n2, .string t2], .int .i64 n] w fun e w' => ∃ v0_ : Value, e = .returned (.tuple #[v0_, .agg #[.int .i64 0, .int .i64 0, .int .i64 0], .int .i64 0]) ∧ Kd.R k23 23 w' w.heap.size (fun _ => True) v0_ [(⟨s1, 1, p1, n1, t1⟩ : S23)] ∧ Below w.heap.size w w' := by
 have hce : p1 ≤ p2 := by omega
 have HCC := Lib.hid hc
 clear hc
 have hq : (s1 == s2) = false := beq_eq_false_iff_ne.2 hs
 have HA := Lib.hid ha
 have HB := Lib.hid hb
 have HK := Lib.hid hk
 have HS := Lib.hid hs
 clear ha hb hs hk
 have HB0 := Lib.hid ((((Bxs.start w).new #[.int .i64 s1, .int .i64 1, .int .i64 p1, .int .i64 n1, .string t1] 23).new #[.int .i64 s2, .int .i64 1, .int .i64 p2, .int .i64 n2, .string t2] 23).new #[.int .i64 0, .int .i64 0, .int .i64 0] 35)
 have hu23 := Tryd.underlying23
 have hu35 := Tryd.underlying35
 go_enter Tryd.func12, Tryd.ntmps12
 go_upto_region 1 with fail
 obtain ⟨W1, hW1⟩ : ∃ x, ((w.alloc (.cells #[.int .i64 s1, .int .i64 1, .int .i64 p1, .int .i64 n1, .string t1] 23)).alloc (.cells #[.int .i64 s2, .int .i64 1, .int .i64 p2, .int .i64 n2, .string t2] 23)).alloc (.cells #[.int .i64 0, .int .i64 0, .int .i64 0] 35) = x := ⟨_, rfl⟩
 have HX : Hid (Bxs w [((w.heap.size + 1 + 1), #[.int .i64 0, .int .i64 0, .int .i64 0], 35), ((w.heap.size + 1), #[.int .i64 s2, .int .i64 1, .int .i64 p2, .int .i64 n2, .string t2], 23), (w.heap.size, #[.int .i64 s1, .int .i64 1, .int .i64 p1, .int .i64 n1, .string t1], 23)] W1) := by
  rw [← hW1]
  simpa [Hid] using HB0.out
 rw [hW1]
 clear hW1 HB0
 have c2_0 : W1.cell? ⟨w.heap.size, 0, none⟩ = some (.int .i64 s1) := (HX.out.cell 2 rfl 0).trans rfl
 have c2_1 : W1.cell? ⟨w.heap.size, 1, none⟩ = some (.int .i64 1) := (HX.out.cell 2 rfl 1).trans rfl
 have c2_2 : W1.cell? ⟨w.heap.size, 2, none⟩ = some (.int .i64 p1) := (HX.out.cell 2 rfl 2).trans rfl
 have c2_3 : W1.cell? ⟨w.heap.size, 3, none⟩ = some (.int .i64 n1) := (HX.out.cell 2 rfl 3).trans rfl
 have c2_4 : W1.cell? ⟨w.heap.size, 4, none⟩ = some (.string t1) := (HX.out.cell 2 rfl 4).trans rfl
 go_wp2_with fail
 refine (foolscapref29_May.calls k s1 1 p1 n1 t1 n true _ HA.out).mono ?_
 rintro e W2 ⟨rfl, hb⟩
 have HY := Lib.hid (HX.out.keep hb)
 clear HX
 have HX := HY
 clear HY hb
 clear c2_0 c2_1 c2_2 c2_3 c2_4
 have c1_0 : W2.cell? ⟨(w.heap.size + 1), 0, none⟩ = some (.int .i64 s2) := (HX.out.cell 1 rfl 0).trans rfl
 have c1_1 : W2.cell? ⟨(w.heap.size + 1), 1, none⟩ = some (.int .i64 1) := (HX.out.cell 1 rfl 1).trans rfl
 have c1_2 : W2.cell? ⟨(w.heap.size + 1), 2, none⟩ = some (.int .i64 p2) := (HX.out.cell 1 rfl 2).trans rfl
 have c1_3 : W2.cell? ⟨(w.heap.size + 1), 3, none⟩ = some (.int .i64 n2) := (HX.out.cell 1 rfl 3).trans rfl
 have c1_4 : W2.cell? ⟨(w.heap.size + 1), 4, none⟩ = some (.string t2) := (HX.out.cell 1 rfl 4).trans rfl
 go_wp2_with fail
 refine (foolscapref29_May.calls k s2 1 p2 n2 t2 n true _ HB.out).mono ?_
 rintro e W3 ⟨rfl, hb⟩
 have HY := Lib.hid (HX.out.keep hb)
 clear HX
 have HX := HY
 clear HY hb
 clear c1_0 c1_1 c1_2 c1_3 c1_4
 have cs2_0 : W3.cell? ⟨w.heap.size, 0, none⟩ = some (.int .i64 s1) := (HX.out.cell 2 rfl 0).trans rfl
 have cs1_0 : W3.cell? ⟨(w.heap.size + 1), 0, none⟩ = some (.int .i64 s2) := (HX.out.cell 1 rfl 0).trans rfl
 have c1_4 : W3.cell? ⟨(w.heap.size + 1), 4, none⟩ = some (.string t2) := (HX.out.cell 1 rfl 4).trans rfl
 go_wp2_with fail
 refine (foolscapref01_Len.calls k t2 kk _ HK.out).mono ?_
 rintro e W4 ⟨rfl, hb⟩
 have HY := Lib.hid (HX.out.keep hb)
 clear HX
 have HX := HY
 clear HY hb
 clear cs2_0 cs1_0 c1_4
 have c2_0 : W4.cell? ⟨w.heap.size, 0, none⟩ = some (.int .i64 s1) := (HX.out.cell 2 rfl 0).trans rfl
 have c2_1 : W4.cell? ⟨w.heap.size, 1, none⟩ = some (.int .i64 1) := (HX.out.cell 2 rfl 1).trans rfl
 have c2_2 : W4.cell? ⟨w.heap.size, 2, none⟩ = some (.int .i64 p1) := (HX.out.cell 2 rfl 2).trans rfl
 have c2_3 : W4.cell? ⟨w.heap.size, 3, none⟩ = some (.int .i64 n1) := (HX.out.cell 2 rfl 3).trans rfl
 have c2_4 : W4.cell? ⟨w.heap.size, 4, none⟩ = some (.string t1) := (HX.out.cell 2 rfl 4).trans rfl
 go_upto_region 6 with fail
 clear c2_0 c2_1 c2_2 c2_3 c2_4
 have hgd : w.heap.size + 1 + 1 < W4.heap.size := HX.out.lt (List.mem_cons_self ..)
 obtain ⟨W5, hW_⟩ : ∃ x, W4.alloc (.cells #[.int .i64 s1, .int .i64 1, .int .i64 p1, .int .i64 n1, .string t1] 23) = x := ⟨_, rfl⟩
 have HY := Lib.hid (HX.out.new #[.int .i64 s1, .int .i64 1, .int .i64 p1, .int .i64 n1, .string t1] 23)
 rw [hW_] at HY
 rw [hW_]
 clear HX
 have HX := HY
 clear HY hW_
 obtain ⟨gd, hgd_⟩ : ∃ x, W4.heap.size = x := ⟨_, rfl⟩
 rw [hgd_] at HX hgd ⊢
 clear hgd_
 have c3_0 : W5.cell? ⟨w.heap.size, 0, none⟩ = some (.int .i64 s1) := (HX.out.cell 3 rfl 0).trans rfl
 have c3_2 : W5.cell? ⟨w.heap.size, 2, none⟩ = some (.int .i64 p1) := (HX.out.cell 3 rfl 2).trans rfl
 have c2_0 : W5.cell? ⟨(w.heap.size + 1), 0, none⟩ = some (.int .i64 s2) := (HX.out.cell 2 rfl 0).trans rfl
 have c2_1 : W5.cell? ⟨(w.heap.size + 1), 1, none⟩ = some (.int .i64 1) := (HX.out.cell 2 rfl 1).trans rfl
 have c2_2 : W5.cell? ⟨(w.heap.size + 1), 2, none⟩ = some (.int .i64 p2) := (HX.out.cell 2 rfl 2).trans rfl
 by_cases hcd : p1 = p2
 ·have hcq : (p1 == p2) = true := beq_iff_eq.2 hcd
  have hdd : s1 ≤ s2 := by have := HCC.out; omega
  have HDD := Lib.hid hcd
  clear hcd
  go_upto_region 9 with fail
  clear c3_0 c3_2 c2_0 c2_1 c2_2
  have cd0_0 : W5.cell? ⟨gd, 0, none⟩ = some (.int .i64 s1) := (HX.out.cell 0 rfl 0).trans rfl
  have cd0_1 : W5.cell? ⟨gd, 1, none⟩ = some (.int .i64 1) := (HX.out.cell 0 rfl 1).trans rfl
  have cd0_2 : W5.cell? ⟨gd, 2, none⟩ = some (.int .i64 p1) := (HX.out.cell 0 rfl 2).trans rfl
  have cd0_3 : W5.cell? ⟨gd, 3, none⟩ = some (.int .i64 n1) := (HX.out.cell 0 rfl 3).trans rfl
  have cd0_4 : W5.cell? ⟨gd, 4, none⟩ = some (.string t1) := (HX.out.cell 0 rfl 4).trans rfl
  go_wp2_with ((with_reducible refine gate_dst (N := 73) rfl ?_); refine Kd.R_lit k23 _ 23 ?hg (N := 73) ?hd (xs := [(⟨s1, 1, p1, n1, t1⟩ : S23)]) (inner := [.int .i64 s1, .int .i64 1, .int .i64 p1, .int .i64 n1, .string t1]) (ok := fun _ => True) (okp := fun _ => True) ?hr ?hp (fun _ hk => hk) trivial (Below.refl _ _) (Nat.le_refl _) (by simp) ?_; (case hd => rfl); (case hg => rfl); (case hr => first | (go_simp; done) | (go_simp; rfl)); (case hp => exact (Reps.c5 (k23_mkM _ _ _ (⟨s1, 1, p1, n1, t1⟩ : S23)) (Reps.none _ _))); intro v9 W9 ho hb9 hg_ hnew_; clear hg_ hnew_; have HX0 := Lib.hid HX.out.below.size; have HY := Lib.hid (HX.out.keep hb9); clear HX; have HX := HY; clear HY; have HO := Lib.hid ho; clear ho hb9; have cz1_0 : W9.cell? ⟨(w.heap.size + 1 + 1), 0, none⟩ = some (.int .i64 0) := (HX.out.cell 1 rfl 0).trans rfl; have fz1_0 : W9.frozen? ⟨(w.heap.size + 1 + 1), 0, none⟩ = false := HX.out.free 1 rfl 0; have cz1_1 : W9.cell? ⟨(w.heap.size + 1 + 1), 1, none⟩ = some (.int .i64 0) := (HX.out.cell 1 rfl 1).trans rfl; have fz1_1 : W9.frozen? ⟨(w.heap.size + 1 + 1), 1, none⟩ = false := HX.out.free 1 rfl 1; have cz1_2 : W9.cell? ⟨(w.heap.size + 1 + 1), 2, none⟩ = some (.int .i64 0) := (HX.out.cell 1 rfl 2).trans rfl; have fz1_2 : W9.frozen? ⟨(w.heap.size + 1 + 1), 2, none⟩ = false := HX.out.free 1 rfl 2)
  have HR := Lib.hid (R_three HO.out HX0.out (HX.out.blk 1 rfl) (by decide) (.int .i64 0) (.int .i64 0) (.int .i64 0))
  obtain ⟨W10, hW_⟩ : ∃ x, (((W9.setCell ⟨w.heap.size + 1 + 1, 0, none⟩ (.int .i64 0)).setCell ⟨w.heap.size + 1 + 1, 1, none⟩ (.int .i64 0)).setCell ⟨w.heap.size + 1 + 1, 2, none⟩ (.int .i64 0)) = x := ⟨_, rfl⟩
  have HY := Lib.hid ((((HX.out.put 1 rfl 0 (.int .i64 0)).put 1 rfl 1 (.int .i64 0)).put 1 rfl 2 (.int .i64 0)))
  rw [hW_] at HY HR
  rw [hW_]
  clear HX
  have HX := HY
  clear HY hW_
  refine bodyPost_ret (results_list (rs := [.tmp 6, .cell 7 35, .tmp 8]) rfl (by simp) (.tmp (.cell (w.heap.size + 1 + 1) 35 #[.int .i64 0, .int .i64 0, .int .i64 0] (0, 0) _ rfl (HX.out.blk 1 rfl) hu35 rfl (by kernel_rfl) (.tmp .nil)))) rfl ?_
  exact ⟨_, rfl, HR.out, HX.out.below⟩
 ·have hcq : (p1 == p2) = false := beq_eq_false_iff_ne.2 hcd
  have HDD := Lib.hid hcd
  clear hcd
  go_upto_region 9 with fail
  clear c3_0 c3_2 c2_0 c2_1 c2_2
  have cd0_0 : W5.cell? ⟨gd, 0, none⟩ = some (.int .i64 s1) := (HX.out.cell 0 rfl 0).trans rfl
  have cd0_1 : W5.cell? ⟨gd, 1, none⟩ = some (.int .i64 1) := (HX.out.cell 0 rfl 1).trans rfl
  have cd0_2 : W5.cell? ⟨gd, 2, none⟩ = some (.int .i64 p1) := (HX.out.cell 0 rfl 2).trans rfl
  have cd0_3 : W5.cell? ⟨gd, 3, none⟩ = some (.int .i64 n1) := (HX.out.cell 0 rfl 3).trans rfl
  have cd0_4 : W5.cell? ⟨gd, 4, none⟩ = some (.string t1) := (HX.out.cell 0 rfl 4).trans rfl
  go_wp2_with ((with_reducible refine gate_dst (N := 73) rfl ?_); refine Kd.R_lit k23 _ 23 ?hg (N := 73) ?hd (xs := [(⟨s1, 1, p1, n1, t1⟩ : S23)]) (inner := [.int .i64 s1, .int .i64 1, .int .i64 p1, .int .i64 n1, .string t1]) (ok := fun _ => True) (okp := fun _ => True) ?hr ?hp (fun _ hk => hk) trivial (Below.refl _ _) (Nat.le_refl _) (by simp) ?_; (case hd => rfl); (case hg => rfl); (case hr => first | (go_simp; done) | (go_simp; rfl)); (case hp => exact (Reps.c5 (k23_mkM _ _ _ (⟨s1, 1, p1, n1, t1⟩ : S23)) (Reps.none _ _))); intro v9 W9 ho hb9 hg_ hnew_; clear hg_ hnew_; have HX0 := Lib.hid HX.out.below.size; have HY := Lib.hid (HX.out.keep hb9); clear HX; have HX := HY; clear HY; have HO := Lib.hid ho; clear ho hb9; have cz1_0 : W9.cell? ⟨(w.heap.size + 1 + 1), 0, none⟩ = some (.int .i64 0) := (HX.out.cell 1 rfl 0).trans rfl; have fz1_0 : W9.frozen? ⟨(w.heap.size + 1 + 1), 0, none⟩ = false := HX.out.free 1 rfl 0; have cz1_1 : W9.cell? ⟨(w.heap.size + 1 + 1), 1, none⟩ = some (.int .i64 0) := (HX.out.cell 1 rfl 1).trans rfl; have fz1_1 : W9.frozen? ⟨(w.heap.size + 1 + 1), 1, none⟩ = false := HX.out.free 1 rfl 1; have cz1_2 : W9.cell? ⟨(w.heap.size + 1 + 1), 2, none⟩ = some (.int .i64 0) := (HX.out.cell 1 rfl 2).trans rfl; have fz1_2 : W9.frozen? ⟨(w.heap.size + 1 + 1), 2, none⟩ = false := HX.out.free 1 rfl 2)
  have HR := Lib.hid (R_three HO.out HX0.out (HX.out.blk 1 rfl) (by decide) (.int .i64 0) (.int .i64 0) (.int .i64 0))
  obtain ⟨W10, hW_⟩ : ∃ x, (((W9.setCell ⟨w.heap.size + 1 + 1, 0, none⟩ (.int .i64 0)).setCell ⟨w.heap.size + 1 + 1, 1, none⟩ (.int .i64 0)).setCell ⟨w.heap.size + 1 + 1, 2, none⟩ (.int .i64 0)) = x := ⟨_, rfl⟩
  have HY := Lib.hid ((((HX.out.put 1 rfl 0 (.int .i64 0)).put 1 rfl 1 (.int .i64 0)).put 1 rfl 2 (.int .i64 0)))
  rw [hW_] at HY HR
  rw [hW_]
  clear HX
  have HX := HY
  clear HY hW_
  refine bodyPost_ret (results_list (rs := [.tmp 6, .cell 7 35, .tmp 8]) rfl (by simp) (.tmp (.cell (w.heap.size + 1 + 1) 35 #[.int .i64 0, .int .i64 0, .int .i64 0] (0, 0) _ rfl (HX.out.blk 1 rfl) hu35 rfl (by kernel_rfl) (.tmp .nil)))) rfl ?_
  exact ⟨_, rfl, HR.out, HX.out.below⟩

set_option maxRecDepth 100000 in
set_option maxHeartbeats 8000000 in
theorem rincl_id_yes (k : Nat) (s1 p1 n1 : Int) (t1 : ByteArray) (s2 p2 n2 : Int) (t2 : ByteArray) (n : Int) (w : World) (kk : Int) (hk : foolscapref01_Len.f k t2 = some kk) (hs : ¬ s1 = s2) (ha : foolscapref29_May.f k s1 1 p1 n1 t1 n = some true) (hb : foolscapref29_May.f k s2 2 p2 n2 t2 n = some true) (b1 : 0 ≤ p1) (b2 : p1 ≤ 20000) (b3 : 0 ≤ n1) (b4 : n1 ≤ 20000) (b5 : 0 ≤ p2) (b6 : p2 ≤ 20000) (b7 : 0 ≤ n2) (b8 : n2 ≤ 20000) (b9 : -1 ≤ kk) (b10 : kk ≤ 20000) (gg : Int) (hgg : goneR p1 p2 n2.toNat = gg) (hc : 0 < gg) (hd : p1 ≤ p2 + n2) :
  Calls Tryd.prog 12 #[.agg #[.int .i64 s1, .int .i64 1, .int .i64 p1, .int .i64 n1, .string t1], .agg #[.int .i64 s2, .int .i64 2, .int .i64 p2, .int .i64 n2, .string t2], .int .i64 n] w fun e w' => ∃ v0_ : Value, e = .returned (.tuple #[v0_, .agg #[.int .i64 1, .int .i64 gg, .int .i64 0], .int .i64 0]) ∧ Kd.R k23 23 w' w.heap.size (fun _ => True) v0_ [(⟨s1, 1, p1 - gg, n1, t1⟩ : S23)] ∧ Below w.heap.size w w' := by
 have HGG := Lib.hid hgg
 clear hgg
 have hq : (s1 == s2) = false := beq_eq_false_iff_ne.2 hs
 have HA := Lib.hid ha
 have HB := Lib.hid hb
 have HK := Lib.hid hk
 have HS := Lib.hid hs
 clear ha hb hs hk
 have HB0 := Lib.hid ((((Bxs.start w).new #[.int .i64 s1, .int .i64 1, .int .i64 p1, .int .i64 n1, .string t1] 23).new #[.int .i64 s2, .int .i64 2, .int .i64 p2, .int .i64 n2, .string t2] 23).new #[.int .i64 0, .int .i64 0, .int .i64 0] 35)
 have hu23 := Tryd.underlying23
 have hu35 := Tryd.underlying35
 go_enter Tryd.func12, Tryd.ntmps12
 go_upto_region 1 with fail
 obtain ⟨W1, hW1⟩ : ∃ x, ((w.alloc (.cells #[.int .i64 s1, .int .i64 1, .int .i64 p1, .int .i64 n1, .string t1] 23)).alloc (.cells #[.int .i64 s2, .int .i64 2, .int .i64 p2, .int .i64 n2, .string t2] 23)).alloc (.cells #[.int .i64 0, .int .i64 0, .int .i64 0] 35) = x := ⟨_, rfl⟩
 have HX : Hid (Bxs w [((w.heap.size + 1 + 1), #[.int .i64 0, .int .i64 0, .int .i64 0], 35), ((w.heap.size + 1), #[.int .i64 s2, .int .i64 2, .int .i64 p2, .int .i64 n2, .string t2], 23), (w.heap.size, #[.int .i64 s1, .int .i64 1, .int .i64 p1, .int .i64 n1, .string t1], 23)] W1) := by
  rw [← hW1]
  simpa [Hid] using HB0.out
 rw [hW1]
 clear hW1 HB0
 have c2_0 : W1.cell? ⟨w.heap.size, 0, none⟩ = some (.int .i64 s1) := (HX.out.cell 2 rfl 0).trans rfl
 have c2_1 : W1.cell? ⟨w.heap.size, 1, none⟩ = some (.int .i64 1) := (HX.out.cell 2 rfl 1).trans rfl
 have c2_2 : W1.cell? ⟨w.heap.size, 2, none⟩ = some (.int .i64 p1) := (HX.out.cell 2 rfl 2).trans rfl
 have c2_3 : W1.cell? ⟨w.heap.size, 3, none⟩ = some (.int .i64 n1) := (HX.out.cell 2 rfl 3).trans rfl
 have c2_4 : W1.cell? ⟨w.heap.size, 4, none⟩ = some (.string t1) := (HX.out.cell 2 rfl 4).trans rfl
 go_wp2_with fail
 refine (foolscapref29_May.calls k s1 1 p1 n1 t1 n true _ HA.out).mono ?_
 rintro e W2 ⟨rfl, hb⟩
 have HY := Lib.hid (HX.out.keep hb)
 clear HX
 have HX := HY
 clear HY hb
 clear c2_0 c2_1 c2_2 c2_3 c2_4
 have c1_0 : W2.cell? ⟨(w.heap.size + 1), 0, none⟩ = some (.int .i64 s2) := (HX.out.cell 1 rfl 0).trans rfl
 have c1_1 : W2.cell? ⟨(w.heap.size + 1), 1, none⟩ = some (.int .i64 2) := (HX.out.cell 1 rfl 1).trans rfl
 have c1_2 : W2.cell? ⟨(w.heap.size + 1), 2, none⟩ = some (.int .i64 p2) := (HX.out.cell 1 rfl 2).trans rfl
 have c1_3 : W2.cell? ⟨(w.heap.size + 1), 3, none⟩ = some (.int .i64 n2) := (HX.out.cell 1 rfl 3).trans rfl
 have c1_4 : W2.cell? ⟨(w.heap.size + 1), 4, none⟩ = some (.string t2) := (HX.out.cell 1 rfl 4).trans rfl
 go_wp2_with fail
 refine (foolscapref29_May.calls k s2 2 p2 n2 t2 n true _ HB.out).mono ?_
 rintro e W3 ⟨rfl, hb⟩
 have HY := Lib.hid (HX.out.keep hb)
 clear HX
 have HX := HY
 clear HY hb
 clear c1_0 c1_1 c1_2 c1_3 c1_4
 have cs2_0 : W3.cell? ⟨w.heap.size, 0, none⟩ = some (.int .i64 s1) := (HX.out.cell 2 rfl 0).trans rfl
 have cs1_0 : W3.cell? ⟨(w.heap.size + 1), 0, none⟩ = some (.int .i64 s2) := (HX.out.cell 1 rfl 0).trans rfl
 have c1_4 : W3.cell? ⟨(w.heap.size + 1), 4, none⟩ = some (.string t2) := (HX.out.cell 1 rfl 4).trans rfl
 go_wp2_with fail
 refine (foolscapref01_Len.calls k t2 kk _ HK.out).mono ?_
 rintro e W4 ⟨rfl, hb⟩
 have HY := Lib.hid (HX.out.keep hb)
 clear HX
 have HX := HY
 clear HY hb
 clear cs2_0 cs1_0 c1_4
 have c2_0 : W4.cell? ⟨w.heap.size, 0, none⟩ = some (.int .i64 s1) := (HX.out.cell 2 rfl 0).trans rfl
 have c2_1 : W4.cell? ⟨w.heap.size, 1, none⟩ = some (.int .i64 1) := (HX.out.cell 2 rfl 1).trans rfl
 have c2_2 : W4.cell? ⟨w.heap.size, 2, none⟩ = some (.int .i64 p1) := (HX.out.cell 2 rfl 2).trans rfl
 have c2_3 : W4.cell? ⟨w.heap.size, 3, none⟩ = some (.int .i64 n1) := (HX.out.cell 2 rfl 3).trans rfl
 have c2_4 : W4.cell? ⟨w.heap.size, 4, none⟩ = some (.string t1) := (HX.out.cell 2 rfl 4).trans rfl
 go_upto_region 6 with fail
 clear c2_0 c2_1 c2_2 c2_3 c2_4
 have hgd : w.heap.size + 1 + 1 < W4.heap.size := HX.out.lt (List.mem_cons_self ..)
 obtain ⟨W5, hW_⟩ : ∃ x, W4.alloc (.cells #[.int .i64 s1, .int .i64 1, .int .i64 p1, .int .i64 n1, .string t1] 23) = x := ⟨_, rfl⟩
 have HY := Lib.hid (HX.out.new #[.int .i64 s1, .int .i64 1, .int .i64 p1, .int .i64 n1, .string t1] 23)
 rw [hW_] at HY
 rw [hW_]
 clear HX
 have HX := HY
 clear HY hW_
 obtain ⟨gd, hgd_⟩ : ∃ x, W4.heap.size = x := ⟨_, rfl⟩
 rw [hgd_] at HX hgd ⊢
 clear hgd_
 have c3_2 : W5.cell? ⟨w.heap.size, 2, none⟩ = some (.int .i64 p1) := (HX.out.cell 3 rfl 2).trans rfl
 have c2_1 : W5.cell? ⟨(w.heap.size + 1), 1, none⟩ = some (.int .i64 2) := (HX.out.cell 2 rfl 1).trans rfl
 have c2_2 : W5.cell? ⟨(w.heap.size + 1), 2, none⟩ = some (.int .i64 p2) := (HX.out.cell 2 rfl 2).trans rfl
 have c2_3 : W5.cell? ⟨(w.heap.size + 1), 3, none⟩ = some (.int .i64 n2) := (HX.out.cell 2 rfl 3).trans rfl
 have cd0_2 : W5.cell? ⟨gd, 2, none⟩ = some (.int .i64 p1) := (HX.out.cell 0 rfl 2).trans rfl
 have fd0_2 : W5.frozen? ⟨gd, 2, none⟩ = false := HX.out.free 0 rfl 2
 go_wp2
 go_loop [11, 12] (fun u11 u12 => ∃ m : Nat, (m : Int) ≤ n2 ∧ u11 = .int .i64 (goneR p1 p2 m) ∧ u12 = .int .i64 (p2 + m)) (fun _ u => (p2 + n2 - intOf u).toNat)
 case atStart => exact ⟨0, by omega, vi (by unfold goneR; omega), vi (by omega)⟩
 case round =>
  obtain ⟨m, hm, rfl, rfl⟩ := hrel
  obtain ⟨q, hq_⟩ : ∃ q, goneR p1 p2 m = q := ⟨_, rfl⟩
  have hqb : 0 ≤ q ∧ q ≤ 20000 := by rw [← hq_]; unfold goneR; omega
  obtain ⟨hq0, hq1⟩ := hqb
  rw [hq_]
  by_cases hlt : (m : Int) < n2
  ·by_cases hp : p2 + (m : Int) < p1
   ·have HQ := Lib.hid (show goneR p1 p2 (m + 1) = q + 1 by rw [← hq_]; unfold goneR; omega)
    clear hq_
    go_wp2
    go_round
    case rel => exact ⟨m + 1, by omega, by rw [HQ.out], vi (by omega)⟩
    case measure => simp [intOf]; omega
   ·have HQ := Lib.hid (show goneR p1 p2 (m + 1) = q by rw [← hq_]; unfold goneR; omega)
    clear hq_
    go_wp2
    go_round
    case rel => exact ⟨m + 1, by omega, by rw [HQ.out], vi (by omega)⟩
    case measure => simp [intOf]; omega
  ·have HQ := Lib.hid (show q = gg by rw [← hq_, ← HGG.out]; unfold goneR; omega)
   obtain rfl := HQ.out
   clear hq_ HQ
   go_upto_region 17 with fail
   clear cd0_2 fd0_2
   obtain ⟨W6, hW_⟩ : ∃ x, W5.setCell ⟨gd, 2, none⟩ (.int .i64 (p1 - q)) = x := ⟨_, rfl⟩
   have HY := Lib.hid (HX.out.put 0 rfl 2 (.int .i64 (p1 - q)))
   rw [hW_] at HY
   rw [hW_]
   clear HX
   have HX := HY
   clear HY hW_
   clear c3_2 c2_1 c2_2 c2_3
   have c3_2 : W6.cell? ⟨w.heap.size, 2, none⟩ = some (.int .i64 p1) := (HX.out.cell 3 rfl 2).trans rfl
   have c2_2 : W6.cell? ⟨(w.heap.size + 1), 2, none⟩ = some (.int .i64 p2) := (HX.out.cell 2 rfl 2).trans rfl
   have c2_3 : W6.cell? ⟨(w.heap.size + 1), 3, none⟩ = some (.int .i64 n2) := (HX.out.cell 2 rfl 3).trans rfl
   go_upto_region 18 with fail
   clear c3_2 c2_2 c2_3
   have cd0_0 : W6.cell? ⟨gd, 0, none⟩ = some (.int .i64 s1) := (HX.out.cell 0 rfl 0).trans rfl
   have cd0_1 : W6.cell? ⟨gd, 1, none⟩ = some (.int .i64 1) := (HX.out.cell 0 rfl 1).trans rfl
   have cd0_2 : W6.cell? ⟨gd, 2, none⟩ = some (.int .i64 (p1 - q)) := (HX.out.cell 0 rfl 2).trans rfl
   have cd0_3 : W6.cell? ⟨gd, 3, none⟩ = some (.int .i64 n1) := (HX.out.cell 0 rfl 3).trans rfl
   have cd0_4 : W6.cell? ⟨gd, 4, none⟩ = some (.string t1) := (HX.out.cell 0 rfl 4).trans rfl
   go_wp2_with ((with_reducible refine gate_dst (N := 110) rfl ?_); refine Kd.R_lit k23 _ 23 ?hg (N := 110) ?hd (xs := [(⟨s1, 1, p1 - q, n1, t1⟩ : S23)]) (inner := [.int .i64 s1, .int .i64 1, .int .i64 (p1 - q), .int .i64 n1, .string t1]) (ok := fun _ => True) (okp := fun _ => True) ?hr ?hp (fun _ hk => hk) trivial (Below.refl _ _) (Nat.le_refl _) (by simp) ?_; (case hd => rfl); (case hg => rfl); (case hr => first | (go_simp; done) | (go_simp; rfl)); (case hp => exact (Reps.c5 (k23_mkM _ _ _ (⟨s1, 1, p1 - q, n1, t1⟩ : S23)) (Reps.none _ _))); intro v9 W9 ho hb9 hg_ hnew_; clear hg_ hnew_; have HX0 := Lib.hid HX.out.below.size; have HY := Lib.hid (HX.out.keep hb9); clear HX; have HX := HY; clear HY; have HO := Lib.hid ho; clear ho hb9; have cz1_0 : W9.cell? ⟨(w.heap.size + 1 + 1), 0, none⟩ = some (.int .i64 0) := (HX.out.cell 1 rfl 0).trans rfl; have fz1_0 : W9.frozen? ⟨(w.heap.size + 1 + 1), 0, none⟩ = false := HX.out.free 1 rfl 0; have cz1_1 : W9.cell? ⟨(w.heap.size + 1 + 1), 1, none⟩ = some (.int .i64 0) := (HX.out.cell 1 rfl 1).trans rfl; have fz1_1 : W9.frozen? ⟨(w.heap.size + 1 + 1), 1, none⟩ = false := HX.out.free 1 rfl 1; have cz1_2 : W9.cell? ⟨(w.heap.size + 1 + 1), 2, none⟩ = some (.int .i64 0) := (HX.out.cell 1 rfl 2).trans rfl; have fz1_2 : W9.frozen? ⟨(w.heap.size + 1 + 1), 2, none⟩ = false := HX.out.free 1 rfl 2)
   have HR := Lib.hid (R_three HO.out HX0.out (HX.out.blk 1 rfl) (by decide) (.int .i64 1) (.int .i64 q) (.int .i64 0))
   obtain ⟨W10, hW_⟩ : ∃ x, (((W9.setCell ⟨w.heap.size + 1 + 1, 0, none⟩ (.int .i64 1)).setCell ⟨w.heap.size + 1 + 1, 1, none⟩ (.int .i64 q)).setCell ⟨w.heap.size + 1 + 1, 2, none⟩ (.int .i64 0)) = x := ⟨_, rfl⟩
   have HY := Lib.hid ((((HX.out.put 1 rfl 0 (.int .i64 1)).put 1 rfl 1 (.int .i64 q)).put 1 rfl 2 (.int .i64 0)))
   rw [hW_] at HY HR
   rw [hW_]
   clear HX
   have HX := HY
   clear HY hW_
   refine bodyPost_ret (results_list (rs := [.tmp 6, .cell 7 35, .tmp 8]) rfl (by simp) (.tmp (.cell (w.heap.size + 1 + 1) 35 #[.int .i64 1, .int .i64 q, .int .i64 0] (0, 0) _ rfl (HX.out.blk 1 rfl) hu35 rfl (by kernel_rfl) (.tmp .nil)))) rfl ?_
   exact ⟨_, rfl, HR.out, HX.out.below⟩

set_option maxRecDepth 100000 in
set_option maxHeartbeats 8000000 in
theorem rincl_id_no (k : Nat) (s1 p1 n1 : Int) (t1 : ByteArray) (s2 p2 n2 : Int) (t2 : ByteArray) (n : Int) (w : World) (kk : Int) (hk : foolscapref01_Len.f k t2 = some kk) (hs : ¬ s1 = s2) (ha : foolscapref29_May.f k s1 1 p1 n1 t1 n = some true) (hb : foolscapref29_May.f k s2 2 p2 n2 t2 n = some true) (b1 : 0 ≤ p1) (b2 : p1 ≤ 20000) (b3 : 0 ≤ n1) (b4 : n1 ≤ 20000) (b5 : 0 ≤ p2) (b6 : p2 ≤ 20000) (b7 : 0 ≤ n2) (b8 : n2 ≤ 20000) (b9 : -1 ≤ kk) (b10 : kk ≤ 20000) (gg : Int) (hgg : goneR p1 p2 n2.toNat = gg) (hc : ¬ 0 < gg) :
  Calls Tryd.prog 12 #[.agg #[.int .i64 s1, .int .i64 1, .int .i64 p1, .int .i64 n1, .string t1], .agg #[.int .i64 s2, .int .i64 2, .int .i64 p2, .int .i64 n2, .string t2], .int .i64 n] w fun e w' => ∃ v0_ : Value, e = .returned (.tuple #[v0_, .agg #[.int .i64 0, .int .i64 0, .int .i64 0], .int .i64 0]) ∧ Kd.R k23 23 w' w.heap.size (fun _ => True) v0_ [(⟨s1, 1, p1 - gg, n1, t1⟩ : S23)] ∧ Below w.heap.size w w' := by
 have HGG := Lib.hid hgg
 clear hgg
 have hq : (s1 == s2) = false := beq_eq_false_iff_ne.2 hs
 have HA := Lib.hid ha
 have HB := Lib.hid hb
 have HK := Lib.hid hk
 have HS := Lib.hid hs
 clear ha hb hs hk
 have HB0 := Lib.hid ((((Bxs.start w).new #[.int .i64 s1, .int .i64 1, .int .i64 p1, .int .i64 n1, .string t1] 23).new #[.int .i64 s2, .int .i64 2, .int .i64 p2, .int .i64 n2, .string t2] 23).new #[.int .i64 0, .int .i64 0, .int .i64 0] 35)
 have hu23 := Tryd.underlying23
 have hu35 := Tryd.underlying35
 go_enter Tryd.func12, Tryd.ntmps12
 go_upto_region 1 with fail
 obtain ⟨W1, hW1⟩ : ∃ x, ((w.alloc (.cells #[.int .i64 s1, .int .i64 1, .int .i64 p1, .int .i64 n1, .string t1] 23)).alloc (.cells #[.int .i64 s2, .int .i64 2, .int .i64 p2, .int .i64 n2, .string t2] 23)).alloc (.cells #[.int .i64 0, .int .i64 0, .int .i64 0] 35) = x := ⟨_, rfl⟩
 have HX : Hid (Bxs w [((w.heap.size + 1 + 1), #[.int .i64 0, .int .i64 0, .int .i64 0], 35), ((w.heap.size + 1), #[.int .i64 s2, .int .i64 2, .int .i64 p2, .int .i64 n2, .string t2], 23), (w.heap.size, #[.int .i64 s1, .int .i64 1, .int .i64 p1, .int .i64 n1, .string t1], 23)] W1) := by
  rw [← hW1]
  simpa [Hid] using HB0.out
 rw [hW1]
 clear hW1 HB0
 have c2_0 : W1.cell? ⟨w.heap.size, 0, none⟩ = some (.int .i64 s1) := (HX.out.cell 2 rfl 0).trans rfl
 have c2_1 : W1.cell? ⟨w.heap.size, 1, none⟩ = some (.int .i64 1) := (HX.out.cell 2 rfl 1).trans rfl
 have c2_2 : W1.cell? ⟨w.heap.size, 2, none⟩ = some (.int .i64 p1) := (HX.out.cell 2 rfl 2).trans rfl
 have c2_3 : W1.cell? ⟨w.heap.size, 3, none⟩ = some (.int .i64 n1) := (HX.out.cell 2 rfl 3).trans rfl
 have c2_4 : W1.cell? ⟨w.heap.size, 4, none⟩ = some (.string t1) := (HX.out.cell 2 rfl 4).trans rfl
 go_wp2_with fail
 refine (foolscapref29_May.calls k s1 1 p1 n1 t1 n true _ HA.out).mono ?_
 rintro e W2 ⟨rfl, hb⟩
 have HY := Lib.hid (HX.out.keep hb)
 clear HX
 have HX := HY
 clear HY hb
 clear c2_0 c2_1 c2_2 c2_3 c2_4
 have c1_0 : W2.cell? ⟨(w.heap.size + 1), 0, none⟩ = some (.int .i64 s2) := (HX.out.cell 1 rfl 0).trans rfl
 have c1_1 : W2.cell? ⟨(w.heap.size + 1), 1, none⟩ = some (.int .i64 2) := (HX.out.cell 1 rfl 1).trans rfl
 have c1_2 : W2.cell? ⟨(w.heap.size + 1), 2, none⟩ = some (.int .i64 p2) := (HX.out.cell 1 rfl 2).trans rfl
 have c1_3 : W2.cell? ⟨(w.heap.size + 1), 3, none⟩ = some (.int .i64 n2) := (HX.out.cell 1 rfl 3).trans rfl
 have c1_4 : W2.cell? ⟨(w.heap.size + 1), 4, none⟩ = some (.string t2) := (HX.out.cell 1 rfl 4).trans rfl
 go_wp2_with fail
 refine (foolscapref29_May.calls k s2 2 p2 n2 t2 n true _ HB.out).mono ?_
 rintro e W3 ⟨rfl, hb⟩
 have HY := Lib.hid (HX.out.keep hb)
 clear HX
 have HX := HY
 clear HY hb
 clear c1_0 c1_1 c1_2 c1_3 c1_4
 have cs2_0 : W3.cell? ⟨w.heap.size, 0, none⟩ = some (.int .i64 s1) := (HX.out.cell 2 rfl 0).trans rfl
 have cs1_0 : W3.cell? ⟨(w.heap.size + 1), 0, none⟩ = some (.int .i64 s2) := (HX.out.cell 1 rfl 0).trans rfl
 have c1_4 : W3.cell? ⟨(w.heap.size + 1), 4, none⟩ = some (.string t2) := (HX.out.cell 1 rfl 4).trans rfl
 go_wp2_with fail
 refine (foolscapref01_Len.calls k t2 kk _ HK.out).mono ?_
 rintro e W4 ⟨rfl, hb⟩
 have HY := Lib.hid (HX.out.keep hb)
 clear HX
 have HX := HY
 clear HY hb
 clear cs2_0 cs1_0 c1_4
 have c2_0 : W4.cell? ⟨w.heap.size, 0, none⟩ = some (.int .i64 s1) := (HX.out.cell 2 rfl 0).trans rfl
 have c2_1 : W4.cell? ⟨w.heap.size, 1, none⟩ = some (.int .i64 1) := (HX.out.cell 2 rfl 1).trans rfl
 have c2_2 : W4.cell? ⟨w.heap.size, 2, none⟩ = some (.int .i64 p1) := (HX.out.cell 2 rfl 2).trans rfl
 have c2_3 : W4.cell? ⟨w.heap.size, 3, none⟩ = some (.int .i64 n1) := (HX.out.cell 2 rfl 3).trans rfl
 have c2_4 : W4.cell? ⟨w.heap.size, 4, none⟩ = some (.string t1) := (HX.out.cell 2 rfl 4).trans rfl
 go_upto_region 6 with fail
 clear c2_0 c2_1 c2_2 c2_3 c2_4
 have hgd : w.heap.size + 1 + 1 < W4.heap.size := HX.out.lt (List.mem_cons_self ..)
 obtain ⟨W5, hW_⟩ : ∃ x, W4.alloc (.cells #[.int .i64 s1, .int .i64 1, .int .i64 p1, .int .i64 n1, .string t1] 23) = x := ⟨_, rfl⟩
 have HY := Lib.hid (HX.out.new #[.int .i64 s1, .int .i64 1, .int .i64 p1, .int .i64 n1, .string t1] 23)
 rw [hW_] at HY
 rw [hW_]
 clear HX
 have HX := HY
 clear HY hW_
 obtain ⟨gd, hgd_⟩ : ∃ x, W4.heap.size = x := ⟨_, rfl⟩
 rw [hgd_] at HX hgd ⊢
 clear hgd_
 have c3_2 : W5.cell? ⟨w.heap.size, 2, none⟩ = some (.int .i64 p1) := (HX.out.cell 3 rfl 2).trans rfl
 have c2_1 : W5.cell? ⟨(w.heap.size + 1), 1, none⟩ = some (.int .i64 2) := (HX.out.cell 2 rfl 1).trans rfl
 have c2_2 : W5.cell? ⟨(w.heap.size + 1), 2, none⟩ = some (.int .i64 p2) := (HX.out.cell 2 rfl 2).trans rfl
 have c2_3 : W5.cell? ⟨(w.heap.size + 1), 3, none⟩ = some (.int .i64 n2) := (HX.out.cell 2 rfl 3).trans rfl
 have cd0_2 : W5.cell? ⟨gd, 2, none⟩ = some (.int .i64 p1) := (HX.out.cell 0 rfl 2).trans rfl
 have fd0_2 : W5.frozen? ⟨gd, 2, none⟩ = false := HX.out.free 0 rfl 2
 go_wp2
 go_loop [11, 12] (fun u11 u12 => ∃ m : Nat, (m : Int) ≤ n2 ∧ u11 = .int .i64 (goneR p1 p2 m) ∧ u12 = .int .i64 (p2 + m)) (fun _ u => (p2 + n2 - intOf u).toNat)
 case atStart => exact ⟨0, by omega, vi (by unfold goneR; omega), vi (by omega)⟩
 case round =>
  obtain ⟨m, hm, rfl, rfl⟩ := hrel
  obtain ⟨q, hq_⟩ : ∃ q, goneR p1 p2 m = q := ⟨_, rfl⟩
  have hqb : 0 ≤ q ∧ q ≤ 20000 := by rw [← hq_]; unfold goneR; omega
  obtain ⟨hq0, hq1⟩ := hqb
  rw [hq_]
  by_cases hlt : (m : Int) < n2
  ·by_cases hp : p2 + (m : Int) < p1
   ·have HQ := Lib.hid (show goneR p1 p2 (m + 1) = q + 1 by rw [← hq_]; unfold goneR; omega)
    clear hq_
    go_wp2
    go_round
    case rel => exact ⟨m + 1, by omega, by rw [HQ.out], vi (by omega)⟩
    case measure => simp [intOf]; omega
   ·have HQ := Lib.hid (show goneR p1 p2 (m + 1) = q by rw [← hq_]; unfold goneR; omega)
    clear hq_
    go_wp2
    go_round
    case rel => exact ⟨m + 1, by omega, by rw [HQ.out], vi (by omega)⟩
    case measure => simp [intOf]; omega
  ·have HQ := Lib.hid (show q = gg by rw [← hq_, ← HGG.out]; unfold goneR; omega)
   obtain rfl := HQ.out
   clear hq_ HQ
   go_upto_region 17 with fail
   clear cd0_2 fd0_2
   obtain ⟨W6, hW_⟩ : ∃ x, W5.setCell ⟨gd, 2, none⟩ (.int .i64 (p1 - q)) = x := ⟨_, rfl⟩
   have HY := Lib.hid (HX.out.put 0 rfl 2 (.int .i64 (p1 - q)))
   rw [hW_] at HY
   rw [hW_]
   clear HX
   have HX := HY
   clear HY hW_
   clear c3_2 c2_1 c2_2 c2_3
   have c3_2 : W6.cell? ⟨w.heap.size, 2, none⟩ = some (.int .i64 p1) := (HX.out.cell 3 rfl 2).trans rfl
   have c2_2 : W6.cell? ⟨(w.heap.size + 1), 2, none⟩ = some (.int .i64 p2) := (HX.out.cell 2 rfl 2).trans rfl
   have c2_3 : W6.cell? ⟨(w.heap.size + 1), 3, none⟩ = some (.int .i64 n2) := (HX.out.cell 2 rfl 3).trans rfl
   go_upto_region 19 with fail
   clear c3_2 c2_2 c2_3
   have cd0_0 : W6.cell? ⟨gd, 0, none⟩ = some (.int .i64 s1) := (HX.out.cell 0 rfl 0).trans rfl
   have cd0_1 : W6.cell? ⟨gd, 1, none⟩ = some (.int .i64 1) := (HX.out.cell 0 rfl 1).trans rfl
   have cd0_2 : W6.cell? ⟨gd, 2, none⟩ = some (.int .i64 (p1 - q)) := (HX.out.cell 0 rfl 2).trans rfl
   have cd0_3 : W6.cell? ⟨gd, 3, none⟩ = some (.int .i64 n1) := (HX.out.cell 0 rfl 3).trans rfl
   have cd0_4 : W6.cell? ⟨gd, 4, none⟩ = some (.string t1) := (HX.out.cell 0 rfl 4).trans rfl
   go_wp2_with ((with_reducible refine gate_dst (N := 114) rfl ?_); refine Kd.R_lit k23 _ 23 ?hg (N := 114) ?hd (xs := [(⟨s1, 1, p1 - q, n1, t1⟩ : S23)]) (inner := [.int .i64 s1, .int .i64 1, .int .i64 (p1 - q), .int .i64 n1, .string t1]) (ok := fun _ => True) (okp := fun _ => True) ?hr ?hp (fun _ hk => hk) trivial (Below.refl _ _) (Nat.le_refl _) (by simp) ?_; (case hd => rfl); (case hg => rfl); (case hr => first | (go_simp; done) | (go_simp; rfl)); (case hp => exact (Reps.c5 (k23_mkM _ _ _ (⟨s1, 1, p1 - q, n1, t1⟩ : S23)) (Reps.none _ _))); intro v9 W9 ho hb9 hg_ hnew_; clear hg_ hnew_; have HX0 := Lib.hid HX.out.below.size; have HY := Lib.hid (HX.out.keep hb9); clear HX; have HX := HY; clear HY; have HO := Lib.hid ho; clear ho hb9; have cz1_0 : W9.cell? ⟨(w.heap.size + 1 + 1), 0, none⟩ = some (.int .i64 0) := (HX.out.cell 1 rfl 0).trans rfl; have fz1_0 : W9.frozen? ⟨(w.heap.size + 1 + 1), 0, none⟩ = false := HX.out.free 1 rfl 0; have cz1_1 : W9.cell? ⟨(w.heap.size + 1 + 1), 1, none⟩ = some (.int .i64 0) := (HX.out.cell 1 rfl 1).trans rfl; have fz1_1 : W9.frozen? ⟨(w.heap.size + 1 + 1), 1, none⟩ = false := HX.out.free 1 rfl 1; have cz1_2 : W9.cell? ⟨(w.heap.size + 1 + 1), 2, none⟩ = some (.int .i64 0) := (HX.out.cell 1 rfl 2).trans rfl; have fz1_2 : W9.frozen? ⟨(w.heap.size + 1 + 1), 2, none⟩ = false := HX.out.free 1 rfl 2)
   have HR := Lib.hid (R_three HO.out HX0.out (HX.out.blk 1 rfl) (by decide) (.int .i64 0) (.int .i64 0) (.int .i64 0))
   obtain ⟨W10, hW_⟩ : ∃ x, (((W9.setCell ⟨w.heap.size + 1 + 1, 0, none⟩ (.int .i64 0)).setCell ⟨w.heap.size + 1 + 1, 1, none⟩ (.int .i64 0)).setCell ⟨w.heap.size + 1 + 1, 2, none⟩ (.int .i64 0)) = x := ⟨_, rfl⟩
   have HY := Lib.hid ((((HX.out.put 1 rfl 0 (.int .i64 0)).put 1 rfl 1 (.int .i64 0)).put 1 rfl 2 (.int .i64 0)))
   rw [hW_] at HY HR
   rw [hW_]
   clear HX
   have HX := HY
   clear HY hW_
   refine bodyPost_ret (results_list (rs := [.tmp 6, .cell 7 35, .tmp 8]) rfl (by simp) (.tmp (.cell (w.heap.size + 1 + 1) 35 #[.int .i64 0, .int .i64 0, .int .i64 0] (0, 0) _ rfl (HX.out.blk 1 rfl) hu35 rfl (by kernel_rfl) (.tmp .nil)))) rfl ?_
   exact ⟨_, rfl, HR.out, HX.out.below⟩

set_option maxRecDepth 100000 in
set_option maxHeartbeats 8000000 in
theorem rincl_id_far (k : Nat) (s1 p1 n1 : Int) (t1 : ByteArray) (s2 p2 n2 : Int) (t2 : ByteArray) (n : Int) (w : World) (kk : Int) (hk : foolscapref01_Len.f k t2 = some kk) (hs : ¬ s1 = s2) (ha : foolscapref29_May.f k s1 1 p1 n1 t1 n = some true) (hb : foolscapref29_May.f k s2 2 p2 n2 t2 n = some true) (b1 : 0 ≤ p1) (b2 : p1 ≤ 20000) (b3 : 0 ≤ n1) (b4 : n1 ≤ 20000) (b5 : 0 ≤ p2) (b6 : p2 ≤ 20000) (b7 : 0 ≤ n2) (b8 : n2 ≤ 20000) (b9 : -1 ≤ kk) (b10 : kk ≤ 20000) (gg : Int) (hgg : goneR p1 p2 n2.toNat = gg) (hc : 0 < gg) (hd : p2 + n2 < p1) :
  Calls Tryd.prog 12 #[.agg #[.int .i64 s1, .int .i64 1, .int .i64 p1, .int .i64 n1, .string t1], .agg #[.int .i64 s2, .int .i64 2, .int .i64 p2, .int .i64 n2, .string t2], .int .i64 n] w fun e w' => ∃ v0_ : Value, e = .returned (.tuple #[v0_, .agg #[.int .i64 0, .int .i64 0, .int .i64 0], .int .i64 0]) ∧ Kd.R k23 23 w' w.heap.size (fun _ => True) v0_ [(⟨s1, 1, p1 - gg, n1, t1⟩ : S23)] ∧ Below w.heap.size w w' := by
 have HGG := Lib.hid hgg
 clear hgg
 have hq : (s1 == s2) = false := beq_eq_false_iff_ne.2 hs
 have HA := Lib.hid ha
 have HB := Lib.hid hb
 have HK := Lib.hid hk
 have HS := Lib.hid hs
 clear ha hb hs hk
 have HB0 := Lib.hid ((((Bxs.start w).new #[.int .i64 s1, .int .i64 1, .int .i64 p1, .int .i64 n1, .string t1] 23).new #[.int .i64 s2, .int .i64 2, .int .i64 p2, .int .i64 n2, .string t2] 23).new #[.int .i64 0, .int .i64 0, .int .i64 0] 35)
 have hu23 := Tryd.underlying23
 have hu35 := Tryd.underlying35
 go_enter Tryd.func12, Tryd.ntmps12
 go_upto_region 1 with fail
 obtain ⟨W1, hW1⟩ : ∃ x, ((w.alloc (.cells #[.int .i64 s1, .int .i64 1, .int .i64 p1, .int .i64 n1, .string t1] 23)).alloc (.cells #[.int .i64 s2, .int .i64 2, .int .i64 p2, .int .i64 n2, .string t2] 23)).alloc (.cells #[.int .i64 0, .int .i64 0, .int .i64 0] 35) = x := ⟨_, rfl⟩
 have HX : Hid (Bxs w [((w.heap.size + 1 + 1), #[.int .i64 0, .int .i64 0, .int .i64 0], 35), ((w.heap.size + 1), #[.int .i64 s2, .int .i64 2, .int .i64 p2, .int .i64 n2, .string t2], 23), (w.heap.size, #[.int .i64 s1, .int .i64 1, .int .i64 p1, .int .i64 n1, .string t1], 23)] W1) := by
  rw [← hW1]
  simpa [Hid] using HB0.out
 rw [hW1]
 clear hW1 HB0
 have c2_0 : W1.cell? ⟨w.heap.size, 0, none⟩ = some (.int .i64 s1) := (HX.out.cell 2 rfl 0).trans rfl
 have c2_1 : W1.cell? ⟨w.heap.size, 1, none⟩ = some (.int .i64 1) := (HX.out.cell 2 rfl 1).trans rfl
 have c2_2 : W1.cell? ⟨w.heap.size, 2, none⟩ = some (.int .i64 p1) := (HX.out.cell 2 rfl 2).trans rfl
 have c2_3 : W1.cell? ⟨w.heap.size, 3, none⟩ = some (.int .i64 n1) := (HX.out.cell 2 rfl 3).trans rfl
 have c2_4 : W1.cell? ⟨w.heap.size, 4, none⟩ = some (.string t1) := (HX.out.cell 2 rfl 4).trans rfl
 go_wp2_with fail
 refine (foolscapref29_May.calls k s1 1 p1 n1 t1 n true _ HA.out).mono ?_
 rintro e W2 ⟨rfl, hb⟩
 have HY := Lib.hid (HX.out.keep hb)
 clear HX
 have HX := HY
 clear HY hb
 clear c2_0 c2_1 c2_2 c2_3 c2_4
 have c1_0 : W2.cell? ⟨(w.heap.size + 1), 0, none⟩ = some (.int .i64 s2) := (HX.out.cell 1 rfl 0).trans rfl
 have c1_1 : W2.cell? ⟨(w.heap.size + 1), 1, none⟩ = some (.int .i64 2) := (HX.out.cell 1 rfl 1).trans rfl
 have c1_2 : W2.cell? ⟨(w.heap.size + 1), 2, none⟩ = some (.int .i64 p2) := (HX.out.cell 1 rfl 2).trans rfl
 have c1_3 : W2.cell? ⟨(w.heap.size + 1), 3, none⟩ = some (.int .i64 n2) := (HX.out.cell 1 rfl 3).trans rfl
 have c1_4 : W2.cell? ⟨(w.heap.size + 1), 4, none⟩ = some (.string t2) := (HX.out.cell 1 rfl 4).trans rfl
 go_wp2_with fail
 refine (foolscapref29_May.calls k s2 2 p2 n2 t2 n true _ HB.out).mono ?_
 rintro e W3 ⟨rfl, hb⟩
 have HY := Lib.hid (HX.out.keep hb)
 clear HX
 have HX := HY
 clear HY hb
 clear c1_0 c1_1 c1_2 c1_3 c1_4
 have cs2_0 : W3.cell? ⟨w.heap.size, 0, none⟩ = some (.int .i64 s1) := (HX.out.cell 2 rfl 0).trans rfl
 have cs1_0 : W3.cell? ⟨(w.heap.size + 1), 0, none⟩ = some (.int .i64 s2) := (HX.out.cell 1 rfl 0).trans rfl
 have c1_4 : W3.cell? ⟨(w.heap.size + 1), 4, none⟩ = some (.string t2) := (HX.out.cell 1 rfl 4).trans rfl
 go_wp2_with fail
 refine (foolscapref01_Len.calls k t2 kk _ HK.out).mono ?_
 rintro e W4 ⟨rfl, hb⟩
 have HY := Lib.hid (HX.out.keep hb)
 clear HX
 have HX := HY
 clear HY hb
 clear cs2_0 cs1_0 c1_4
 have c2_0 : W4.cell? ⟨w.heap.size, 0, none⟩ = some (.int .i64 s1) := (HX.out.cell 2 rfl 0).trans rfl
 have c2_1 : W4.cell? ⟨w.heap.size, 1, none⟩ = some (.int .i64 1) := (HX.out.cell 2 rfl 1).trans rfl
 have c2_2 : W4.cell? ⟨w.heap.size, 2, none⟩ = some (.int .i64 p1) := (HX.out.cell 2 rfl 2).trans rfl
 have c2_3 : W4.cell? ⟨w.heap.size, 3, none⟩ = some (.int .i64 n1) := (HX.out.cell 2 rfl 3).trans rfl
 have c2_4 : W4.cell? ⟨w.heap.size, 4, none⟩ = some (.string t1) := (HX.out.cell 2 rfl 4).trans rfl
 go_upto_region 6 with fail
 clear c2_0 c2_1 c2_2 c2_3 c2_4
 have hgd : w.heap.size + 1 + 1 < W4.heap.size := HX.out.lt (List.mem_cons_self ..)
 obtain ⟨W5, hW_⟩ : ∃ x, W4.alloc (.cells #[.int .i64 s1, .int .i64 1, .int .i64 p1, .int .i64 n1, .string t1] 23) = x := ⟨_, rfl⟩
 have HY := Lib.hid (HX.out.new #[.int .i64 s1, .int .i64 1, .int .i64 p1, .int .i64 n1, .string t1] 23)
 rw [hW_] at HY
 rw [hW_]
 clear HX
 have HX := HY
 clear HY hW_
 obtain ⟨gd, hgd_⟩ : ∃ x, W4.heap.size = x := ⟨_, rfl⟩
 rw [hgd_] at HX hgd ⊢
 clear hgd_
 have c3_2 : W5.cell? ⟨w.heap.size, 2, none⟩ = some (.int .i64 p1) := (HX.out.cell 3 rfl 2).trans rfl
 have c2_1 : W5.cell? ⟨(w.heap.size + 1), 1, none⟩ = some (.int .i64 2) := (HX.out.cell 2 rfl 1).trans rfl
 have c2_2 : W5.cell? ⟨(w.heap.size + 1), 2, none⟩ = some (.int .i64 p2) := (HX.out.cell 2 rfl 2).trans rfl
 have c2_3 : W5.cell? ⟨(w.heap.size + 1), 3, none⟩ = some (.int .i64 n2) := (HX.out.cell 2 rfl 3).trans rfl
 have cd0_2 : W5.cell? ⟨gd, 2, none⟩ = some (.int .i64 p1) := (HX.out.cell 0 rfl 2).trans rfl
 have fd0_2 : W5.frozen? ⟨gd, 2, none⟩ = false := HX.out.free 0 rfl 2
 go_wp2
 go_loop [11, 12] (fun u11 u12 => ∃ m : Nat, (m : Int) ≤ n2 ∧ u11 = .int .i64 (goneR p1 p2 m) ∧ u12 = .int .i64 (p2 + m)) (fun _ u => (p2 + n2 - intOf u).toNat)
 case atStart => exact ⟨0, by omega, vi (by unfold goneR; omega), vi (by omega)⟩
 case round =>
  obtain ⟨m, hm, rfl, rfl⟩ := hrel
  obtain ⟨q, hq_⟩ : ∃ q, goneR p1 p2 m = q := ⟨_, rfl⟩
  have hqb : 0 ≤ q ∧ q ≤ 20000 := by rw [← hq_]; unfold goneR; omega
  obtain ⟨hq0, hq1⟩ := hqb
  rw [hq_]
  by_cases hlt : (m : Int) < n2
  ·by_cases hp : p2 + (m : Int) < p1
   ·have HQ := Lib.hid (show goneR p1 p2 (m + 1) = q + 1 by rw [← hq_]; unfold goneR; omega)
    clear hq_
    go_wp2
    go_round
    case rel => exact ⟨m + 1, by omega, by rw [HQ.out], vi (by omega)⟩
    case measure => simp [intOf]; omega
   ·exfalso; omega
  ·have HQ := Lib.hid (show q = gg by rw [← hq_, ← HGG.out]; unfold goneR; omega)
   obtain rfl := HQ.out
   clear hq_ HQ
   go_upto_region 17 with fail
   clear cd0_2 fd0_2
   obtain ⟨W6, hW_⟩ : ∃ x, W5.setCell ⟨gd, 2, none⟩ (.int .i64 (p1 - q)) = x := ⟨_, rfl⟩
   have HY := Lib.hid (HX.out.put 0 rfl 2 (.int .i64 (p1 - q)))
   rw [hW_] at HY
   rw [hW_]
   clear HX
   have HX := HY
   clear HY hW_
   clear c3_2 c2_1 c2_2 c2_3
   have c3_2 : W6.cell? ⟨w.heap.size, 2, none⟩ = some (.int .i64 p1) := (HX.out.cell 3 rfl 2).trans rfl
   have c2_2 : W6.cell? ⟨(w.heap.size + 1), 2, none⟩ = some (.int .i64 p2) := (HX.out.cell 2 rfl 2).trans rfl
   have c2_3 : W6.cell? ⟨(w.heap.size + 1), 3, none⟩ = some (.int .i64 n2) := (HX.out.cell 2 rfl 3).trans rfl
   go_upto_region 19 with fail
   clear c3_2 c2_2 c2_3
   have cd0_0 : W6.cell? ⟨gd, 0, none⟩ = some (.int .i64 s1) := (HX.out.cell 0 rfl 0).trans rfl
   have cd0_1 : W6.cell? ⟨gd, 1, none⟩ = some (.int .i64 1) := (HX.out.cell 0 rfl 1).trans rfl
   have cd0_2 : W6.cell? ⟨gd, 2, none⟩ = some (.int .i64 (p1 - q)) := (HX.out.cell 0 rfl 2).trans rfl
   have cd0_3 : W6.cell? ⟨gd, 3, none⟩ = some (.int .i64 n1) := (HX.out.cell 0 rfl 3).trans rfl
   have cd0_4 : W6.cell? ⟨gd, 4, none⟩ = some (.string t1) := (HX.out.cell 0 rfl 4).trans rfl
   go_wp2_with ((with_reducible refine gate_dst (N := 114) rfl ?_); refine Kd.R_lit k23 _ 23 ?hg (N := 114) ?hd (xs := [(⟨s1, 1, p1 - q, n1, t1⟩ : S23)]) (inner := [.int .i64 s1, .int .i64 1, .int .i64 (p1 - q), .int .i64 n1, .string t1]) (ok := fun _ => True) (okp := fun _ => True) ?hr ?hp (fun _ hk => hk) trivial (Below.refl _ _) (Nat.le_refl _) (by simp) ?_; (case hd => rfl); (case hg => rfl); (case hr => first | (go_simp; done) | (go_simp; rfl)); (case hp => exact (Reps.c5 (k23_mkM _ _ _ (⟨s1, 1, p1 - q, n1, t1⟩ : S23)) (Reps.none _ _))); intro v9 W9 ho hb9 hg_ hnew_; clear hg_ hnew_; have HX0 := Lib.hid HX.out.below.size; have HY := Lib.hid (HX.out.keep hb9); clear HX; have HX := HY; clear HY; have HO := Lib.hid ho; clear ho hb9; have cz1_0 : W9.cell? ⟨(w.heap.size + 1 + 1), 0, none⟩ = some (.int .i64 0) := (HX.out.cell 1 rfl 0).trans rfl; have fz1_0 : W9.frozen? ⟨(w.heap.size + 1 + 1), 0, none⟩ = false := HX.out.free 1 rfl 0; have cz1_1 : W9.cell? ⟨(w.heap.size + 1 + 1), 1, none⟩ = some (.int .i64 0) := (HX.out.cell 1 rfl 1).trans rfl; have fz1_1 : W9.frozen? ⟨(w.heap.size + 1 + 1), 1, none⟩ = false := HX.out.free 1 rfl 1; have cz1_2 : W9.cell? ⟨(w.heap.size + 1 + 1), 2, none⟩ = some (.int .i64 0) := (HX.out.cell 1 rfl 2).trans rfl; have fz1_2 : W9.frozen? ⟨(w.heap.size + 1 + 1), 2, none⟩ = false := HX.out.free 1 rfl 2)
   have HR := Lib.hid (R_three HO.out HX0.out (HX.out.blk 1 rfl) (by decide) (.int .i64 0) (.int .i64 0) (.int .i64 0))
   obtain ⟨W10, hW_⟩ : ∃ x, (((W9.setCell ⟨w.heap.size + 1 + 1, 0, none⟩ (.int .i64 0)).setCell ⟨w.heap.size + 1 + 1, 1, none⟩ (.int .i64 0)).setCell ⟨w.heap.size + 1 + 1, 2, none⟩ (.int .i64 0)) = x := ⟨_, rfl⟩
   have HY := Lib.hid ((((HX.out.put 1 rfl 0 (.int .i64 0)).put 1 rfl 1 (.int .i64 0)).put 1 rfl 2 (.int .i64 0)))
   rw [hW_] at HY HR
   rw [hW_]
   clear HX
   have HX := HY
   clear HY hW_
   refine bodyPost_ret (results_list (rs := [.tmp 6, .cell 7 35, .tmp 8]) rfl (by simp) (.tmp (.cell (w.heap.size + 1 + 1) 35 #[.int .i64 0, .int .i64 0, .int .i64 0] (0, 0) _ rfl (HX.out.blk 1 rfl) hu35 rfl (by kernel_rfl) (.tmp .nil)))) rfl ?_
   exact ⟨_, rfl, HR.out, HX.out.below⟩

set_option maxRecDepth 100000 in
set_option maxHeartbeats 8000000 in
theorem rincl_d1 (k : Nat) (s1 p1 n1 : Int) (t1 : ByteArray) (s2 p2 n2 : Int) (t2 : ByteArray) (n : Int) (w : World) (kk : Int) (hk : foolscapref01_Len.f k t2 = some kk) (hs : ¬ s1 = s2) (ha : foolscapref29_May.f k s1 2 p1 n1 t1 n = some true) (hb : foolscapref29_May.f k s2 1 p2 n2 t2 n = some true) (b1 : 0 ≤ p1) (b2 : p1 ≤ 20000) (b3 : 0 ≤ n1) (b4 : n1 ≤ 20000) (b5 : 0 ≤ p2) (b6 : p2 ≤ 20000) (b7 : 0 ≤ n2) (b8 : n2 ≤ 20000) (b9 : -1 ≤ kk) (b10 : kk ≤ 20000) (hkk : 0 ≤ kk) (N1 : Nat) (hN1 : n1 = (N1 : Int)) (AF : List Int) (hAT : atsR 1 p2 n2 kk p1 N1 = AF) (q1 q2 q3 : Int) (hLF : lostR 1 p2 n2 p1 N1 = (q1, q2, q3)) :
  Calls Tryd.prog 12 #[.agg #[.int .i64 s1, .int .i64 2, .int .i64 p1, .int .i64 n1, .string t1], .agg #[.int .i64 s2, .int .i64 1, .int .i64 p2, .int .i64 n2, .string t2], .int .i64 n] w fun e w' => ∃ v0_ : Value, e = .returned (.tuple #[v0_, .agg #[.int .i64 q1, .int .i64 q2, .int .i64 q3], .int .i64 0]) ∧ Kd.R k23 23 w' w.heap.size (fun _ => True) v0_ (grpR s1 2 t1 AF AF.length) ∧ Below w.heap.size w w' := by
 have HKK := Lib.hid hkk
 clear hkk
 have HN1 := Lib.hid hN1
 have HAF := Lib.hid hAT
 have HLF := Lib.hid hLF
 clear hN1 hAT hLF
 have hq : (s1 == s2) = false := beq_eq_false_iff_ne.2 hs
 have HA := Lib.hid ha
 have HB := Lib.hid hb
 have HK := Lib.hid hk
 have HS := Lib.hid hs
 clear ha hb hs hk
 have HB0 := Lib.hid ((((Bxs.start w).new #[.int .i64 s1, .int .i64 2, .int .i64 p1, .int .i64 n1, .string t1] 23).new #[.int .i64 s2, .int .i64 1, .int .i64 p2, .int .i64 n2, .string t2] 23).new #[.int .i64 0, .int .i64 0, .int .i64 0] 35)
 have hu23 := Tryd.underlying23
 have hu35 := Tryd.underlying35
 go_enter Tryd.func12, Tryd.ntmps12
 go_upto_region 1 with fail
 obtain ⟨W1, hW1⟩ : ∃ x, ((w.alloc (.cells #[.int .i64 s1, .int .i64 2, .int .i64 p1, .int .i64 n1, .string t1] 23)).alloc (.cells #[.int .i64 s2, .int .i64 1, .int .i64 p2, .int .i64 n2, .string t2] 23)).alloc (.cells #[.int .i64 0, .int .i64 0, .int .i64 0] 35) = x := ⟨_, rfl⟩
 have HX : Hid (Bxs w [((w.heap.size + 1 + 1), #[.int .i64 0, .int .i64 0, .int .i64 0], 35), ((w.heap.size + 1), #[.int .i64 s2, .int .i64 1, .int .i64 p2, .int .i64 n2, .string t2], 23), (w.heap.size, #[.int .i64 s1, .int .i64 2, .int .i64 p1, .int .i64 n1, .string t1], 23)] W1) := by
  rw [← hW1]
  simpa [Hid] using HB0.out
 rw [hW1]
 clear hW1 HB0
 have c2_0 : W1.cell? ⟨w.heap.size, 0, none⟩ = some (.int .i64 s1) := (HX.out.cell 2 rfl 0).trans rfl
 have c2_1 : W1.cell? ⟨w.heap.size, 1, none⟩ = some (.int .i64 2) := (HX.out.cell 2 rfl 1).trans rfl
 have c2_2 : W1.cell? ⟨w.heap.size, 2, none⟩ = some (.int .i64 p1) := (HX.out.cell 2 rfl 2).trans rfl
 have c2_3 : W1.cell? ⟨w.heap.size, 3, none⟩ = some (.int .i64 n1) := (HX.out.cell 2 rfl 3).trans rfl
 have c2_4 : W1.cell? ⟨w.heap.size, 4, none⟩ = some (.string t1) := (HX.out.cell 2 rfl 4).trans rfl
 go_wp2_with fail
 refine (foolscapref29_May.calls k s1 2 p1 n1 t1 n true _ HA.out).mono ?_
 rintro e W2 ⟨rfl, hb⟩
 have HY := Lib.hid (HX.out.keep hb)
 clear HX
 have HX := HY
 clear HY hb
 clear c2_0 c2_1 c2_2 c2_3 c2_4
 have c1_0 : W2.cell? ⟨(w.heap.size + 1), 0, none⟩ = some (.int .i64 s2) := (HX.out.cell 1 rfl 0).trans rfl
 have c1_1 : W2.cell? ⟨(w.heap.size + 1), 1, none⟩ = some (.int .i64 1) := (HX.out.cell 1 rfl 1).trans rfl
 have c1_2 : W2.cell? ⟨(w.heap.size + 1), 2, none⟩ = some (.int .i64 p2) := (HX.out.cell 1 rfl 2).trans rfl
 have c1_3 : W2.cell? ⟨(w.heap.size + 1), 3, none⟩ = some (.int .i64 n2) := (HX.out.cell 1 rfl 3).trans rfl
 have c1_4 : W2.cell? ⟨(w.heap.size + 1), 4, none⟩ = some (.string t2) := (HX.out.cell 1 rfl 4).trans rfl
 go_wp2_with fail
 refine (foolscapref29_May.calls k s2 1 p2 n2 t2 n true _ HB.out).mono ?_
 rintro e W3 ⟨rfl, hb⟩
 have HY := Lib.hid (HX.out.keep hb)
 clear HX
 have HX := HY
 clear HY hb
 clear c1_0 c1_1 c1_2 c1_3 c1_4
 have cs2_0 : W3.cell? ⟨w.heap.size, 0, none⟩ = some (.int .i64 s1) := (HX.out.cell 2 rfl 0).trans rfl
 have cs1_0 : W3.cell? ⟨(w.heap.size + 1), 0, none⟩ = some (.int .i64 s2) := (HX.out.cell 1 rfl 0).trans rfl
 have c1_4 : W3.cell? ⟨(w.heap.size + 1), 4, none⟩ = some (.string t2) := (HX.out.cell 1 rfl 4).trans rfl
 go_wp2_with fail
 refine (foolscapref01_Len.calls k t2 kk _ HK.out).mono ?_
 rintro e W4 ⟨rfl, hb⟩
 have HY := Lib.hid (HX.out.keep hb)
 clear HX
 have HX := HY
 clear HY hb
 clear cs2_0 cs1_0 c1_4
 have hgd : w.heap.size + 1 + 1 < W4.heap.size := HX.out.lt (List.mem_cons_self ..)
 have c2_1 : W4.cell? ⟨w.heap.size, 1, none⟩ = some (.int .i64 2) := (HX.out.cell 2 rfl 1).trans rfl
 have c2_2 : W4.cell? ⟨w.heap.size, 2, none⟩ = some (.int .i64 p1) := (HX.out.cell 2 rfl 2).trans rfl
 have g2_0 : ∀ o, (W4.alloc o).cell? ⟨w.heap.size, 0, none⟩ = some (.int .i64 s1) := fun o => (blk_cell (blk_alloc (HX.out.blk 2 rfl) o) 0).trans rfl
 have g2_1 : ∀ o, (W4.alloc o).cell? ⟨w.heap.size, 1, none⟩ = some (.int .i64 2) := fun o => (blk_cell (blk_alloc (HX.out.blk 2 rfl) o) 1).trans rfl
 have g2_2 : ∀ o, (W4.alloc o).cell? ⟨w.heap.size, 2, none⟩ = some (.int .i64 p1) := fun o => (blk_cell (blk_alloc (HX.out.blk 2 rfl) o) 2).trans rfl
 have g2_3 : ∀ o, (W4.alloc o).cell? ⟨w.heap.size, 3, none⟩ = some (.int .i64 n1) := fun o => (blk_cell (blk_alloc (HX.out.blk 2 rfl) o) 3).trans rfl
 have g2_4 : ∀ o, (W4.alloc o).cell? ⟨w.heap.size, 4, none⟩ = some (.string t1) := fun o => (blk_cell (blk_alloc (HX.out.blk 2 rfl) o) 4).trans rfl
 go_wp2
 clear c2_1 c2_2 g2_0 g2_1 g2_2 g2_3 g2_4
 obtain ⟨W5, hW_⟩ : ∃ x, W4.alloc (.cells #[.int .i64 0, .int .i64 0, .int .i64 0] 35) = x := ⟨_, rfl⟩
 have HY := Lib.hid (HX.out.new #[.int .i64 0, .int .i64 0, .int .i64 0] 35)
 rw [hW_] at HY
 rw [hW_]
 clear HX
 have HX := HY
 clear HY hW_
 have hgl := HX.out.lt (List.mem_cons_self ..)
 obtain ⟨gl, hgl_⟩ : ∃ x, W4.heap.size = x := ⟨_, rfl⟩
 simp only [hgl_] at HX hgd hgl ⊢
 clear hgl_
 obtain ⟨B0, hB0⟩ : ∃ x, W5.heap.size = x := ⟨_, rfl⟩
 rw [hB0] at hgl
 have HB0 := Lib.hid hB0
 clear hB0
 have hn1 : n1 = (N1 : Int) := HN1.out
 have hN1b : N1 ≤ 20000 := by omega
 clear hn1
 go_loopg [13, 15] N1 (fun kq u13 u15 wr => ∃ m : Nat, u15 = .int .i64 (p1 + m) ∧ Aside0 (m + kq = N1) ∧ Aside0 (Kd.R (Kd.int .i64) 3 wr B0 (fun _ => True) u13 (atsR 1 p2 n2 kk p1 m)) ∧ Aside0 (Bxs w [(gl, #[.int .i64 (lostR 1 p2 n2 p1 m).1, .int .i64 (lostR 1 p2 n2 p1 m).2.1, .int .i64 (lostR 1 p2 n2 p1 m).2.2], 35), ((w.heap.size + 1 + 1), #[.int .i64 0, .int .i64 0, .int .i64 0], 35), ((w.heap.size + 1), #[.int .i64 s2, .int .i64 1, .int .i64 p2, .int .i64 n2, .string t2], 23), (w.heap.size, #[.int .i64 s1, .int .i64 2, .int .i64 p1, .int .i64 n1, .string t1], 23)] wr) ∧ Aside0 (B0 ≤ wr.heap.size))
 case atStart => exact ⟨0, vi (by omega), ⟨by omega⟩, ⟨Kd.R_nil _ _ _ _ _⟩, ⟨HX.out⟩, ⟨Nat.le_of_eq HB0.out.symm⟩⟩
 case round =>
  obtain ⟨m, rfl, HM, HO, HXr, HZ⟩ := hrel
  obtain ⟨p, hp⟩ : ∃ p, p1 + (m : Int) = p := ⟨_, rfl⟩
  obtain ⟨AT, hA⟩ : ∃ l, atsR 1 p2 n2 kk p1 m = l := ⟨_, rfl⟩
  obtain ⟨i0, f0, c0, hL⟩ : ∃ a b c, lostR 1 p2 n2 p1 m = (a, b, c) := ⟨_, _, _, rfl⟩
  have HAL := Lib.hid (show (AT.length + 1) * 8 ≤ 140737488355328 by have := ats_len 1 p2 n2 kk p1 m; rw [hA] at this; have := HM.out; omega)
  rw [hA] at HO
  simp only [hL] at HXr
  rw [hp]
  have hp0 : 0 ≤ p := by omega
  have hp1 : p ≤ 40000 := by have := HM.out; omega
  have HN := Lib.hid (show n1 = (N1 : Int) from HN1.out)
  have HAT := Lib.hid hA
  have HL := Lib.hid hL
  have HP := Lib.hid hp
  clear hA hL
  have c3_2 : wr.cell? ⟨w.heap.size, 2, none⟩ = some (.int .i64 p1) := (HXr.out.cell 3 rfl 2).trans rfl
  have c3_3 : wr.cell? ⟨w.heap.size, 3, none⟩ = some (.int .i64 n1) := (HXr.out.cell 3 rfl 3).trans rfl
  have c2_1 : wr.cell? ⟨(w.heap.size + 1), 1, none⟩ = some (.int .i64 1) := (HXr.out.cell 2 rfl 1).trans rfl
  have c2_2 : wr.cell? ⟨(w.heap.size + 1), 2, none⟩ = some (.int .i64 p2) := (HXr.out.cell 2 rfl 2).trans rfl
  have c2_3 : wr.cell? ⟨(w.heap.size + 1), 3, none⟩ = some (.int .i64 n2) := (HXr.out.cell 2 rfl 3).trans rfl
  have c0_0 : wr.cell? ⟨gl, 0, none⟩ = some (.int .i64 i0) := (HXr.out.cell 0 rfl 0).trans rfl
  have f0_0 : wr.frozen? ⟨gl, 0, none⟩ = false := HXr.out.free 0 rfl 0
  have c0_1 : wr.cell? ⟨gl, 1, none⟩ = some (.int .i64 f0) := (HXr.out.cell 0 rfl 1).trans rfl
  have f0_1 : wr.frozen? ⟨gl, 1, none⟩ = false := HXr.out.free 0 rfl 1
  have c0_2 : wr.cell? ⟨gl, 2, none⟩ = some (.int .i64 c0) := (HXr.out.cell 0 rfl 2).trans rfl
  have f0_2 : wr.frozen? ⟨gl, 2, none⟩ = false := HXr.out.free 0 rfl 2
  by_cases hlt : m < N1
  ·have hpl : p < p1 + n1 := by have := HN.out; omega
   clear hp
   by_cases hc : p2 ≤ p
   ·have HAT1 := Lib.hid (show atsR 1 p2 n2 kk p1 (m + 1) = AT ++ [p + kk] by rw [atsR, HAT.out, HP.out, show posR 1 p2 n2 kk p = some (p + kk) by unfold posR; simp; omega]; rfl)
    have HL1 := Lib.hid (show lostR 1 p2 n2 p1 (m + 1) = (i0, f0, c0) by rw [lostR, HP.out, if_pos (by omega)]; exact HL.out)
    go_wp2_with ((with_reducible refine gate_dst (N := 141) rfl ?_); refine Kd.R_append (Kd.int .i64) (w0 := wr) B0 rfl (.tmp 138) (.tmp 140) 60 3 (.int .i64 0) 8 rfl Tryd.underlying60 info_i64 rfl (by decide) (by omega) u13 AT (p + kk) [.int .i64 (p + kk)] (fun _ => True) (fun _ => False) rfl rfl ?aP (fun _ hk => hk.elim) ?aF ?aO ?aB ?aS ?aL ?_; (case aP => exact rfl); (case aB => exact Below.refl _ _); (case aF => exact fun _ _ => trivial); (case aO => exact HO.out); (case aS => exact HZ.out); (case aL => have := HAL.out; omega); intro v5 w5 ho hb _ _)
    go_roundg (gk - 1)
    case measure => have := HM.out; omega
    case rel => exact ⟨m + 1, vi (by have := HP.out; omega), ⟨by have := HM.out; omega⟩, ⟨by rw [HAT1.out]; exact ho⟩, ⟨by rw [HL1.out]; exact HXr.out.keepB hb (by intro x hx; simp only [List.mem_cons, List.not_mem_nil, or_false] at hx; rcases hx with rfl | rfl | rfl | rfl <;> simp only <;> omega) (by omega)⟩, ⟨Nat.le_trans HZ.out hb.size⟩⟩
   ·have HAT1 := Lib.hid (show atsR 1 p2 n2 kk p1 (m + 1) = AT ++ [p] by rw [atsR, HAT.out, HP.out, show posR 1 p2 n2 kk p = some (p) by unfold posR; simp; omega]; rfl)
    have HL1 := Lib.hid (show lostR 1 p2 n2 p1 (m + 1) = (i0, f0, c0) by rw [lostR, HP.out, if_pos (by omega)]; exact HL.out)
    go_wp2_with ((with_reducible refine gate_dst (N := 141) rfl ?_); refine Kd.R_append (Kd.int .i64) (w0 := wr) B0 rfl (.tmp 138) (.tmp 140) 60 3 (.int .i64 0) 8 rfl Tryd.underlying60 info_i64 rfl (by decide) (by omega) u13 AT (p) [.int .i64 (p)] (fun _ => True) (fun _ => False) rfl rfl ?aP (fun _ hk => hk.elim) ?aF ?aO ?aB ?aS ?aL ?_; (case aP => exact rfl); (case aB => exact Below.refl _ _); (case aF => exact fun _ _ => trivial); (case aO => exact HO.out); (case aS => exact HZ.out); (case aL => have := HAL.out; omega); intro v5 w5 ho hb _ _)
    go_roundg (gk - 1)
    case measure => have := HM.out; omega
    case rel => exact ⟨m + 1, vi (by have := HP.out; omega), ⟨by have := HM.out; omega⟩, ⟨by rw [HAT1.out]; exact ho⟩, ⟨by rw [HL1.out]; exact HXr.out.keepB hb (by intro x hx; simp only [List.mem_cons, List.not_mem_nil, or_false] at hx; rcases hx with rfl | rfl | rfl | rfl <;> simp only <;> omega) (by omega)⟩, ⟨Nat.le_trans HZ.out hb.size⟩⟩
  ·have hpg : p1 + n1 ≤ p := by have h1 := HN.out; have := HM.out; omega
   have hmN : m = N1 := by have := HM.out; omega
   subst hmN
   clear hp
   have e1 := HAF.out
   have e2 := HLF.out
   rw [HAT.out] at e1
   rw [HL.out] at e2
   simp only [Prod.mk.injEq] at e2
   obtain ⟨rfl, rfl, rfl⟩ := e2
   subst e1
   obtain ⟨A13, c13, rfl, hl13, hC13⟩ := Kd.R_reads HO.out
   have HC13 := Lib.hid (And.intro hl13 hC13)
   clear hl13 hC13
   obtain ⟨W6, rfl⟩ : ∃ x, x = wr := ⟨_, rfl⟩
   obtain ⟨gk0, rfl⟩ : ∃ x, x = gk := ⟨_, rfl⟩
   have HLE := Lib.hid (show AT.length ≤ 20000 by have := ats_len 1 p2 n2 kk p1 m; rw [HAT.out] at this; omega)
   have HBD := Lib.hid (show ∀ x ∈ AT, 0 ≤ x ∧ x ≤ 60000 by rw [← HAT.out]; exact ats_bdk 1 p2 n2 kk p1 b1 b2 b7 b5 b9 b10 (fun _ => HKK.out) m (by omega))
   clear HP HAL HC13 hlt
   go_wp2
   clear c3_2 c3_3 c2_1 c2_2 c2_3 c0_0 f0_0 c0_1 f0_1 c0_2 f0_2
   go_loopg [17, 18] AT.length (fun kq u17 u18 wr => ∃ i : Nat, u18 = .int .i64 (i : Int) ∧ Aside0 (i + kq = AT.length) ∧ Aside0 (Kd.R k23 23 wr B0 (fun _ => True) u17 (grpR s1 2 t1 AT i)) ∧ Aside0 (Kd.R (Kd.int .i64) 3 wr B0 (fun _ => True) (.slice A13 AT.length c13) AT) ∧ Aside0 (Bxs w [(gl, #[.int .i64 i0, .int .i64 f0, .int .i64 c0], 35), ((w.heap.size + 1 + 1), #[.int .i64 0, .int .i64 0, .int .i64 0], 35), ((w.heap.size + 1), #[.int .i64 s2, .int .i64 1, .int .i64 p2, .int .i64 n2, .string t2], 23), (w.heap.size, #[.int .i64 s1, .int .i64 2, .int .i64 p1, .int .i64 n1, .string t1], 23)] wr) ∧ Aside0 (B0 ≤ wr.heap.size))
   case atStart => exact ⟨0, vi rfl, ⟨by omega⟩, ⟨Kd.R_nil _ _ _ _ _⟩, ⟨HO.out⟩, ⟨HXr.out⟩, ⟨HZ.out⟩⟩
   case round =>
    obtain ⟨i, rfl, HI, HG, HA, HXs, HZs⟩ := hrel
    obtain ⟨XS, hXS⟩ : ∃ l, grpR s1 2 t1 AT i = l := ⟨_, rfl⟩
    rw [hXS] at HG
    obtain ⟨A17, c17, rfl, _, _⟩ := Kd.R_reads HG.out
    obtain ⟨I, hI⟩ : ∃ I, (i : Int) = I := ⟨_, rfl⟩
    rw [hI]
    have hI0 : 0 ≤ I := by omega
    have hIt : I.toNat = i := by omega
    have HIT := Lib.hid hIt
    have hI9 : I ≤ 20000 := by have := HI.out; have := HLE.out; omega
    have HII := Lib.hid hI
    have HXL := Lib.hid (show XS.length ≤ 20000 by
     rcases Nat.eq_zero_or_pos i with h0 | h0
     ·subst h0; rw [← hXS]; simp [grpR]
     ·obtain ⟨d, r, e, _, _, h2⟩ := grp_some s1 2 t1 AT i h0
      rw [← hXS, e, List.length_cons]; have := HI.out; have := HLE.out; omega)
    have HXS := Lib.hid hXS
    clear hXS hI hIt
    by_cases hlt : i < AT.length
    ·have hI1 : I < (AT.length : Int) := by have := HII.out; omega
     obtain ⟨ga, eA, hcs⟩ := row_ints HA.out (by omega)
     subst eA
     obtain ⟨x, hx_⟩ : ∃ x, AT.getD i 0 = x := ⟨_, rfl⟩
     have hx : wr.cell? ⟨ga, I.toNat, none⟩ = some (.int .i64 x) := by rw [HIT.out, ← hx_]; exact hcs i hlt
     have HAI := Lib.hid hx_
     clear hx_
     by_cases h0 : i = 0
     ·have HNE := Lib.hid (show ¬ (0 < i ∧ AT.getD i 0 = AT.getD (i - 1) 0 + 1) by omega)
      have hd : decide (0 < I) = false := decide_eq_false (by have := HII.out; omega)
      have hd2 : ¬ 0 < I := by have := HII.out; omega
      clear h0 hcs
      go_upto_region 41 with fail
      go_quiet (fail)
      obtain ⟨WQ, hWQ⟩ : ∃ x, wr.drewN nq = x := ⟨_, rfl⟩
      have HGq := Lib.hid (hWQ ▸ Kd.R_drewN HG.out nq)
      have HAq := Lib.hid (hWQ ▸ Kd.R_drewN HA.out nq)
      have HXq := Lib.hid (hWQ ▸ HXs.out.drewN nq)
      have HZq : B0 ≤ WQ.heap.size := hWQ ▸ HZs.out
      have hxq : WQ.cell? ⟨ga, I.toNat, none⟩ = some (.int .i64 x) := hWQ ▸ hx
      rw [hWQ]
      clear hWQ
      have HG1 := Lib.hid (show grpR s1 2 t1 AT (i + 1) = [(⟨s1, 2, x, 1, t1⟩ : S23)] ++ XS by simp only [grpR]; rw [if_neg HNE.out, HXS.out, HAI.out]; rfl)
      have c3_0 : WQ.cell? ⟨w.heap.size, 0, none⟩ = some (.int .i64 s1) := (HXq.out.cell 3 rfl 0).trans rfl
      have c3_1 : WQ.cell? ⟨w.heap.size, 1, none⟩ = some (.int .i64 2) := (HXq.out.cell 3 rfl 1).trans rfl
      have c3_2 : WQ.cell? ⟨w.heap.size, 2, none⟩ = some (.int .i64 p1) := (HXq.out.cell 3 rfl 2).trans rfl
      have c3_3 : WQ.cell? ⟨w.heap.size, 3, none⟩ = some (.int .i64 n1) := (HXq.out.cell 3 rfl 3).trans rfl
      have c3_4 : WQ.cell? ⟨w.heap.size, 4, none⟩ = some (.string t1) := (HXq.out.cell 3 rfl 4).trans rfl
      have g3_0 : ∀ o, (WQ.alloc o).cell? ⟨w.heap.size, 0, none⟩ = some (.int .i64 s1) := fun o => (blk_cell (blk_alloc (HXq.out.blk 3 rfl) o) 0).trans rfl
      have g3_1 : ∀ o, (WQ.alloc o).cell? ⟨w.heap.size, 1, none⟩ = some (.int .i64 2) := fun o => (blk_cell (blk_alloc (HXq.out.blk 3 rfl) o) 1).trans rfl
      have g3_2 : ∀ o, (WQ.alloc o).cell? ⟨w.heap.size, 2, none⟩ = some (.int .i64 p1) := fun o => (blk_cell (blk_alloc (HXq.out.blk 3 rfl) o) 2).trans rfl
      have g3_3 : ∀ o, (WQ.alloc o).cell? ⟨w.heap.size, 3, none⟩ = some (.int .i64 n1) := fun o => (blk_cell (blk_alloc (HXq.out.blk 3 rfl) o) 3).trans rfl
      have g3_4 : ∀ o, (WQ.alloc o).cell? ⟨w.heap.size, 4, none⟩ = some (.string t1) := fun o => (blk_cell (blk_alloc (HXq.out.blk 3 rfl) o) 4).trans rfl
      have hxa : ∀ o, (WQ.alloc o).cell? ⟨ga, I.toNat, none⟩ = some (.int .i64 x) := fun o => ((below_alloc (Below.refl WQ.heap.size WQ) o).cell (World.block_lt_of_cell? WQ _ hxq)).trans hxq
      go_upto_region 46 with fail
      clear hxa hxq c3_0 c3_1 c3_2 c3_3 c3_4 g3_0 g3_1 g3_2 g3_3 g3_4
      have HN := Lib.hid (blk_new WQ (.cells #[.int .i64 s1, .int .i64 2, .int .i64 x, .int .i64 1, .string t1] 23))
      have HGn := Lib.hid (Kd.R_alloc HGq.out (.cells #[.int .i64 s1, .int .i64 2, .int .i64 x, .int .i64 1, .string t1] 23 (0, 0)))
      have HAn := Lib.hid (Kd.R_alloc HAq.out (.cells #[.int .i64 s1, .int .i64 2, .int .i64 x, .int .i64 1, .string t1] 23 (0, 0)))
      have HXn := Lib.hid (HXq.out.keep (below_alloc (Below.refl _ _) (.cells #[.int .i64 s1, .int .i64 2, .int .i64 x, .int .i64 1, .string t1] 23 (0, 0))))
      have HZn : B0 ≤ (WQ.alloc (.cells #[.int .i64 s1, .int .i64 2, .int .i64 x, .int .i64 1, .string t1] 23)).heap.size := Nat.le_trans HZq (by simp)
      obtain ⟨gn, hgn⟩ : ∃ x, WQ.heap.size = x := ⟨_, rfl⟩
      obtain ⟨WN, hWN⟩ : ∃ W_, WQ.alloc (.cells #[.int .i64 s1, .int .i64 2, .int .i64 x, .int .i64 1, .string t1] 23) = W_ := ⟨_, rfl⟩
      rw [hWN] at HN HGn HAn HXn HZn ⊢
      rw [hgn] at HN ⊢
      clear hWN hgn HGq HAq HXq HZq
      have kc0 : WN.cell? ⟨gn, 0, none⟩ = some (.int .i64 s1) := (blk_cell HN.out 0).trans rfl
      have kc1 : WN.cell? ⟨gn, 1, none⟩ = some (.int .i64 2) := (blk_cell HN.out 1).trans rfl
      have kc2 : WN.cell? ⟨gn, 2, none⟩ = some (.int .i64 x) := (blk_cell HN.out 2).trans rfl
      have kc3 : WN.cell? ⟨gn, 3, none⟩ = some (.int .i64 1) := (blk_cell HN.out 3).trans rfl
      have kc4 : WN.cell? ⟨gn, 4, none⟩ = some (.string t1) := (blk_cell HN.out 4).trans rfl
      go_wp2_with (first | ((with_reducible refine gate_dst (N := 212) rfl ?_); refine Kd.R_lit k23 B0 23 ?hg (N := 212) ?hd (xs := [(⟨s1, 2, x, 1, t1⟩ : S23)]) (inner := [.int .i64 s1, .int .i64 2, .int .i64 x, .int .i64 1, .string t1]) (ok := fun _ => True) (okp := fun _ => True) ?hr ?hp (fun _ hk => hk) trivial (Below.refl _ _) HZn (by simp) ?_; (case hd => rfl); (case hg => rfl); (case hr => first | (go_simp; done) | (go_simp; rfl)); (case hp => exact (Reps.c5 (k23_mkM _ _ _ (⟨s1, 2, x, 1, t1⟩ : S23)) (Reps.none _ _))); intro v9 W9 ho hb9 hg9 _; have HO9 := Lib.hid ho; have HG9 := Lib.hid (Kd.R_below HGn.out (below_none hg9)); have HA9 := Lib.hid (Kd.R_below HAn.out (below_none hg9)); have HX9 := Lib.hid (HXn.out.keep (below_none hg9)); have HZ9 : B0 ≤ W9.heap.size := Nat.le_trans HZn hg9.size; clear ho hb9 hg9) | ((with_reducible refine gate_dst (N := 214) rfl ?_); refine Kd.R_append_rows k23 (Rr := k23.K W9) (w0 := W9) B0 rfl (.tmp 212) (.tmp 213) 26 23 (.agg #[.int .i64 0, .int .i64 0, .int .i64 0, .int .i64 0, .string ⟨#[]⟩]) 48 rfl Tryd.underlying26 info_s23 rfl (by decide) (by omega) v9 [(⟨s1, 2, x, 1, t1⟩ : S23)] XS A17 XS.length c17 (fun _ => True) (fun _ => False) rfl rfl HO9.out (Kd.R_reads' HG9.out).2.2 (fun _ _ h => h) (fun _ h => h.elim) (fun _ _ => trivial) (Below.refl _ _) HZ9 (by have := HXL.out; simp only [List.length_cons, List.length_nil]; omega) ?_; intro v8 w8 ho8 hb8 hg8 _))
      go_roundg (gk - 1)
      case measure => have := HI.out; omega
      case rel => exact ⟨i + 1, vi (by have := HII.out; omega), ⟨by have := HI.out; omega⟩, ⟨by rw [HG1.out]; exact ho8⟩, ⟨Kd.R_over' HA9.out (Kd.R_typed HO9.out) (by decide) hg8⟩, ⟨HX9.out.keepB hb8 (by intro x hx; simp only [List.mem_cons, List.not_mem_nil, or_false] at hx; rcases hx with rfl | rfl | rfl | rfl <;> simp only <;> omega) (by omega)⟩, ⟨Nat.le_trans HZ9 hb8.size⟩⟩
     ·obtain ⟨y, hy_⟩ : ∃ y, AT.getD (i - 1) 0 = y := ⟨_, rfl⟩
      have hyb : 0 ≤ y ∧ y ≤ 60000 := by
       rw [← hy_, List.getD_eq_getElem?_getD, List.getElem?_eq_getElem (by omega : i - 1 < AT.length)]
       exact HBD.out _ (List.getElem_mem _)
      obtain ⟨hy0, hy1⟩ := hyb
      obtain ⟨J, hJ⟩ : ∃ J, I - 1 = J := ⟨_, rfl⟩
      have hI2 : 0 ≤ J := by have := HII.out; omega
      have hI3 : J < (AT.length : Int) := by omega
      have hIp : 0 < I := by omega
      have hd : decide (0 < I) = true := decide_eq_true hIp
      have hw1 : IntKind.i64.wrap (I - 1) = J := by rw [← hJ]; exact IntWalk.i64_in _ (by omega)
      have hw2 : IntKind.i64.wrap (y + 1) = y + 1 := IntWalk.i64_in _ (by omega)
      have hy : wr.cell? ⟨ga, J.toNat, none⟩ = some (.int .i64 y) := by rw [show J.toNat = i - 1 by have := HII.out; omega, ← hy_]; exact hcs (i - 1) (by omega)
      clear hJ
      have HYI := Lib.hid hy_
      have hi1 : 0 < i := by omega
      clear hy_ hcs h0
      by_cases hxy : x = y + 1
      ·have HNE := Lib.hid (show 0 < i ∧ AT.getD i 0 = AT.getD (i - 1) 0 + 1 from ⟨hi1, by rw [HAI.out, HYI.out]; exact hxy⟩)
       have hq1 : (x == y + 1) = true := beq_iff_eq.2 hxy
       have HXY := Lib.hid hxy
       clear hxy
       have hpos : 0 < XS.length := by
        obtain ⟨d, r, e, _⟩ := grp_some s1 2 t1 AT i hi1
        rw [HXS.out] at e
        rw [e]
        simp
       have hposI : (0 : Int) < (XS.length : Int) := by omega
       obtain ⟨g17, c18, hv17, _, hr17⟩ := row23 HG.out hpos
       injection hv17 with hA17 hn17 hc17
       subst hA17 hc17
       clear hn17
       obtain ⟨e0, he0⟩ : ∃ e0, XS.getD 0 z23 = e0 := ⟨_, rfl⟩
       have hcc := row23_cc (i := 0) (e := e0) (by rw [← he0]; exact hr17 0 hpos)
       have hf : 0 ≤ e0.f3 ∧ e0.f3 ≤ 20000 ∧ XS.set 0 (⟨e0.f0, e0.f1, e0.f2, e0.f3 + 1, e0.f4⟩ : S23) = moreR XS := by
        obtain ⟨d, r, e, f0, f1, _⟩ := grp_some s1 2 t1 AT i hi1
        rw [HXS.out] at e
        subst e
        simp only [List.getD_cons_zero] at he0
        subst he0
        have := HLE.out
        have := HI.out
        exact ⟨f0, by omega, rfl⟩
       obtain ⟨hf0, hf1, hset⟩ := hf
       have HG1 := Lib.hid (show grpR s1 2 t1 AT (i + 1) = XS.set 0 (⟨e0.f0, e0.f1, e0.f2, e0.f3 + 1, e0.f4⟩ : S23) by simp only [grpR]; rw [if_pos HNE.out, HXS.out, hset])
       clear he0 hr17 hset
       go_upto_region 41 with fail
       go_quiet (fail)
       obtain ⟨WQ, hWQ⟩ : ∃ x, wr.drewN nq = x := ⟨_, rfl⟩
       have HGq := Lib.hid (hWQ ▸ Kd.R_drewN HG.out nq)
       have HAq := Lib.hid (hWQ ▸ Kd.R_drewN HA.out nq)
       have HXq := Lib.hid (hWQ ▸ HXs.out.drewN nq)
       have HZq : B0 ≤ WQ.heap.size := hWQ ▸ HZs.out
       have hxq : WQ.cell? ⟨ga, I.toNat, none⟩ = some (.int .i64 x) := hWQ ▸ hx
       have HCq := Lib.hid (show ∀ (j : Nat) (u : Value), [Value.int .i64 e0.f0, .int .i64 e0.f1, .int .i64 e0.f2, .int .i64 e0.f3, .string e0.f4][j]? = some u → WQ.cell? ⟨g17, 0 * 5 + j, none⟩ = some u from fun j u hu => by rw [← hWQ, World.cell?_drewN]; exact hcc j u hu)
       rw [hWQ]
       clear hWQ
       clear hcc
       have hq17 : WQ.cell? ⟨g17, 3, none⟩ = some (.int .i64 e0.f3) := HCq.out 3 _ rfl
       go_upto_region 42 with fail
       go_wp2_with ((with_reducible refine gate_store (t := 3) (p := 203) rfl ?_); refine Kd.R_store k23 (w0 := WQ) B0 rfl rfl 3 (.tmp 203) (.tmp 201) rfl 23 (g := g17) (n := XS.length) (cap := c17) (o' := 3) 0 3 XS (⟨e0.f0, e0.f1, e0.f2, e0.f3 + 1, e0.f4⟩ : S23) (.int .i64 (e0.f3 + 1)) [.int .i64 (e0.f3 + 1)] [.int .i64 e0.f0, .int .i64 e0.f1, .int .i64 e0.f2, .int .i64 e0.f3, .string e0.f4] (fun _ => True) (fun _ => False) rfl rfl rfl rfl (by kernel_rfl) (by simp [Value.oneCell']) HGq.out (by decide) hposI rfl HCq.out (show (4 : Nat) ≤ 5 by decide) (k23_mkM _ _ _ _) (fun _ h => h.elim) (Below.refl _ _) ?_; intro w1 hR1 hb1 hg1)
       go_roundg (gk - 1)
       case measure => have := HI.out; omega
       case rel => exact ⟨i + 1, vi (by have := HII.out; omega), ⟨by have := HI.out; omega⟩, ⟨by rw [HG1.out]; exact hR1⟩, ⟨Kd.R_over' (v := .slice (some ⟨g17, 0, none⟩) XS.length c17) HAq.out (Kd.R_typed HGq.out) (by decide) hg1⟩, ⟨HXq.out.keepB hb1 (by intro x hx; simp only [List.mem_cons, List.not_mem_nil, or_false] at hx; rcases hx with rfl | rfl | rfl | rfl <;> simp only <;> omega) (by omega)⟩, ⟨Nat.le_trans HZq hb1.size⟩⟩
      ·have HNE := Lib.hid (show ¬ (0 < i ∧ AT.getD i 0 = AT.getD (i - 1) 0 + 1) by rw [HAI.out, HYI.out]; omega)
       have hq1 : (x == y + 1) = false := beq_eq_false_iff_ne.2 hxy
       have HXY := Lib.hid hxy
       clear hxy
       go_upto_region 41 with fail
       go_quiet (fail)
       obtain ⟨WQ, hWQ⟩ : ∃ x, wr.drewN nq = x := ⟨_, rfl⟩
       have HGq := Lib.hid (hWQ ▸ Kd.R_drewN HG.out nq)
       have HAq := Lib.hid (hWQ ▸ Kd.R_drewN HA.out nq)
       have HXq := Lib.hid (hWQ ▸ HXs.out.drewN nq)
       have HZq : B0 ≤ WQ.heap.size := hWQ ▸ HZs.out
       have hxq : WQ.cell? ⟨ga, I.toNat, none⟩ = some (.int .i64 x) := hWQ ▸ hx
       rw [hWQ]
       clear hWQ
       have HG1 := Lib.hid (show grpR s1 2 t1 AT (i + 1) = [(⟨s1, 2, x, 1, t1⟩ : S23)] ++ XS by simp only [grpR]; rw [if_neg HNE.out, HXS.out, HAI.out]; rfl)
       have c3_0 : WQ.cell? ⟨w.heap.size, 0, none⟩ = some (.int .i64 s1) := (HXq.out.cell 3 rfl 0).trans rfl
       have c3_1 : WQ.cell? ⟨w.heap.size, 1, none⟩ = some (.int .i64 2) := (HXq.out.cell 3 rfl 1).trans rfl
       have c3_2 : WQ.cell? ⟨w.heap.size, 2, none⟩ = some (.int .i64 p1) := (HXq.out.cell 3 rfl 2).trans rfl
       have c3_3 : WQ.cell? ⟨w.heap.size, 3, none⟩ = some (.int .i64 n1) := (HXq.out.cell 3 rfl 3).trans rfl
       have c3_4 : WQ.cell? ⟨w.heap.size, 4, none⟩ = some (.string t1) := (HXq.out.cell 3 rfl 4).trans rfl
       have g3_0 : ∀ o, (WQ.alloc o).cell? ⟨w.heap.size, 0, none⟩ = some (.int .i64 s1) := fun o => (blk_cell (blk_alloc (HXq.out.blk 3 rfl) o) 0).trans rfl
       have g3_1 : ∀ o, (WQ.alloc o).cell? ⟨w.heap.size, 1, none⟩ = some (.int .i64 2) := fun o => (blk_cell (blk_alloc (HXq.out.blk 3 rfl) o) 1).trans rfl
       have g3_2 : ∀ o, (WQ.alloc o).cell? ⟨w.heap.size, 2, none⟩ = some (.int .i64 p1) := fun o => (blk_cell (blk_alloc (HXq.out.blk 3 rfl) o) 2).trans rfl
       have g3_3 : ∀ o, (WQ.alloc o).cell? ⟨w.heap.size, 3, none⟩ = some (.int .i64 n1) := fun o => (blk_cell (blk_alloc (HXq.out.blk 3 rfl) o) 3).trans rfl
       have g3_4 : ∀ o, (WQ.alloc o).cell? ⟨w.heap.size, 4, none⟩ = some (.string t1) := fun o => (blk_cell (blk_alloc (HXq.out.blk 3 rfl) o) 4).trans rfl
       have hxa : ∀ o, (WQ.alloc o).cell? ⟨ga, I.toNat, none⟩ = some (.int .i64 x) := fun o => ((below_alloc (Below.refl WQ.heap.size WQ) o).cell (World.block_lt_of_cell? WQ _ hxq)).trans hxq
       go_upto_region 46 with fail
       clear hxa hxq c3_0 c3_1 c3_2 c3_3 c3_4 g3_0 g3_1 g3_2 g3_3 g3_4
       have HN := Lib.hid (blk_new WQ (.cells #[.int .i64 s1, .int .i64 2, .int .i64 x, .int .i64 1, .string t1] 23))
       have HGn := Lib.hid (Kd.R_alloc HGq.out (.cells #[.int .i64 s1, .int .i64 2, .int .i64 x, .int .i64 1, .string t1] 23 (0, 0)))
       have HAn := Lib.hid (Kd.R_alloc HAq.out (.cells #[.int .i64 s1, .int .i64 2, .int .i64 x, .int .i64 1, .string t1] 23 (0, 0)))
       have HXn := Lib.hid (HXq.out.keep (below_alloc (Below.refl _ _) (.cells #[.int .i64 s1, .int .i64 2, .int .i64 x, .int .i64 1, .string t1] 23 (0, 0))))
       have HZn : B0 ≤ (WQ.alloc (.cells #[.int .i64 s1, .int .i64 2, .int .i64 x, .int .i64 1, .string t1] 23)).heap.size := Nat.le_trans HZq (by simp)
       obtain ⟨gn, hgn⟩ : ∃ x, WQ.heap.size = x := ⟨_, rfl⟩
       obtain ⟨WN, hWN⟩ : ∃ W_, WQ.alloc (.cells #[.int .i64 s1, .int .i64 2, .int .i64 x, .int .i64 1, .string t1] 23) = W_ := ⟨_, rfl⟩
       rw [hWN] at HN HGn HAn HXn HZn ⊢
       rw [hgn] at HN ⊢
       clear hWN hgn HGq HAq HXq HZq
       have kc0 : WN.cell? ⟨gn, 0, none⟩ = some (.int .i64 s1) := (blk_cell HN.out 0).trans rfl
       have kc1 : WN.cell? ⟨gn, 1, none⟩ = some (.int .i64 2) := (blk_cell HN.out 1).trans rfl
       have kc2 : WN.cell? ⟨gn, 2, none⟩ = some (.int .i64 x) := (blk_cell HN.out 2).trans rfl
       have kc3 : WN.cell? ⟨gn, 3, none⟩ = some (.int .i64 1) := (blk_cell HN.out 3).trans rfl
       have kc4 : WN.cell? ⟨gn, 4, none⟩ = some (.string t1) := (blk_cell HN.out 4).trans rfl
       go_wp2_with (first | ((with_reducible refine gate_dst (N := 212) rfl ?_); refine Kd.R_lit k23 B0 23 ?hg (N := 212) ?hd (xs := [(⟨s1, 2, x, 1, t1⟩ : S23)]) (inner := [.int .i64 s1, .int .i64 2, .int .i64 x, .int .i64 1, .string t1]) (ok := fun _ => True) (okp := fun _ => True) ?hr ?hp (fun _ hk => hk) trivial (Below.refl _ _) HZn (by simp) ?_; (case hd => rfl); (case hg => rfl); (case hr => first | (go_simp; done) | (go_simp; rfl)); (case hp => exact (Reps.c5 (k23_mkM _ _ _ (⟨s1, 2, x, 1, t1⟩ : S23)) (Reps.none _ _))); intro v9 W9 ho hb9 hg9 _; have HO9 := Lib.hid ho; have HG9 := Lib.hid (Kd.R_below HGn.out (below_none hg9)); have HA9 := Lib.hid (Kd.R_below HAn.out (below_none hg9)); have HX9 := Lib.hid (HXn.out.keep (below_none hg9)); have HZ9 : B0 ≤ W9.heap.size := Nat.le_trans HZn hg9.size; clear ho hb9 hg9) | ((with_reducible refine gate_dst (N := 214) rfl ?_); refine Kd.R_append_rows k23 (Rr := k23.K W9) (w0 := W9) B0 rfl (.tmp 212) (.tmp 213) 26 23 (.agg #[.int .i64 0, .int .i64 0, .int .i64 0, .int .i64 0, .string ⟨#[]⟩]) 48 rfl Tryd.underlying26 info_s23 rfl (by decide) (by omega) v9 [(⟨s1, 2, x, 1, t1⟩ : S23)] XS A17 XS.length c17 (fun _ => True) (fun _ => False) rfl rfl HO9.out (Kd.R_reads' HG9.out).2.2 (fun _ _ h => h) (fun _ h => h.elim) (fun _ _ => trivial) (Below.refl _ _) HZ9 (by have := HXL.out; simp only [List.length_cons, List.length_nil]; omega) ?_; intro v8 w8 ho8 hb8 hg8 _))
       go_roundg (gk - 1)
       case measure => have := HI.out; omega
       case rel => exact ⟨i + 1, vi (by have := HII.out; omega), ⟨by have := HI.out; omega⟩, ⟨by rw [HG1.out]; exact ho8⟩, ⟨Kd.R_over' HA9.out (Kd.R_typed HO9.out) (by decide) hg8⟩, ⟨HX9.out.keepB hb8 (by intro x hx; simp only [List.mem_cons, List.not_mem_nil, or_false] at hx; rcases hx with rfl | rfl | rfl | rfl <;> simp only <;> omega) (by omega)⟩, ⟨Nat.le_trans HZ9 hb8.size⟩⟩
    ·have hge : (AT.length : Int) ≤ I := by have := HII.out; omega
     have HXE := Lib.hid (show grpR s1 2 t1 AT AT.length = XS by rw [show AT.length = i by have := HI.out; omega]; exact HXS.out)
     go_upto_region 47 with fail
     have hng : ¬ (gl = w.heap.size + 1 + 1) := by omega
     have c0_0 : wr.cell? ⟨gl, 0, none⟩ = some (.int .i64 i0) := (HXs.out.cell 0 rfl 0).trans rfl
     have c0_1 : wr.cell? ⟨gl, 1, none⟩ = some (.int .i64 f0) := (HXs.out.cell 0 rfl 1).trans rfl
     have c0_2 : wr.cell? ⟨gl, 2, none⟩ = some (.int .i64 c0) := (HXs.out.cell 0 rfl 2).trans rfl
     have cz1_0 : wr.cell? ⟨(w.heap.size + 1 + 1), 0, none⟩ = some (.int .i64 0) := (HXs.out.cell 1 rfl 0).trans rfl
     have fz1_0 : wr.frozen? ⟨(w.heap.size + 1 + 1), 0, none⟩ = false := HXs.out.free 1 rfl 0
     have cz1_1 : wr.cell? ⟨(w.heap.size + 1 + 1), 1, none⟩ = some (.int .i64 0) := (HXs.out.cell 1 rfl 1).trans rfl
     have fz1_1 : wr.frozen? ⟨(w.heap.size + 1 + 1), 1, none⟩ = false := HXs.out.free 1 rfl 1
     have cz1_2 : wr.cell? ⟨(w.heap.size + 1 + 1), 2, none⟩ = some (.int .i64 0) := (HXs.out.cell 1 rfl 2).trans rfl
     have fz1_2 : wr.frozen? ⟨(w.heap.size + 1 + 1), 2, none⟩ = false := HXs.out.free 1 rfl 2
     go_region
     have HRf := Lib.hid (Kd.R_drew (R_three (base := w.heap.size) HG.out (by omega) (HXs.out.blk 1 rfl) (by decide) (.int .i64 i0) (.int .i64 f0) (.int .i64 c0)))
     have HXf := Lib.hid ((((HXs.out.put 1 rfl 0 (.int .i64 i0)).put 1 rfl 1 (.int .i64 f0)).put 1 rfl 2 (.int .i64 c0)).drew)
     obtain ⟨WF, hWF⟩ : ∃ W_, (((wr.setCell ⟨w.heap.size + 1 + 1, 0, none⟩ (.int .i64 i0)).setCell ⟨w.heap.size + 1 + 1, 1, none⟩ (.int .i64 f0)).setCell ⟨w.heap.size + 1 + 1, 2, none⟩ (.int .i64 c0)).drew = W_ := ⟨_, rfl⟩
     rw [hWF] at HRf HXf ⊢
     go_wp2
     refine bodyPost_ret (results_list (rs := [.tmp 6, .cell 7 35, .tmp 8]) rfl (by simp) (.tmp (.cell (w.heap.size + 1 + 1) 35 #[.int .i64 i0, .int .i64 f0, .int .i64 c0] (0, 0) _ rfl (HXf.out.blk 1 rfl) hu35 rfl (by kernel_rfl) (.tmp .nil)))) rfl ?_
     exact ⟨_, rfl, by rw [HXE.out]; exact HRf.out, HXf.out.below⟩

set_option maxRecDepth 100000 in
set_option maxHeartbeats 8000000 in
theorem rincl_d2 (k : Nat) (s1 p1 n1 : Int) (t1 : ByteArray) (s2 p2 n2 : Int) (t2 : ByteArray) (n : Int) (w : World) (kk : Int) (hk : foolscapref01_Len.f k t2 = some kk) (hs : ¬ s1 = s2) (ha : foolscapref29_May.f k s1 2 p1 n1 t1 n = some true) (hb : foolscapref29_May.f k s2 2 p2 n2 t2 n = some true) (b1 : 0 ≤ p1) (b2 : p1 ≤ 20000) (b3 : 0 ≤ n1) (b4 : n1 ≤ 20000) (b5 : 0 ≤ p2) (b6 : p2 ≤ 20000) (b7 : 0 ≤ n2) (b8 : n2 ≤ 20000) (b9 : -1 ≤ kk) (b10 : kk ≤ 20000) (hkk : True) (N1 : Nat) (hN1 : n1 = (N1 : Int)) (AF : List Int) (hAT : atsR 2 p2 n2 kk p1 N1 = AF) (q1 q2 q3 : Int) (hLF : lostR 2 p2 n2 p1 N1 = (q1, q2, q3)) :
  Calls Tryd.prog 12 #[.agg #[.int .i64 s1, .int .i64 2, .int .i64 p1, .int .i64 n1, .string t1], .agg #[.int .i64 s2, .int .i64 2, .int .i64 p2, .int .i64 n2, .string t2], .int .i64 n] w fun e w' => ∃ v0_ : Value, e = .returned (.tuple #[v0_, .agg #[.int .i64 q1, .int .i64 q2, .int .i64 q3], .int .i64 0]) ∧ Kd.R k23 23 w' w.heap.size (fun _ => True) v0_ (grpR s1 2 t1 AF AF.length) ∧ Below w.heap.size w w' := by
 have HKK := Lib.hid hkk
 clear hkk
 have HN1 := Lib.hid hN1
 have HAF := Lib.hid hAT
 have HLF := Lib.hid hLF
 clear hN1 hAT hLF
 have hq : (s1 == s2) = false := beq_eq_false_iff_ne.2 hs
 have HA := Lib.hid ha
 have HB := Lib.hid hb
 have HK := Lib.hid hk
 have HS := Lib.hid hs
 clear ha hb hs hk
 have HB0 := Lib.hid ((((Bxs.start w).new #[.int .i64 s1, .int .i64 2, .int .i64 p1, .int .i64 n1, .string t1] 23).new #[.int .i64 s2, .int .i64 2, .int .i64 p2, .int .i64 n2, .string t2] 23).new #[.int .i64 0, .int .i64 0, .int .i64 0] 35)
 have hu23 := Tryd.underlying23
 have hu35 := Tryd.underlying35
 go_enter Tryd.func12, Tryd.ntmps12
 go_upto_region 1 with fail
 obtain ⟨W1, hW1⟩ : ∃ x, ((w.alloc (.cells #[.int .i64 s1, .int .i64 2, .int .i64 p1, .int .i64 n1, .string t1] 23)).alloc (.cells #[.int .i64 s2, .int .i64 2, .int .i64 p2, .int .i64 n2, .string t2] 23)).alloc (.cells #[.int .i64 0, .int .i64 0, .int .i64 0] 35) = x := ⟨_, rfl⟩
 have HX : Hid (Bxs w [((w.heap.size + 1 + 1), #[.int .i64 0, .int .i64 0, .int .i64 0], 35), ((w.heap.size + 1), #[.int .i64 s2, .int .i64 2, .int .i64 p2, .int .i64 n2, .string t2], 23), (w.heap.size, #[.int .i64 s1, .int .i64 2, .int .i64 p1, .int .i64 n1, .string t1], 23)] W1) := by
  rw [← hW1]
  simpa [Hid] using HB0.out
 rw [hW1]
 clear hW1 HB0
 have c2_0 : W1.cell? ⟨w.heap.size, 0, none⟩ = some (.int .i64 s1) := (HX.out.cell 2 rfl 0).trans rfl
 have c2_1 : W1.cell? ⟨w.heap.size, 1, none⟩ = some (.int .i64 2) := (HX.out.cell 2 rfl 1).trans rfl
 have c2_2 : W1.cell? ⟨w.heap.size, 2, none⟩ = some (.int .i64 p1) := (HX.out.cell 2 rfl 2).trans rfl
 have c2_3 : W1.cell? ⟨w.heap.size, 3, none⟩ = some (.int .i64 n1) := (HX.out.cell 2 rfl 3).trans rfl
 have c2_4 : W1.cell? ⟨w.heap.size, 4, none⟩ = some (.string t1) := (HX.out.cell 2 rfl 4).trans rfl
 go_wp2_with fail
 refine (foolscapref29_May.calls k s1 2 p1 n1 t1 n true _ HA.out).mono ?_
 rintro e W2 ⟨rfl, hb⟩
 have HY := Lib.hid (HX.out.keep hb)
 clear HX
 have HX := HY
 clear HY hb
 clear c2_0 c2_1 c2_2 c2_3 c2_4
 have c1_0 : W2.cell? ⟨(w.heap.size + 1), 0, none⟩ = some (.int .i64 s2) := (HX.out.cell 1 rfl 0).trans rfl
 have c1_1 : W2.cell? ⟨(w.heap.size + 1), 1, none⟩ = some (.int .i64 2) := (HX.out.cell 1 rfl 1).trans rfl
 have c1_2 : W2.cell? ⟨(w.heap.size + 1), 2, none⟩ = some (.int .i64 p2) := (HX.out.cell 1 rfl 2).trans rfl
 have c1_3 : W2.cell? ⟨(w.heap.size + 1), 3, none⟩ = some (.int .i64 n2) := (HX.out.cell 1 rfl 3).trans rfl
 have c1_4 : W2.cell? ⟨(w.heap.size + 1), 4, none⟩ = some (.string t2) := (HX.out.cell 1 rfl 4).trans rfl
 go_wp2_with fail
 refine (foolscapref29_May.calls k s2 2 p2 n2 t2 n true _ HB.out).mono ?_
 rintro e W3 ⟨rfl, hb⟩
 have HY := Lib.hid (HX.out.keep hb)
 clear HX
 have HX := HY
 clear HY hb
 clear c1_0 c1_1 c1_2 c1_3 c1_4
 have cs2_0 : W3.cell? ⟨w.heap.size, 0, none⟩ = some (.int .i64 s1) := (HX.out.cell 2 rfl 0).trans rfl
 have cs1_0 : W3.cell? ⟨(w.heap.size + 1), 0, none⟩ = some (.int .i64 s2) := (HX.out.cell 1 rfl 0).trans rfl
 have c1_4 : W3.cell? ⟨(w.heap.size + 1), 4, none⟩ = some (.string t2) := (HX.out.cell 1 rfl 4).trans rfl
 go_wp2_with fail
 refine (foolscapref01_Len.calls k t2 kk _ HK.out).mono ?_
 rintro e W4 ⟨rfl, hb⟩
 have HY := Lib.hid (HX.out.keep hb)
 clear HX
 have HX := HY
 clear HY hb
 clear cs2_0 cs1_0 c1_4
 have hgd : w.heap.size + 1 + 1 < W4.heap.size := HX.out.lt (List.mem_cons_self ..)
 have c2_1 : W4.cell? ⟨w.heap.size, 1, none⟩ = some (.int .i64 2) := (HX.out.cell 2 rfl 1).trans rfl
 have c2_2 : W4.cell? ⟨w.heap.size, 2, none⟩ = some (.int .i64 p1) := (HX.out.cell 2 rfl 2).trans rfl
 have g2_0 : ∀ o, (W4.alloc o).cell? ⟨w.heap.size, 0, none⟩ = some (.int .i64 s1) := fun o => (blk_cell (blk_alloc (HX.out.blk 2 rfl) o) 0).trans rfl
 have g2_1 : ∀ o, (W4.alloc o).cell? ⟨w.heap.size, 1, none⟩ = some (.int .i64 2) := fun o => (blk_cell (blk_alloc (HX.out.blk 2 rfl) o) 1).trans rfl
 have g2_2 : ∀ o, (W4.alloc o).cell? ⟨w.heap.size, 2, none⟩ = some (.int .i64 p1) := fun o => (blk_cell (blk_alloc (HX.out.blk 2 rfl) o) 2).trans rfl
 have g2_3 : ∀ o, (W4.alloc o).cell? ⟨w.heap.size, 3, none⟩ = some (.int .i64 n1) := fun o => (blk_cell (blk_alloc (HX.out.blk 2 rfl) o) 3).trans rfl
 have g2_4 : ∀ o, (W4.alloc o).cell? ⟨w.heap.size, 4, none⟩ = some (.string t1) := fun o => (blk_cell (blk_alloc (HX.out.blk 2 rfl) o) 4).trans rfl
 go_wp2
 clear c2_1 c2_2 g2_0 g2_1 g2_2 g2_3 g2_4
 obtain ⟨W5, hW_⟩ : ∃ x, W4.alloc (.cells #[.int .i64 0, .int .i64 0, .int .i64 0] 35) = x := ⟨_, rfl⟩
 have HY := Lib.hid (HX.out.new #[.int .i64 0, .int .i64 0, .int .i64 0] 35)
 rw [hW_] at HY
 rw [hW_]
 clear HX
 have HX := HY
 clear HY hW_
 have hgl := HX.out.lt (List.mem_cons_self ..)
 obtain ⟨gl, hgl_⟩ : ∃ x, W4.heap.size = x := ⟨_, rfl⟩
 simp only [hgl_] at HX hgd hgl ⊢
 clear hgl_
 obtain ⟨B0, hB0⟩ : ∃ x, W5.heap.size = x := ⟨_, rfl⟩
 rw [hB0] at hgl
 have HB0 := Lib.hid hB0
 clear hB0
 have hn1 : n1 = (N1 : Int) := HN1.out
 have hN1b : N1 ≤ 20000 := by omega
 clear hn1
 go_loopg [13, 15] N1 (fun kq u13 u15 wr => ∃ m : Nat, u15 = .int .i64 (p1 + m) ∧ Aside0 (m + kq = N1) ∧ Aside0 (Kd.R (Kd.int .i64) 3 wr B0 (fun _ => True) u13 (atsR 2 p2 n2 kk p1 m)) ∧ Aside0 (Bxs w [(gl, #[.int .i64 (lostR 2 p2 n2 p1 m).1, .int .i64 (lostR 2 p2 n2 p1 m).2.1, .int .i64 (lostR 2 p2 n2 p1 m).2.2], 35), ((w.heap.size + 1 + 1), #[.int .i64 0, .int .i64 0, .int .i64 0], 35), ((w.heap.size + 1), #[.int .i64 s2, .int .i64 2, .int .i64 p2, .int .i64 n2, .string t2], 23), (w.heap.size, #[.int .i64 s1, .int .i64 2, .int .i64 p1, .int .i64 n1, .string t1], 23)] wr) ∧ Aside0 (B0 ≤ wr.heap.size))
 case atStart => exact ⟨0, vi (by omega), ⟨by omega⟩, ⟨Kd.R_nil _ _ _ _ _⟩, ⟨HX.out⟩, ⟨Nat.le_of_eq HB0.out.symm⟩⟩
 case round =>
  obtain ⟨m, rfl, HM, HO, HXr, HZ⟩ := hrel
  obtain ⟨p, hp⟩ : ∃ p, p1 + (m : Int) = p := ⟨_, rfl⟩
  obtain ⟨AT, hA⟩ : ∃ l, atsR 2 p2 n2 kk p1 m = l := ⟨_, rfl⟩
  obtain ⟨i0, f0, c0, hL⟩ : ∃ a b c, lostR 2 p2 n2 p1 m = (a, b, c) := ⟨_, _, _, rfl⟩
  have HAL := Lib.hid (show (AT.length + 1) * 8 ≤ 140737488355328 by have := ats_len 2 p2 n2 kk p1 m; rw [hA] at this; have := HM.out; omega)
  rw [hA] at HO
  simp only [hL] at HXr
  rw [hp]
  have hp0 : 0 ≤ p := by omega
  have hp1 : p ≤ 40000 := by have := HM.out; omega
  have HN := Lib.hid (show n1 = (N1 : Int) from HN1.out)
  have HAT := Lib.hid hA
  have HL := Lib.hid hL
  have HP := Lib.hid hp
  clear hA hL
  have c3_2 : wr.cell? ⟨w.heap.size, 2, none⟩ = some (.int .i64 p1) := (HXr.out.cell 3 rfl 2).trans rfl
  have c3_3 : wr.cell? ⟨w.heap.size, 3, none⟩ = some (.int .i64 n1) := (HXr.out.cell 3 rfl 3).trans rfl
  have c2_1 : wr.cell? ⟨(w.heap.size + 1), 1, none⟩ = some (.int .i64 2) := (HXr.out.cell 2 rfl 1).trans rfl
  have c2_2 : wr.cell? ⟨(w.heap.size + 1), 2, none⟩ = some (.int .i64 p2) := (HXr.out.cell 2 rfl 2).trans rfl
  have c2_3 : wr.cell? ⟨(w.heap.size + 1), 3, none⟩ = some (.int .i64 n2) := (HXr.out.cell 2 rfl 3).trans rfl
  have c0_0 : wr.cell? ⟨gl, 0, none⟩ = some (.int .i64 i0) := (HXr.out.cell 0 rfl 0).trans rfl
  have f0_0 : wr.frozen? ⟨gl, 0, none⟩ = false := HXr.out.free 0 rfl 0
  have c0_1 : wr.cell? ⟨gl, 1, none⟩ = some (.int .i64 f0) := (HXr.out.cell 0 rfl 1).trans rfl
  have f0_1 : wr.frozen? ⟨gl, 1, none⟩ = false := HXr.out.free 0 rfl 1
  have c0_2 : wr.cell? ⟨gl, 2, none⟩ = some (.int .i64 c0) := (HXr.out.cell 0 rfl 2).trans rfl
  have f0_2 : wr.frozen? ⟨gl, 2, none⟩ = false := HXr.out.free 0 rfl 2
  by_cases hlt : m < N1
  ·have hpl : p < p1 + n1 := by have := HN.out; omega
   clear hp
   by_cases hc : p < p2
   ·have HAT1 := Lib.hid (show atsR 2 p2 n2 kk p1 (m + 1) = AT ++ [p] by rw [atsR, HAT.out, HP.out, show posR 2 p2 n2 kk p = some (p) by unfold posR; rw [if_neg (by omega), if_pos hc]]; rfl)
    have HL1 := Lib.hid (show lostR 2 p2 n2 p1 (m + 1) = (i0, f0, c0) by rw [lostR, HP.out, if_pos (by omega)]; exact HL.out)
    go_wp2_with ((with_reducible refine gate_dst (N := 149) rfl ?_); refine Kd.R_append (Kd.int .i64) (w0 := wr) B0 rfl (.tmp 146) (.tmp 148) 60 3 (.int .i64 0) 8 rfl Tryd.underlying60 info_i64 rfl (by decide) (by omega) u13 AT (p) [.int .i64 (p)] (fun _ => True) (fun _ => False) rfl rfl ?aP (fun _ hk => hk.elim) ?aF ?aO ?aB ?aS ?aL ?_; (case aP => exact rfl); (case aB => exact Below.refl _ _); (case aF => exact fun _ _ => trivial); (case aO => exact HO.out); (case aS => exact HZ.out); (case aL => have := HAL.out; omega); intro v5 w5 ho hb _ _)
    go_roundg (gk - 1)
    case measure => have := HM.out; omega
    case rel => exact ⟨m + 1, vi (by have := HP.out; omega), ⟨by have := HM.out; omega⟩, ⟨by rw [HAT1.out]; exact ho⟩, ⟨by rw [HL1.out]; exact HXr.out.keepB hb (by intro x hx; simp only [List.mem_cons, List.not_mem_nil, or_false] at hx; rcases hx with rfl | rfl | rfl | rfl <;> simp only <;> omega) (by omega)⟩, ⟨Nat.le_trans HZ.out hb.size⟩⟩
   ·by_cases hd : p2 + n2 ≤ p
    ·have HAT1 := Lib.hid (show atsR 2 p2 n2 kk p1 (m + 1) = AT ++ [p - n2] by rw [atsR, HAT.out, HP.out, show posR 2 p2 n2 kk p = some (p - n2) by unfold posR; rw [if_neg (by omega), if_neg hc, if_pos hd]]; rfl)
     have HL1 := Lib.hid (show lostR 2 p2 n2 p1 (m + 1) = (i0, f0, c0) by rw [lostR, HP.out, if_pos (by omega)]; exact HL.out)
     go_wp2_with ((with_reducible refine gate_dst (N := 163) rfl ?_); refine Kd.R_append (Kd.int .i64) (w0 := wr) B0 rfl (.tmp 157) (.tmp 162) 60 3 (.int .i64 0) 8 rfl Tryd.underlying60 info_i64 rfl (by decide) (by omega) u13 AT (p - n2) [.int .i64 (p - n2)] (fun _ => True) (fun _ => False) rfl rfl ?aP (fun _ hk => hk.elim) ?aF ?aO ?aB ?aS ?aL ?_; (case aP => exact rfl); (case aB => exact Below.refl _ _); (case aF => exact fun _ _ => trivial); (case aO => exact HO.out); (case aS => exact HZ.out); (case aL => have := HAL.out; omega); intro v5 w5 ho hb _ _)
     go_roundg (gk - 1)
     case measure => have := HM.out; omega
     case rel => exact ⟨m + 1, vi (by have := HP.out; omega), ⟨by have := HM.out; omega⟩, ⟨by rw [HAT1.out]; exact ho⟩, ⟨by rw [HL1.out]; exact HXr.out.keepB hb (by intro x hx; simp only [List.mem_cons, List.not_mem_nil, or_false] at hx; rcases hx with rfl | rfl | rfl | rfl <;> simp only <;> omega) (by omega)⟩, ⟨Nat.le_trans HZ.out hb.size⟩⟩
    ·have HAT1 := Lib.hid (show atsR 2 p2 n2 kk p1 (m + 1) = AT by rw [atsR, HAT.out, HP.out, show posR 2 p2 n2 kk p = none by unfold posR; rw [if_neg (by omega), if_neg hc, if_neg hd]]; simp)
     have hlb : m ≤ 20000 := by have := HM.out; omega
     by_cases hz : i0 = 0
     ·have HL1 := Lib.hid (show lostR 2 p2 n2 p1 (m + 1) = (2, p - p2, 1) by rw [lostR, HP.out, if_neg (by omega), HL.out, if_pos hz])
      have hzq : (i0 == 0) = true := beq_iff_eq.2 hz
      have HZZ := Lib.hid hz
      clear hz
      go_wp2
      go_roundg (gk - 1)
      case measure => have := HM.out; omega
      case rel =>
       have g0 := HXr.out.put 0 rfl 0 (.int .i64 2)
       have g1 := g0.put 0 rfl 1 (.int .i64 (p - p2))
       have g2 := g1.put 0 rfl 2 (.int .i64 0)
       have g3 := g2.put 0 rfl 2 (.int .i64 1)
       have r3 := Kd.R_set (Kd.R_set (Kd.R_set (Kd.R_set HO.out (HXr.out.blk 0 rfl) (by decide) 0 (.int .i64 2)) (g0.blk 0 rfl) (by decide) 1 (.int .i64 (p - p2))) (g1.blk 0 rfl) (by decide) 2 (.int .i64 0)) (g2.blk 0 rfl) (by decide) 2 (.int .i64 1)
       exact ⟨m + 1, vi (by have := HP.out; omega), ⟨by have := HM.out; omega⟩, ⟨by rw [HAT1.out]; exact r3⟩, ⟨by rw [HL1.out]; exact g3⟩, ⟨Nat.le_trans HZ.out (by simp)⟩⟩
     ·have HL1 := Lib.hid (show lostR 2 p2 n2 p1 (m + 1) = (i0, f0, c0 + 1) by rw [lostR, HP.out, if_neg (by omega), HL.out, if_neg hz])
      have hzq : (i0 == 0) = false := beq_eq_false_iff_ne.2 hz
      have HZZ := Lib.hid hz
      obtain ⟨hc0, hc1⟩ := lost_bd hlb HL.out
      clear hz
      go_wp2
      go_roundg (gk - 1)
      case measure => have := HM.out; omega
      case rel =>
       have g0 := HXr.out.put 0 rfl 2 (.int .i64 (c0 + 1))
       have r3 := Kd.R_set HO.out (HXr.out.blk 0 rfl) (by decide) 2 (.int .i64 (c0 + 1))
       exact ⟨m + 1, vi (by have := HP.out; omega), ⟨by have := HM.out; omega⟩, ⟨by rw [HAT1.out]; exact r3⟩, ⟨by rw [HL1.out]; exact g0⟩, ⟨Nat.le_trans HZ.out (by simp)⟩⟩
  ·have hpg : p1 + n1 ≤ p := by have h1 := HN.out; have := HM.out; omega
   have hmN : m = N1 := by have := HM.out; omega
   subst hmN
   clear hp
   have e1 := HAF.out
   have e2 := HLF.out
   rw [HAT.out] at e1
   rw [HL.out] at e2
   simp only [Prod.mk.injEq] at e2
   obtain ⟨rfl, rfl, rfl⟩ := e2
   subst e1
   obtain ⟨A13, c13, rfl, hl13, hC13⟩ := Kd.R_reads HO.out
   have HC13 := Lib.hid (And.intro hl13 hC13)
   clear hl13 hC13
   obtain ⟨W6, rfl⟩ : ∃ x, x = wr := ⟨_, rfl⟩
   obtain ⟨gk0, rfl⟩ : ∃ x, x = gk := ⟨_, rfl⟩
   have HLE := Lib.hid (show AT.length ≤ 20000 by have := ats_len 2 p2 n2 kk p1 m; rw [HAT.out] at this; omega)
   have HBD := Lib.hid (show ∀ x ∈ AT, 0 ≤ x ∧ x ≤ 60000 by rw [← HAT.out]; exact ats_bdk 2 p2 n2 kk p1 b1 b2 b7 b5 b9 b10 (fun h => absurd h (by decide)) m (by omega))
   clear HP HAL HC13 hlt
   go_wp2
   clear c3_2 c3_3 c2_1 c2_2 c2_3 c0_0 f0_0 c0_1 f0_1 c0_2 f0_2
   go_loopg [17, 18] AT.length (fun kq u17 u18 wr => ∃ i : Nat, u18 = .int .i64 (i : Int) ∧ Aside0 (i + kq = AT.length) ∧ Aside0 (Kd.R k23 23 wr B0 (fun _ => True) u17 (grpR s1 2 t1 AT i)) ∧ Aside0 (Kd.R (Kd.int .i64) 3 wr B0 (fun _ => True) (.slice A13 AT.length c13) AT) ∧ Aside0 (Bxs w [(gl, #[.int .i64 i0, .int .i64 f0, .int .i64 c0], 35), ((w.heap.size + 1 + 1), #[.int .i64 0, .int .i64 0, .int .i64 0], 35), ((w.heap.size + 1), #[.int .i64 s2, .int .i64 2, .int .i64 p2, .int .i64 n2, .string t2], 23), (w.heap.size, #[.int .i64 s1, .int .i64 2, .int .i64 p1, .int .i64 n1, .string t1], 23)] wr) ∧ Aside0 (B0 ≤ wr.heap.size))
   case atStart => exact ⟨0, vi rfl, ⟨by omega⟩, ⟨Kd.R_nil _ _ _ _ _⟩, ⟨HO.out⟩, ⟨HXr.out⟩, ⟨HZ.out⟩⟩
   case round =>
    obtain ⟨i, rfl, HI, HG, HA, HXs, HZs⟩ := hrel
    obtain ⟨XS, hXS⟩ : ∃ l, grpR s1 2 t1 AT i = l := ⟨_, rfl⟩
    rw [hXS] at HG
    obtain ⟨A17, c17, rfl, _, _⟩ := Kd.R_reads HG.out
    obtain ⟨I, hI⟩ : ∃ I, (i : Int) = I := ⟨_, rfl⟩
    rw [hI]
    have hI0 : 0 ≤ I := by omega
    have hIt : I.toNat = i := by omega
    have HIT := Lib.hid hIt
    have hI9 : I ≤ 20000 := by have := HI.out; have := HLE.out; omega
    have HII := Lib.hid hI
    have HXL := Lib.hid (show XS.length ≤ 20000 by
     rcases Nat.eq_zero_or_pos i with h0 | h0
     ·subst h0; rw [← hXS]; simp [grpR]
     ·obtain ⟨d, r, e, _, _, h2⟩ := grp_some s1 2 t1 AT i h0
      rw [← hXS, e, List.length_cons]; have := HI.out; have := HLE.out; omega)
    have HXS := Lib.hid hXS
    clear hXS hI hIt
    by_cases hlt : i < AT.length
    ·have hI1 : I < (AT.length : Int) := by have := HII.out; omega
     obtain ⟨ga, eA, hcs⟩ := row_ints HA.out (by omega)
     subst eA
     obtain ⟨x, hx_⟩ : ∃ x, AT.getD i 0 = x := ⟨_, rfl⟩
     have hx : wr.cell? ⟨ga, I.toNat, none⟩ = some (.int .i64 x) := by rw [HIT.out, ← hx_]; exact hcs i hlt
     have HAI := Lib.hid hx_
     clear hx_
     by_cases h0 : i = 0
     ·have HNE := Lib.hid (show ¬ (0 < i ∧ AT.getD i 0 = AT.getD (i - 1) 0 + 1) by omega)
      have hd : decide (0 < I) = false := decide_eq_false (by have := HII.out; omega)
      have hd2 : ¬ 0 < I := by have := HII.out; omega
      clear h0 hcs
      go_upto_region 41 with fail
      go_quiet (fail)
      obtain ⟨WQ, hWQ⟩ : ∃ x, wr.drewN nq = x := ⟨_, rfl⟩
      have HGq := Lib.hid (hWQ ▸ Kd.R_drewN HG.out nq)
      have HAq := Lib.hid (hWQ ▸ Kd.R_drewN HA.out nq)
      have HXq := Lib.hid (hWQ ▸ HXs.out.drewN nq)
      have HZq : B0 ≤ WQ.heap.size := hWQ ▸ HZs.out
      have hxq : WQ.cell? ⟨ga, I.toNat, none⟩ = some (.int .i64 x) := hWQ ▸ hx
      rw [hWQ]
      clear hWQ
      have HG1 := Lib.hid (show grpR s1 2 t1 AT (i + 1) = [(⟨s1, 2, x, 1, t1⟩ : S23)] ++ XS by simp only [grpR]; rw [if_neg HNE.out, HXS.out, HAI.out]; rfl)
      have c3_0 : WQ.cell? ⟨w.heap.size, 0, none⟩ = some (.int .i64 s1) := (HXq.out.cell 3 rfl 0).trans rfl
      have c3_1 : WQ.cell? ⟨w.heap.size, 1, none⟩ = some (.int .i64 2) := (HXq.out.cell 3 rfl 1).trans rfl
      have c3_2 : WQ.cell? ⟨w.heap.size, 2, none⟩ = some (.int .i64 p1) := (HXq.out.cell 3 rfl 2).trans rfl
      have c3_3 : WQ.cell? ⟨w.heap.size, 3, none⟩ = some (.int .i64 n1) := (HXq.out.cell 3 rfl 3).trans rfl
      have c3_4 : WQ.cell? ⟨w.heap.size, 4, none⟩ = some (.string t1) := (HXq.out.cell 3 rfl 4).trans rfl
      have g3_0 : ∀ o, (WQ.alloc o).cell? ⟨w.heap.size, 0, none⟩ = some (.int .i64 s1) := fun o => (blk_cell (blk_alloc (HXq.out.blk 3 rfl) o) 0).trans rfl
      have g3_1 : ∀ o, (WQ.alloc o).cell? ⟨w.heap.size, 1, none⟩ = some (.int .i64 2) := fun o => (blk_cell (blk_alloc (HXq.out.blk 3 rfl) o) 1).trans rfl
      have g3_2 : ∀ o, (WQ.alloc o).cell? ⟨w.heap.size, 2, none⟩ = some (.int .i64 p1) := fun o => (blk_cell (blk_alloc (HXq.out.blk 3 rfl) o) 2).trans rfl
      have g3_3 : ∀ o, (WQ.alloc o).cell? ⟨w.heap.size, 3, none⟩ = some (.int .i64 n1) := fun o => (blk_cell (blk_alloc (HXq.out.blk 3 rfl) o) 3).trans rfl
      have g3_4 : ∀ o, (WQ.alloc o).cell? ⟨w.heap.size, 4, none⟩ = some (.string t1) := fun o => (blk_cell (blk_alloc (HXq.out.blk 3 rfl) o) 4).trans rfl
      have hxa : ∀ o, (WQ.alloc o).cell? ⟨ga, I.toNat, none⟩ = some (.int .i64 x) := fun o => ((below_alloc (Below.refl WQ.heap.size WQ) o).cell (World.block_lt_of_cell? WQ _ hxq)).trans hxq
      go_upto_region 46 with fail
      clear hxa hxq c3_0 c3_1 c3_2 c3_3 c3_4 g3_0 g3_1 g3_2 g3_3 g3_4
      have HN := Lib.hid (blk_new WQ (.cells #[.int .i64 s1, .int .i64 2, .int .i64 x, .int .i64 1, .string t1] 23))
      have HGn := Lib.hid (Kd.R_alloc HGq.out (.cells #[.int .i64 s1, .int .i64 2, .int .i64 x, .int .i64 1, .string t1] 23 (0, 0)))
      have HAn := Lib.hid (Kd.R_alloc HAq.out (.cells #[.int .i64 s1, .int .i64 2, .int .i64 x, .int .i64 1, .string t1] 23 (0, 0)))
      have HXn := Lib.hid (HXq.out.keep (below_alloc (Below.refl _ _) (.cells #[.int .i64 s1, .int .i64 2, .int .i64 x, .int .i64 1, .string t1] 23 (0, 0))))
      have HZn : B0 ≤ (WQ.alloc (.cells #[.int .i64 s1, .int .i64 2, .int .i64 x, .int .i64 1, .string t1] 23)).heap.size := Nat.le_trans HZq (by simp)
      obtain ⟨gn, hgn⟩ : ∃ x, WQ.heap.size = x := ⟨_, rfl⟩
      obtain ⟨WN, hWN⟩ : ∃ W_, WQ.alloc (.cells #[.int .i64 s1, .int .i64 2, .int .i64 x, .int .i64 1, .string t1] 23) = W_ := ⟨_, rfl⟩
      rw [hWN] at HN HGn HAn HXn HZn ⊢
      rw [hgn] at HN ⊢
      clear hWN hgn HGq HAq HXq HZq
      have kc0 : WN.cell? ⟨gn, 0, none⟩ = some (.int .i64 s1) := (blk_cell HN.out 0).trans rfl
      have kc1 : WN.cell? ⟨gn, 1, none⟩ = some (.int .i64 2) := (blk_cell HN.out 1).trans rfl
      have kc2 : WN.cell? ⟨gn, 2, none⟩ = some (.int .i64 x) := (blk_cell HN.out 2).trans rfl
      have kc3 : WN.cell? ⟨gn, 3, none⟩ = some (.int .i64 1) := (blk_cell HN.out 3).trans rfl
      have kc4 : WN.cell? ⟨gn, 4, none⟩ = some (.string t1) := (blk_cell HN.out 4).trans rfl
      go_wp2_with (first | ((with_reducible refine gate_dst (N := 212) rfl ?_); refine Kd.R_lit k23 B0 23 ?hg (N := 212) ?hd (xs := [(⟨s1, 2, x, 1, t1⟩ : S23)]) (inner := [.int .i64 s1, .int .i64 2, .int .i64 x, .int .i64 1, .string t1]) (ok := fun _ => True) (okp := fun _ => True) ?hr ?hp (fun _ hk => hk) trivial (Below.refl _ _) HZn (by simp) ?_; (case hd => rfl); (case hg => rfl); (case hr => first | (go_simp; done) | (go_simp; rfl)); (case hp => exact (Reps.c5 (k23_mkM _ _ _ (⟨s1, 2, x, 1, t1⟩ : S23)) (Reps.none _ _))); intro v9 W9 ho hb9 hg9 _; have HO9 := Lib.hid ho; have HG9 := Lib.hid (Kd.R_below HGn.out (below_none hg9)); have HA9 := Lib.hid (Kd.R_below HAn.out (below_none hg9)); have HX9 := Lib.hid (HXn.out.keep (below_none hg9)); have HZ9 : B0 ≤ W9.heap.size := Nat.le_trans HZn hg9.size; clear ho hb9 hg9) | ((with_reducible refine gate_dst (N := 214) rfl ?_); refine Kd.R_append_rows k23 (Rr := k23.K W9) (w0 := W9) B0 rfl (.tmp 212) (.tmp 213) 26 23 (.agg #[.int .i64 0, .int .i64 0, .int .i64 0, .int .i64 0, .string ⟨#[]⟩]) 48 rfl Tryd.underlying26 info_s23 rfl (by decide) (by omega) v9 [(⟨s1, 2, x, 1, t1⟩ : S23)] XS A17 XS.length c17 (fun _ => True) (fun _ => False) rfl rfl HO9.out (Kd.R_reads' HG9.out).2.2 (fun _ _ h => h) (fun _ h => h.elim) (fun _ _ => trivial) (Below.refl _ _) HZ9 (by have := HXL.out; simp only [List.length_cons, List.length_nil]; omega) ?_; intro v8 w8 ho8 hb8 hg8 _))
      go_roundg (gk - 1)
      case measure => have := HI.out; omega
      case rel => exact ⟨i + 1, vi (by have := HII.out; omega), ⟨by have := HI.out; omega⟩, ⟨by rw [HG1.out]; exact ho8⟩, ⟨Kd.R_over' HA9.out (Kd.R_typed HO9.out) (by decide) hg8⟩, ⟨HX9.out.keepB hb8 (by intro x hx; simp only [List.mem_cons, List.not_mem_nil, or_false] at hx; rcases hx with rfl | rfl | rfl | rfl <;> simp only <;> omega) (by omega)⟩, ⟨Nat.le_trans HZ9 hb8.size⟩⟩
     ·obtain ⟨y, hy_⟩ : ∃ y, AT.getD (i - 1) 0 = y := ⟨_, rfl⟩
      have hyb : 0 ≤ y ∧ y ≤ 60000 := by
       rw [← hy_, List.getD_eq_getElem?_getD, List.getElem?_eq_getElem (by omega : i - 1 < AT.length)]
       exact HBD.out _ (List.getElem_mem _)
      obtain ⟨hy0, hy1⟩ := hyb
      obtain ⟨J, hJ⟩ : ∃ J, I - 1 = J := ⟨_, rfl⟩
      have hI2 : 0 ≤ J := by have := HII.out; omega
      have hI3 : J < (AT.length : Int) := by omega
      have hIp : 0 < I := by omega
      have hd : decide (0 < I) = true := decide_eq_true hIp
      have hw1 : IntKind.i64.wrap (I - 1) = J := by rw [← hJ]; exact IntWalk.i64_in _ (by omega)
      have hw2 : IntKind.i64.wrap (y + 1) = y + 1 := IntWalk.i64_in _ (by omega)
      have hy : wr.cell? ⟨ga, J.toNat, none⟩ = some (.int .i64 y) := by rw [show J.toNat = i - 1 by have := HII.out; omega, ← hy_]; exact hcs (i - 1) (by omega)
      clear hJ
      have HYI := Lib.hid hy_
      have hi1 : 0 < i := by omega
      clear hy_ hcs h0
      by_cases hxy : x = y + 1
      ·have HNE := Lib.hid (show 0 < i ∧ AT.getD i 0 = AT.getD (i - 1) 0 + 1 from ⟨hi1, by rw [HAI.out, HYI.out]; exact hxy⟩)
       have hq1 : (x == y + 1) = true := beq_iff_eq.2 hxy
       have HXY := Lib.hid hxy
       clear hxy
       have hpos : 0 < XS.length := by
        obtain ⟨d, r, e, _⟩ := grp_some s1 2 t1 AT i hi1
        rw [HXS.out] at e
        rw [e]
        simp
       have hposI : (0 : Int) < (XS.length : Int) := by omega
       obtain ⟨g17, c18, hv17, _, hr17⟩ := row23 HG.out hpos
       injection hv17 with hA17 hn17 hc17
       subst hA17 hc17
       clear hn17
       obtain ⟨e0, he0⟩ : ∃ e0, XS.getD 0 z23 = e0 := ⟨_, rfl⟩
       have hcc := row23_cc (i := 0) (e := e0) (by rw [← he0]; exact hr17 0 hpos)
       have hf : 0 ≤ e0.f3 ∧ e0.f3 ≤ 20000 ∧ XS.set 0 (⟨e0.f0, e0.f1, e0.f2, e0.f3 + 1, e0.f4⟩ : S23) = moreR XS := by
        obtain ⟨d, r, e, f0, f1, _⟩ := grp_some s1 2 t1 AT i hi1
        rw [HXS.out] at e
        subst e
        simp only [List.getD_cons_zero] at he0
        subst he0
        have := HLE.out
        have := HI.out
        exact ⟨f0, by omega, rfl⟩
       obtain ⟨hf0, hf1, hset⟩ := hf
       have HG1 := Lib.hid (show grpR s1 2 t1 AT (i + 1) = XS.set 0 (⟨e0.f0, e0.f1, e0.f2, e0.f3 + 1, e0.f4⟩ : S23) by simp only [grpR]; rw [if_pos HNE.out, HXS.out, hset])
       clear he0 hr17 hset
       go_upto_region 41 with fail
       go_quiet (fail)
       obtain ⟨WQ, hWQ⟩ : ∃ x, wr.drewN nq = x := ⟨_, rfl⟩
       have HGq := Lib.hid (hWQ ▸ Kd.R_drewN HG.out nq)
       have HAq := Lib.hid (hWQ ▸ Kd.R_drewN HA.out nq)
       have HXq := Lib.hid (hWQ ▸ HXs.out.drewN nq)
       have HZq : B0 ≤ WQ.heap.size := hWQ ▸ HZs.out
       have hxq : WQ.cell? ⟨ga, I.toNat, none⟩ = some (.int .i64 x) := hWQ ▸ hx
       have HCq := Lib.hid (show ∀ (j : Nat) (u : Value), [Value.int .i64 e0.f0, .int .i64 e0.f1, .int .i64 e0.f2, .int .i64 e0.f3, .string e0.f4][j]? = some u → WQ.cell? ⟨g17, 0 * 5 + j, none⟩ = some u from fun j u hu => by rw [← hWQ, World.cell?_drewN]; exact hcc j u hu)
       rw [hWQ]
       clear hWQ
       clear hcc
       have hq17 : WQ.cell? ⟨g17, 3, none⟩ = some (.int .i64 e0.f3) := HCq.out 3 _ rfl
       go_upto_region 42 with fail
       go_wp2_with ((with_reducible refine gate_store (t := 3) (p := 203) rfl ?_); refine Kd.R_store k23 (w0 := WQ) B0 rfl rfl 3 (.tmp 203) (.tmp 201) rfl 23 (g := g17) (n := XS.length) (cap := c17) (o' := 3) 0 3 XS (⟨e0.f0, e0.f1, e0.f2, e0.f3 + 1, e0.f4⟩ : S23) (.int .i64 (e0.f3 + 1)) [.int .i64 (e0.f3 + 1)] [.int .i64 e0.f0, .int .i64 e0.f1, .int .i64 e0.f2, .int .i64 e0.f3, .string e0.f4] (fun _ => True) (fun _ => False) rfl rfl rfl rfl (by kernel_rfl) (by simp [Value.oneCell']) HGq.out (by decide) hposI rfl HCq.out (show (4 : Nat) ≤ 5 by decide) (k23_mkM _ _ _ _) (fun _ h => h.elim) (Below.refl _ _) ?_; intro w1 hR1 hb1 hg1)
       go_roundg (gk - 1)
       case measure => have := HI.out; omega
       case rel => exact ⟨i + 1, vi (by have := HII.out; omega), ⟨by have := HI.out; omega⟩, ⟨by rw [HG1.out]; exact hR1⟩, ⟨Kd.R_over' (v := .slice (some ⟨g17, 0, none⟩) XS.length c17) HAq.out (Kd.R_typed HGq.out) (by decide) hg1⟩, ⟨HXq.out.keepB hb1 (by intro x hx; simp only [List.mem_cons, List.not_mem_nil, or_false] at hx; rcases hx with rfl | rfl | rfl | rfl <;> simp only <;> omega) (by omega)⟩, ⟨Nat.le_trans HZq hb1.size⟩⟩
      ·have HNE := Lib.hid (show ¬ (0 < i ∧ AT.getD i 0 = AT.getD (i - 1) 0 + 1) by rw [HAI.out, HYI.out]; omega)
       have hq1 : (x == y + 1) = false := beq_eq_false_iff_ne.2 hxy
       have HXY := Lib.hid hxy
       clear hxy
       go_upto_region 41 with fail
       go_quiet (fail)
       obtain ⟨WQ, hWQ⟩ : ∃ x, wr.drewN nq = x := ⟨_, rfl⟩
       have HGq := Lib.hid (hWQ ▸ Kd.R_drewN HG.out nq)
       have HAq := Lib.hid (hWQ ▸ Kd.R_drewN HA.out nq)
       have HXq := Lib.hid (hWQ ▸ HXs.out.drewN nq)
       have HZq : B0 ≤ WQ.heap.size := hWQ ▸ HZs.out
       have hxq : WQ.cell? ⟨ga, I.toNat, none⟩ = some (.int .i64 x) := hWQ ▸ hx
       rw [hWQ]
       clear hWQ
       have HG1 := Lib.hid (show grpR s1 2 t1 AT (i + 1) = [(⟨s1, 2, x, 1, t1⟩ : S23)] ++ XS by simp only [grpR]; rw [if_neg HNE.out, HXS.out, HAI.out]; rfl)
       have c3_0 : WQ.cell? ⟨w.heap.size, 0, none⟩ = some (.int .i64 s1) := (HXq.out.cell 3 rfl 0).trans rfl
       have c3_1 : WQ.cell? ⟨w.heap.size, 1, none⟩ = some (.int .i64 2) := (HXq.out.cell 3 rfl 1).trans rfl
       have c3_2 : WQ.cell? ⟨w.heap.size, 2, none⟩ = some (.int .i64 p1) := (HXq.out.cell 3 rfl 2).trans rfl
       have c3_3 : WQ.cell? ⟨w.heap.size, 3, none⟩ = some (.int .i64 n1) := (HXq.out.cell 3 rfl 3).trans rfl
       have c3_4 : WQ.cell? ⟨w.heap.size, 4, none⟩ = some (.string t1) := (HXq.out.cell 3 rfl 4).trans rfl
       have g3_0 : ∀ o, (WQ.alloc o).cell? ⟨w.heap.size, 0, none⟩ = some (.int .i64 s1) := fun o => (blk_cell (blk_alloc (HXq.out.blk 3 rfl) o) 0).trans rfl
       have g3_1 : ∀ o, (WQ.alloc o).cell? ⟨w.heap.size, 1, none⟩ = some (.int .i64 2) := fun o => (blk_cell (blk_alloc (HXq.out.blk 3 rfl) o) 1).trans rfl
       have g3_2 : ∀ o, (WQ.alloc o).cell? ⟨w.heap.size, 2, none⟩ = some (.int .i64 p1) := fun o => (blk_cell (blk_alloc (HXq.out.blk 3 rfl) o) 2).trans rfl
       have g3_3 : ∀ o, (WQ.alloc o).cell? ⟨w.heap.size, 3, none⟩ = some (.int .i64 n1) := fun o => (blk_cell (blk_alloc (HXq.out.blk 3 rfl) o) 3).trans rfl
       have g3_4 : ∀ o, (WQ.alloc o).cell? ⟨w.heap.size, 4, none⟩ = some (.string t1) := fun o => (blk_cell (blk_alloc (HXq.out.blk 3 rfl) o) 4).trans rfl
       have hxa : ∀ o, (WQ.alloc o).cell? ⟨ga, I.toNat, none⟩ = some (.int .i64 x) := fun o => ((below_alloc (Below.refl WQ.heap.size WQ) o).cell (World.block_lt_of_cell? WQ _ hxq)).trans hxq
       go_upto_region 46 with fail
       clear hxa hxq c3_0 c3_1 c3_2 c3_3 c3_4 g3_0 g3_1 g3_2 g3_3 g3_4
       have HN := Lib.hid (blk_new WQ (.cells #[.int .i64 s1, .int .i64 2, .int .i64 x, .int .i64 1, .string t1] 23))
       have HGn := Lib.hid (Kd.R_alloc HGq.out (.cells #[.int .i64 s1, .int .i64 2, .int .i64 x, .int .i64 1, .string t1] 23 (0, 0)))
       have HAn := Lib.hid (Kd.R_alloc HAq.out (.cells #[.int .i64 s1, .int .i64 2, .int .i64 x, .int .i64 1, .string t1] 23 (0, 0)))
       have HXn := Lib.hid (HXq.out.keep (below_alloc (Below.refl _ _) (.cells #[.int .i64 s1, .int .i64 2, .int .i64 x, .int .i64 1, .string t1] 23 (0, 0))))
       have HZn : B0 ≤ (WQ.alloc (.cells #[.int .i64 s1, .int .i64 2, .int .i64 x, .int .i64 1, .string t1] 23)).heap.size := Nat.le_trans HZq (by simp)
       obtain ⟨gn, hgn⟩ : ∃ x, WQ.heap.size = x := ⟨_, rfl⟩
       obtain ⟨WN, hWN⟩ : ∃ W_, WQ.alloc (.cells #[.int .i64 s1, .int .i64 2, .int .i64 x, .int .i64 1, .string t1] 23) = W_ := ⟨_, rfl⟩
       rw [hWN] at HN HGn HAn HXn HZn ⊢
       rw [hgn] at HN ⊢
       clear hWN hgn HGq HAq HXq HZq
       have kc0 : WN.cell? ⟨gn, 0, none⟩ = some (.int .i64 s1) := (blk_cell HN.out 0).trans rfl
       have kc1 : WN.cell? ⟨gn, 1, none⟩ = some (.int .i64 2) := (blk_cell HN.out 1).trans rfl
       have kc2 : WN.cell? ⟨gn, 2, none⟩ = some (.int .i64 x) := (blk_cell HN.out 2).trans rfl
       have kc3 : WN.cell? ⟨gn, 3, none⟩ = some (.int .i64 1) := (blk_cell HN.out 3).trans rfl
       have kc4 : WN.cell? ⟨gn, 4, none⟩ = some (.string t1) := (blk_cell HN.out 4).trans rfl
       go_wp2_with (first | ((with_reducible refine gate_dst (N := 212) rfl ?_); refine Kd.R_lit k23 B0 23 ?hg (N := 212) ?hd (xs := [(⟨s1, 2, x, 1, t1⟩ : S23)]) (inner := [.int .i64 s1, .int .i64 2, .int .i64 x, .int .i64 1, .string t1]) (ok := fun _ => True) (okp := fun _ => True) ?hr ?hp (fun _ hk => hk) trivial (Below.refl _ _) HZn (by simp) ?_; (case hd => rfl); (case hg => rfl); (case hr => first | (go_simp; done) | (go_simp; rfl)); (case hp => exact (Reps.c5 (k23_mkM _ _ _ (⟨s1, 2, x, 1, t1⟩ : S23)) (Reps.none _ _))); intro v9 W9 ho hb9 hg9 _; have HO9 := Lib.hid ho; have HG9 := Lib.hid (Kd.R_below HGn.out (below_none hg9)); have HA9 := Lib.hid (Kd.R_below HAn.out (below_none hg9)); have HX9 := Lib.hid (HXn.out.keep (below_none hg9)); have HZ9 : B0 ≤ W9.heap.size := Nat.le_trans HZn hg9.size; clear ho hb9 hg9) | ((with_reducible refine gate_dst (N := 214) rfl ?_); refine Kd.R_append_rows k23 (Rr := k23.K W9) (w0 := W9) B0 rfl (.tmp 212) (.tmp 213) 26 23 (.agg #[.int .i64 0, .int .i64 0, .int .i64 0, .int .i64 0, .string ⟨#[]⟩]) 48 rfl Tryd.underlying26 info_s23 rfl (by decide) (by omega) v9 [(⟨s1, 2, x, 1, t1⟩ : S23)] XS A17 XS.length c17 (fun _ => True) (fun _ => False) rfl rfl HO9.out (Kd.R_reads' HG9.out).2.2 (fun _ _ h => h) (fun _ h => h.elim) (fun _ _ => trivial) (Below.refl _ _) HZ9 (by have := HXL.out; simp only [List.length_cons, List.length_nil]; omega) ?_; intro v8 w8 ho8 hb8 hg8 _))
       go_roundg (gk - 1)
       case measure => have := HI.out; omega
       case rel => exact ⟨i + 1, vi (by have := HII.out; omega), ⟨by have := HI.out; omega⟩, ⟨by rw [HG1.out]; exact ho8⟩, ⟨Kd.R_over' HA9.out (Kd.R_typed HO9.out) (by decide) hg8⟩, ⟨HX9.out.keepB hb8 (by intro x hx; simp only [List.mem_cons, List.not_mem_nil, or_false] at hx; rcases hx with rfl | rfl | rfl | rfl <;> simp only <;> omega) (by omega)⟩, ⟨Nat.le_trans HZ9 hb8.size⟩⟩
    ·have hge : (AT.length : Int) ≤ I := by have := HII.out; omega
     have HXE := Lib.hid (show grpR s1 2 t1 AT AT.length = XS by rw [show AT.length = i by have := HI.out; omega]; exact HXS.out)
     go_upto_region 47 with fail
     have hng : ¬ (gl = w.heap.size + 1 + 1) := by omega
     have c0_0 : wr.cell? ⟨gl, 0, none⟩ = some (.int .i64 i0) := (HXs.out.cell 0 rfl 0).trans rfl
     have c0_1 : wr.cell? ⟨gl, 1, none⟩ = some (.int .i64 f0) := (HXs.out.cell 0 rfl 1).trans rfl
     have c0_2 : wr.cell? ⟨gl, 2, none⟩ = some (.int .i64 c0) := (HXs.out.cell 0 rfl 2).trans rfl
     have cz1_0 : wr.cell? ⟨(w.heap.size + 1 + 1), 0, none⟩ = some (.int .i64 0) := (HXs.out.cell 1 rfl 0).trans rfl
     have fz1_0 : wr.frozen? ⟨(w.heap.size + 1 + 1), 0, none⟩ = false := HXs.out.free 1 rfl 0
     have cz1_1 : wr.cell? ⟨(w.heap.size + 1 + 1), 1, none⟩ = some (.int .i64 0) := (HXs.out.cell 1 rfl 1).trans rfl
     have fz1_1 : wr.frozen? ⟨(w.heap.size + 1 + 1), 1, none⟩ = false := HXs.out.free 1 rfl 1
     have cz1_2 : wr.cell? ⟨(w.heap.size + 1 + 1), 2, none⟩ = some (.int .i64 0) := (HXs.out.cell 1 rfl 2).trans rfl
     have fz1_2 : wr.frozen? ⟨(w.heap.size + 1 + 1), 2, none⟩ = false := HXs.out.free 1 rfl 2
     go_region
     have HRf := Lib.hid (Kd.R_drew (R_three (base := w.heap.size) HG.out (by omega) (HXs.out.blk 1 rfl) (by decide) (.int .i64 i0) (.int .i64 f0) (.int .i64 c0)))
     have HXf := Lib.hid ((((HXs.out.put 1 rfl 0 (.int .i64 i0)).put 1 rfl 1 (.int .i64 f0)).put 1 rfl 2 (.int .i64 c0)).drew)
     obtain ⟨WF, hWF⟩ : ∃ W_, (((wr.setCell ⟨w.heap.size + 1 + 1, 0, none⟩ (.int .i64 i0)).setCell ⟨w.heap.size + 1 + 1, 1, none⟩ (.int .i64 f0)).setCell ⟨w.heap.size + 1 + 1, 2, none⟩ (.int .i64 c0)).drew = W_ := ⟨_, rfl⟩
     rw [hWF] at HRf HXf ⊢
     go_wp2
     refine bodyPost_ret (results_list (rs := [.tmp 6, .cell 7 35, .tmp 8]) rfl (by simp) (.tmp (.cell (w.heap.size + 1 + 1) 35 #[.int .i64 i0, .int .i64 f0, .int .i64 c0] (0, 0) _ rfl (HXf.out.blk 1 rfl) hu35 rfl (by kernel_rfl) (.tmp .nil)))) rfl ?_
     exact ⟨_, rfl, by rw [HXE.out]; exact HRf.out, HXf.out.below⟩

end Go.Proofs.YtmkmpjkgpnahnaaDoor.X
