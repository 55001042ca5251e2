/-
 foolscapref29.Incl whole: by this session. Conditions: as typed.
-/
import Derived.Test.YtmkmpjkgpnahnaaDoorRIncl
import Derived.Test.YtmkmpjkgpnahnaaDoorPairs
namespace Go.Proofs.YtmkmpjkgpnahnaaDoor.X
open Go Go.RowKit Go.Shelf Go.Proofs.YtmkmpjkgpnahnaaDoorW.PrintWords Go.Proofs.YtmkmpjkgpnahnaaDoor.P
set_option linter.unusedVariables false
theorem may29_all (s kd p l : Int) (t : ByteArray) (n : Int) : Ev (fun k => foolscapref29_May.f k s kd p l t n) (mayB s kd p l t n) := by
 by_cases hn : 0 ≤ n
 ·exact may29_ev s kd p l t n hn
 ·refine ⟨1, fun k hk => ?_⟩
  obtain ⟨m, rfl⟩ : ∃ m, k = m + 1 := ⟨k - 1, by omega⟩
  simp only [foolscapref29_May.f]
  rw [if_pos (by omega)]
  unfold mayB
  rw [decide_eq_false (by omega)]
  rfl
theorem lenU_le (t : ByteArray) : -1 ≤ lenU t ∧ lenU t ≤ t.size := by
 have h0 := textL_len t
 cases hx : textOf t with
 | none => rw [lenU_of_none hx]; omega
 | some l =>
  rw [lenU_of_some hx]
  unfold textL at h0
  rw [hx] at h0
  simp only at h0
  omega
theorem may_facts {s kd p l : Int} {t : ByteArray} {n : Int} (h : mayB s kd p l t n = true) : (kd = 1 ∨ kd = 2) ∧ 0 ≤ p ∧ p ≤ 20000 ∧ 0 ≤ l ∧ l ≤ 20000 ∧ t.size ≤ 800 ∧ (kd = 1 → 0 ≤ lenU t) := by
 unfold mayB at h
 rw [decide_eq_true_eq] at h
 obtain ⟨a1, a2, a3, a4, a5 | a5⟩ := h
 ·exact ⟨.inl a5.1, by omega, by omega, by omega, by omega, by omega, fun _ => by omega⟩
 ·have hz : t.size = 0 := size_of_nil a5.2.2.2.2.2
  exact ⟨.inr a5.1, by omega, by omega, by omega, by omega, by omega, fun h => by omega⟩
/-- The reference's Incl on two deeds that may be. -/
theorem rincl_yes (s1 k1 p1 n1 : Int) (t1 : ByteArray) (s2 k2 p2 n2 : Int) (t2 : ByteArray) (n : Int) (w : World) (hs : ¬ s1 = s2) (ha : mayB s1 k1 p1 n1 t1 n = true) (hb : mayB s2 k2 p2 n2 t2 n = true) (M : List S23) (q1 q2 q3 : Int) (hM : inclR s1 k1 p1 n1 t1 s2 k2 p2 n2 t2 = (M, q1, q2, q3)) :
  Calls Tryd.prog 12 #[.agg #[.int .i64 s1, .int .i64 k1, .int .i64 p1, .int .i64 n1, .string t1], .agg #[.int .i64 s2, .int .i64 k2, .int .i64 p2, .int .i64 n2, .string t2], .int .i64 n] w fun e w' => ∃ v0_ : Value, e = .returned (.tuple #[v0_, .agg #[.int .i64 q1, .int .i64 q2, .int .i64 q3], .int .i64 0]) ∧ Kd.R k23 23 w' w.heap.size (fun _ => True) v0_ M ∧ Below w.heap.size w w' := by
 obtain ⟨fa, b1, b2, b3, b4, _, _⟩ := may_facts ha
 obtain ⟨fb, b5, b6, b7, b8, bz, bk⟩ := may_facts hb
 obtain ⟨b9, b10⟩ := lenU_le t2
 obtain ⟨KA, hA⟩ := may29_all s1 k1 p1 n1 t1 n
 obtain ⟨KB, hB⟩ := may29_all s2 k2 p2 n2 t2 n
 obtain ⟨KL, hL⟩ := len_ev t2 (by omega)
 obtain ⟨K, hK⟩ : ∃ K, KA + KB + KL = K := ⟨_, rfl⟩
 have hA := hA K (by omega)
 have hB := hB K (by omega)
 have hL := hL K (by omega)
 simp only at hA hB hL
 rw [ha] at hA
 rw [hb] at hB
 have b10 : lenU t2 ≤ 20000 := by omega
 clear ha hb
 unfold inclR at hM
 rcases fa with rfl | rfl
 ·rw [if_pos (rfl : (1 : Int) = 1)] at hM
  rcases fb with rfl | rfl
  ·rw [if_pos (rfl : (1 : Int) = 1)] at hM
   by_cases c : p2 < p1 ∨ p1 = p2 ∧ s2 < s1
   ·rw [if_pos c] at hM
    simp only [Prod.mk.injEq] at hM
    obtain ⟨rfl, rfl, rfl, rfl⟩ := hM
    rcases c with c | ⟨c, d⟩
    ·exact rincl_ii_far K s1 p1 n1 t1 s2 p2 n2 t2 n w _ hL hs hA hB b1 b2 b3 b4 b5 b6 b7 b8 b9 b10 c
    ·exact rincl_ii_at K s1 p1 n1 t1 s2 p2 n2 t2 n w _ hL hs hA hB b1 b2 b3 b4 b5 b6 b7 b8 b9 b10 c d
   ·rw [if_neg c] at hM
    simp only [Prod.mk.injEq] at hM
    obtain ⟨rfl, rfl, rfl, rfl⟩ := hM
    exact rincl_ii_no K s1 p1 n1 t1 s2 p2 n2 t2 n w _ hL hs hA hB b1 b2 b3 b4 b5 b6 b7 b8 b9 b10 c
  ·rw [if_neg (show ¬ (2 : Int) = 1 by decide)] at hM
   obtain ⟨gg, hgg⟩ : ∃ gg, goneR p1 p2 n2.toNat = gg := ⟨_, rfl⟩
   rw [hgg] at hM
   by_cases c : 0 < gg
   ·by_cases d : p1 ≤ p2 + n2
    ·rw [if_pos ⟨c, d⟩] at hM
     simp only [Prod.mk.injEq] at hM
     obtain ⟨rfl, rfl, rfl, rfl⟩ := hM
     exact rincl_id_yes K s1 p1 n1 t1 s2 p2 n2 t2 n w _ hL hs hA hB b1 b2 b3 b4 b5 b6 b7 b8 b9 b10 _ hgg c d
    ·rw [if_neg (by omega)] at hM
     simp only [Prod.mk.injEq] at hM
     obtain ⟨rfl, rfl, rfl, rfl⟩ := hM
     exact rincl_id_far K s1 p1 n1 t1 s2 p2 n2 t2 n w _ hL hs hA hB b1 b2 b3 b4 b5 b6 b7 b8 b9 b10 _ hgg c (by omega)
   ·rw [if_neg (by omega)] at hM
    simp only [Prod.mk.injEq] at hM
    obtain ⟨rfl, rfl, rfl, rfl⟩ := hM
    exact rincl_id_no K s1 p1 n1 t1 s2 p2 n2 t2 n w _ hL hs hA hB b1 b2 b3 b4 b5 b6 b7 b8 b9 b10 _ hgg c
 ·rw [if_neg (show ¬ (2 : Int) = 1 by decide)] at hM
  simp only [Prod.mk.injEq] at hM
  obtain ⟨rfl, hq⟩ := hM
  rcases fb with rfl | rfl
  ·exact rincl_d1 K s1 p1 n1 t1 s2 p2 n2 t2 n w _ hL hs hA hB b1 b2 b3 b4 b5 b6 b7 b8 b9 b10 (bk rfl) n1.toNat (by omega) _ rfl q1 q2 q3 hq
  ·exact rincl_d2 K s1 p1 n1 t1 s2 p2 n2 t2 n w _ hL hs hA hB b1 b2 b3 b4 b5 b6 b7 b8 b9 b10 trivial n1.toNat (by omega) _ rfl q1 q2 q3 hq
end Go.Proofs.YtmkmpjkgpnahnaaDoor.X
