/-
  plain.Incl, walked by hand: two deeds, one behind the other (printed by wip/gen29i.py). Conditions: the two tables of unicode/utf8 as they are laid.
-/
import Derived.Test.YtmkmpjkgpnahnaaDoorDelDel
import Derived.Test.YtmkmpjkgpnahnaaDoorPx11
import Derived.Test.YtmkmpjkgpnahnaaDoorPx18
import Derived.Test.YtmkmpjkgpnahnaaDoorPx19
import Derived.Test.YtmkmpjkgpnahnaaDoorPx21
import Derived.Test.YtmkmpjkgpnahnaaDoorExt
import Derived.Deep.RegionHeld3
import Derived.Laws.EntriesVeiled
namespace Go.Proofs.YtmkmpjkgpnahnaaDoor.X
open Go Go.RowKit Go.Shelf Go.Proofs.YtmkmpjkgpnahnaaDoorW.PrintWords Go.Proofs.YtmkmpjkgpnahnaaDoor.P
set_option linter.unusedVariables false

/-- How many runes a text inserts. -/
def szU (t : ByteArray) : Int := max 0 (lenU t)
/-- May a deed be, upon n runes? -/
def mayB (s kd p l : Int) (t : ByteArray) (n : Int) : Bool :=
  decide (0 ≤ n ∧ n ≤ 20000 ∧ 1 ≤ s ∧ s ≤ 16 ∧ ((kd = 1 ∧ 0 ≤ p ∧ p ≤ n ∧ l = 0 ∧ t.size ≤ 800 ∧ 1 ≤ lenU t ∧ lenU t ≤ 200) ∨ (kd = 2 ∧ 0 ≤ p ∧ p ≤ n - 1 ∧ 1 ≤ l ∧ l ≤ n - p ∧ t.toList = [])))
theorem may_f (s kd p l : Int) (t : ByteArray) (n : Int) : plain_May.f 2 s kd p l t n = some (mayB s kd p l t n) := by
  unfold plain_May.f plain_May.j0
  simp only [plain_within.f, runes_Len.f]
  by_cases a1 : (0 : Int) ≤ n <;> by_cases a2 : n ≤ 20000 <;> by_cases a3 : (1 : Int) ≤ s <;> by_cases a4 : s ≤ 16 <;>
    simp only [ge_iff_le, a1, a2, a3, a4, if_true, if_false, Option.bind_some, decide_true, decide_false, Bool.not_true, Bool.not_false, mayB, true_and, false_and, and_false, Bool.false_eq_true]
  by_cases b1 : kd = 1
  · subst b1
    by_cases b2 : (0 : Int) ≤ p <;> by_cases b3 : p ≤ n <;> by_cases b4 : l = 0 <;> by_cases b5 : (t.size : Int) ≤ 800 <;>
      simp [b2, b3, b4, b5]
    · rw [if_pos (by omega)]
      simp
      by_cases b6 : (1 : Int) ≤ lenU t <;> simp [b6]
      intro _
      omega
    all_goals (intros; omega)
  · by_cases b1' : kd = 2
    · subst b1'
      have e1 : wrap64 (n - 1) = n - 1 := by unfold wrap64; omega
      have e2 : (0 : Int) ≤ p → p ≤ n - 1 → wrap64 (n - p) = n - p := fun _ _ => by unfold wrap64; omega
      by_cases b2 : (0 : Int) ≤ p <;> by_cases b3 : p ≤ n - 1 <;> simp [b2, b3, e1]
      rw [e2 b2 b3]
      by_cases b4 : (1 : Int) ≤ l <;> by_cases b5 : l ≤ n - p <;> simp [b4, b5]
      generalize t.toList = q
      cases q <;> simp
    · simp [b1, b1']
/-- A deed behind another one, both upon the same runes: the parts, and what is lost. -/
def inclP (s1 k1 p1 n1 : Int) (t1 : ByteArray) (s2 k2 p2 n2 : Int) (t2 : ByteArray) : List S33 × Int × Int × Int :=
  if k1 = 1 then
    if k2 = 1 then (if p2 < p1 ∨ p1 = p2 ∧ s2 < s1 then ([⟨s1, k1, p1 + szU t2, n1, t1⟩], 0, 0, 0) else ([⟨s1, k1, p1, n1, t1⟩], 0, 0, 0))
    else if p1 ≤ p2 then ([⟨s1, k1, p1, n1, t1⟩], 0, 0, 0) else if p2 + n2 < p1 then ([⟨s1, k1, p1 - n2, n1, t1⟩], 0, 0, 0) else ([⟨s1, k1, p2, n1, t1⟩], 1, p1 - p2, 0)
  else if k2 = 1 then
    (if p2 ≤ p1 then ([⟨s1, k1, p1 + szU t2, n1, t1⟩], 0, 0, 0) else if p1 + n1 ≤ p2 then ([⟨s1, k1, p1, n1, t1⟩], 0, 0, 0) else ([⟨s1, k1, p2 + szU t2, n1 - (p2 - p1), t1⟩, ⟨s1, k1, p1, p2 - p1, t1⟩], 0, 0, 0))
  else if p1 + n1 ≤ p2 then ([⟨s1, k1, p1, n1, t1⟩], 0, 0, 0) else if p2 + n2 ≤ p1 then ([⟨s1, k1, p1 - n2, n1, t1⟩], 0, 0, 0)
  else if n1 = min (p1 + n1) (p2 + n2) - max p1 p2 then ([], 2, max p1 p2 - p2, min (p1 + n1) (p2 + n2) - max p1 p2)
  else ([⟨s1, k1, min p1 p2, n1 - (min (p1 + n1) (p2 + n2) - max p1 p2), t1⟩], 2, max p1 p2 - p2, min (p1 + n1) (p2 + n2) - max p1 p2)
def plain_Incl.f (s1 k1 p1 n1 : Int) (t1 : ByteArray) (s2 k2 p2 n2 : Int) (t2 : ByteArray) (n : Int) : Option (List S33 × Int × Int × Int × Int) :=
  if s1 = s2 then some ([], 0, 0, 0, 1) else if mayB s1 k1 p1 n1 t1 n = true then
    (if mayB s2 k2 p2 n2 t2 n = true then some ((inclP s1 k1 p1 n1 t1 s2 k2 p2 n2 t2).1, (inclP s1 k1 p1 n1 t1 s2 k2 p2 n2 t2).2.1, (inclP s1 k1 p1 n1 t1 s2 k2 p2 n2 t2).2.2.1, (inclP s1 k1 p1 n1 t1 s2 k2 p2 n2 t2).2.2.2, 0) else some ([], 0, 0, 0, 1))
  else some ([], 0, 0, 0, 1)
/-- What is known of two deeds that may be. -/
structure Two (s1 k1 p1 n1 : Int) (t1 : ByteArray) (s2 k2 p2 n2 : Int) (t2 : ByteArray) : Prop where
  a : 0 ≤ p1 ∧ p1 ≤ 20000 ∧ 0 ≤ n1 ∧ n1 ≤ 20000 ∧ 0 ≤ p2 ∧ p2 ≤ 20000 ∧ 0 ≤ n2 ∧ n2 ≤ 20000
  k1 : k1 = 1 ∨ k1 = 2 ∧ 1 ≤ n1
  k2 : k2 = 1 ∧ t2.size ≤ 800 ∧ 1 ≤ lenU t2 ∧ lenU t2 ≤ 200 ∨ k2 = 2 ∧ 1 ≤ n2
theorem two_of {s1 k1 p1 n1 : Int} {t1 : ByteArray} {s2 k2 p2 n2 : Int} {t2 : ByteArray} {n : Int} (h1 : mayB s1 k1 p1 n1 t1 n = true) (h2 : mayB s2 k2 p2 n2 t2 n = true) : Two s1 k1 p1 n1 t1 s2 k2 p2 n2 t2 := by
  unfold mayB at h1 h2
  rw [decide_eq_true_eq] at h1 h2
  obtain ⟨a1, a2, a3, a4, a5⟩ := h1
  obtain ⟨b1, b2, b3, b4, b5⟩ := h2
  refine ⟨?_, ?_, ?_⟩
  · rcases a5 with a5 | a5 <;> rcases b5 with b5 | b5 <;> omega
  · rcases a5 with a5 | a5
    · exact .inl a5.1
    · exact .inr ⟨a5.1, a5.2.2.2.1⟩
  · rcases b5 with b5 | b5
    · exact .inl ⟨b5.1, b5.2.2.2.2⟩
    · exact .inr ⟨b5.1, b5.2.2.2.1⟩
theorem size_f {s k p n : Int} {t : ByteArray} (h : t.size ≤ 800) : plain_Do_size.f s k p n t = some (szU t) := by
  unfold plain_Do_size.f runes_Len.f
  rw [if_pos (by omega)]
  simp only [Option.bind_some, mx, szU]
  congr 1
  split <;> omega
theorem bcell {W w1 : World} (hb : Below W.heap.size W w1) : (∀ b o, b < W.heap.size → w1.cell? ⟨b, o, none⟩ = W.cell? ⟨b, o, none⟩) ∧ (∀ b o, b < W.heap.size → w1.frozen? ⟨b, o, none⟩ = W.frozen? ⟨b, o, none⟩) :=
  ⟨fun b o h => hb.cell (p := ⟨b, o, none⟩) h, fun b o h => hb.frozen (p := ⟨b, o, none⟩) h⟩
theorem kcell {W w1 : World} (hb : Below W.heap.size W w1) : ∀ b o v, W.cell? ⟨b, o, none⟩ = some v → w1.cell? ⟨b, o, none⟩ = some v :=
  fun b o v h => (hb.cell (p := ⟨b, o, none⟩) (World.block_lt_of_cell? W _ h)).trans h
theorem w64 {x : Int} (h : -100000 ≤ x) (h2 : x ≤ 100000) : wrap64 x = x := by unfold wrap64; omega
theorem insIns_f {s1 k1 p1 n1 : Int} {t1 : ByteArray} {s2 k2 p2 n2 : Int} {t2 : ByteArray} (h : Two s1 k1 p1 n1 t1 s2 k2 p2 n2 t2) (e1 : k1 = 1) (e2 : k2 = 1) :
    plain_Do_insIns.f 1 s1 k1 p1 n1 t1 s2 k2 p2 n2 t2 = some (inclP s1 k1 p1 n1 t1 s2 k2 p2 n2 t2) := by
  obtain ⟨a1, a2, a3, a4, a5, a6, a7, a8⟩ := h.a
  obtain ⟨b1, b2, b3⟩ : t2.size ≤ 800 ∧ 1 ≤ lenU t2 ∧ lenU t2 ≤ 200 := by
    rcases h.k2 with h | h
    · exact h.2
    · omega
  have hs : 0 ≤ szU t2 ∧ szU t2 ≤ 200 := by unfold szU; omega
  have hw := w64 (x := p1 + szU t2) (by omega) (by omega)
  have hj : ∀ b : Bool, plain_Do_insIns.j0 1 b s1 k1 p1 n1 t1 s2 k2 p2 n2 t2 = some (if b = true then ([⟨s1, k1, p1 + szU t2, n1, t1⟩], 0, 0, 0) else ([⟨s1, k1, p1, n1, t1⟩], 0, 0, 0)) := by
    intro b
    cases b <;> simp [plain_Do_insIns.j0, size_f b1, plain_Do_at.f, hw]
  unfold plain_Do_insIns.f inclP
  rw [hj, hj, hj, if_pos e1, if_pos e2]
  by_cases c1 : p2 < p1
  · simp [c1]
  · by_cases c2 : p1 = p2
    · by_cases c3 : s2 < s1 <;> simp [c2, c3]
    · simp [c1, c2]
theorem insDel_f {s1 k1 p1 n1 : Int} {t1 : ByteArray} {s2 k2 p2 n2 : Int} {t2 : ByteArray} (h : Two s1 k1 p1 n1 t1 s2 k2 p2 n2 t2) (e1 : k1 = 1) (e2 : k2 = 2) :
    plain_Do_insDel.f s1 k1 p1 n1 t1 s2 k2 p2 n2 t2 = some (inclP s1 k1 p1 n1 t1 s2 k2 p2 n2 t2) := by
  obtain ⟨a1, a2, a3, a4, a5, a6, a7, a8⟩ := h.a
  subst e1 e2
  unfold plain_Do_insDel.f inclP
  rw [w64 (x := p2 + n2) (by omega) (by omega), w64 (x := p1 - n2) (by omega) (by omega), w64 (x := p1 - p2) (by omega) (by omega), if_pos rfl, if_neg (show ¬ (2 : Int) = 1 by omega)]
  by_cases c1 : p1 ≤ p2
  · simp [c1]
  · by_cases c2 : p2 + n2 < p1 <;> simp [c1, c2, plain_Do_at.f]
theorem delIns_f {s1 k1 p1 n1 : Int} {t1 : ByteArray} {s2 k2 p2 n2 : Int} {t2 : ByteArray} (h : Two s1 k1 p1 n1 t1 s2 k2 p2 n2 t2) (e1 : k1 = 2) (e2 : k2 = 1) :
    plain_Do_delIns.f s1 k1 p1 n1 t1 s2 k2 p2 n2 t2 = some (inclP s1 k1 p1 n1 t1 s2 k2 p2 n2 t2) := by
  obtain ⟨a1, a2, a3, a4, a5, a6, a7, a8⟩ := h.a
  obtain ⟨b1, b2, b3⟩ : t2.size ≤ 800 ∧ 1 ≤ lenU t2 ∧ lenU t2 ≤ 200 := by
    rcases h.k2 with h | h
    · exact h.2
    · omega
  have hs : 0 ≤ szU t2 ∧ szU t2 ≤ 200 := by unfold szU; omega
  subst e1 e2
  unfold plain_Do_delIns.f inclP
  rw [w64 (x := p1 + n1) (by omega) (by omega), if_neg (show ¬ (2 : Int) = 1 by omega), if_pos rfl, size_f b1]
  by_cases c1 : p2 ≤ p1
  · simp [c1, plain_Do_at.f, w64 (x := p1 + szU t2) (by omega) (by omega)]
  · by_cases c2 : p1 + n1 ≤ p2
    · simp [c1, c2]
    · rw [w64 (x := p2 - p1) (by omega) (by omega), w64 (x := n1 - (p2 - p1)) (by omega) (by omega)]
      simp [c1, c2, plain_Do_at.f, w64 (x := p2 + szU t2) (by omega) (by omega)]

set_option maxRecDepth 100000 in
set_option maxHeartbeats 4000000 in
theorem incl_one (s1 k1 p1 n1 : Int) (t1 : ByteArray) (s2 k2 p2 n2 : Int) (t2 : ByteArray) (n : Int) (w : World) (hT : Aside0 (XAmb w)) (hs : s1 = s2) :
    Calls Tryd.prog 10 #[.agg #[.int .i64 s1, .int .i64 k1, .int .i64 p1, .int .i64 n1, .string t1], .agg #[.int .i64 s2, .int .i64 k2, .int .i64 p2, .int .i64 n2, .string t2], .int .i64 n] w fun e w' => ∃ v0_ : Value, e = .returned (.tuple #[v0_, .agg #[.int .i64 0, .int .i64 0, .int .i64 0], .int .i64 1]) ∧ Kd.R k33 33 w' w.heap.size (fun _ => True) v0_ ([] : List S33) ∧ Below w.heap.size w w' := by
  have hq : (s1 == s2) = true := beq_iff_eq.2 hs
  have HS := Lib.hid hs
  clear hs
  have HB0 := Lib.hid ((((Bxs.start w).new #[.int .i64 s1, .int .i64 k1, .int .i64 p1, .int .i64 n1, .string t1] 33).new #[.int .i64 s2, .int .i64 k2, .int .i64 p2, .int .i64 n2, .string t2] 33).new #[.int .i64 0, .int .i64 0, .int .i64 0] 29)
  have hu33 := Tryd.underlying33
  have hu29 := Tryd.underlying29
  go_enter Tryd.func10, Tryd.ntmps10
  go_upto_region 1 with fail
  obtain ⟨W1, hW1⟩ : ∃ x, ((w.alloc (.cells #[.int .i64 s1, .int .i64 k1, .int .i64 p1, .int .i64 n1, .string t1] 33)).alloc (.cells #[.int .i64 s2, .int .i64 k2, .int .i64 p2, .int .i64 n2, .string t2] 33)).alloc (.cells #[.int .i64 0, .int .i64 0, .int .i64 0] 29) = x := ⟨_, rfl⟩
  have HX : Hid (Bxs w [((w.heap.size + 1 + 1), #[.int .i64 0, .int .i64 0, .int .i64 0], 29), ((w.heap.size + 1), #[.int .i64 s2, .int .i64 k2, .int .i64 p2, .int .i64 n2, .string t2], 33), (w.heap.size, #[.int .i64 s1, .int .i64 k1, .int .i64 p1, .int .i64 n1, .string t1], 33)] W1) := by
    rw [← hW1]
    simpa [Hid] using HB0.out
  rw [hW1]
  clear hW1 HB0
  have c2_0 : W1.cell? ⟨w.heap.size, 0, none⟩ = some (.int .i64 s1) := (HX.out.cell 2 rfl 0).trans rfl
  have c2_1 : W1.cell? ⟨w.heap.size, 1, none⟩ = some (.int .i64 k1) := (HX.out.cell 2 rfl 1).trans rfl
  have c2_2 : W1.cell? ⟨w.heap.size, 2, none⟩ = some (.int .i64 p1) := (HX.out.cell 2 rfl 2).trans rfl
  have c2_3 : W1.cell? ⟨w.heap.size, 3, none⟩ = some (.int .i64 n1) := (HX.out.cell 2 rfl 3).trans rfl
  have c2_4 : W1.cell? ⟨w.heap.size, 4, none⟩ = some (.string t1) := (HX.out.cell 2 rfl 4).trans rfl
  have c1_0 : W1.cell? ⟨(w.heap.size + 1), 0, none⟩ = some (.int .i64 s2) := (HX.out.cell 1 rfl 0).trans rfl
  have cr0_0 : W1.cell? ⟨(w.heap.size + 1 + 1), 0, none⟩ = some (.int .i64 0) := (HX.out.cell 0 rfl 0).trans rfl
  have fr0_0 : W1.frozen? ⟨(w.heap.size + 1 + 1), 0, none⟩ = false := HX.out.free 0 rfl 0
  have cr0_1 : W1.cell? ⟨(w.heap.size + 1 + 1), 1, none⟩ = some (.int .i64 0) := (HX.out.cell 0 rfl 1).trans rfl
  have fr0_1 : W1.frozen? ⟨(w.heap.size + 1 + 1), 1, none⟩ = false := HX.out.free 0 rfl 1
  have cr0_2 : W1.cell? ⟨(w.heap.size + 1 + 1), 2, none⟩ = some (.int .i64 0) := (HX.out.cell 0 rfl 2).trans rfl
  have fr0_2 : W1.frozen? ⟨(w.heap.size + 1 + 1), 2, none⟩ = false := HX.out.free 0 rfl 2
  go_wp2
  obtain ⟨W9, hW_⟩ : ∃ x, (((W1.setCell ⟨w.heap.size + 1 + 1, 0, none⟩ (.int .i64 0)).setCell ⟨w.heap.size + 1 + 1, 1, none⟩ (.int .i64 0)).setCell ⟨w.heap.size + 1 + 1, 2, none⟩ (.int .i64 0)) = x := ⟨_, rfl⟩
  have HY := Lib.hid (((HX.out.put 0 rfl 0 (.int .i64 0)).put 0 rfl 1 (.int .i64 0)).put 0 rfl 2 (.int .i64 0))
  rw [hW_] at HY
  rw [hW_]
  clear HX
  have HX := HY
  clear HY hW_
  refine bodyPost_ret (results_list (rs := [.tmp 6, .cell 7 29, .tmp 8]) rfl (by simp) (.tmp (.cell (w.heap.size + 1 + 1) 29 #[.int .i64 0, .int .i64 0, .int .i64 0] (0, 0) _ rfl (HX.out.blk 0 rfl) hu29 rfl (by kernel_rfl) (.tmp .nil)))) rfl ?_
  exact ⟨_, rfl, Kd.R_nil _ _ _ _ _, HX.out.below⟩

set_option maxRecDepth 100000 in
set_option maxHeartbeats 4000000 in
theorem incl_two (s1 k1 p1 n1 : Int) (t1 : ByteArray) (s2 k2 p2 n2 : Int) (t2 : ByteArray) (n : Int) (w : World) (hT : Aside0 (XAmb w)) (hs : ¬ s1 = s2) (ha : mayB s1 k1 p1 n1 t1 n = false) :
    Calls Tryd.prog 10 #[.agg #[.int .i64 s1, .int .i64 k1, .int .i64 p1, .int .i64 n1, .string t1], .agg #[.int .i64 s2, .int .i64 k2, .int .i64 p2, .int .i64 n2, .string t2], .int .i64 n] w fun e w' => ∃ v0_ : Value, e = .returned (.tuple #[v0_, .agg #[.int .i64 0, .int .i64 0, .int .i64 0], .int .i64 1]) ∧ Kd.R k33 33 w' w.heap.size (fun _ => True) v0_ ([] : List S33) ∧ Below w.heap.size w w' := by
  have hq : (s1 == s2) = false := beq_eq_false_iff_ne.2 hs
  have HS := Lib.hid hs
  clear hs
  have HA := Lib.hid (may_f s1 k1 p1 n1 t1 n)
  have HB := Lib.hid (may_f s2 k2 p2 n2 t2 n)
  rw [ha] at HA
  clear ha
  have HB0 := Lib.hid ((((Bxs.start w).new #[.int .i64 s1, .int .i64 k1, .int .i64 p1, .int .i64 n1, .string t1] 33).new #[.int .i64 s2, .int .i64 k2, .int .i64 p2, .int .i64 n2, .string t2] 33).new #[.int .i64 0, .int .i64 0, .int .i64 0] 29)
  have hu33 := Tryd.underlying33
  have hu29 := Tryd.underlying29
  go_enter Tryd.func10, Tryd.ntmps10
  go_upto_region 1 with fail
  obtain ⟨W1, hW1⟩ : ∃ x, ((w.alloc (.cells #[.int .i64 s1, .int .i64 k1, .int .i64 p1, .int .i64 n1, .string t1] 33)).alloc (.cells #[.int .i64 s2, .int .i64 k2, .int .i64 p2, .int .i64 n2, .string t2] 33)).alloc (.cells #[.int .i64 0, .int .i64 0, .int .i64 0] 29) = x := ⟨_, rfl⟩
  have HX : Hid (Bxs w [((w.heap.size + 1 + 1), #[.int .i64 0, .int .i64 0, .int .i64 0], 29), ((w.heap.size + 1), #[.int .i64 s2, .int .i64 k2, .int .i64 p2, .int .i64 n2, .string t2], 33), (w.heap.size, #[.int .i64 s1, .int .i64 k1, .int .i64 p1, .int .i64 n1, .string t1], 33)] W1) := by
    rw [← hW1]
    simpa [Hid] using HB0.out
  rw [hW1]
  clear hW1 HB0
  have c2_0 : W1.cell? ⟨w.heap.size, 0, none⟩ = some (.int .i64 s1) := (HX.out.cell 2 rfl 0).trans rfl
  have c2_1 : W1.cell? ⟨w.heap.size, 1, none⟩ = some (.int .i64 k1) := (HX.out.cell 2 rfl 1).trans rfl
  have c2_2 : W1.cell? ⟨w.heap.size, 2, none⟩ = some (.int .i64 p1) := (HX.out.cell 2 rfl 2).trans rfl
  have c2_3 : W1.cell? ⟨w.heap.size, 3, none⟩ = some (.int .i64 n1) := (HX.out.cell 2 rfl 3).trans rfl
  have c2_4 : W1.cell? ⟨w.heap.size, 4, none⟩ = some (.string t1) := (HX.out.cell 2 rfl 4).trans rfl
  have c1_0 : W1.cell? ⟨(w.heap.size + 1), 0, none⟩ = some (.int .i64 s2) := (HX.out.cell 1 rfl 0).trans rfl
  go_wp2_with fail
  refine (plain_May.calls 2 s1 k1 p1 n1 t1 n false _ (XAmb_step hT HX.out.below) HA.out).mono ?_
  rintro e W2 ⟨rfl, hb⟩
  have HY := Lib.hid (HX.out.keep hb)
  clear HX
  have HX := HY
  clear HY hb
  have cr0_0 : W2.cell? ⟨(w.heap.size + 1 + 1), 0, none⟩ = some (.int .i64 0) := (HX.out.cell 0 rfl 0).trans rfl
  have fr0_0 : W2.frozen? ⟨(w.heap.size + 1 + 1), 0, none⟩ = false := HX.out.free 0 rfl 0
  have cr0_1 : W2.cell? ⟨(w.heap.size + 1 + 1), 1, none⟩ = some (.int .i64 0) := (HX.out.cell 0 rfl 1).trans rfl
  have fr0_1 : W2.frozen? ⟨(w.heap.size + 1 + 1), 1, none⟩ = false := HX.out.free 0 rfl 1
  have cr0_2 : W2.cell? ⟨(w.heap.size + 1 + 1), 2, none⟩ = some (.int .i64 0) := (HX.out.cell 0 rfl 2).trans rfl
  have fr0_2 : W2.frozen? ⟨(w.heap.size + 1 + 1), 2, none⟩ = false := HX.out.free 0 rfl 2
  go_wp2
  obtain ⟨W9, hW_⟩ : ∃ x, (((W2.setCell ⟨w.heap.size + 1 + 1, 0, none⟩ (.int .i64 0)).setCell ⟨w.heap.size + 1 + 1, 1, none⟩ (.int .i64 0)).setCell ⟨w.heap.size + 1 + 1, 2, none⟩ (.int .i64 0)) = x := ⟨_, rfl⟩
  have HY := Lib.hid (((HX.out.put 0 rfl 0 (.int .i64 0)).put 0 rfl 1 (.int .i64 0)).put 0 rfl 2 (.int .i64 0))
  rw [hW_] at HY
  rw [hW_]
  clear HX
  have HX := HY
  clear HY hW_
  refine bodyPost_ret (results_list (rs := [.tmp 6, .cell 7 29, .tmp 8]) rfl (by simp) (.tmp (.cell (w.heap.size + 1 + 1) 29 #[.int .i64 0, .int .i64 0, .int .i64 0] (0, 0) _ rfl (HX.out.blk 0 rfl) hu29 rfl (by kernel_rfl) (.tmp .nil)))) rfl ?_
  exact ⟨_, rfl, Kd.R_nil _ _ _ _ _, HX.out.below⟩

set_option maxRecDepth 100000 in
set_option maxHeartbeats 4000000 in
theorem incl_three (s1 k1 p1 n1 : Int) (t1 : ByteArray) (s2 k2 p2 n2 : Int) (t2 : ByteArray) (n : Int) (w : World) (hT : Aside0 (XAmb w)) (hs : ¬ s1 = s2) (ha : mayB s1 k1 p1 n1 t1 n = true) (hb : mayB s2 k2 p2 n2 t2 n = false) :
    Calls Tryd.prog 10 #[.agg #[.int .i64 s1, .int .i64 k1, .int .i64 p1, .int .i64 n1, .string t1], .agg #[.int .i64 s2, .int .i64 k2, .int .i64 p2, .int .i64 n2, .string t2], .int .i64 n] w fun e w' => ∃ v0_ : Value, e = .returned (.tuple #[v0_, .agg #[.int .i64 0, .int .i64 0, .int .i64 0], .int .i64 1]) ∧ Kd.R k33 33 w' w.heap.size (fun _ => True) v0_ ([] : List S33) ∧ Below w.heap.size w w' := by
  have hq : (s1 == s2) = false := beq_eq_false_iff_ne.2 hs
  have HS := Lib.hid hs
  clear hs
  have HA := Lib.hid (may_f s1 k1 p1 n1 t1 n)
  have HB := Lib.hid (may_f s2 k2 p2 n2 t2 n)
  rw [ha] at HA
  rw [hb] at HB
  clear ha hb
  have HB0 := Lib.hid ((((Bxs.start w).new #[.int .i64 s1, .int .i64 k1, .int .i64 p1, .int .i64 n1, .string t1] 33).new #[.int .i64 s2, .int .i64 k2, .int .i64 p2, .int .i64 n2, .string t2] 33).new #[.int .i64 0, .int .i64 0, .int .i64 0] 29)
  have hu33 := Tryd.underlying33
  have hu29 := Tryd.underlying29
  go_enter Tryd.func10, Tryd.ntmps10
  go_upto_region 1 with fail
  obtain ⟨W1, hW1⟩ : ∃ x, ((w.alloc (.cells #[.int .i64 s1, .int .i64 k1, .int .i64 p1, .int .i64 n1, .string t1] 33)).alloc (.cells #[.int .i64 s2, .int .i64 k2, .int .i64 p2, .int .i64 n2, .string t2] 33)).alloc (.cells #[.int .i64 0, .int .i64 0, .int .i64 0] 29) = x := ⟨_, rfl⟩
  have HX : Hid (Bxs w [((w.heap.size + 1 + 1), #[.int .i64 0, .int .i64 0, .int .i64 0], 29), ((w.heap.size + 1), #[.int .i64 s2, .int .i64 k2, .int .i64 p2, .int .i64 n2, .string t2], 33), (w.heap.size, #[.int .i64 s1, .int .i64 k1, .int .i64 p1, .int .i64 n1, .string t1], 33)] W1) := by
    rw [← hW1]
    simpa [Hid] using HB0.out
  rw [hW1]
  clear hW1 HB0
  have c2_0 : W1.cell? ⟨w.heap.size, 0, none⟩ = some (.int .i64 s1) := (HX.out.cell 2 rfl 0).trans rfl
  have c2_1 : W1.cell? ⟨w.heap.size, 1, none⟩ = some (.int .i64 k1) := (HX.out.cell 2 rfl 1).trans rfl
  have c2_2 : W1.cell? ⟨w.heap.size, 2, none⟩ = some (.int .i64 p1) := (HX.out.cell 2 rfl 2).trans rfl
  have c2_3 : W1.cell? ⟨w.heap.size, 3, none⟩ = some (.int .i64 n1) := (HX.out.cell 2 rfl 3).trans rfl
  have c2_4 : W1.cell? ⟨w.heap.size, 4, none⟩ = some (.string t1) := (HX.out.cell 2 rfl 4).trans rfl
  have c1_0 : W1.cell? ⟨(w.heap.size + 1), 0, none⟩ = some (.int .i64 s2) := (HX.out.cell 1 rfl 0).trans rfl
  go_wp2_with fail
  refine (plain_May.calls 2 s1 k1 p1 n1 t1 n true _ (XAmb_step hT HX.out.below) HA.out).mono ?_
  rintro e W2 ⟨rfl, hb⟩
  have HY := Lib.hid (HX.out.keep hb)
  clear HX
  have HX := HY
  clear HY hb c2_0 c2_1 c2_2 c2_3 c2_4 c1_0
  have c1_0 : W2.cell? ⟨(w.heap.size + 1), 0, none⟩ = some (.int .i64 s2) := (HX.out.cell 1 rfl 0).trans rfl
  have c1_1 : W2.cell? ⟨(w.heap.size + 1), 1, none⟩ = some (.int .i64 k2) := (HX.out.cell 1 rfl 1).trans rfl
  have c1_2 : W2.cell? ⟨(w.heap.size + 1), 2, none⟩ = some (.int .i64 p2) := (HX.out.cell 1 rfl 2).trans rfl
  have c1_3 : W2.cell? ⟨(w.heap.size + 1), 3, none⟩ = some (.int .i64 n2) := (HX.out.cell 1 rfl 3).trans rfl
  have c1_4 : W2.cell? ⟨(w.heap.size + 1), 4, none⟩ = some (.string t2) := (HX.out.cell 1 rfl 4).trans rfl
  go_wp2_with fail
  refine (plain_May.calls 2 s2 k2 p2 n2 t2 n false _ (XAmb_step hT HX.out.below) HB.out).mono ?_
  rintro e W3 ⟨rfl, hb⟩
  have HY := Lib.hid (HX.out.keep hb)
  clear HX
  have HX := HY
  clear HY hb c1_0 c1_1 c1_2 c1_3 c1_4
  have cr0_0 : W3.cell? ⟨(w.heap.size + 1 + 1), 0, none⟩ = some (.int .i64 0) := (HX.out.cell 0 rfl 0).trans rfl
  have fr0_0 : W3.frozen? ⟨(w.heap.size + 1 + 1), 0, none⟩ = false := HX.out.free 0 rfl 0
  have cr0_1 : W3.cell? ⟨(w.heap.size + 1 + 1), 1, none⟩ = some (.int .i64 0) := (HX.out.cell 0 rfl 1).trans rfl
  have fr0_1 : W3.frozen? ⟨(w.heap.size + 1 + 1), 1, none⟩ = false := HX.out.free 0 rfl 1
  have cr0_2 : W3.cell? ⟨(w.heap.size + 1 + 1), 2, none⟩ = some (.int .i64 0) := (HX.out.cell 0 rfl 2).trans rfl
  have fr0_2 : W3.frozen? ⟨(w.heap.size + 1 + 1), 2, none⟩ = false := HX.out.free 0 rfl 2
  go_wp2
  obtain ⟨W9, hW_⟩ : ∃ x, (((W3.setCell ⟨w.heap.size + 1 + 1, 0, none⟩ (.int .i64 0)).setCell ⟨w.heap.size + 1 + 1, 1, none⟩ (.int .i64 0)).setCell ⟨w.heap.size + 1 + 1, 2, none⟩ (.int .i64 0)) = x := ⟨_, rfl⟩
  have HY := Lib.hid (((HX.out.put 0 rfl 0 (.int .i64 0)).put 0 rfl 1 (.int .i64 0)).put 0 rfl 2 (.int .i64 0))
  rw [hW_] at HY
  rw [hW_]
  clear HX
  have HX := HY
  clear HY hW_
  refine bodyPost_ret (results_list (rs := [.tmp 6, .cell 7 29, .tmp 8]) rfl (by simp) (.tmp (.cell (w.heap.size + 1 + 1) 29 #[.int .i64 0, .int .i64 0, .int .i64 0] (0, 0) _ rfl (HX.out.blk 0 rfl) hu29 rfl (by kernel_rfl) (.tmp .nil)))) rfl ?_
  exact ⟨_, rfl, Kd.R_nil _ _ _ _ _, HX.out.below⟩

theorem delDel_calls {s1 p1 n1 : Int} {t1 : ByteArray} {s2 p2 n2 : Int} {t2 : ByteArray} (L : List S33) (q1 q2 q3 : Int) (h : Two s1 2 p1 n1 t1 s2 2 p2 n2 t2) (hI : inclP s1 2 p1 n1 t1 s2 2 p2 n2 t2 = (L, q1, q2, q3)) (w : World) :
    Calls Tryd.prog 26 #[.agg #[.int .i64 s1, .int .i64 2, .int .i64 p1, .int .i64 n1, .string t1], .agg #[.int .i64 s2, .int .i64 2, .int .i64 p2, .int .i64 n2, .string t2]] w fun e w' => ∃ v, e = .returned (.tuple #[v, .agg #[.int .i64 q1, .int .i64 q2, .int .i64 q3]]) ∧ Kd.R k33 33 w' w.heap.size (fun _ => True) v L ∧ Below w.heap.size w w' := by
  obtain ⟨a1, a2, a3, a4, a5, a6, a7, a8⟩ := h.a
  have b1 : 1 ≤ n1 := by have := h.k1; omega
  have b2 : 1 ≤ n2 := by have := h.k2; omega
  unfold inclP at hI
  rw [if_neg (show ¬ (2 : Int) = 1 by omega), if_neg (show ¬ (2 : Int) = 1 by omega)] at hI
  by_cases c1 : p1 + n1 ≤ p2
  · rw [if_pos c1] at hI
    simp only [Prod.mk.injEq] at hI
    obtain ⟨rfl, rfl, rfl, rfl⟩ := hI
    exact delDel_before s1 2 p1 n1 t1 s2 2 p2 n2 t2 w a1 a2 b1 a4 a5 a6 b2 a8 c1
  · rw [if_neg c1] at hI
    by_cases c2 : p2 + n2 ≤ p1
    · rw [if_pos c2] at hI
      simp only [Prod.mk.injEq] at hI
      obtain ⟨rfl, rfl, rfl, rfl⟩ := hI
      exact delDel_behind s1 2 p1 n1 t1 s2 2 p2 n2 t2 w a1 a2 b1 a4 a5 a6 b2 a8 c2
    · rw [if_neg c2] at hI
      by_cases c3 : n1 = min (p1 + n1) (p2 + n2) - max p1 p2
      · rw [if_pos c3] at hI
        simp only [Prod.mk.injEq] at hI
        obtain ⟨rfl, rfl, rfl, rfl⟩ := hI
        exact delDel_all s1 2 p1 n1 t1 s2 2 p2 n2 t2 w a1 a2 b1 a4 a5 a6 b2 a8 (by omega) c3
      · rw [if_neg c3] at hI
        simp only [Prod.mk.injEq] at hI
        obtain ⟨rfl, rfl, rfl, rfl⟩ := hI
        exact delDel_part s1 2 p1 n1 t1 s2 2 p2 n2 t2 w a1 a2 b1 a4 a5 a6 b2 a8 (by omega) c3

set_option maxRecDepth 100000 in
set_option maxHeartbeats 4000000 in
theorem incl_11 (s1 p1 n1 : Int) (t1 : ByteArray) (s2 p2 n2 : Int) (t2 : ByteArray) (n : Int) (w : World) (hT : Aside0 (XAmb w)) (L : List S33) (q1 q2 q3 : Int) (hs : ¬ s1 = s2) (ha : mayB s1 1 p1 n1 t1 n = true) (hb : mayB s2 1 p2 n2 t2 n = true) (hI : inclP s1 1 p1 n1 t1 s2 1 p2 n2 t2 = (L, q1, q2, q3)) :
    Calls Tryd.prog 10 #[.agg #[.int .i64 s1, .int .i64 1, .int .i64 p1, .int .i64 n1, .string t1], .agg #[.int .i64 s2, .int .i64 1, .int .i64 p2, .int .i64 n2, .string t2], .int .i64 n] w fun e w' => ∃ v0_ : Value, e = .returned (.tuple #[v0_, .agg #[.int .i64 q1, .int .i64 q2, .int .i64 q3], .int .i64 0]) ∧ Kd.R k33 33 w' w.heap.size (fun _ => True) v0_ L ∧ Below w.heap.size w w' := by
  have hq : (s1 == s2) = false := beq_eq_false_iff_ne.2 hs
  have HS := Lib.hid hs
  clear hs
  have HA := Lib.hid (may_f s1 1 p1 n1 t1 n)
  have HB := Lib.hid (may_f s2 1 p2 n2 t2 n)
  rw [ha] at HA
  rw [hb] at HB
  have HC := Lib.hid (show plain_Do_insIns.f 1 s1 1 p1 n1 t1 s2 1 p2 n2 t2 = some (L, q1, q2, q3) from by rw [← hI]; exact insIns_f (two_of ha hb) rfl rfl)
  have HD := Lib.hid (two_of ha hb)
  clear ha hb hI
  have HB0 := Lib.hid ((((Bxs.start w).new #[.int .i64 s1, .int .i64 1, .int .i64 p1, .int .i64 n1, .string t1] 33).new #[.int .i64 s2, .int .i64 1, .int .i64 p2, .int .i64 n2, .string t2] 33).new #[.int .i64 0, .int .i64 0, .int .i64 0] 29)
  have hu33 := Tryd.underlying33
  have hu29 := Tryd.underlying29
  go_enter Tryd.func10, Tryd.ntmps10
  go_upto_region 1 with fail
  obtain ⟨W1, hW1⟩ : ∃ x, ((w.alloc (.cells #[.int .i64 s1, .int .i64 1, .int .i64 p1, .int .i64 n1, .string t1] 33)).alloc (.cells #[.int .i64 s2, .int .i64 1, .int .i64 p2, .int .i64 n2, .string t2] 33)).alloc (.cells #[.int .i64 0, .int .i64 0, .int .i64 0] 29) = x := ⟨_, rfl⟩
  have HX : Hid (Bxs w [((w.heap.size + 1 + 1), #[.int .i64 0, .int .i64 0, .int .i64 0], 29), ((w.heap.size + 1), #[.int .i64 s2, .int .i64 1, .int .i64 p2, .int .i64 n2, .string t2], 33), (w.heap.size, #[.int .i64 s1, .int .i64 1, .int .i64 p1, .int .i64 n1, .string t1], 33)] W1) := by
    rw [← hW1]
    simpa [Hid] using HB0.out
  rw [hW1]
  clear hW1 HB0
  have c2_0 : W1.cell? ⟨w.heap.size, 0, none⟩ = some (.int .i64 s1) := (HX.out.cell 2 rfl 0).trans rfl
  have c2_1 : W1.cell? ⟨w.heap.size, 1, none⟩ = some (.int .i64 1) := (HX.out.cell 2 rfl 1).trans rfl
  have c2_2 : W1.cell? ⟨w.heap.size, 2, none⟩ = some (.int .i64 p1) := (HX.out.cell 2 rfl 2).trans rfl
  have c2_3 : W1.cell? ⟨w.heap.size, 3, none⟩ = some (.int .i64 n1) := (HX.out.cell 2 rfl 3).trans rfl
  have c2_4 : W1.cell? ⟨w.heap.size, 4, none⟩ = some (.string t1) := (HX.out.cell 2 rfl 4).trans rfl
  have c1_0 : W1.cell? ⟨(w.heap.size + 1), 0, none⟩ = some (.int .i64 s2) := (HX.out.cell 1 rfl 0).trans rfl
  go_wp2_with fail
  refine (plain_May.calls 2 s1 1 p1 n1 t1 n true _ (XAmb_step hT HX.out.below) HA.out).mono ?_
  rintro e W2 ⟨rfl, hb⟩
  have HY := Lib.hid (HX.out.keep hb)
  clear HX
  have HX := HY
  clear HY hb c2_0 c2_1 c2_2 c2_3 c2_4 c1_0
  have c1_0 : W2.cell? ⟨(w.heap.size + 1), 0, none⟩ = some (.int .i64 s2) := (HX.out.cell 1 rfl 0).trans rfl
  have c1_1 : W2.cell? ⟨(w.heap.size + 1), 1, none⟩ = some (.int .i64 1) := (HX.out.cell 1 rfl 1).trans rfl
  have c1_2 : W2.cell? ⟨(w.heap.size + 1), 2, none⟩ = some (.int .i64 p2) := (HX.out.cell 1 rfl 2).trans rfl
  have c1_3 : W2.cell? ⟨(w.heap.size + 1), 3, none⟩ = some (.int .i64 n2) := (HX.out.cell 1 rfl 3).trans rfl
  have c1_4 : W2.cell? ⟨(w.heap.size + 1), 4, none⟩ = some (.string t2) := (HX.out.cell 1 rfl 4).trans rfl
  go_wp2_with fail
  refine (plain_May.calls 2 s2 1 p2 n2 t2 n true _ (XAmb_step hT HX.out.below) HB.out).mono ?_
  rintro e W3 ⟨rfl, hb⟩
  have HY := Lib.hid (HX.out.keep hb)
  clear HX
  have HX := HY
  clear HY hb c1_0 c1_1 c1_2 c1_3 c1_4
  go_upto_region 4 with fail
  obtain ⟨W4, hW_⟩ : ∃ x, W3.alloc (.cells #[.func (.func 23) #[] #[], .func (.func 24) #[] #[], .func (.func 25) #[] #[], .func (.func 26) #[] #[]] 58) = x := ⟨_, rfl⟩
  have HY := Lib.hid (HX.out.new #[.func (.func 23) #[] #[], .func (.func 24) #[] #[], .func (.func 25) #[] #[], .func (.func 26) #[] #[]] 58)
  rw [hW_] at HY
  rw [hW_]
  clear HX
  have HX := HY
  clear HY hW_
  have c3_0 : W4.cell? ⟨w.heap.size, 0, none⟩ = some (.int .i64 s1) := (HX.out.cell 3 rfl 0).trans rfl
  have c3_1 : W4.cell? ⟨w.heap.size, 1, none⟩ = some (.int .i64 1) := (HX.out.cell 3 rfl 1).trans rfl
  have c3_2 : W4.cell? ⟨w.heap.size, 2, none⟩ = some (.int .i64 p1) := (HX.out.cell 3 rfl 2).trans rfl
  have c3_3 : W4.cell? ⟨w.heap.size, 3, none⟩ = some (.int .i64 n1) := (HX.out.cell 3 rfl 3).trans rfl
  have c3_4 : W4.cell? ⟨w.heap.size, 4, none⟩ = some (.string t1) := (HX.out.cell 3 rfl 4).trans rfl
  have c2_0 : W4.cell? ⟨(w.heap.size + 1), 0, none⟩ = some (.int .i64 s2) := (HX.out.cell 2 rfl 0).trans rfl
  have c2_1 : W4.cell? ⟨(w.heap.size + 1), 1, none⟩ = some (.int .i64 1) := (HX.out.cell 2 rfl 1).trans rfl
  have c2_2 : W4.cell? ⟨(w.heap.size + 1), 2, none⟩ = some (.int .i64 p2) := (HX.out.cell 2 rfl 2).trans rfl
  have c2_3 : W4.cell? ⟨(w.heap.size + 1), 3, none⟩ = some (.int .i64 n2) := (HX.out.cell 2 rfl 3).trans rfl
  have c2_4 : W4.cell? ⟨(w.heap.size + 1), 4, none⟩ = some (.string t2) := (HX.out.cell 2 rfl 4).trans rfl
  have c0_0 : W4.cell? ⟨W3.heap.size, 0, none⟩ = some (.func (.func 23) #[] #[]) := (HX.out.cell 0 rfl 0).trans rfl
  have l0 : W3.heap.size < W4.heap.size := HX.out.lt (x := (W3.heap.size, #[.func (.func 23) #[] #[], .func (.func 24) #[] #[], .func (.func 25) #[] #[], .func (.func 26) #[] #[]], 58)) (by simp)
  have l1 : w.heap.size + 1 < W4.heap.size := HX.out.lt (x := (w.heap.size + 1, #[.int .i64 s2, .int .i64 1, .int .i64 p2, .int .i64 n2, .string t2], 33)) (by simp)
  have l2 : w.heap.size < W4.heap.size := by omega
  have vc3_0 := World.new_ne W4 _ c3_0
  have vc3_1 := World.new_ne W4 _ c3_1
  have vc3_2 := World.new_ne W4 _ c3_2
  have vc3_3 := World.new_ne W4 _ c3_3
  have vc3_4 := World.new_ne W4 _ c3_4
  have vc2_0 := World.new_ne W4 _ c2_0
  have vc2_1 := World.new_ne W4 _ c2_1
  have vc2_2 := World.new_ne W4 _ c2_2
  have vc2_3 := World.new_ne W4 _ c2_3
  have vc2_4 := World.new_ne W4 _ c2_4
  have vc0_0 := World.new_ne W4 _ c0_0
  have wr1 : IntKind.i64.wrap (0 : Int) = 0 := by decide
  have wr2 : IntKind.i64.wrap (1 : Int) = 1 := by decide
  go_region_held3 (fun w' => w'.cell? ⟨w.heap.size, 0, none⟩ = some (.int .i64 s1) ∧ w'.cell? ⟨w.heap.size, 1, none⟩ = some (.int .i64 1) ∧ w'.cell? ⟨w.heap.size, 2, none⟩ = some (.int .i64 p1) ∧ w'.cell? ⟨w.heap.size, 3, none⟩ = some (.int .i64 n1) ∧ w'.cell? ⟨w.heap.size, 4, none⟩ = some (.string t1) ∧ w'.cell? ⟨(w.heap.size + 1), 0, none⟩ = some (.int .i64 s2) ∧ w'.cell? ⟨(w.heap.size + 1), 1, none⟩ = some (.int .i64 1) ∧ w'.cell? ⟨(w.heap.size + 1), 2, none⟩ = some (.int .i64 p2) ∧ w'.cell? ⟨(w.heap.size + 1), 3, none⟩ = some (.int .i64 n2) ∧ w'.cell? ⟨(w.heap.size + 1), 4, none⟩ = some (.string t2) ∧ w'.cell? ⟨W3.heap.size, 0, none⟩ = some (.func (.func 23) #[] #[])) (go_keep) ((go_at_call 23; refine (plain_Do_insIns.calls 1 _ _ _ _ _ _ _ _ _ _ L q1 q2 q3 _ (XAmb_step hT ?am) HC.out).mono ?_; (try (case am => repeat (first | exact HX.out.below | apply below_drew1 | apply pw_below_drewN | apply below_alloc))); rintro e w9 ⟨v9, rfl, hR, hb⟩; have hc_ := kcell hb; obtain ⟨hd_, hf_⟩ := bcell hb))
  · have HN := Lib.hid ((HX.out.drew.keep hb).new #[.int .i64 q1, .int .i64 q2, .int .i64 q3] 29)
    have HR := Lib.hid (Kd.R_lower (Kd.R_alloc hR (.cells #[.int .i64 q1, .int .i64 q2, .int .i64 q3] 29 (0, 0))) HX.out.below.size)
    obtain ⟨g, hg⟩ : ∃ x, w9.heap.size = x := ⟨_, rfl⟩
    rw [hg] at HN ⊢
    obtain ⟨W5, hW5⟩ : ∃ x, w9.alloc (.cells #[.int .i64 q1, .int .i64 q2, .int .i64 q3] 29) = x := ⟨_, rfl⟩
    rw [hW5] at HN HR ⊢
    clear HX hb hc_ hd_ hf_ hR hW5 hg
    have HX := HN
    clear HN
    have c0_0 : W5.cell? ⟨g, 0, none⟩ = some (.int .i64 q1) := (HX.out.cell 0 rfl 0).trans rfl
    have c0_1 : W5.cell? ⟨g, 1, none⟩ = some (.int .i64 q2) := (HX.out.cell 0 rfl 1).trans rfl
    have c0_2 : W5.cell? ⟨g, 2, none⟩ = some (.int .i64 q3) := (HX.out.cell 0 rfl 2).trans rfl
    have c2_0 : W5.cell? ⟨(w.heap.size + 1 + 1), 0, none⟩ = some (.int .i64 0) := (HX.out.cell 2 rfl 0).trans rfl
    have f2_0 : W5.frozen? ⟨(w.heap.size + 1 + 1), 0, none⟩ = false := HX.out.free 2 rfl 0
    have c2_1 : W5.cell? ⟨(w.heap.size + 1 + 1), 1, none⟩ = some (.int .i64 0) := (HX.out.cell 2 rfl 1).trans rfl
    have f2_1 : W5.frozen? ⟨(w.heap.size + 1 + 1), 1, none⟩ = false := HX.out.free 2 rfl 1
    have c2_2 : W5.cell? ⟨(w.heap.size + 1 + 1), 2, none⟩ = some (.int .i64 0) := (HX.out.cell 2 rfl 2).trans rfl
    have f2_2 : W5.frozen? ⟨(w.heap.size + 1 + 1), 2, none⟩ = false := HX.out.free 2 rfl 2
    go_wp2_with fail
    go_region
    obtain ⟨W6, hW6⟩ : ∃ x, (((W5.setCell ⟨w.heap.size + 1 + 1, 0, none⟩ (.int .i64 q1)).setCell ⟨w.heap.size + 1 + 1, 1, none⟩ (.int .i64 q2)).setCell ⟨w.heap.size + 1 + 1, 2, none⟩ (.int .i64 q3)).drew = x := ⟨_, rfl⟩
    have HN := Lib.hid (((HX.out.put 2 rfl 0 (.int .i64 q1)).put 2 rfl 1 (.int .i64 q2)).put 2 rfl 2 (.int .i64 q3)).drew
    have HS2 := Lib.hid (Kd.R_drew (R_three HR.out (Nat.le_refl _) (HX.out.blk 2 rfl) (by decide) (.int .i64 q1) (.int .i64 q2) (.int .i64 q3)))
    rw [hW6] at HN HS2 ⊢
    go_wp2
    refine bodyPost_ret (results_list (rs := [.tmp 6, .cell 7 29, .tmp 8]) rfl (by simp) (.tmp (.cell (w.heap.size + 1 + 1) 29 #[.int .i64 q1, .int .i64 q2, .int .i64 q3] (0, 0) _ rfl (HN.out.blk 2 rfl) hu29 rfl (by kernel_rfl) (.tmp .nil)))) rfl ?_
    exact ⟨_, rfl, HS2.out, HN.out.below⟩
  · have HM := Lib.hid ((HX.out.new #[.int .i64 0, .int .i64 0, .int .i64 0] 29).drew.keep hb)
    have HN := Lib.hid (((HM.out.put 0 rfl 0 (.int .i64 q1)).put 0 rfl 1 (.int .i64 q2)).put 0 rfl 2 (.int .i64 q3))
    have HR := Lib.hid (R_three hR (Nat.le_trans HX.out.below.size (by show W4.heap.size ≤ (W4.alloc _).heap.size; simp)) (HM.out.blk 0 rfl) (by decide) (.int .i64 q1) (.int .i64 q2) (.int .i64 q3))
    obtain ⟨g, hg⟩ : ∃ x, W4.heap.size = x := ⟨_, rfl⟩
    rw [hg] at HN HR ⊢
    obtain ⟨W5, hW5⟩ : ∃ x, (((w9.setCell ⟨g, 0, none⟩ (.int .i64 q1)).setCell ⟨g, 1, none⟩ (.int .i64 q2)).setCell ⟨g, 2, none⟩ (.int .i64 q3)) = x := ⟨_, rfl⟩
    rw [hW5] at HN HR ⊢
    clear HM
    clear HX hb hc_ hd_ hf_ hR hW5 hg
    have HX := HN
    clear HN
    have c0_0 : W5.cell? ⟨g, 0, none⟩ = some (.int .i64 q1) := (HX.out.cell 0 rfl 0).trans rfl
    have c0_1 : W5.cell? ⟨g, 1, none⟩ = some (.int .i64 q2) := (HX.out.cell 0 rfl 1).trans rfl
    have c0_2 : W5.cell? ⟨g, 2, none⟩ = some (.int .i64 q3) := (HX.out.cell 0 rfl 2).trans rfl
    have c2_0 : W5.cell? ⟨(w.heap.size + 1 + 1), 0, none⟩ = some (.int .i64 0) := (HX.out.cell 2 rfl 0).trans rfl
    have f2_0 : W5.frozen? ⟨(w.heap.size + 1 + 1), 0, none⟩ = false := HX.out.free 2 rfl 0
    have c2_1 : W5.cell? ⟨(w.heap.size + 1 + 1), 1, none⟩ = some (.int .i64 0) := (HX.out.cell 2 rfl 1).trans rfl
    have f2_1 : W5.frozen? ⟨(w.heap.size + 1 + 1), 1, none⟩ = false := HX.out.free 2 rfl 1
    have c2_2 : W5.cell? ⟨(w.heap.size + 1 + 1), 2, none⟩ = some (.int .i64 0) := (HX.out.cell 2 rfl 2).trans rfl
    have f2_2 : W5.frozen? ⟨(w.heap.size + 1 + 1), 2, none⟩ = false := HX.out.free 2 rfl 2
    go_wp2_with fail
    go_region
    obtain ⟨W6, hW6⟩ : ∃ x, (((W5.setCell ⟨w.heap.size + 1 + 1, 0, none⟩ (.int .i64 q1)).setCell ⟨w.heap.size + 1 + 1, 1, none⟩ (.int .i64 q2)).setCell ⟨w.heap.size + 1 + 1, 2, none⟩ (.int .i64 q3)).drew = x := ⟨_, rfl⟩
    have HN := Lib.hid (((HX.out.put 2 rfl 0 (.int .i64 q1)).put 2 rfl 1 (.int .i64 q2)).put 2 rfl 2 (.int .i64 q3)).drew
    have HS2 := Lib.hid (Kd.R_drew (R_three HR.out (Nat.le_refl _) (HX.out.blk 2 rfl) (by decide) (.int .i64 q1) (.int .i64 q2) (.int .i64 q3)))
    rw [hW6] at HN HS2 ⊢
    go_wp2
    refine bodyPost_ret (results_list (rs := [.tmp 6, .cell 7 29, .tmp 8]) rfl (by simp) (.tmp (.cell (w.heap.size + 1 + 1) 29 #[.int .i64 q1, .int .i64 q2, .int .i64 q3] (0, 0) _ rfl (HN.out.blk 2 rfl) hu29 rfl (by kernel_rfl) (.tmp .nil)))) rfl ?_
    exact ⟨_, rfl, HS2.out, HN.out.below⟩

set_option maxRecDepth 100000 in
set_option maxHeartbeats 4000000 in
theorem incl_12 (s1 p1 n1 : Int) (t1 : ByteArray) (s2 p2 n2 : Int) (t2 : ByteArray) (n : Int) (w : World) (hT : Aside0 (XAmb w)) (L : List S33) (q1 q2 q3 : Int) (hs : ¬ s1 = s2) (ha : mayB s1 1 p1 n1 t1 n = true) (hb : mayB s2 2 p2 n2 t2 n = true) (hI : inclP s1 1 p1 n1 t1 s2 2 p2 n2 t2 = (L, q1, q2, q3)) :
    Calls Tryd.prog 10 #[.agg #[.int .i64 s1, .int .i64 1, .int .i64 p1, .int .i64 n1, .string t1], .agg #[.int .i64 s2, .int .i64 2, .int .i64 p2, .int .i64 n2, .string t2], .int .i64 n] w fun e w' => ∃ v0_ : Value, e = .returned (.tuple #[v0_, .agg #[.int .i64 q1, .int .i64 q2, .int .i64 q3], .int .i64 0]) ∧ Kd.R k33 33 w' w.heap.size (fun _ => True) v0_ L ∧ Below w.heap.size w w' := by
  have hq : (s1 == s2) = false := beq_eq_false_iff_ne.2 hs
  have HS := Lib.hid hs
  clear hs
  have HA := Lib.hid (may_f s1 1 p1 n1 t1 n)
  have HB := Lib.hid (may_f s2 2 p2 n2 t2 n)
  rw [ha] at HA
  rw [hb] at HB
  have HC := Lib.hid (show plain_Do_insDel.f s1 1 p1 n1 t1 s2 2 p2 n2 t2 = some (L, q1, q2, q3) from by rw [← hI]; exact insDel_f (two_of ha hb) rfl rfl)
  have HD := Lib.hid (two_of ha hb)
  clear ha hb hI
  have HB0 := Lib.hid ((((Bxs.start w).new #[.int .i64 s1, .int .i64 1, .int .i64 p1, .int .i64 n1, .string t1] 33).new #[.int .i64 s2, .int .i64 2, .int .i64 p2, .int .i64 n2, .string t2] 33).new #[.int .i64 0, .int .i64 0, .int .i64 0] 29)
  have hu33 := Tryd.underlying33
  have hu29 := Tryd.underlying29
  go_enter Tryd.func10, Tryd.ntmps10
  go_upto_region 1 with fail
  obtain ⟨W1, hW1⟩ : ∃ x, ((w.alloc (.cells #[.int .i64 s1, .int .i64 1, .int .i64 p1, .int .i64 n1, .string t1] 33)).alloc (.cells #[.int .i64 s2, .int .i64 2, .int .i64 p2, .int .i64 n2, .string t2] 33)).alloc (.cells #[.int .i64 0, .int .i64 0, .int .i64 0] 29) = x := ⟨_, rfl⟩
  have HX : Hid (Bxs w [((w.heap.size + 1 + 1), #[.int .i64 0, .int .i64 0, .int .i64 0], 29), ((w.heap.size + 1), #[.int .i64 s2, .int .i64 2, .int .i64 p2, .int .i64 n2, .string t2], 33), (w.heap.size, #[.int .i64 s1, .int .i64 1, .int .i64 p1, .int .i64 n1, .string t1], 33)] W1) := by
    rw [← hW1]
    simpa [Hid] using HB0.out
  rw [hW1]
  clear hW1 HB0
  have c2_0 : W1.cell? ⟨w.heap.size, 0, none⟩ = some (.int .i64 s1) := (HX.out.cell 2 rfl 0).trans rfl
  have c2_1 : W1.cell? ⟨w.heap.size, 1, none⟩ = some (.int .i64 1) := (HX.out.cell 2 rfl 1).trans rfl
  have c2_2 : W1.cell? ⟨w.heap.size, 2, none⟩ = some (.int .i64 p1) := (HX.out.cell 2 rfl 2).trans rfl
  have c2_3 : W1.cell? ⟨w.heap.size, 3, none⟩ = some (.int .i64 n1) := (HX.out.cell 2 rfl 3).trans rfl
  have c2_4 : W1.cell? ⟨w.heap.size, 4, none⟩ = some (.string t1) := (HX.out.cell 2 rfl 4).trans rfl
  have c1_0 : W1.cell? ⟨(w.heap.size + 1), 0, none⟩ = some (.int .i64 s2) := (HX.out.cell 1 rfl 0).trans rfl
  go_wp2_with fail
  refine (plain_May.calls 2 s1 1 p1 n1 t1 n true _ (XAmb_step hT HX.out.below) HA.out).mono ?_
  rintro e W2 ⟨rfl, hb⟩
  have HY := Lib.hid (HX.out.keep hb)
  clear HX
  have HX := HY
  clear HY hb c2_0 c2_1 c2_2 c2_3 c2_4 c1_0
  have c1_0 : W2.cell? ⟨(w.heap.size + 1), 0, none⟩ = some (.int .i64 s2) := (HX.out.cell 1 rfl 0).trans rfl
  have c1_1 : W2.cell? ⟨(w.heap.size + 1), 1, none⟩ = some (.int .i64 2) := (HX.out.cell 1 rfl 1).trans rfl
  have c1_2 : W2.cell? ⟨(w.heap.size + 1), 2, none⟩ = some (.int .i64 p2) := (HX.out.cell 1 rfl 2).trans rfl
  have c1_3 : W2.cell? ⟨(w.heap.size + 1), 3, none⟩ = some (.int .i64 n2) := (HX.out.cell 1 rfl 3).trans rfl
  have c1_4 : W2.cell? ⟨(w.heap.size + 1), 4, none⟩ = some (.string t2) := (HX.out.cell 1 rfl 4).trans rfl
  go_wp2_with fail
  refine (plain_May.calls 2 s2 2 p2 n2 t2 n true _ (XAmb_step hT HX.out.below) HB.out).mono ?_
  rintro e W3 ⟨rfl, hb⟩
  have HY := Lib.hid (HX.out.keep hb)
  clear HX
  have HX := HY
  clear HY hb c1_0 c1_1 c1_2 c1_3 c1_4
  go_upto_region 4 with fail
  obtain ⟨W4, hW_⟩ : ∃ x, W3.alloc (.cells #[.func (.func 23) #[] #[], .func (.func 24) #[] #[], .func (.func 25) #[] #[], .func (.func 26) #[] #[]] 58) = x := ⟨_, rfl⟩
  have HY := Lib.hid (HX.out.new #[.func (.func 23) #[] #[], .func (.func 24) #[] #[], .func (.func 25) #[] #[], .func (.func 26) #[] #[]] 58)
  rw [hW_] at HY
  rw [hW_]
  clear HX
  have HX := HY
  clear HY hW_
  have c3_0 : W4.cell? ⟨w.heap.size, 0, none⟩ = some (.int .i64 s1) := (HX.out.cell 3 rfl 0).trans rfl
  have c3_1 : W4.cell? ⟨w.heap.size, 1, none⟩ = some (.int .i64 1) := (HX.out.cell 3 rfl 1).trans rfl
  have c3_2 : W4.cell? ⟨w.heap.size, 2, none⟩ = some (.int .i64 p1) := (HX.out.cell 3 rfl 2).trans rfl
  have c3_3 : W4.cell? ⟨w.heap.size, 3, none⟩ = some (.int .i64 n1) := (HX.out.cell 3 rfl 3).trans rfl
  have c3_4 : W4.cell? ⟨w.heap.size, 4, none⟩ = some (.string t1) := (HX.out.cell 3 rfl 4).trans rfl
  have c2_0 : W4.cell? ⟨(w.heap.size + 1), 0, none⟩ = some (.int .i64 s2) := (HX.out.cell 2 rfl 0).trans rfl
  have c2_1 : W4.cell? ⟨(w.heap.size + 1), 1, none⟩ = some (.int .i64 2) := (HX.out.cell 2 rfl 1).trans rfl
  have c2_2 : W4.cell? ⟨(w.heap.size + 1), 2, none⟩ = some (.int .i64 p2) := (HX.out.cell 2 rfl 2).trans rfl
  have c2_3 : W4.cell? ⟨(w.heap.size + 1), 3, none⟩ = some (.int .i64 n2) := (HX.out.cell 2 rfl 3).trans rfl
  have c2_4 : W4.cell? ⟨(w.heap.size + 1), 4, none⟩ = some (.string t2) := (HX.out.cell 2 rfl 4).trans rfl
  have c0_1 : W4.cell? ⟨W3.heap.size, 1, none⟩ = some (.func (.func 24) #[] #[]) := (HX.out.cell 0 rfl 1).trans rfl
  have l0 : W3.heap.size < W4.heap.size := HX.out.lt (x := (W3.heap.size, #[.func (.func 23) #[] #[], .func (.func 24) #[] #[], .func (.func 25) #[] #[], .func (.func 26) #[] #[]], 58)) (by simp)
  have l1 : w.heap.size + 1 < W4.heap.size := HX.out.lt (x := (w.heap.size + 1, #[.int .i64 s2, .int .i64 2, .int .i64 p2, .int .i64 n2, .string t2], 33)) (by simp)
  have l2 : w.heap.size < W4.heap.size := by omega
  have vc3_0 := World.new_ne W4 _ c3_0
  have vc3_1 := World.new_ne W4 _ c3_1
  have vc3_2 := World.new_ne W4 _ c3_2
  have vc3_3 := World.new_ne W4 _ c3_3
  have vc3_4 := World.new_ne W4 _ c3_4
  have vc2_0 := World.new_ne W4 _ c2_0
  have vc2_1 := World.new_ne W4 _ c2_1
  have vc2_2 := World.new_ne W4 _ c2_2
  have vc2_3 := World.new_ne W4 _ c2_3
  have vc2_4 := World.new_ne W4 _ c2_4
  have vc0_1 := World.new_ne W4 _ c0_1
  have wr1 : IntKind.i64.wrap (0 : Int) = 0 := by decide
  have wr2 : IntKind.i64.wrap (1 : Int) = 1 := by decide
  go_region_held3 (fun w' => w'.cell? ⟨w.heap.size, 0, none⟩ = some (.int .i64 s1) ∧ w'.cell? ⟨w.heap.size, 1, none⟩ = some (.int .i64 1) ∧ w'.cell? ⟨w.heap.size, 2, none⟩ = some (.int .i64 p1) ∧ w'.cell? ⟨w.heap.size, 3, none⟩ = some (.int .i64 n1) ∧ w'.cell? ⟨w.heap.size, 4, none⟩ = some (.string t1) ∧ w'.cell? ⟨(w.heap.size + 1), 0, none⟩ = some (.int .i64 s2) ∧ w'.cell? ⟨(w.heap.size + 1), 1, none⟩ = some (.int .i64 2) ∧ w'.cell? ⟨(w.heap.size + 1), 2, none⟩ = some (.int .i64 p2) ∧ w'.cell? ⟨(w.heap.size + 1), 3, none⟩ = some (.int .i64 n2) ∧ w'.cell? ⟨(w.heap.size + 1), 4, none⟩ = some (.string t2) ∧ w'.cell? ⟨W3.heap.size, 1, none⟩ = some (.func (.func 24) #[] #[])) (go_keep) ((go_at_call 24; refine (plain_Do_insDel.calls _ _ _ _ _ _ _ _ _ _ L q1 q2 q3 _ HC.out).mono ?_; (try (case am => repeat (first | exact HX.out.below | apply below_drew1 | apply pw_below_drewN | apply below_alloc))); rintro e w9 ⟨v9, rfl, hR, hb⟩; have hc_ := kcell hb; obtain ⟨hd_, hf_⟩ := bcell hb))
  · have HN := Lib.hid ((HX.out.drew.keep hb).new #[.int .i64 q1, .int .i64 q2, .int .i64 q3] 29)
    have HR := Lib.hid (Kd.R_lower (Kd.R_alloc hR (.cells #[.int .i64 q1, .int .i64 q2, .int .i64 q3] 29 (0, 0))) HX.out.below.size)
    obtain ⟨g, hg⟩ : ∃ x, w9.heap.size = x := ⟨_, rfl⟩
    rw [hg] at HN ⊢
    obtain ⟨W5, hW5⟩ : ∃ x, w9.alloc (.cells #[.int .i64 q1, .int .i64 q2, .int .i64 q3] 29) = x := ⟨_, rfl⟩
    rw [hW5] at HN HR ⊢
    clear HX hb hc_ hd_ hf_ hR hW5 hg
    have HX := HN
    clear HN
    have c0_0 : W5.cell? ⟨g, 0, none⟩ = some (.int .i64 q1) := (HX.out.cell 0 rfl 0).trans rfl
    have c0_1 : W5.cell? ⟨g, 1, none⟩ = some (.int .i64 q2) := (HX.out.cell 0 rfl 1).trans rfl
    have c0_2 : W5.cell? ⟨g, 2, none⟩ = some (.int .i64 q3) := (HX.out.cell 0 rfl 2).trans rfl
    have c2_0 : W5.cell? ⟨(w.heap.size + 1 + 1), 0, none⟩ = some (.int .i64 0) := (HX.out.cell 2 rfl 0).trans rfl
    have f2_0 : W5.frozen? ⟨(w.heap.size + 1 + 1), 0, none⟩ = false := HX.out.free 2 rfl 0
    have c2_1 : W5.cell? ⟨(w.heap.size + 1 + 1), 1, none⟩ = some (.int .i64 0) := (HX.out.cell 2 rfl 1).trans rfl
    have f2_1 : W5.frozen? ⟨(w.heap.size + 1 + 1), 1, none⟩ = false := HX.out.free 2 rfl 1
    have c2_2 : W5.cell? ⟨(w.heap.size + 1 + 1), 2, none⟩ = some (.int .i64 0) := (HX.out.cell 2 rfl 2).trans rfl
    have f2_2 : W5.frozen? ⟨(w.heap.size + 1 + 1), 2, none⟩ = false := HX.out.free 2 rfl 2
    go_wp2_with fail
    go_region
    obtain ⟨W6, hW6⟩ : ∃ x, (((W5.setCell ⟨w.heap.size + 1 + 1, 0, none⟩ (.int .i64 q1)).setCell ⟨w.heap.size + 1 + 1, 1, none⟩ (.int .i64 q2)).setCell ⟨w.heap.size + 1 + 1, 2, none⟩ (.int .i64 q3)).drew = x := ⟨_, rfl⟩
    have HN := Lib.hid (((HX.out.put 2 rfl 0 (.int .i64 q1)).put 2 rfl 1 (.int .i64 q2)).put 2 rfl 2 (.int .i64 q3)).drew
    have HS2 := Lib.hid (Kd.R_drew (R_three HR.out (Nat.le_refl _) (HX.out.blk 2 rfl) (by decide) (.int .i64 q1) (.int .i64 q2) (.int .i64 q3)))
    rw [hW6] at HN HS2 ⊢
    go_wp2
    refine bodyPost_ret (results_list (rs := [.tmp 6, .cell 7 29, .tmp 8]) rfl (by simp) (.tmp (.cell (w.heap.size + 1 + 1) 29 #[.int .i64 q1, .int .i64 q2, .int .i64 q3] (0, 0) _ rfl (HN.out.blk 2 rfl) hu29 rfl (by kernel_rfl) (.tmp .nil)))) rfl ?_
    exact ⟨_, rfl, HS2.out, HN.out.below⟩
  · have HM := Lib.hid ((HX.out.new #[.int .i64 0, .int .i64 0, .int .i64 0] 29).drew.keep hb)
    have HN := Lib.hid (((HM.out.put 0 rfl 0 (.int .i64 q1)).put 0 rfl 1 (.int .i64 q2)).put 0 rfl 2 (.int .i64 q3))
    have HR := Lib.hid (R_three hR (Nat.le_trans HX.out.below.size (by show W4.heap.size ≤ (W4.alloc _).heap.size; simp)) (HM.out.blk 0 rfl) (by decide) (.int .i64 q1) (.int .i64 q2) (.int .i64 q3))
    obtain ⟨g, hg⟩ : ∃ x, W4.heap.size = x := ⟨_, rfl⟩
    rw [hg] at HN HR ⊢
    obtain ⟨W5, hW5⟩ : ∃ x, (((w9.setCell ⟨g, 0, none⟩ (.int .i64 q1)).setCell ⟨g, 1, none⟩ (.int .i64 q2)).setCell ⟨g, 2, none⟩ (.int .i64 q3)) = x := ⟨_, rfl⟩
    rw [hW5] at HN HR ⊢
    clear HM
    clear HX hb hc_ hd_ hf_ hR hW5 hg
    have HX := HN
    clear HN
    have c0_0 : W5.cell? ⟨g, 0, none⟩ = some (.int .i64 q1) := (HX.out.cell 0 rfl 0).trans rfl
    have c0_1 : W5.cell? ⟨g, 1, none⟩ = some (.int .i64 q2) := (HX.out.cell 0 rfl 1).trans rfl
    have c0_2 : W5.cell? ⟨g, 2, none⟩ = some (.int .i64 q3) := (HX.out.cell 0 rfl 2).trans rfl
    have c2_0 : W5.cell? ⟨(w.heap.size + 1 + 1), 0, none⟩ = some (.int .i64 0) := (HX.out.cell 2 rfl 0).trans rfl
    have f2_0 : W5.frozen? ⟨(w.heap.size + 1 + 1), 0, none⟩ = false := HX.out.free 2 rfl 0
    have c2_1 : W5.cell? ⟨(w.heap.size + 1 + 1), 1, none⟩ = some (.int .i64 0) := (HX.out.cell 2 rfl 1).trans rfl
    have f2_1 : W5.frozen? ⟨(w.heap.size + 1 + 1), 1, none⟩ = false := HX.out.free 2 rfl 1
    have c2_2 : W5.cell? ⟨(w.heap.size + 1 + 1), 2, none⟩ = some (.int .i64 0) := (HX.out.cell 2 rfl 2).trans rfl
    have f2_2 : W5.frozen? ⟨(w.heap.size + 1 + 1), 2, none⟩ = false := HX.out.free 2 rfl 2
    go_wp2_with fail
    go_region
    obtain ⟨W6, hW6⟩ : ∃ x, (((W5.setCell ⟨w.heap.size + 1 + 1, 0, none⟩ (.int .i64 q1)).setCell ⟨w.heap.size + 1 + 1, 1, none⟩ (.int .i64 q2)).setCell ⟨w.heap.size + 1 + 1, 2, none⟩ (.int .i64 q3)).drew = x := ⟨_, rfl⟩
    have HN := Lib.hid (((HX.out.put 2 rfl 0 (.int .i64 q1)).put 2 rfl 1 (.int .i64 q2)).put 2 rfl 2 (.int .i64 q3)).drew
    have HS2 := Lib.hid (Kd.R_drew (R_three HR.out (Nat.le_refl _) (HX.out.blk 2 rfl) (by decide) (.int .i64 q1) (.int .i64 q2) (.int .i64 q3)))
    rw [hW6] at HN HS2 ⊢
    go_wp2
    refine bodyPost_ret (results_list (rs := [.tmp 6, .cell 7 29, .tmp 8]) rfl (by simp) (.tmp (.cell (w.heap.size + 1 + 1) 29 #[.int .i64 q1, .int .i64 q2, .int .i64 q3] (0, 0) _ rfl (HN.out.blk 2 rfl) hu29 rfl (by kernel_rfl) (.tmp .nil)))) rfl ?_
    exact ⟨_, rfl, HS2.out, HN.out.below⟩

set_option maxRecDepth 100000 in
set_option maxHeartbeats 4000000 in
theorem incl_21 (s1 p1 n1 : Int) (t1 : ByteArray) (s2 p2 n2 : Int) (t2 : ByteArray) (n : Int) (w : World) (hT : Aside0 (XAmb w)) (L : List S33) (q1 q2 q3 : Int) (hs : ¬ s1 = s2) (ha : mayB s1 2 p1 n1 t1 n = true) (hb : mayB s2 1 p2 n2 t2 n = true) (hI : inclP s1 2 p1 n1 t1 s2 1 p2 n2 t2 = (L, q1, q2, q3)) :
    Calls Tryd.prog 10 #[.agg #[.int .i64 s1, .int .i64 2, .int .i64 p1, .int .i64 n1, .string t1], .agg #[.int .i64 s2, .int .i64 1, .int .i64 p2, .int .i64 n2, .string t2], .int .i64 n] w fun e w' => ∃ v0_ : Value, e = .returned (.tuple #[v0_, .agg #[.int .i64 q1, .int .i64 q2, .int .i64 q3], .int .i64 0]) ∧ Kd.R k33 33 w' w.heap.size (fun _ => True) v0_ L ∧ Below w.heap.size w w' := by
  have hq : (s1 == s2) = false := beq_eq_false_iff_ne.2 hs
  have HS := Lib.hid hs
  clear hs
  have HA := Lib.hid (may_f s1 2 p1 n1 t1 n)
  have HB := Lib.hid (may_f s2 1 p2 n2 t2 n)
  rw [ha] at HA
  rw [hb] at HB
  have HC := Lib.hid (show plain_Do_delIns.f s1 2 p1 n1 t1 s2 1 p2 n2 t2 = some (L, q1, q2, q3) from by rw [← hI]; exact delIns_f (two_of ha hb) rfl rfl)
  have HD := Lib.hid (two_of ha hb)
  clear ha hb hI
  have HB0 := Lib.hid ((((Bxs.start w).new #[.int .i64 s1, .int .i64 2, .int .i64 p1, .int .i64 n1, .string t1] 33).new #[.int .i64 s2, .int .i64 1, .int .i64 p2, .int .i64 n2, .string t2] 33).new #[.int .i64 0, .int .i64 0, .int .i64 0] 29)
  have hu33 := Tryd.underlying33
  have hu29 := Tryd.underlying29
  go_enter Tryd.func10, Tryd.ntmps10
  go_upto_region 1 with fail
  obtain ⟨W1, hW1⟩ : ∃ x, ((w.alloc (.cells #[.int .i64 s1, .int .i64 2, .int .i64 p1, .int .i64 n1, .string t1] 33)).alloc (.cells #[.int .i64 s2, .int .i64 1, .int .i64 p2, .int .i64 n2, .string t2] 33)).alloc (.cells #[.int .i64 0, .int .i64 0, .int .i64 0] 29) = x := ⟨_, rfl⟩
  have HX : Hid (Bxs w [((w.heap.size + 1 + 1), #[.int .i64 0, .int .i64 0, .int .i64 0], 29), ((w.heap.size + 1), #[.int .i64 s2, .int .i64 1, .int .i64 p2, .int .i64 n2, .string t2], 33), (w.heap.size, #[.int .i64 s1, .int .i64 2, .int .i64 p1, .int .i64 n1, .string t1], 33)] W1) := by
    rw [← hW1]
    simpa [Hid] using HB0.out
  rw [hW1]
  clear hW1 HB0
  have c2_0 : W1.cell? ⟨w.heap.size, 0, none⟩ = some (.int .i64 s1) := (HX.out.cell 2 rfl 0).trans rfl
  have c2_1 : W1.cell? ⟨w.heap.size, 1, none⟩ = some (.int .i64 2) := (HX.out.cell 2 rfl 1).trans rfl
  have c2_2 : W1.cell? ⟨w.heap.size, 2, none⟩ = some (.int .i64 p1) := (HX.out.cell 2 rfl 2).trans rfl
  have c2_3 : W1.cell? ⟨w.heap.size, 3, none⟩ = some (.int .i64 n1) := (HX.out.cell 2 rfl 3).trans rfl
  have c2_4 : W1.cell? ⟨w.heap.size, 4, none⟩ = some (.string t1) := (HX.out.cell 2 rfl 4).trans rfl
  have c1_0 : W1.cell? ⟨(w.heap.size + 1), 0, none⟩ = some (.int .i64 s2) := (HX.out.cell 1 rfl 0).trans rfl
  go_wp2_with fail
  refine (plain_May.calls 2 s1 2 p1 n1 t1 n true _ (XAmb_step hT HX.out.below) HA.out).mono ?_
  rintro e W2 ⟨rfl, hb⟩
  have HY := Lib.hid (HX.out.keep hb)
  clear HX
  have HX := HY
  clear HY hb c2_0 c2_1 c2_2 c2_3 c2_4 c1_0
  have c1_0 : W2.cell? ⟨(w.heap.size + 1), 0, none⟩ = some (.int .i64 s2) := (HX.out.cell 1 rfl 0).trans rfl
  have c1_1 : W2.cell? ⟨(w.heap.size + 1), 1, none⟩ = some (.int .i64 1) := (HX.out.cell 1 rfl 1).trans rfl
  have c1_2 : W2.cell? ⟨(w.heap.size + 1), 2, none⟩ = some (.int .i64 p2) := (HX.out.cell 1 rfl 2).trans rfl
  have c1_3 : W2.cell? ⟨(w.heap.size + 1), 3, none⟩ = some (.int .i64 n2) := (HX.out.cell 1 rfl 3).trans rfl
  have c1_4 : W2.cell? ⟨(w.heap.size + 1), 4, none⟩ = some (.string t2) := (HX.out.cell 1 rfl 4).trans rfl
  go_wp2_with fail
  refine (plain_May.calls 2 s2 1 p2 n2 t2 n true _ (XAmb_step hT HX.out.below) HB.out).mono ?_
  rintro e W3 ⟨rfl, hb⟩
  have HY := Lib.hid (HX.out.keep hb)
  clear HX
  have HX := HY
  clear HY hb c1_0 c1_1 c1_2 c1_3 c1_4
  go_upto_region 4 with fail
  obtain ⟨W4, hW_⟩ : ∃ x, W3.alloc (.cells #[.func (.func 23) #[] #[], .func (.func 24) #[] #[], .func (.func 25) #[] #[], .func (.func 26) #[] #[]] 58) = x := ⟨_, rfl⟩
  have HY := Lib.hid (HX.out.new #[.func (.func 23) #[] #[], .func (.func 24) #[] #[], .func (.func 25) #[] #[], .func (.func 26) #[] #[]] 58)
  rw [hW_] at HY
  rw [hW_]
  clear HX
  have HX := HY
  clear HY hW_
  have c3_0 : W4.cell? ⟨w.heap.size, 0, none⟩ = some (.int .i64 s1) := (HX.out.cell 3 rfl 0).trans rfl
  have c3_1 : W4.cell? ⟨w.heap.size, 1, none⟩ = some (.int .i64 2) := (HX.out.cell 3 rfl 1).trans rfl
  have c3_2 : W4.cell? ⟨w.heap.size, 2, none⟩ = some (.int .i64 p1) := (HX.out.cell 3 rfl 2).trans rfl
  have c3_3 : W4.cell? ⟨w.heap.size, 3, none⟩ = some (.int .i64 n1) := (HX.out.cell 3 rfl 3).trans rfl
  have c3_4 : W4.cell? ⟨w.heap.size, 4, none⟩ = some (.string t1) := (HX.out.cell 3 rfl 4).trans rfl
  have c2_0 : W4.cell? ⟨(w.heap.size + 1), 0, none⟩ = some (.int .i64 s2) := (HX.out.cell 2 rfl 0).trans rfl
  have c2_1 : W4.cell? ⟨(w.heap.size + 1), 1, none⟩ = some (.int .i64 1) := (HX.out.cell 2 rfl 1).trans rfl
  have c2_2 : W4.cell? ⟨(w.heap.size + 1), 2, none⟩ = some (.int .i64 p2) := (HX.out.cell 2 rfl 2).trans rfl
  have c2_3 : W4.cell? ⟨(w.heap.size + 1), 3, none⟩ = some (.int .i64 n2) := (HX.out.cell 2 rfl 3).trans rfl
  have c2_4 : W4.cell? ⟨(w.heap.size + 1), 4, none⟩ = some (.string t2) := (HX.out.cell 2 rfl 4).trans rfl
  have c0_2 : W4.cell? ⟨W3.heap.size, 2, none⟩ = some (.func (.func 25) #[] #[]) := (HX.out.cell 0 rfl 2).trans rfl
  have l0 : W3.heap.size < W4.heap.size := HX.out.lt (x := (W3.heap.size, #[.func (.func 23) #[] #[], .func (.func 24) #[] #[], .func (.func 25) #[] #[], .func (.func 26) #[] #[]], 58)) (by simp)
  have l1 : w.heap.size + 1 < W4.heap.size := HX.out.lt (x := (w.heap.size + 1, #[.int .i64 s2, .int .i64 1, .int .i64 p2, .int .i64 n2, .string t2], 33)) (by simp)
  have l2 : w.heap.size < W4.heap.size := by omega
  have vc3_0 := World.new_ne W4 _ c3_0
  have vc3_1 := World.new_ne W4 _ c3_1
  have vc3_2 := World.new_ne W4 _ c3_2
  have vc3_3 := World.new_ne W4 _ c3_3
  have vc3_4 := World.new_ne W4 _ c3_4
  have vc2_0 := World.new_ne W4 _ c2_0
  have vc2_1 := World.new_ne W4 _ c2_1
  have vc2_2 := World.new_ne W4 _ c2_2
  have vc2_3 := World.new_ne W4 _ c2_3
  have vc2_4 := World.new_ne W4 _ c2_4
  have vc0_2 := World.new_ne W4 _ c0_2
  have wr1 : IntKind.i64.wrap (0 : Int) = 0 := by decide
  have wr2 : IntKind.i64.wrap (1 : Int) = 1 := by decide
  go_region_held3 (fun w' => w'.cell? ⟨w.heap.size, 0, none⟩ = some (.int .i64 s1) ∧ w'.cell? ⟨w.heap.size, 1, none⟩ = some (.int .i64 2) ∧ w'.cell? ⟨w.heap.size, 2, none⟩ = some (.int .i64 p1) ∧ w'.cell? ⟨w.heap.size, 3, none⟩ = some (.int .i64 n1) ∧ w'.cell? ⟨w.heap.size, 4, none⟩ = some (.string t1) ∧ w'.cell? ⟨(w.heap.size + 1), 0, none⟩ = some (.int .i64 s2) ∧ w'.cell? ⟨(w.heap.size + 1), 1, none⟩ = some (.int .i64 1) ∧ w'.cell? ⟨(w.heap.size + 1), 2, none⟩ = some (.int .i64 p2) ∧ w'.cell? ⟨(w.heap.size + 1), 3, none⟩ = some (.int .i64 n2) ∧ w'.cell? ⟨(w.heap.size + 1), 4, none⟩ = some (.string t2) ∧ w'.cell? ⟨W3.heap.size, 2, none⟩ = some (.func (.func 25) #[] #[])) (go_keep) ((go_at_call 25; refine (plain_Do_delIns.calls _ _ _ _ _ _ _ _ _ _ L q1 q2 q3 _ (XAmb_step hT ?am) HC.out).mono ?_; (try (case am => repeat (first | exact HX.out.below | apply below_drew1 | apply pw_below_drewN | apply below_alloc))); rintro e w9 ⟨v9, rfl, hR, hb⟩; have hc_ := kcell hb; obtain ⟨hd_, hf_⟩ := bcell hb))
  · have HN := Lib.hid ((HX.out.drew.keep hb).new #[.int .i64 q1, .int .i64 q2, .int .i64 q3] 29)
    have HR := Lib.hid (Kd.R_lower (Kd.R_alloc hR (.cells #[.int .i64 q1, .int .i64 q2, .int .i64 q3] 29 (0, 0))) HX.out.below.size)
    obtain ⟨g, hg⟩ : ∃ x, w9.heap.size = x := ⟨_, rfl⟩
    rw [hg] at HN ⊢
    obtain ⟨W5, hW5⟩ : ∃ x, w9.alloc (.cells #[.int .i64 q1, .int .i64 q2, .int .i64 q3] 29) = x := ⟨_, rfl⟩
    rw [hW5] at HN HR ⊢
    clear HX hb hc_ hd_ hf_ hR hW5 hg
    have HX := HN
    clear HN
    have c0_0 : W5.cell? ⟨g, 0, none⟩ = some (.int .i64 q1) := (HX.out.cell 0 rfl 0).trans rfl
    have c0_1 : W5.cell? ⟨g, 1, none⟩ = some (.int .i64 q2) := (HX.out.cell 0 rfl 1).trans rfl
    have c0_2 : W5.cell? ⟨g, 2, none⟩ = some (.int .i64 q3) := (HX.out.cell 0 rfl 2).trans rfl
    have c2_0 : W5.cell? ⟨(w.heap.size + 1 + 1), 0, none⟩ = some (.int .i64 0) := (HX.out.cell 2 rfl 0).trans rfl
    have f2_0 : W5.frozen? ⟨(w.heap.size + 1 + 1), 0, none⟩ = false := HX.out.free 2 rfl 0
    have c2_1 : W5.cell? ⟨(w.heap.size + 1 + 1), 1, none⟩ = some (.int .i64 0) := (HX.out.cell 2 rfl 1).trans rfl
    have f2_1 : W5.frozen? ⟨(w.heap.size + 1 + 1), 1, none⟩ = false := HX.out.free 2 rfl 1
    have c2_2 : W5.cell? ⟨(w.heap.size + 1 + 1), 2, none⟩ = some (.int .i64 0) := (HX.out.cell 2 rfl 2).trans rfl
    have f2_2 : W5.frozen? ⟨(w.heap.size + 1 + 1), 2, none⟩ = false := HX.out.free 2 rfl 2
    go_wp2_with fail
    go_region
    obtain ⟨W6, hW6⟩ : ∃ x, (((W5.setCell ⟨w.heap.size + 1 + 1, 0, none⟩ (.int .i64 q1)).setCell ⟨w.heap.size + 1 + 1, 1, none⟩ (.int .i64 q2)).setCell ⟨w.heap.size + 1 + 1, 2, none⟩ (.int .i64 q3)).drew = x := ⟨_, rfl⟩
    have HN := Lib.hid (((HX.out.put 2 rfl 0 (.int .i64 q1)).put 2 rfl 1 (.int .i64 q2)).put 2 rfl 2 (.int .i64 q3)).drew
    have HS2 := Lib.hid (Kd.R_drew (R_three HR.out (Nat.le_refl _) (HX.out.blk 2 rfl) (by decide) (.int .i64 q1) (.int .i64 q2) (.int .i64 q3)))
    rw [hW6] at HN HS2 ⊢
    go_wp2
    refine bodyPost_ret (results_list (rs := [.tmp 6, .cell 7 29, .tmp 8]) rfl (by simp) (.tmp (.cell (w.heap.size + 1 + 1) 29 #[.int .i64 q1, .int .i64 q2, .int .i64 q3] (0, 0) _ rfl (HN.out.blk 2 rfl) hu29 rfl (by kernel_rfl) (.tmp .nil)))) rfl ?_
    exact ⟨_, rfl, HS2.out, HN.out.below⟩
  · have HM := Lib.hid ((HX.out.new #[.int .i64 0, .int .i64 0, .int .i64 0] 29).drew.keep hb)
    have HN := Lib.hid (((HM.out.put 0 rfl 0 (.int .i64 q1)).put 0 rfl 1 (.int .i64 q2)).put 0 rfl 2 (.int .i64 q3))
    have HR := Lib.hid (R_three hR (Nat.le_trans HX.out.below.size (by show W4.heap.size ≤ (W4.alloc _).heap.size; simp)) (HM.out.blk 0 rfl) (by decide) (.int .i64 q1) (.int .i64 q2) (.int .i64 q3))
    obtain ⟨g, hg⟩ : ∃ x, W4.heap.size = x := ⟨_, rfl⟩
    rw [hg] at HN HR ⊢
    obtain ⟨W5, hW5⟩ : ∃ x, (((w9.setCell ⟨g, 0, none⟩ (.int .i64 q1)).setCell ⟨g, 1, none⟩ (.int .i64 q2)).setCell ⟨g, 2, none⟩ (.int .i64 q3)) = x := ⟨_, rfl⟩
    rw [hW5] at HN HR ⊢
    clear HM
    clear HX hb hc_ hd_ hf_ hR hW5 hg
    have HX := HN
    clear HN
    have c0_0 : W5.cell? ⟨g, 0, none⟩ = some (.int .i64 q1) := (HX.out.cell 0 rfl 0).trans rfl
    have c0_1 : W5.cell? ⟨g, 1, none⟩ = some (.int .i64 q2) := (HX.out.cell 0 rfl 1).trans rfl
    have c0_2 : W5.cell? ⟨g, 2, none⟩ = some (.int .i64 q3) := (HX.out.cell 0 rfl 2).trans rfl
    have c2_0 : W5.cell? ⟨(w.heap.size + 1 + 1), 0, none⟩ = some (.int .i64 0) := (HX.out.cell 2 rfl 0).trans rfl
    have f2_0 : W5.frozen? ⟨(w.heap.size + 1 + 1), 0, none⟩ = false := HX.out.free 2 rfl 0
    have c2_1 : W5.cell? ⟨(w.heap.size + 1 + 1), 1, none⟩ = some (.int .i64 0) := (HX.out.cell 2 rfl 1).trans rfl
    have f2_1 : W5.frozen? ⟨(w.heap.size + 1 + 1), 1, none⟩ = false := HX.out.free 2 rfl 1
    have c2_2 : W5.cell? ⟨(w.heap.size + 1 + 1), 2, none⟩ = some (.int .i64 0) := (HX.out.cell 2 rfl 2).trans rfl
    have f2_2 : W5.frozen? ⟨(w.heap.size + 1 + 1), 2, none⟩ = false := HX.out.free 2 rfl 2
    go_wp2_with fail
    go_region
    obtain ⟨W6, hW6⟩ : ∃ x, (((W5.setCell ⟨w.heap.size + 1 + 1, 0, none⟩ (.int .i64 q1)).setCell ⟨w.heap.size + 1 + 1, 1, none⟩ (.int .i64 q2)).setCell ⟨w.heap.size + 1 + 1, 2, none⟩ (.int .i64 q3)).drew = x := ⟨_, rfl⟩
    have HN := Lib.hid (((HX.out.put 2 rfl 0 (.int .i64 q1)).put 2 rfl 1 (.int .i64 q2)).put 2 rfl 2 (.int .i64 q3)).drew
    have HS2 := Lib.hid (Kd.R_drew (R_three HR.out (Nat.le_refl _) (HX.out.blk 2 rfl) (by decide) (.int .i64 q1) (.int .i64 q2) (.int .i64 q3)))
    rw [hW6] at HN HS2 ⊢
    go_wp2
    refine bodyPost_ret (results_list (rs := [.tmp 6, .cell 7 29, .tmp 8]) rfl (by simp) (.tmp (.cell (w.heap.size + 1 + 1) 29 #[.int .i64 q1, .int .i64 q2, .int .i64 q3] (0, 0) _ rfl (HN.out.blk 2 rfl) hu29 rfl (by kernel_rfl) (.tmp .nil)))) rfl ?_
    exact ⟨_, rfl, HS2.out, HN.out.below⟩

set_option maxRecDepth 100000 in
set_option maxHeartbeats 4000000 in
theorem incl_22 (s1 p1 n1 : Int) (t1 : ByteArray) (s2 p2 n2 : Int) (t2 : ByteArray) (n : Int) (w : World) (hT : Aside0 (XAmb w)) (L : List S33) (q1 q2 q3 : Int) (hs : ¬ s1 = s2) (ha : mayB s1 2 p1 n1 t1 n = true) (hb : mayB s2 2 p2 n2 t2 n = true) (hI : inclP s1 2 p1 n1 t1 s2 2 p2 n2 t2 = (L, q1, q2, q3)) :
    Calls Tryd.prog 10 #[.agg #[.int .i64 s1, .int .i64 2, .int .i64 p1, .int .i64 n1, .string t1], .agg #[.int .i64 s2, .int .i64 2, .int .i64 p2, .int .i64 n2, .string t2], .int .i64 n] w fun e w' => ∃ v0_ : Value, e = .returned (.tuple #[v0_, .agg #[.int .i64 q1, .int .i64 q2, .int .i64 q3], .int .i64 0]) ∧ Kd.R k33 33 w' w.heap.size (fun _ => True) v0_ L ∧ Below w.heap.size w w' := by
  have hq : (s1 == s2) = false := beq_eq_false_iff_ne.2 hs
  have HS := Lib.hid hs
  clear hs
  have HA := Lib.hid (may_f s1 2 p1 n1 t1 n)
  have HB := Lib.hid (may_f s2 2 p2 n2 t2 n)
  rw [ha] at HA
  rw [hb] at HB
  have HC := Lib.hid hI
  have HD := Lib.hid (two_of ha hb)
  clear ha hb hI
  have HB0 := Lib.hid ((((Bxs.start w).new #[.int .i64 s1, .int .i64 2, .int .i64 p1, .int .i64 n1, .string t1] 33).new #[.int .i64 s2, .int .i64 2, .int .i64 p2, .int .i64 n2, .string t2] 33).new #[.int .i64 0, .int .i64 0, .int .i64 0] 29)
  have hu33 := Tryd.underlying33
  have hu29 := Tryd.underlying29
  go_enter Tryd.func10, Tryd.ntmps10
  go_upto_region 1 with fail
  obtain ⟨W1, hW1⟩ : ∃ x, ((w.alloc (.cells #[.int .i64 s1, .int .i64 2, .int .i64 p1, .int .i64 n1, .string t1] 33)).alloc (.cells #[.int .i64 s2, .int .i64 2, .int .i64 p2, .int .i64 n2, .string t2] 33)).alloc (.cells #[.int .i64 0, .int .i64 0, .int .i64 0] 29) = x := ⟨_, rfl⟩
  have HX : Hid (Bxs w [((w.heap.size + 1 + 1), #[.int .i64 0, .int .i64 0, .int .i64 0], 29), ((w.heap.size + 1), #[.int .i64 s2, .int .i64 2, .int .i64 p2, .int .i64 n2, .string t2], 33), (w.heap.size, #[.int .i64 s1, .int .i64 2, .int .i64 p1, .int .i64 n1, .string t1], 33)] W1) := by
    rw [← hW1]
    simpa [Hid] using HB0.out
  rw [hW1]
  clear hW1 HB0
  have c2_0 : W1.cell? ⟨w.heap.size, 0, none⟩ = some (.int .i64 s1) := (HX.out.cell 2 rfl 0).trans rfl
  have c2_1 : W1.cell? ⟨w.heap.size, 1, none⟩ = some (.int .i64 2) := (HX.out.cell 2 rfl 1).trans rfl
  have c2_2 : W1.cell? ⟨w.heap.size, 2, none⟩ = some (.int .i64 p1) := (HX.out.cell 2 rfl 2).trans rfl
  have c2_3 : W1.cell? ⟨w.heap.size, 3, none⟩ = some (.int .i64 n1) := (HX.out.cell 2 rfl 3).trans rfl
  have c2_4 : W1.cell? ⟨w.heap.size, 4, none⟩ = some (.string t1) := (HX.out.cell 2 rfl 4).trans rfl
  have c1_0 : W1.cell? ⟨(w.heap.size + 1), 0, none⟩ = some (.int .i64 s2) := (HX.out.cell 1 rfl 0).trans rfl
  go_wp2_with fail
  refine (plain_May.calls 2 s1 2 p1 n1 t1 n true _ (XAmb_step hT HX.out.below) HA.out).mono ?_
  rintro e W2 ⟨rfl, hb⟩
  have HY := Lib.hid (HX.out.keep hb)
  clear HX
  have HX := HY
  clear HY hb c2_0 c2_1 c2_2 c2_3 c2_4 c1_0
  have c1_0 : W2.cell? ⟨(w.heap.size + 1), 0, none⟩ = some (.int .i64 s2) := (HX.out.cell 1 rfl 0).trans rfl
  have c1_1 : W2.cell? ⟨(w.heap.size + 1), 1, none⟩ = some (.int .i64 2) := (HX.out.cell 1 rfl 1).trans rfl
  have c1_2 : W2.cell? ⟨(w.heap.size + 1), 2, none⟩ = some (.int .i64 p2) := (HX.out.cell 1 rfl 2).trans rfl
  have c1_3 : W2.cell? ⟨(w.heap.size + 1), 3, none⟩ = some (.int .i64 n2) := (HX.out.cell 1 rfl 3).trans rfl
  have c1_4 : W2.cell? ⟨(w.heap.size + 1), 4, none⟩ = some (.string t2) := (HX.out.cell 1 rfl 4).trans rfl
  go_wp2_with fail
  refine (plain_May.calls 2 s2 2 p2 n2 t2 n true _ (XAmb_step hT HX.out.below) HB.out).mono ?_
  rintro e W3 ⟨rfl, hb⟩
  have HY := Lib.hid (HX.out.keep hb)
  clear HX
  have HX := HY
  clear HY hb c1_0 c1_1 c1_2 c1_3 c1_4
  go_upto_region 4 with fail
  obtain ⟨W4, hW_⟩ : ∃ x, W3.alloc (.cells #[.func (.func 23) #[] #[], .func (.func 24) #[] #[], .func (.func 25) #[] #[], .func (.func 26) #[] #[]] 58) = x := ⟨_, rfl⟩
  have HY := Lib.hid (HX.out.new #[.func (.func 23) #[] #[], .func (.func 24) #[] #[], .func (.func 25) #[] #[], .func (.func 26) #[] #[]] 58)
  rw [hW_] at HY
  rw [hW_]
  clear HX
  have HX := HY
  clear HY hW_
  have c3_0 : W4.cell? ⟨w.heap.size, 0, none⟩ = some (.int .i64 s1) := (HX.out.cell 3 rfl 0).trans rfl
  have c3_1 : W4.cell? ⟨w.heap.size, 1, none⟩ = some (.int .i64 2) := (HX.out.cell 3 rfl 1).trans rfl
  have c3_2 : W4.cell? ⟨w.heap.size, 2, none⟩ = some (.int .i64 p1) := (HX.out.cell 3 rfl 2).trans rfl
  have c3_3 : W4.cell? ⟨w.heap.size, 3, none⟩ = some (.int .i64 n1) := (HX.out.cell 3 rfl 3).trans rfl
  have c3_4 : W4.cell? ⟨w.heap.size, 4, none⟩ = some (.string t1) := (HX.out.cell 3 rfl 4).trans rfl
  have c2_0 : W4.cell? ⟨(w.heap.size + 1), 0, none⟩ = some (.int .i64 s2) := (HX.out.cell 2 rfl 0).trans rfl
  have c2_1 : W4.cell? ⟨(w.heap.size + 1), 1, none⟩ = some (.int .i64 2) := (HX.out.cell 2 rfl 1).trans rfl
  have c2_2 : W4.cell? ⟨(w.heap.size + 1), 2, none⟩ = some (.int .i64 p2) := (HX.out.cell 2 rfl 2).trans rfl
  have c2_3 : W4.cell? ⟨(w.heap.size + 1), 3, none⟩ = some (.int .i64 n2) := (HX.out.cell 2 rfl 3).trans rfl
  have c2_4 : W4.cell? ⟨(w.heap.size + 1), 4, none⟩ = some (.string t2) := (HX.out.cell 2 rfl 4).trans rfl
  have c0_3 : W4.cell? ⟨W3.heap.size, 3, none⟩ = some (.func (.func 26) #[] #[]) := (HX.out.cell 0 rfl 3).trans rfl
  have l0 : W3.heap.size < W4.heap.size := HX.out.lt (x := (W3.heap.size, #[.func (.func 23) #[] #[], .func (.func 24) #[] #[], .func (.func 25) #[] #[], .func (.func 26) #[] #[]], 58)) (by simp)
  have l1 : w.heap.size + 1 < W4.heap.size := HX.out.lt (x := (w.heap.size + 1, #[.int .i64 s2, .int .i64 2, .int .i64 p2, .int .i64 n2, .string t2], 33)) (by simp)
  have l2 : w.heap.size < W4.heap.size := by omega
  have vc3_0 := World.new_ne W4 _ c3_0
  have vc3_1 := World.new_ne W4 _ c3_1
  have vc3_2 := World.new_ne W4 _ c3_2
  have vc3_3 := World.new_ne W4 _ c3_3
  have vc3_4 := World.new_ne W4 _ c3_4
  have vc2_0 := World.new_ne W4 _ c2_0
  have vc2_1 := World.new_ne W4 _ c2_1
  have vc2_2 := World.new_ne W4 _ c2_2
  have vc2_3 := World.new_ne W4 _ c2_3
  have vc2_4 := World.new_ne W4 _ c2_4
  have vc0_3 := World.new_ne W4 _ c0_3
  have wr1 : IntKind.i64.wrap (0 : Int) = 0 := by decide
  have wr2 : IntKind.i64.wrap (1 : Int) = 1 := by decide
  go_region_held3 (fun w' => w'.cell? ⟨w.heap.size, 0, none⟩ = some (.int .i64 s1) ∧ w'.cell? ⟨w.heap.size, 1, none⟩ = some (.int .i64 2) ∧ w'.cell? ⟨w.heap.size, 2, none⟩ = some (.int .i64 p1) ∧ w'.cell? ⟨w.heap.size, 3, none⟩ = some (.int .i64 n1) ∧ w'.cell? ⟨w.heap.size, 4, none⟩ = some (.string t1) ∧ w'.cell? ⟨(w.heap.size + 1), 0, none⟩ = some (.int .i64 s2) ∧ w'.cell? ⟨(w.heap.size + 1), 1, none⟩ = some (.int .i64 2) ∧ w'.cell? ⟨(w.heap.size + 1), 2, none⟩ = some (.int .i64 p2) ∧ w'.cell? ⟨(w.heap.size + 1), 3, none⟩ = some (.int .i64 n2) ∧ w'.cell? ⟨(w.heap.size + 1), 4, none⟩ = some (.string t2) ∧ w'.cell? ⟨W3.heap.size, 3, none⟩ = some (.func (.func 26) #[] #[])) (go_keep) ((go_at_call 26; refine (delDel_calls L q1 q2 q3 HD.out HC.out _).mono ?_; rintro e w9 ⟨v9, rfl, hR, hb⟩; have hc_ := kcell hb; obtain ⟨hd_, hf_⟩ := bcell hb))
  · have HN := Lib.hid ((HX.out.drew.keep hb).new #[.int .i64 q1, .int .i64 q2, .int .i64 q3] 29)
    have HR := Lib.hid (Kd.R_lower (Kd.R_alloc hR (.cells #[.int .i64 q1, .int .i64 q2, .int .i64 q3] 29 (0, 0))) HX.out.below.size)
    obtain ⟨g, hg⟩ : ∃ x, w9.heap.size = x := ⟨_, rfl⟩
    rw [hg] at HN ⊢
    obtain ⟨W5, hW5⟩ : ∃ x, w9.alloc (.cells #[.int .i64 q1, .int .i64 q2, .int .i64 q3] 29) = x := ⟨_, rfl⟩
    rw [hW5] at HN HR ⊢
    clear HX hb hc_ hd_ hf_ hR hW5 hg
    have HX := HN
    clear HN
    have c0_0 : W5.cell? ⟨g, 0, none⟩ = some (.int .i64 q1) := (HX.out.cell 0 rfl 0).trans rfl
    have c0_1 : W5.cell? ⟨g, 1, none⟩ = some (.int .i64 q2) := (HX.out.cell 0 rfl 1).trans rfl
    have c0_2 : W5.cell? ⟨g, 2, none⟩ = some (.int .i64 q3) := (HX.out.cell 0 rfl 2).trans rfl
    have c2_0 : W5.cell? ⟨(w.heap.size + 1 + 1), 0, none⟩ = some (.int .i64 0) := (HX.out.cell 2 rfl 0).trans rfl
    have f2_0 : W5.frozen? ⟨(w.heap.size + 1 + 1), 0, none⟩ = false := HX.out.free 2 rfl 0
    have c2_1 : W5.cell? ⟨(w.heap.size + 1 + 1), 1, none⟩ = some (.int .i64 0) := (HX.out.cell 2 rfl 1).trans rfl
    have f2_1 : W5.frozen? ⟨(w.heap.size + 1 + 1), 1, none⟩ = false := HX.out.free 2 rfl 1
    have c2_2 : W5.cell? ⟨(w.heap.size + 1 + 1), 2, none⟩ = some (.int .i64 0) := (HX.out.cell 2 rfl 2).trans rfl
    have f2_2 : W5.frozen? ⟨(w.heap.size + 1 + 1), 2, none⟩ = false := HX.out.free 2 rfl 2
    go_wp2_with fail
    go_region
    obtain ⟨W6, hW6⟩ : ∃ x, (((W5.setCell ⟨w.heap.size + 1 + 1, 0, none⟩ (.int .i64 q1)).setCell ⟨w.heap.size + 1 + 1, 1, none⟩ (.int .i64 q2)).setCell ⟨w.heap.size + 1 + 1, 2, none⟩ (.int .i64 q3)).drew = x := ⟨_, rfl⟩
    have HN := Lib.hid (((HX.out.put 2 rfl 0 (.int .i64 q1)).put 2 rfl 1 (.int .i64 q2)).put 2 rfl 2 (.int .i64 q3)).drew
    have HS2 := Lib.hid (Kd.R_drew (R_three HR.out (Nat.le_refl _) (HX.out.blk 2 rfl) (by decide) (.int .i64 q1) (.int .i64 q2) (.int .i64 q3)))
    rw [hW6] at HN HS2 ⊢
    go_wp2
    refine bodyPost_ret (results_list (rs := [.tmp 6, .cell 7 29, .tmp 8]) rfl (by simp) (.tmp (.cell (w.heap.size + 1 + 1) 29 #[.int .i64 q1, .int .i64 q2, .int .i64 q3] (0, 0) _ rfl (HN.out.blk 2 rfl) hu29 rfl (by kernel_rfl) (.tmp .nil)))) rfl ?_
    exact ⟨_, rfl, HS2.out, HN.out.below⟩
  · have HM := Lib.hid ((HX.out.new #[.int .i64 0, .int .i64 0, .int .i64 0] 29).drew.keep hb)
    have HN := Lib.hid (((HM.out.put 0 rfl 0 (.int .i64 q1)).put 0 rfl 1 (.int .i64 q2)).put 0 rfl 2 (.int .i64 q3))
    have HR := Lib.hid (R_three hR (Nat.le_trans HX.out.below.size (by show W4.heap.size ≤ (W4.alloc _).heap.size; simp)) (HM.out.blk 0 rfl) (by decide) (.int .i64 q1) (.int .i64 q2) (.int .i64 q3))
    obtain ⟨g, hg⟩ : ∃ x, W4.heap.size = x := ⟨_, rfl⟩
    rw [hg] at HN HR ⊢
    obtain ⟨W5, hW5⟩ : ∃ x, (((w9.setCell ⟨g, 0, none⟩ (.int .i64 q1)).setCell ⟨g, 1, none⟩ (.int .i64 q2)).setCell ⟨g, 2, none⟩ (.int .i64 q3)) = x := ⟨_, rfl⟩
    rw [hW5] at HN HR ⊢
    clear HM
    clear HX hb hc_ hd_ hf_ hR hW5 hg
    have HX := HN
    clear HN
    have c0_0 : W5.cell? ⟨g, 0, none⟩ = some (.int .i64 q1) := (HX.out.cell 0 rfl 0).trans rfl
    have c0_1 : W5.cell? ⟨g, 1, none⟩ = some (.int .i64 q2) := (HX.out.cell 0 rfl 1).trans rfl
    have c0_2 : W5.cell? ⟨g, 2, none⟩ = some (.int .i64 q3) := (HX.out.cell 0 rfl 2).trans rfl
    have c2_0 : W5.cell? ⟨(w.heap.size + 1 + 1), 0, none⟩ = some (.int .i64 0) := (HX.out.cell 2 rfl 0).trans rfl
    have f2_0 : W5.frozen? ⟨(w.heap.size + 1 + 1), 0, none⟩ = false := HX.out.free 2 rfl 0
    have c2_1 : W5.cell? ⟨(w.heap.size + 1 + 1), 1, none⟩ = some (.int .i64 0) := (HX.out.cell 2 rfl 1).trans rfl
    have f2_1 : W5.frozen? ⟨(w.heap.size + 1 + 1), 1, none⟩ = false := HX.out.free 2 rfl 1
    have c2_2 : W5.cell? ⟨(w.heap.size + 1 + 1), 2, none⟩ = some (.int .i64 0) := (HX.out.cell 2 rfl 2).trans rfl
    have f2_2 : W5.frozen? ⟨(w.heap.size + 1 + 1), 2, none⟩ = false := HX.out.free 2 rfl 2
    go_wp2_with fail
    go_region
    obtain ⟨W6, hW6⟩ : ∃ x, (((W5.setCell ⟨w.heap.size + 1 + 1, 0, none⟩ (.int .i64 q1)).setCell ⟨w.heap.size + 1 + 1, 1, none⟩ (.int .i64 q2)).setCell ⟨w.heap.size + 1 + 1, 2, none⟩ (.int .i64 q3)).drew = x := ⟨_, rfl⟩
    have HN := Lib.hid (((HX.out.put 2 rfl 0 (.int .i64 q1)).put 2 rfl 1 (.int .i64 q2)).put 2 rfl 2 (.int .i64 q3)).drew
    have HS2 := Lib.hid (Kd.R_drew (R_three HR.out (Nat.le_refl _) (HX.out.blk 2 rfl) (by decide) (.int .i64 q1) (.int .i64 q2) (.int .i64 q3)))
    rw [hW6] at HN HS2 ⊢
    go_wp2
    refine bodyPost_ret (results_list (rs := [.tmp 6, .cell 7 29, .tmp 8]) rfl (by simp) (.tmp (.cell (w.heap.size + 1 + 1) 29 #[.int .i64 q1, .int .i64 q2, .int .i64 q3] (0, 0) _ rfl (HN.out.blk 2 rfl) hu29 rfl (by kernel_rfl) (.tmp .nil)))) rfl ?_
    exact ⟨_, rfl, HS2.out, HN.out.below⟩

theorem plain_Incl.calls (s1 k1 p1 n1 : Int) (t1 : ByteArray) (s2 k2 p2 n2 : Int) (t2 : ByteArray) (n : Int) (r1 : List S33) (r2 r3 r4 r5 : Int) (w : World) (hT : Aside0 (XAmb w)) (h : plain_Incl.f s1 k1 p1 n1 t1 s2 k2 p2 n2 t2 n = some (r1, r2, r3, r4, r5)) :
    Calls Tryd.prog 10 #[.agg #[.int .i64 s1, .int .i64 k1, .int .i64 p1, .int .i64 n1, .string t1], .agg #[.int .i64 s2, .int .i64 k2, .int .i64 p2, .int .i64 n2, .string t2], .int .i64 n] w fun e w' =>
      ∃ v0_ : Value, e = .returned (.tuple #[v0_, .agg #[.int .i64 r2, .int .i64 r3, .int .i64 r4], .int .i64 r5]) ∧ Kd.R k33 33 w' w.heap.size (fun _ => True) v0_ r1 ∧ Below w.heap.size w w' := by
  unfold plain_Incl.f at h
  by_cases hs : s1 = s2
  · rw [if_pos hs] at h
    simp only [Option.some.injEq, Prod.mk.injEq] at h
    obtain ⟨rfl, rfl, rfl, rfl, rfl⟩ := h
    exact incl_one s1 k1 p1 n1 t1 s2 k2 p2 n2 t2 n w hT hs
  · rw [if_neg hs] at h
    by_cases ha : mayB s1 k1 p1 n1 t1 n = true
    · rw [if_pos ha] at h
      by_cases hb : mayB s2 k2 p2 n2 t2 n = true
      · rw [if_pos hb] at h
        simp only [Option.some.injEq, Prod.mk.injEq] at h
        obtain ⟨e1, e2, e3, e4, rfl⟩ := h
        have hI : inclP s1 k1 p1 n1 t1 s2 k2 p2 n2 t2 = (r1, r2, r3, r4) := by rw [← e1, ← e2, ← e3, ← e4]
        have h2 := two_of ha hb
        rcases h2.k1 with rfl | ⟨rfl, _⟩ <;> rcases h2.k2 with ⟨rfl, _⟩ | ⟨rfl, _⟩
        · exact incl_11 s1 p1 n1 t1 s2 p2 n2 t2 n w hT r1 r2 r3 r4 hs ha hb hI
        · exact incl_12 s1 p1 n1 t1 s2 p2 n2 t2 n w hT r1 r2 r3 r4 hs ha hb hI
        · exact incl_21 s1 p1 n1 t1 s2 p2 n2 t2 n w hT r1 r2 r3 r4 hs ha hb hI
        · exact incl_22 s1 p1 n1 t1 s2 p2 n2 t2 n w hT r1 r2 r3 r4 hs ha hb hI
      · rw [if_neg hb] at h
        simp only [Option.some.injEq, Prod.mk.injEq] at h
        obtain ⟨rfl, rfl, rfl, rfl, rfl⟩ := h
        exact incl_three s1 k1 p1 n1 t1 s2 k2 p2 n2 t2 n w hT hs ha (by simpa using hb)
    · rw [if_neg ha] at h
      simp only [Option.some.injEq, Prod.mk.injEq] at h
      obtain ⟨rfl, rfl, rfl, rfl, rfl⟩ := h
      exact incl_two s1 k1 p1 n1 t1 s2 k2 p2 n2 t2 n w hT hs (by simpa using ha)

end Go.Proofs.YtmkmpjkgpnahnaaDoor.X
