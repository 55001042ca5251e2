/-
  blame.Sites: its contract in the print's form: by this session. Conditions: at most 20000 cells.
-/
import Derived.Test.YtkglfgikfeebhaaLive
import Derived.Laws.Rows
import Derived.ChangeKeysEq
namespace Go.Proofs.Ytkglfgikfeebhaa.X
open Go Go.RowKit Go.Shelf Go.Lib Go.Proofs.YtkglfgikfeebhaaW.PrintLast Go.Proofs.YtkglfgikfeebhaaW.PrintWords Go.Proofs.Ytkglfgikfeebhaa.P
set_option linter.unusedVariables false
theorem eq_num (d : Nat) (a b : Int) (w : World) : (Op.equalIn (d + 1) 3 (.int .i64 a) (.int .i64 b)).run Try.prog w = .ok (a == b) w := by
  unfold Op.equalIn
  simp [run_underlying Try.underlying3]
theorem part_num (cs : Array Value) (j : Nat) (v : Value) (w : World) (h : cs[j]? = some v) : (part 3 cs j).run Try.prog w = .ok v w := by
  have hag : (isAgg 3).run Try.prog w = .ok false w := by
    unfold isAgg
    rw [Sem.run_bind, run_underlying Try.underlying3 w]
    rfl
  unfold part
  simp [Sem.run_bind, hag, h]
theorem cells_num : Try.prog.cellsOf 3 = 1 := by kernel_rfl
theorem items_num (d : Nat) (xs ys : Array Value) (w : World) : ∀ (is : List Nat) (f g : Nat → Int), (∀ i ∈ is, xs[i]? = some (.int .i64 (f i)) ∧ ys[i]? = some (.int .i64 (g i))) →
    (Op.eqItems (d + 1) 3 1 xs ys is).run Try.prog w = .ok (is.all fun i => f i == g i) w
  | [], f, g, _ => by simp [Op.eqItems]
  | i :: is, f, g, h => by
    obtain ⟨h1, h2⟩ := h i List.mem_cons_self
    unfold Op.eqItems
    simp only [Nat.mul_one, Sem.run_bind, part_num xs i _ w h1, part_num ys i _ w h2, eq_num, Result.andThen_ok]
    cases hfg : f i == g i with
    | false => simp [hfg]
    | true => simp [hfg, items_num d xs ys w is f g (fun j hj => h j (List.mem_cons_of_mem _ hj))]
theorem info_int : ∃ i, Try.prog.info? 3 = some i := ⟨_, rfl⟩
theorem eqA2 (a b c d : Int) (w : World) : (Op.equalIn 10000 59 (.agg #[.int .i64 a, .int .i64 b]) (.agg #[.int .i64 c, .int .i64 d])).run Try.prog w = .ok (a == c && b == d) w := by
  obtain ⟨i, hi⟩ := info_int
  rw [show (10000 : Nat) = 9998 + 1 + 1 from rfl, run_equalIn_array w (9998 + 1) _ _ Try.underlying59 hi, cells_num,
    items_num 9998 _ _ w _ (fun i => if i = 0 then a else b) (fun i => if i = 0 then c else d) (by simp [List.range, List.range.loop])]
  simp [List.range, List.range.loop]
theorem eqA3 (a b c a' b' c' : Int) (w : World) : (Op.equalIn 10000 42 (.agg #[.int .i64 a, .int .i64 b, .int .i64 c]) (.agg #[.int .i64 a', .int .i64 b', .int .i64 c'])).run Try.prog w = .ok (a == a' && (b == b' && c == c')) w := by
  obtain ⟨i, hi⟩ := info_int
  rw [show (10000 : Nat) = 9998 + 1 + 1 from rfl, run_equalIn_array w (9998 + 1) _ _ Try.underlying42 hi, cells_num,
    items_num 9998 _ _ w _ (fun i => if i = 0 then a else if i = 1 then b else c) (fun i => if i = 0 then a' else if i = 1 then b' else c') (by simp [List.range, List.range.loop])]
  simp [List.range, List.range.loop]
/-- Three numbers in line. -/
def k42 : Kd (Int × Int × Int) := Kd.pair (Kd.int .i64) (Kd.pair (Kd.int .i64) (Kd.int .i64))
theorem k42_mkM (w : World) (base : Nat) (ok : Nat → Prop) (a b c : Int) : k42.M w base ok (a, b, c) [.int .i64 a, .int .i64 b, .int .i64 c] := ⟨[.int .i64 a], [.int .i64 b, .int .i64 c], rfl, rfl, ⟨[.int .i64 b], [.int .i64 c], rfl, rfl, rfl⟩⟩
theorem k42_open {w : World} {a b c : Int} {cs : List Value} (h : k42.K w (a, b, c) cs) : cs = [.int .i64 a, .int .i64 b, .int .i64 c] := by
  obtain ⟨c0, c1, rfl, h0, ⟨c2, c3, rfl, h2, h3⟩⟩ := h
  rw [show c0 = _ from h0, show c2 = _ from h2, show c3 = _ from h3]
  rfl
/-- Where a cell is counted. -/
def cIx (x : S46) : Nat := x.f0.f0.toNat * 2 + (if x.f3 = true then 1 else 0)
/-- How many are counted there. -/
def cN (l : List S46) (j : Nat) : Nat := (l.filter fun x => decide (cIx x = j)).length
theorem cN_le (l : List S46) (j : Nat) : cN l j ≤ l.length := List.length_filter_le _ _
def cRow (l : List S46) : Array Value := ((List.range 34).map fun j => Value.int .i64 (cN l j : Nat)).toArray
theorem cRow_get (l : List S46) (j : Nat) (h : j < 34) : (cRow l)[j]? = some (.int .i64 (cN l j : Nat)) := by
  simp [cRow, h]
theorem cRow_size (l : List S46) : (cRow l).size = 34 := by simp [cRow]
theorem cRow_nil : cRow [] = #[.int .i64 0, .int .i64 0, .int .i64 0, .int .i64 0, .int .i64 0, .int .i64 0, .int .i64 0, .int .i64 0, .int .i64 0, .int .i64 0, .int .i64 0, .int .i64 0, .int .i64 0, .int .i64 0, .int .i64 0, .int .i64 0, .int .i64 0, .int .i64 0, .int .i64 0, .int .i64 0, .int .i64 0, .int .i64 0, .int .i64 0, .int .i64 0, .int .i64 0, .int .i64 0, .int .i64 0, .int .i64 0, .int .i64 0, .int .i64 0, .int .i64 0, .int .i64 0, .int .i64 0, .int .i64 0] := by
  simp [cRow, cN, List.range, List.range.loop]
theorem cN_snoc (l : List S46) (x : S46) (j : Nat) : cN (l ++ [x]) j = cN l j + if cIx x = j then 1 else 0 := by
  unfold cN
  rw [List.filter_append, List.length_append]
  by_cases h : cIx x = j <;> simp [h]
theorem cRow_snoc (l : List S46) (x : S46) (h : cIx x < 34) : (cRow l).setIfInBounds (cIx x) (.int .i64 ((cN l (cIx x) + 1 : Nat) : Int)) = cRow (l ++ [x]) := by
  apply Array.ext_getElem?
  intro j
  rw [Array.getElem?_setIfInBounds]
  by_cases hj : cIx x = j
  · rw [if_pos hj, if_pos (by rw [cRow_size]; exact h), ← hj, cRow_get _ _ h, cN_snoc, if_pos rfl]
  · rw [if_neg hj]
    by_cases hj2 : j < 34
    · rw [cRow_get _ _ hj2, cRow_get _ _ hj2, cN_snoc, if_neg hj, Nat.add_zero]
    · rw [Array.getElem?_eq_none (by rw [cRow_size]; omega), Array.getElem?_eq_none (by rw [cRow_size]; omega)]
/-- What is told of the sites ahead of k. -/
def sitesK (l : List S46) (k : Nat) : List (Int × Int × Int) := (List.range k).filterMap fun s => if cN l (s * 2) = 0 ∧ cN l (s * 2 + 1) = 0 then none else some ((s : Int), ((cN l (s * 2) : Nat) : Int), ((cN l (s * 2 + 1) : Nat) : Int))
theorem sitesK_succ (l : List S46) (k : Nat) : sitesK l (k + 1) = sitesK l k ++ (if cN l (k * 2) = 0 ∧ cN l (k * 2 + 1) = 0 then [] else [((k : Int), ((cN l (k * 2) : Nat) : Int), ((cN l (k * 2 + 1) : Nat) : Int))]) := by
  unfold sitesK
  rw [List.range_succ, List.filterMap_append]
  congr 1
  by_cases h : cN l (k * 2) = 0 ∧ cN l (k * 2 + 1) = 0
  · simp [h]
  · simp [h]
theorem sitesK_length (l : List S46) (k : Nat) : (sitesK l k).length ≤ k := by
  have := List.length_filterMap_le (fun s => if cN l (s * 2) = 0 ∧ cN l (s * 2 + 1) = 0 then none else some ((s : Int), ((cN l (s * 2) : Nat) : Int), ((cN l (s * 2 + 1) : Nat) : Int))) (List.range k)
  rwa [List.length_range] at this
theorem may_site {l : List S46} (h : codeN l = 0) {x : S46} (hx : x ∈ l) : 1 ≤ x.f0.f0 ∧ x.f0.f0 ≤ 16 := by
  have h1 : mayB x = true := by
    by_cases hm : mayB x = true
    · exact hm
    · obtain ⟨i, hi, e⟩ := List.mem_iff_getElem.1 hx
      exact absurd (codeN_bad (l := l) (i := i) (by rw [List.getElem?_eq_getElem hi, e]) (by simpa using hm)) (by rw [h]; decide)
  simp only [mayB, Bool.and_eq_true, decide_eq_true_eq] at h1
  omega
theorem load_run_ {P : Program} {a : Act} {o : Oper} {w : World} {t : TypeId} {x : Operand} {p v : Value} (ho : o.op = .load t x) (hx : a.eval x = p) (h : (Instr.loadAt t p).run P w = .ok v w) : (execOp a.eval o).run P w = .ok (.value v) w := by
  unfold execOp
  simp [ho, hx, h]
theorem index_run_ {P : Program} {a : Act} {o : Oper} {w : World} {t : TypeId} {x y : Operand} {p q v : Value} (ho : o.op = .index t x y) (hx : a.eval x = p) (hy : a.eval y = q) (h : (Instr.index t p q).run P w = .ok v w) : (execOp a.eval o).run P w = .ok (.value v) w := by
  unfold execOp
  simp [ho, hx, hy, h]
theorem cRow_pair (l : List S46) (k : Nat) (h : k < 17) : (cRow l).extract (k * 2) (k * 2 + 2) = #[.int .i64 (cN l (k * 2) : Nat), .int .i64 (cN l (k * 2 + 1) : Nat)] := by
  apply Array.ext_getElem?
  intro j
  rw [Array.getElem?_extract]
  rw [show min (k * 2 + 2) (cRow l).size - k * 2 = 2 by rw [cRow_size]; omega]
  rcases j with _ | _ | j
  · rw [if_pos (by omega), Nat.add_zero, cRow_get _ _ (by omega)]; rfl
  · rw [if_pos (by omega), cRow_get _ _ (by omega)]; rfl
  · rw [if_neg (by omega)]; rfl
theorem info42 : (Try.prog.info? 42).map (fun i => (i.zero, i.size, i.bytes)) = some (some (.agg #[.int .i64 0, .int .i64 0, .int .i64 0]), 3, 24) := by kernel_rfl
set_option maxRecDepth 100000 in
set_option maxHeartbeats 16000000 in
theorem sites_yes (A : Option Addr) (c : Nat) (l : List S46) (w : World) (hC : Kd.C k46 w A l.length l) (hc : l.length ≤ c) (hl : l.length ≤ 20000) (h0 : codeN l = 0) :
    Calls Try.prog 12 #[.slice A l.length c] w fun e w' => ∃ v, e = .returned v ∧ Kd.R k42 42 w' w.heap.size (fun _ => True) v (sitesK l 17) ∧ Below w.heap.size w w' := by
  have hLv := live_yes A c l w hC hc hl h0
  have HCM := Lib.hid hC
  obtain ⟨m, hm⟩ : ∃ m, l.length = m := ⟨_, rfl⟩
  have HM := Lib.hid hm
  have HML := Lib.hid hl
  have H0 := Lib.hid h0
  rw [hm] at hLv hl hc ⊢
  clear hC h0 hm
  go_enter Try.func12, Try.ntmps12
  go_upto_region 4 with (go_at_call 17; refine hLv.mono ?_; rintro e w1 ⟨vM, rfl, hvM, hb1⟩; have HB1 := Lib.hid hb1; clear hLv hvM hb1)
  go_upto_region 5 with fail
  rw [← cRow_nil]
  have hW := Deep.blk_alloc_new w1 (.cells (cRow []) 60)
  have hB := below_alloc (Below.refl w1.heap.size w1) (.cells (cRow []) 60)
  obtain ⟨g5, hg5⟩ : ∃ x, w1.heap.size = x := ⟨_, rfl⟩
  obtain ⟨W3, hW3e⟩ : ∃ x, w1.alloc (.cells (cRow []) 60) = x := ⟨_, rfl⟩
  rw [hg5] at hW hB ⊢
  rw [hW3e] at hW hB ⊢
  have hG : w.heap.size ≤ g5 := hg5 ▸ HB1.out.size
  have HG := Lib.hid hG
  have hB3 : Below w.heap.size w W3 := HB1.out.trans (hB.mono hG)
  clear hg5 hW3e hB
  go_wp2
  go_loopg [20] m (fun q u20 wr => ∃ i : Nat, u20 = .int .i64 (i : Nat) ∧ Aside0 (i + q = m ∧ wr.heap[g5]? = some (.cells (cRow (l.take i)) 60 (0, 0)) ∧ Below w.heap.size w wr))
  case atStart => exact ⟨0, rfl, ⟨by omega, hW, hB3⟩⟩
  case round =>
    obtain ⟨i, rfl, HR⟩ := hrel
    clear hW hB3
    have HI := Lib.hid HR.out.1
    obtain ⟨hcr, hb⟩ := HR.out.2
    clear HR
    by_cases hik : i < m
    · have hi0 : (0 : Int) ≤ (i : Int) := by omega
      have hi1 : (i : Int) < (m : Int) := by omega
      have hil : i < l.length := by rw [HM.out]; exact hik
      obtain ⟨ad, e0, x0, x1, x2, x3, x4⟩ := at_T46 (Kd.C_below HCM.out hb) (i : Int) hi0 (by rw [HM.out]; exact hi1)
      cases e0
      rw [Int.toNat_natCast, rd46 l i hil] at x0 x1 x2 x3 x4
      obtain ⟨⟨⟨a1, a2⟩, a3, a4, d⟩, hx⟩ : ∃ x, l[i] = x := ⟨_, rfl⟩
      have HX := Lib.hid (show l[i]? = some (⟨⟨a1, a2⟩, a3, a4, d⟩ : S46) by rw [List.getElem?_eq_getElem hil, hx])
      rw [hx] at x0 x1 x2 x3 x4
      replace x0 : wr.cell? _ = some (.int .i64 a1) := x0
      replace x1 : wr.cell? _ = some (.int .i64 a2) := x1
      replace x2 : wr.cell? _ = some (.int .i64 a3) := x2
      replace x3 : wr.cell? _ = some (.int .i32 a4) := x3
      replace x4 : wr.cell? _ = some (.bool d) := x4
      obtain ⟨hs1, hs2⟩ := may_site H0.out (hx ▸ List.getElem_mem hil : (⟨⟨a1, a2⟩, a3, a4, d⟩ : S46) ∈ l)
      replace hs1 : 1 ≤ a1 := hs1
      replace hs2 : a1 ≤ 16 := hs2
      obtain ⟨s, rfl⟩ : ∃ s : Nat, a1 = (s : Int) := ⟨a1.toNat, by omega⟩
      have hs17 : (s : Int) < 17 := by omega
      have hs0 : (0 : Int) ≤ (s : Int) := by omega
      have hsn : s < 17 := by omega
      have HCR := Lib.hid hcr
      have HB := Lib.hid hb
      have HW := Lib.hid (w_s i (by omega))
      clear hx hil hcr hb hs1 hs2
      go_upto_region 8 with (first
        | ((with_reducible refine gate_dst (N := 7) rfl ?_); refine box_event ?hg (N := 7) ?hd (cs := #[.int .i64 0, .int .i64 0, .int .i64 0, .int .i32 0, .bool false]) (t := 46) ?hr ?_; (case hd => rfl); (case hg => rfl); (case hr => first | (go_simp; done) | (go_simp; rfl)); intro gb hgb w1' hbox hb1; have HBx := Lib.hid (And.intro hbox (And.intro hgb hb1)); have z0 := blk_cell hbox 0; have z1 := blk_cell hbox 1; have z2 := blk_cell hbox 2; have z3 := blk_cell hbox 3; have z4 := blk_cell hbox 4; have y0 := blk_frozen hbox 0; have y1 := blk_frozen hbox 1; have y2 := blk_frozen hbox 2; have y3 := blk_frozen hbox 3; have y4 := blk_frozen hbox 4; clear hbox hgb hb1))
      have hBX : Bxs wr [(gb, #[.int .i64 0, .int .i64 0, .int .i64 0, .int .i32 0, .bool false], 46)] w1' := ⟨fun x hx => by
        rcases List.mem_singleton.1 hx with rfl
        exact HBx.out.1, by simp, fun x hx => by
        rcases List.mem_singleton.1 hx with rfl
        exact Nat.le_of_eq HBx.out.2.1.symm, HBx.out.2.2⟩
      have hB1 : Bxs wr [(gb, #[.int .i64 (s : Int), .int .i64 0, .int .i64 0, .int .i32 0, .bool false], 46)] _ := hBX.put 0 rfl 0 (.int .i64 (s : Int))
      have hB2 : Bxs wr [(gb, #[.int .i64 (s : Int), .int .i64 a2, .int .i64 0, .int .i32 0, .bool false], 46)] _ := hB1.put 0 rfl 1 (.int .i64 a2)
      have hB3 : Bxs wr [(gb, #[.int .i64 (s : Int), .int .i64 a2, .int .i64 a3, .int .i32 0, .bool false], 46)] _ := hB2.put 0 rfl 2 (.int .i64 a3)
      have hB4 : Bxs wr [(gb, #[.int .i64 (s : Int), .int .i64 a2, .int .i64 a3, .int .i32 a4, .bool false], 46)] _ := hB3.put 0 rfl 3 (.int .i32 a4)
      have hB5 : Bxs wr [(gb, #[.int .i64 (s : Int), .int .i64 a2, .int .i64 a3, .int .i32 a4, .bool d], 46)] _ := hB4.put 0 rfl 4 (.bool d)
      obtain ⟨w2, hw2⟩ : ∃ x, (((((w1'.setCell ⟨gb, 0, none⟩ (.int .i64 (s : Int))).setCell ⟨gb, 1, none⟩ (.int .i64 a2)).setCell ⟨gb, 2, none⟩ (.int .i64 a3)).setCell ⟨gb, 3, none⟩ (.int .i32 a4)).setCell ⟨gb, 4, none⟩ (.bool d)) = x := ⟨_, rfl⟩
      rw [hw2] at hB5 ⊢
      have r0 : w2.cell? ⟨gb, 0, none⟩ = some (.int .i64 (s : Int)) := hB5.cell 0 rfl 0
      have r1 : w2.cell? ⟨gb, 1, none⟩ = some (.int .i64 a2) := hB5.cell 0 rfl 1
      have r2 : w2.cell? ⟨gb, 2, none⟩ = some (.int .i64 a3) := hB5.cell 0 rfl 2
      have r3 : w2.cell? ⟨gb, 3, none⟩ = some (.int .i32 a4) := hB5.cell 0 rfl 3
      have r4 : w2.cell? ⟨gb, 4, none⟩ = some (.bool d) := hB5.cell 0 rfl 4
      have HB5 := Lib.hid hB5.below
      have HGB := Lib.hid HBx.out.2.1
      clear hBX hB1 hB2 hB3 hB4 hB5 HBx hw2 z0 z1 z2 z3 z4 y0 y1 y2 y3 y4 x0 x1 x2 x3 x4
      cases d with
      | true =>
        have hcl : w2.cell? ⟨g5, s * 2 + 1, none⟩ = some (.int .i64 (cN (l.take i) (s * 2 + 1) : Nat)) := (blk_cell (blk_below HCR.out HB5.out) _).trans (cRow_get _ _ (by omega))
        have hfz : w2.frozen? ⟨g5, s * 2 + 1, none⟩ = false := blk_frozen (blk_below HCR.out HB5.out) _
        have hcn := cN_le (l.take i) (s * 2 + 1)
        rw [List.length_take] at hcn
        obtain ⟨cv, hcv⟩ : ∃ x, cN (l.take i) (s * 2 + 1) = x := ⟨_, rfl⟩
        rw [hcv] at hcl hcn
        have HCV := Lib.hid hcv
        have hxi : cIx (⟨⟨(s : Int), a2⟩, a3, a4, true⟩ : S46) = s * 2 + 1 := by simp [cIx]
        have hset := cRow_snoc (l.take i) (⟨⟨(s : Int), a2⟩, a3, a4, true⟩ : S46) (by rw [hxi]; omega)
        rw [hxi, hcv] at hset
        have HSET := Lib.hid hset
        have HW1 := Lib.hid (w_s cv (by omega))
        clear hcn hcv hset hxi
        go_upto_region 9 with fail
        go_region
        rw [HW1.out]
        have HN := Lib.hid (show (w2.setCell ⟨g5, s * 2 + 1, none⟩ (.int .i64 ((cv + 1 : Nat) : Int))).drew.heap[g5]? = some (.cells (cRow (l.take (i + 1))) 60 (0, 0)) by
          obtain ⟨h1, h2⟩ := List.getElem?_eq_some_iff.1 HX.out
          rw [List.take_succ_eq_append_getElem h1, h2, ← HSET.out]
          exact blk_set (blk_below HCR.out HB5.out) _ _)
        have HNB := Lib.hid (show Below w.heap.size w (w2.setCell ⟨g5, s * 2 + 1, none⟩ (.int .i64 ((cv + 1 : Nat) : Int))).drew from below_drew ((HB.out.trans (HB5.out.mono HB.out.size)).trans ((Below.refl w.heap.size w2).setCell (p := ⟨g5, s * 2 + 1, none⟩) HG.out _)))
        clear hcl hfz r0 r1 r2 r3 r4
        go_wp2
        go_roundg (m - (i + 1))
        case measure => have := HI.out; omega
        case rel => exact ⟨i + 1, by first | rfl | (rw [HW.out]), ⟨by have := HI.out; omega, HN.out, HNB.out⟩⟩
      | false =>
        have hcl : w2.cell? ⟨g5, s * 2, none⟩ = some (.int .i64 (cN (l.take i) (s * 2) : Nat)) := (blk_cell (blk_below HCR.out HB5.out) _).trans (cRow_get _ _ (by omega))
        have hfz : w2.frozen? ⟨g5, s * 2, none⟩ = false := blk_frozen (blk_below HCR.out HB5.out) _
        have hcn := cN_le (l.take i) (s * 2)
        rw [List.length_take] at hcn
        obtain ⟨cv, hcv⟩ : ∃ x, cN (l.take i) (s * 2) = x := ⟨_, rfl⟩
        rw [hcv] at hcl hcn
        have HCV := Lib.hid hcv
        have hxi : cIx (⟨⟨(s : Int), a2⟩, a3, a4, false⟩ : S46) = s * 2 := by simp [cIx]
        have hset := cRow_snoc (l.take i) (⟨⟨(s : Int), a2⟩, a3, a4, false⟩ : S46) (by rw [hxi]; omega)
        rw [hxi, hcv] at hset
        have HSET := Lib.hid hset
        have HW1 := Lib.hid (w_s cv (by omega))
        clear hcn hcv hset hxi
        go_upto_region 10 with fail
        go_region
        rw [HW1.out]
        have HN := Lib.hid (show (w2.setCell ⟨g5, s * 2, none⟩ (.int .i64 ((cv + 1 : Nat) : Int))).drew.heap[g5]? = some (.cells (cRow (l.take (i + 1))) 60 (0, 0)) by
          obtain ⟨h1, h2⟩ := List.getElem?_eq_some_iff.1 HX.out
          rw [List.take_succ_eq_append_getElem h1, h2, ← HSET.out]
          exact blk_set (blk_below HCR.out HB5.out) _ _)
        have HNB := Lib.hid (show Below w.heap.size w (w2.setCell ⟨g5, s * 2, none⟩ (.int .i64 ((cv + 1 : Nat) : Int))).drew from below_drew ((HB.out.trans (HB5.out.mono HB.out.size)).trans ((Below.refl w.heap.size w2).setCell (p := ⟨g5, s * 2, none⟩) HG.out _)))
        clear hcl hfz r0 r1 r2 r3 r4
        go_wp2
        go_roundg (m - (i + 1))
        case measure => have := HI.out; omega
        case rel => exact ⟨i + 1, by first | rfl | (rw [HW.out]), ⟨by have := HI.out; omega, HN.out, HNB.out⟩⟩
    · have hi1 : ¬ (i : Int) < (m : Int) := by omega
      have htk : l.take i = l := List.take_of_length_le (by rw [HM.out]; omega)
      rw [htk] at hcr
      have HCR := Lib.hid hcr
      have HB := Lib.hid hb
      clear htk hb hik
      have hld : (Instr.loadAt 60 (.pointer (some ⟨g5, 0, none⟩))).run Try.prog wr = .ok (.agg (cRow l)) wr := by
        unfold Instr.loadAt
        rw [Sem.run_bind]
        exact run_loadVar_row wr g5 60 60 (cRow l) (0, 0) _ hcr Try.underlying60 rfl (by rw [cRow_size]; kernel_rfl)
      clear hcr
      go_upto_region 14 with ((with_reducible refine gate_dst (N := 45) rfl ?_); refine Kd.event_run rfl (load_run_ rfl rfl hld) ?_)
      have hR0 : Kd.R k42 42 wr w.heap.size (fun _ => True) (.slice none 0 0) (sitesK l 0) := Kd.R_nil _ _ _ _ _
      go_loopg [8, 46] 17 (fun q u8 u46 wz => ∃ k : Nat, u46 = .int .i64 (k : Nat) ∧ Aside0 (k + q = 17 ∧ Kd.R k42 42 wz w.heap.size (fun _ => True) u8 (sitesK l k) ∧ Below w.heap.size w wz))
      case atStart => exact ⟨0, rfl, ⟨by omega, hR0, HB.out⟩⟩
      case round =>
        clear hR0 HCR HB hld
        obtain ⟨k, rfl, HR⟩ := hrel
        have HK := Lib.hid HR.out.1
        obtain ⟨hV, hb⟩ := HR.out.2
        clear HR
        obtain ⟨AP, cP, rfl⟩ := Kd.R_slice hV
        obtain ⟨v8, hv8⟩ : ∃ x, Value.slice AP (sitesK l k).length cP = x := ⟨_, rfl⟩
        rw [hv8] at hV ⊢
        clear hv8
        by_cases hik : k < 17
        · have hk1 : (k : Int) < 17 := by omega
          obtain ⟨a, ha⟩ : ∃ x, cN l (k * 2) = x := ⟨_, rfl⟩
          obtain ⟨b, hb'⟩ : ∃ x, cN l (k * 2 + 1) = x := ⟨_, rfl⟩
          have hidx : (Instr.index 60 (.agg (cRow l)) (.int .i64 (k : Nat))).run Try.prog wr = .ok (.agg #[.int .i64 (a : Nat), .int .i64 (b : Nat)]) wr := by
            have hag : (isAgg 59).run Try.prog wr = .ok true wr := by
              unfold isAgg
              rw [Sem.run_bind, run_underlying Try.underlying59 wr]
              rfl
            have hsz : (sizeOf 59).run Try.prog wr = .ok 2 wr := by go_simp
            unfold Instr.index
            simp [asIntOf, run_underlying Try.underlying60, hsz, part, hag, hk1, hik, Nat.not_le.2 hik, cRow_pair l k hik, ha, hb']
          have hnx := sitesK_succ l k
          rw [ha, hb'] at hnx
          have hln := sitesK_length l k
          have HNX := Lib.hid hnx
          have HLN := Lib.hid hln
          have HV := Lib.hid hV
          have HBw := Lib.hid hb
          have HW := Lib.hid (w_s k (by omega))
          clear hnx hln hV hb ha hb'
          go_upto_region 16 with (first
            | ((with_reducible refine gate_dst (N := 49) rfl ?_); refine Kd.event_run rfl (index_run_ rfl rfl rfl hidx) ?_)
            | ((with_reducible refine gate_dst (N := 10) rfl ?_); refine box_event ?hg (N := 10) ?hd (cs := #[.int .i64 0, .int .i64 0]) (t := 59) ?hr ?_; (case hd => rfl); (case hg => rfl); (case hr => first | (go_simp; done) | (go_simp; rfl)); intro gb hgb w1' hbox hb1; have HBx := Lib.hid (And.intro hbox (And.intro hgb hb1)); have z0 := blk_cell hbox 0; have z1 := blk_cell hbox 1; have y0 := blk_frozen hbox 0; have y1 := blk_frozen hbox 1; clear hbox hgb hb1))
          have hBX : Bxs wr [(gb, #[.int .i64 0, .int .i64 0], 59)] w1' := ⟨fun x hx => by
            rcases List.mem_singleton.1 hx with rfl
            exact HBx.out.1, by simp, fun x hx => by
            rcases List.mem_singleton.1 hx with rfl
            exact Nat.le_of_eq HBx.out.2.1.symm, HBx.out.2.2⟩
          have hB1 : Bxs wr [(gb, #[.int .i64 (a : Nat), .int .i64 0], 59)] _ := hBX.put 0 rfl 0 (.int .i64 (a : Nat))
          have hB2 : Bxs wr [(gb, #[.int .i64 (a : Nat), .int .i64 (b : Nat)], 59)] _ := hB1.put 0 rfl 1 (.int .i64 (b : Nat))
          obtain ⟨w2, hw2⟩ : ∃ x, ((w1'.setCell ⟨gb, 0, none⟩ (.int .i64 (a : Nat))).setCell ⟨gb, 1, none⟩ (.int .i64 (b : Nat))) = x := ⟨_, rfl⟩
          rw [hw2] at hB2 ⊢
          have r0 : w2.cell? ⟨gb, 0, none⟩ = some (.int .i64 (a : Nat)) := hB2.cell 0 rfl 0
          have r1 : w2.cell? ⟨gb, 1, none⟩ = some (.int .i64 (b : Nat)) := hB2.cell 0 rfl 1
          have HB5 := Lib.hid hB2.below
          have HV2 := Lib.hid (Kd.R_below HV.out hB2.below)
          have HBW2 := Lib.hid (HBw.out.trans (hB2.below.mono HBw.out.size))
          clear hBX hB1 hB2 HBx hw2 z0 z1 y0 y1 hidx
          have hEq := fun w' => eqA2 (a : Int) (b : Int) 0 0 w'
          by_cases hz : a = 0 ∧ b = 0
          · have HZ := Lib.hid hz
            have h9 := HNX.out
            rw [if_pos hz, List.append_nil] at h9
            have HN0 := Lib.hid h9
            clear h9
            obtain ⟨rfl, rfl⟩ := hz
            have hE0 : ∀ w', (Op.equalIn 10000 59 (.agg #[.int .i64 0, .int .i64 0]) (.agg #[.int .i64 0, .int .i64 0])).run Try.prog w' = .ok true w' := fun w' => eqA2 0 0 0 0 w'
            clear hEq
            go_wp2
            go_roundg (17 - (k + 1))
            case measure => have := HK.out; omega
            case rel => exact ⟨k + 1, by first | rfl | (rw [HW.out]), ⟨by have := HK.out; omega, by
              rw [HN0.out]
              exact HV2.out, HBW2.out⟩⟩
          · have hbe : (((a : Int) == 0) && ((b : Int) == 0)) = false := by
              rw [Bool.and_eq_false_iff, beq_eq_false_iff_ne, beq_eq_false_iff_ne]
              omega
            rw [hbe] at hEq
            have HZ := Lib.hid hz
            go_upto_region 17 with fail
            clear hEq hbe hz
            go_wp2_with ((with_reducible refine gate_builtin (b := .append) (xs := #[.tmp 53, .tmp 60]) rfl ?_); at_builtin; refine Kd.R_append k42 (w0 := w) (W := w2) w.heap.size rfl (.tmp 53) (.tmp 60) 39 42 (.agg #[(.int .i64 0), (.int .i64 0), (.int .i64 0)]) 24 rfl Try.underlying39 info42 rfl (by decide) (by decide) v8 (sitesK l k) ((k : Int), ((a : Nat) : Int), ((b : Nat) : Int)) [.int .i64 (k : Nat), .int .i64 (a : Nat), .int .i64 (b : Nat)] (fun _ => True) (fun _ => False) rfl rfl (k42_mkM _ _ _ _ _ _) (fun _ hk => hk.elim) (fun _ _ => trivial) HV2.out HBW2.out HBW2.out.size ?aL ?_; (case aL => have := HLN.out; omega); intro v9 w3 hv9 hb9 hg9 hat9; have HV9 := Lib.hid hv9; have HB9 := Lib.hid hb9; clear hv9 hb9 hg9 hat9)
            go_roundg (17 - (k + 1))
            case measure => have := HK.out; omega
            case rel => exact ⟨k + 1, by first | rfl | (rw [HW.out]), ⟨by have := HK.out; omega, by
              have h9 := HNX.out
              rw [if_neg HZ.out] at h9
              rw [h9]
              exact HV9.out, HB9.out⟩⟩
        · have hk1 : ¬ (k : Int) < 17 := by omega
          have hk17 : k = 17 := by have := HK.out; omega
          rw [hk17] at hV
          have HFIN := Lib.hid (And.intro hV hb)
          clear hV hb hk17
          go_wp2
          go_ret
          exact ⟨_, rfl, HFIN.out.1, HFIN.out.2⟩
set_option maxRecDepth 100000 in
set_option maxHeartbeats 8000000 in
theorem sites_no (A : Option Addr) (c : Nat) (l : List S46) (w : World) (hC : Kd.C k46 w A l.length l) (hc : l.length ≤ c) (hl : l.length ≤ 20000) (h0 : codeN l ≠ 0) :
    Calls Try.prog 12 #[.slice A l.length c] w fun e w' => e = .returned (.slice none 0 0) ∧ Below w.heap.size w w' := by
  have hN := live_no A c l w hC hc hl h0
  obtain ⟨n, hn⟩ : ∃ n, l.length = n := ⟨_, rfl⟩
  rw [hn] at hN ⊢
  clear hC hc hl h0 hn
  go_enter Try.func12, Try.ntmps12
  go_wp2_with (go_at_call 17; refine hN.mono ?_; rintro e w1 ⟨rfl, hb⟩)
  go_ret
  exact ⟨rfl, hb⟩
/-- What is told of the sites of cells. -/
def sitesT (l : List S46) : List (Int × Int × Int) := if codeN l = 0 then sitesK l 17 else []
theorem sites_w (A : Option Addr) (c : Nat) (l : List S46) (w : World) (hC : Kd.C k46 w A l.length l) (hc : l.length ≤ c) (hl : l.length ≤ 20000) :
    Calls Try.prog 12 #[.slice A l.length c] w fun e w' => ∃ v, e = .returned v ∧ Kd.R k42 42 w' w.heap.size (fun _ => True) v (sitesT l) ∧ Below w.heap.size w w' := by
  unfold sitesT
  by_cases h0 : codeN l = 0
  · rw [if_pos h0]
    exact sites_yes A c l w hC hc hl h0
  · rw [if_neg h0]
    refine (sites_no A c l w hC hc hl h0).mono ?_
    rintro e w' ⟨rfl, hb⟩
    exact ⟨_, rfl, Kd.R_nil _ _ _ _ _, hb⟩
end Go.Proofs.Ytkglfgikfeebhaa.X
